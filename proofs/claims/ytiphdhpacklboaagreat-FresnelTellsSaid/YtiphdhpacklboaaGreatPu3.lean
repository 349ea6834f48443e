/- The statement 'FresnelTells' of burnishlaw06: for every input the law returns true, and does not panic, and its arguments read as before. Proved here: what the program tells of a dielectric and of a conductor is just what the document's formulas tell, or the error. No condition. -/
import Derived.Test.YtiphdhpacklboaaGreatUt
import Derived.WalkKit
import Derived.ProofKit
import Derived.OpenShut
import Derived.Laws.Cover2
import Derived.Carry
import Derived.Test.YtiphdhpacklboaaGreatOq
namespace Go.Proofs.YtiphdhpacklboaaGreat.FresnelTells
open Go.ChangeShapes Go.WideShapes Go.ChangeAt Go.RowKit
theorem own : ownKnob Tryz.prog.godebug = none := by kernel_rfl
set_option maxRecDepth 100000 in
theorem lifted (os : Os) (started : os.Started) (H : Type) (enc : TypeId × Value → H) :
  ReturnsInHanded {} Tryz.checked os 4 .any (Rows.fresnelTellsSpec.pre6 enc Tryz.prog Tryz.f4 Rows.fresnelTellsRow.domain false) (Rows.fresnelTellsSpec.post enc Tryz.prog Tryz.f4 false true false false) := by
 refine returnsInHanded_of_change (C := Tryz.checked) own started (by kernel_rfl) Tryz.func4
  (ChangeSpec.witness6 (enc := enc) (C := Tryz.checked) false ⟨#[], #[.agg #[.float .f64 0, .float .f64 0], .agg #[.float .f64 0, .float .f64 0], .agg #[.float .f64 0, .float .f64 0], .agg #[.float .f64 0, .float .f64 0], .agg #[.int .u32 0, .int .u32 0, .int .u32 0, .int .u32 0, .int .u32 0, .int .u32 0]], []⟩ 8 (by kernel_rfl) (by kernel_rfl) (by kernel_rfl) (by kernel_rfl)) ?_
 intro W base args ds gs before hval0 hW hcnd _
 have hval : ∀ (j : Nat) t v, Tryz.f4.params[j]? = some t → args[j]? = some v → Value.okWide Tryz.prog W .any base t v := hval0
 have hW' := hW
 obtain ⟨p, q, hA0, hV, rfl, hfz, hnd⟩ := hW
 have hA : DataW.TrodAll enc Tryz.prog W 0 (fun _ => true) true Tryz.f4.params.toList args.toList ds p := hA0
 rw [Tryz.params4] at hA hval
 obtain ⟨v0, vs0, d0, ds0, p0, q0, hargs, rfl, rfl, h0, r0⟩ := trodAll_cons hA
 obtain ⟨v1, vs1, d1, ds1, p1, q1, rfl, rfl, rfl, h1, r1⟩ := trodAll_cons r0
 obtain ⟨v2, vs2, d2, ds2, p2, q2, rfl, rfl, rfl, h2, r2⟩ := trodAll_cons r1
 obtain ⟨v3, vs3, d3, ds3, p3, q3, rfl, rfl, rfl, h3, r3⟩ := trodAll_cons r2
 obtain ⟨v4, vs4, d4, ds4, p4, q4, rfl, rfl, rfl, h4, r4⟩ := trodAll_cons r3
 obtain ⟨rfl, rfl, rfl⟩ := trodAll_nil r4
 obtain rfl : args = #[v0, v1, v2, v3, v4] := by cases args; simp_all
 obtain ⟨rfl, rfl⟩ := trodVars_none hV
 have k0 := h0
 obtain ⟨a0_0, a0_1, rfl, rfl, rfl, w0_0, w0_1⟩ := open_iv Tryz.underlying24 (by kernel_rfl) (by kernel_rfl) Tryz.underlying22 rfl rfl (hval 0 _ v0 rfl rfl) h0
 have k1 := h1
 obtain ⟨a1_0, a1_1, rfl, rfl, rfl, w1_0, w1_1⟩ := open_iv Tryz.underlying24 (by kernel_rfl) (by kernel_rfl) Tryz.underlying22 rfl rfl (hval 1 _ v1 rfl rfl) h1
 have k2 := h2
 obtain ⟨a2_0, a2_1, rfl, rfl, rfl, w2_0, w2_1⟩ := open_iv Tryz.underlying24 (by kernel_rfl) (by kernel_rfl) Tryz.underlying22 rfl rfl (hval 2 _ v2 rfl rfl) h2
 have k3 := h3
 obtain ⟨a3_0, a3_1, rfl, rfl, rfl, w3_0, w3_1⟩ := open_iv Tryz.underlying24 (by kernel_rfl) (by kernel_rfl) Tryz.underlying22 rfl rfl (hval 3 _ v3 rfl rfl) h3
 have k4 := h4
 obtain ⟨a4_0, a4_1, a4_2, a4_3, a4_4, a4_5, rfl, rfl, rfl, w4_0, w4_1, w4_2, w4_3, w4_4, w4_5⟩ := open_u6 Tryz.underlying39 Tryz.underlying27 (by kernel_rfl) (by kernel_rfl) (hval 4 _ v4 rfl rfl) h4
 clear hA0 hval0
 simp only [List.append_nil] at hW'
 have b0_0 : Dy.W a0_0 := by have h := w0_0; simp [Lit.wf] at h; exact h
 have b0_1 : Dy.W a0_1 := by have h := w0_1; simp [Lit.wf] at h; exact h
 have b1_0 : Dy.W a1_0 := by have h := w1_0; simp [Lit.wf] at h; exact h
 have b1_1 : Dy.W a1_1 := by have h := w1_1; simp [Lit.wf] at h; exact h
 have b2_0 : Dy.W a2_0 := by have h := w2_0; simp [Lit.wf] at h; exact h
 have b2_1 : Dy.W a2_1 := by have h := w2_1; simp [Lit.wf] at h; exact h
 have b3_0 : Dy.W a3_0 := by have h := w3_0; simp [Lit.wf] at h; exact h
 have b3_1 : Dy.W a3_1 := by have h := w3_1; simp [Lit.wf] at h; exact h
 have c4_0 : 0 ≤ a4_0 ∧ a4_0 < 4294967296 := by have h := w4_0; simp [Lit.wf] at h; have k1 : IntKind.u32.min = 0 := rfl; have k2 : IntKind.u32.max = 4294967295 := rfl; omega
 obtain ⟨m4_0, b4_0, rfl⟩ : ∃ m : Nat, m < 4294967296 ∧ a4_0 = (m : Int) := ⟨a4_0.toNat, by omega, by omega⟩
 have c4_1 : 0 ≤ a4_1 ∧ a4_1 < 4294967296 := by have h := w4_1; simp [Lit.wf] at h; have k1 : IntKind.u32.min = 0 := rfl; have k2 : IntKind.u32.max = 4294967295 := rfl; omega
 obtain ⟨m4_1, b4_1, rfl⟩ : ∃ m : Nat, m < 4294967296 ∧ a4_1 = (m : Int) := ⟨a4_1.toNat, by omega, by omega⟩
 have c4_2 : 0 ≤ a4_2 ∧ a4_2 < 4294967296 := by have h := w4_2; simp [Lit.wf] at h; have k1 : IntKind.u32.min = 0 := rfl; have k2 : IntKind.u32.max = 4294967295 := rfl; omega
 obtain ⟨m4_2, b4_2, rfl⟩ : ∃ m : Nat, m < 4294967296 ∧ a4_2 = (m : Int) := ⟨a4_2.toNat, by omega, by omega⟩
 have c4_3 : 0 ≤ a4_3 ∧ a4_3 < 4294967296 := by have h := w4_3; simp [Lit.wf] at h; have k1 : IntKind.u32.min = 0 := rfl; have k2 : IntKind.u32.max = 4294967295 := rfl; omega
 obtain ⟨m4_3, b4_3, rfl⟩ : ∃ m : Nat, m < 4294967296 ∧ a4_3 = (m : Int) := ⟨a4_3.toNat, by omega, by omega⟩
 have c4_4 : 0 ≤ a4_4 ∧ a4_4 < 4294967296 := by have h := w4_4; simp [Lit.wf] at h; have k1 : IntKind.u32.min = 0 := rfl; have k2 : IntKind.u32.max = 4294967295 := rfl; omega
 obtain ⟨m4_4, b4_4, rfl⟩ : ∃ m : Nat, m < 4294967296 ∧ a4_4 = (m : Int) := ⟨a4_4.toNat, by omega, by omega⟩
 have c4_5 : 0 ≤ a4_5 ∧ a4_5 < 4294967296 := by have h := w4_5; simp [Lit.wf] at h; have k1 : IntKind.u32.min = 0 := rfl; have k2 : IntKind.u32.max = 4294967295 := rfl; omega
 obtain ⟨m4_5, b4_5, rfl⟩ : ∃ m : Nat, m < 4294967296 ∧ a4_5 = (m : Int) := ⟨a4_5.toNat, by omega, by omega⟩
 refine (fretells_ok (a0_0, a0_1) (a1_0, a1_1) (a2_0, a2_1) (a3_0, a3_1) m4_0 m4_1 m4_2 m4_3 m4_4 m4_5 W ⟨b0_0, b0_1⟩ ⟨b1_0, b1_1⟩ ⟨b2_0, b2_1⟩ ⟨b3_0, b3_1⟩ b4_0 b4_1 b4_2 b4_3 b4_4 b4_5).mono fun e W' ⟨he, bel⟩ => ?_
 subst he
 exact ⟨_, rfl, _, _, _, [], _, [], hW', trodAll_mk1 (shut_bool Tryz.underlying4 _), (trodAll_cons_mk (Below.trod (by kernel_rfl) (by kernel_rfl) (of_decide_eq_true (by kernel_rfl)) k0 bel (fun x hx => by cases hx)) (trodAll_cons_mk (Below.trod (by kernel_rfl) (by kernel_rfl) (of_decide_eq_true (by kernel_rfl)) k1 bel (fun x hx => by cases hx)) (trodAll_cons_mk (Below.trod (by kernel_rfl) (by kernel_rfl) (of_decide_eq_true (by kernel_rfl)) k2 bel (fun x hx => by cases hx)) (trodAll_cons_mk (Below.trod (by kernel_rfl) (by kernel_rfl) (of_decide_eq_true (by kernel_rfl)) k3 bel (fun x hx => by cases hx)) (trodAll_cons_mk (Below.trod (by kernel_rfl) (by kernel_rfl) (of_decide_eq_true (by kernel_rfl)) k4 bel (fun x hx => by cases hx)) trodAll_mk0))))), rfl, bel.frame _, fun h => by cases h⟩
theorem over : Rows.fresnelTellsRow.holds Tryz.pinned (OpenSpec.ofChange Rows.fresnelTellsSpec) :=
 OpenClaim.holds_of_wide 4 Tryz.f4 rfl rfl rfl rfl rfl rfl rfl ⟨rfl, rfl, rfl, rfl, rfl⟩ rfl rfl rfl rfl rfl (by kernel_rfl) Tryz.func4 (by kernel_rfl)
  (of_decide_eq_true (by kernel_rfl)) (by unfold Func.isWrapper; first | (rw [if_pos (by decide +kernel)]; kernel_rfl) | (rw [if_neg (by decide +kernel)]; exact ⟨rfl, rfl⟩))
  (fun os started H enc _ => lifted os started H enc)
theorem proved : Rows.FresnelTellsSaid := over
end Go.Proofs.YtiphdhpacklboaaGreat.FresnelTells
