/- The statement 'OrenTells' of burnishlaw08: for every input the law returns true, and does not panic, and its arguments read as before. Proved here: the program tells just what the document's formulas tell. No condition. -/
import Derived.Test.YtiphdhpacklboaaGreatOf
import Derived.WalkKit
import Derived.ProofKit
import Derived.OpenShut
import Derived.Laws.Cover2
import Derived.Carry
import Derived.Test.YtiphdhpacklboaaGreatOy
namespace Go.Proofs.YtiphdhpacklboaaGreat.OrenTells
open Go.ChangeShapes Go.WideShapes Go.ChangeAt Go.RowKit
theorem own : ownKnob Tryz.prog.godebug = none := by kernel_rfl
set_option maxRecDepth 100000 in
theorem lifted (os : Os) (started : os.Started) (H : Type) (enc : TypeId × Value → H) :
  ReturnsInHanded {} Tryz.checked os 3 .any (Rows.orenTellsSpec.pre6 enc Tryz.prog Tryz.f3 Rows.orenTellsRow.domain false) (Rows.orenTellsSpec.post enc Tryz.prog Tryz.f3 false true false false) := by
 refine returnsInHanded_of_change (C := Tryz.checked) own started (by kernel_rfl) Tryz.func3
  (ChangeSpec.witness6 (enc := enc) (C := Tryz.checked) false ⟨#[], #[.agg #[.float .f64 0, .float .f64 0, .float .f64 0, .float .f64 0, .float .f64 0, .float .f64 0, .float .f64 0, .float .f64 0, .float .f64 0, .float .f64 0], .agg #[.int .u32 0, .int .u32 0, .int .u32 0, .int .u32 0, .int .u32 0, .int .u32 0, .int .u32 0, .int .u32 0, .int .u32 0, .int .u32 0]], []⟩ 8 (by kernel_rfl) (by kernel_rfl) (by kernel_rfl) (by kernel_rfl)) ?_
 intro W base args ds gs before hval0 hW hcnd _
 have hval : ∀ (j : Nat) t v, Tryz.f3.params[j]? = some t → args[j]? = some v → Value.okWide Tryz.prog W .any base t v := hval0
 have hW' := hW
 obtain ⟨p, q, hA0, hV, rfl, hfz, hnd⟩ := hW
 have hA : DataW.TrodAll enc Tryz.prog W 0 (fun _ => true) true Tryz.f3.params.toList args.toList ds p := hA0
 rw [Tryz.params3] at hA hval
 obtain ⟨v0, vs0, d0, ds0, p0, q0, hargs, rfl, rfl, h0, r0⟩ := trodAll_cons hA
 obtain ⟨v1, vs1, d1, ds1, p1, q1, rfl, rfl, rfl, h1, r1⟩ := trodAll_cons r0
 obtain ⟨rfl, rfl, rfl⟩ := trodAll_nil r1
 obtain rfl : args = #[v0, v1] := by cases args; simp_all
 obtain ⟨rfl, rfl⟩ := trodVars_none hV
 have k0 := h0
 obtain ⟨a0_0, a0_1, a0_2, a0_3, a0_4, a0_5, a0_6, a0_7, a0_8, a0_9, rfl, rfl, rfl, w0_0, w0_1, w0_2, w0_3, w0_4, w0_5, w0_6, w0_7, w0_8, w0_9⟩ := open_ask Tryz.underlying26 (by kernel_rfl) rfl rfl rfl rfl rfl rfl rfl rfl rfl rfl (by kernel_rfl) Tryz.underlying24 rfl rfl rfl rfl (by kernel_rfl) Tryz.underlying22 (hval 0 _ v0 rfl rfl) h0
 have k1 := h1
 obtain ⟨a1_0, a1_1, a1_2, a1_3, a1_4, a1_5, a1_6, a1_7, a1_8, a1_9, rfl, rfl, rfl, w1_0, w1_1, w1_2, w1_3, w1_4, w1_5, w1_6, w1_7, w1_8, w1_9⟩ := open_u10 Tryz.underlying28 Tryz.underlying27 (by kernel_rfl) (by kernel_rfl) (hval 1 _ v1 rfl rfl) h1
 clear hA0 hval0
 simp only [List.append_nil] at hW'
 have b0_0 : Dy.W a0_0 := by have h := w0_0; simp [Lit.wf] at h; exact h
 have b0_1 : Dy.W a0_1 := by have h := w0_1; simp [Lit.wf] at h; exact h
 have b0_2 : Dy.W a0_2 := by have h := w0_2; simp [Lit.wf] at h; exact h
 have b0_3 : Dy.W a0_3 := by have h := w0_3; simp [Lit.wf] at h; exact h
 have b0_4 : Dy.W a0_4 := by have h := w0_4; simp [Lit.wf] at h; exact h
 have b0_5 : Dy.W a0_5 := by have h := w0_5; simp [Lit.wf] at h; exact h
 have b0_6 : Dy.W a0_6 := by have h := w0_6; simp [Lit.wf] at h; exact h
 have b0_7 : Dy.W a0_7 := by have h := w0_7; simp [Lit.wf] at h; exact h
 have b0_8 : Dy.W a0_8 := by have h := w0_8; simp [Lit.wf] at h; exact h
 have b0_9 : Dy.W a0_9 := by have h := w0_9; simp [Lit.wf] at h; exact h
 have c1_0 : 0 ≤ a1_0 ∧ a1_0 < 4294967296 := by have h := w1_0; simp [Lit.wf] at h; have k1 : IntKind.u32.min = 0 := rfl; have k2 : IntKind.u32.max = 4294967295 := rfl; omega
 obtain ⟨m1_0, b1_0, rfl⟩ : ∃ m : Nat, m < 4294967296 ∧ a1_0 = (m : Int) := ⟨a1_0.toNat, by omega, by omega⟩
 have c1_1 : 0 ≤ a1_1 ∧ a1_1 < 4294967296 := by have h := w1_1; simp [Lit.wf] at h; have k1 : IntKind.u32.min = 0 := rfl; have k2 : IntKind.u32.max = 4294967295 := rfl; omega
 obtain ⟨m1_1, b1_1, rfl⟩ : ∃ m : Nat, m < 4294967296 ∧ a1_1 = (m : Int) := ⟨a1_1.toNat, by omega, by omega⟩
 have c1_2 : 0 ≤ a1_2 ∧ a1_2 < 4294967296 := by have h := w1_2; simp [Lit.wf] at h; have k1 : IntKind.u32.min = 0 := rfl; have k2 : IntKind.u32.max = 4294967295 := rfl; omega
 obtain ⟨m1_2, b1_2, rfl⟩ : ∃ m : Nat, m < 4294967296 ∧ a1_2 = (m : Int) := ⟨a1_2.toNat, by omega, by omega⟩
 have c1_3 : 0 ≤ a1_3 ∧ a1_3 < 4294967296 := by have h := w1_3; simp [Lit.wf] at h; have k1 : IntKind.u32.min = 0 := rfl; have k2 : IntKind.u32.max = 4294967295 := rfl; omega
 obtain ⟨m1_3, b1_3, rfl⟩ : ∃ m : Nat, m < 4294967296 ∧ a1_3 = (m : Int) := ⟨a1_3.toNat, by omega, by omega⟩
 have c1_4 : 0 ≤ a1_4 ∧ a1_4 < 4294967296 := by have h := w1_4; simp [Lit.wf] at h; have k1 : IntKind.u32.min = 0 := rfl; have k2 : IntKind.u32.max = 4294967295 := rfl; omega
 obtain ⟨m1_4, b1_4, rfl⟩ : ∃ m : Nat, m < 4294967296 ∧ a1_4 = (m : Int) := ⟨a1_4.toNat, by omega, by omega⟩
 have c1_5 : 0 ≤ a1_5 ∧ a1_5 < 4294967296 := by have h := w1_5; simp [Lit.wf] at h; have k1 : IntKind.u32.min = 0 := rfl; have k2 : IntKind.u32.max = 4294967295 := rfl; omega
 obtain ⟨m1_5, b1_5, rfl⟩ : ∃ m : Nat, m < 4294967296 ∧ a1_5 = (m : Int) := ⟨a1_5.toNat, by omega, by omega⟩
 have c1_6 : 0 ≤ a1_6 ∧ a1_6 < 4294967296 := by have h := w1_6; simp [Lit.wf] at h; have k1 : IntKind.u32.min = 0 := rfl; have k2 : IntKind.u32.max = 4294967295 := rfl; omega
 obtain ⟨m1_6, b1_6, rfl⟩ : ∃ m : Nat, m < 4294967296 ∧ a1_6 = (m : Int) := ⟨a1_6.toNat, by omega, by omega⟩
 have c1_7 : 0 ≤ a1_7 ∧ a1_7 < 4294967296 := by have h := w1_7; simp [Lit.wf] at h; have k1 : IntKind.u32.min = 0 := rfl; have k2 : IntKind.u32.max = 4294967295 := rfl; omega
 obtain ⟨m1_7, b1_7, rfl⟩ : ∃ m : Nat, m < 4294967296 ∧ a1_7 = (m : Int) := ⟨a1_7.toNat, by omega, by omega⟩
 have c1_8 : 0 ≤ a1_8 ∧ a1_8 < 4294967296 := by have h := w1_8; simp [Lit.wf] at h; have k1 : IntKind.u32.min = 0 := rfl; have k2 : IntKind.u32.max = 4294967295 := rfl; omega
 obtain ⟨m1_8, b1_8, rfl⟩ : ∃ m : Nat, m < 4294967296 ∧ a1_8 = (m : Int) := ⟨a1_8.toNat, by omega, by omega⟩
 have c1_9 : 0 ≤ a1_9 ∧ a1_9 < 4294967296 := by have h := w1_9; simp [Lit.wf] at h; have k1 : IntKind.u32.min = 0 := rfl; have k2 : IntKind.u32.max = 4294967295 := rfl; omega
 obtain ⟨m1_9, b1_9, rfl⟩ : ∃ m : Nat, m < 4294967296 ∧ a1_9 = (m : Int) := ⟨a1_9.toNat, by omega, by omega⟩
 refine (orentells_ok a0_0 a0_1 a0_2 a0_3 a0_4 a0_5 a0_6 a0_7 a0_8 a0_9 m1_0 m1_1 m1_2 m1_3 m1_4 m1_5 m1_6 m1_7 m1_8 m1_9 W b0_0 b0_1 b0_2 b0_3 b0_4 b0_5 b0_6 b0_7 b0_8 b0_9 b1_0 b1_1 b1_2 b1_3 b1_4 b1_5 b1_6 b1_7 b1_8 b1_9).mono fun e W' ⟨he, bel⟩ => ?_
 subst he
 exact ⟨_, rfl, _, _, _, [], _, [], hW', trodAll_mk1 (shut_bool Tryz.underlying4 _), (trodAll_cons_mk (Below.trod (by kernel_rfl) (by kernel_rfl) (of_decide_eq_true (by kernel_rfl)) k0 bel (fun x hx => by cases hx)) (trodAll_cons_mk (Below.trod (by kernel_rfl) (by kernel_rfl) (of_decide_eq_true (by kernel_rfl)) k1 bel (fun x hx => by cases hx)) trodAll_mk0)), rfl, bel.frame _, fun h => by cases h⟩
theorem over : Rows.orenTellsRow.holds Tryz.pinned (OpenSpec.ofChange Rows.orenTellsSpec) :=
 OpenClaim.holds_of_wide 3 Tryz.f3 rfl rfl rfl rfl rfl rfl rfl ⟨rfl, rfl, rfl, rfl, rfl⟩ rfl rfl rfl rfl rfl (by kernel_rfl) Tryz.func3 (by kernel_rfl)
  (of_decide_eq_true (by kernel_rfl)) (by unfold Func.isWrapper; first | (rw [if_pos (by decide +kernel)]; kernel_rfl) | (rw [if_neg (by decide +kernel)]; exact ⟨rfl, rfl⟩))
  (fun os started H enc _ => lifted os started H enc)
theorem proved : Rows.OrenTellsSaid := over
end Go.Proofs.YtiphdhpacklboaaGreat.OrenTells
