/- The statement 'VecTells' of burnishlaw05: for every input the law returns true, and does not panic, and its arguments read as before. Proved here: burnishref05's functions, over burnishref02's calculator, answer what vec's do; a unit vector of any triple likewise; the law is reckoned by symbols in one way. No condition. -/
import Derived.Test.YtkhplflbcgjkcaaGreatAj
import Derived.WalkKit
import Derived.ProofKit
import Derived.OpenShut
import Derived.Laws.Cover2
import Derived.Carry
import Derived.Test.YtkhplflbcgjkcaaGreatAi
namespace Go.Proofs.YtkhplflbcgjkcaaGreat.VecTells
open Go.ChangeShapes Go.WideShapes Go.ChangeAt Go.RowKit
theorem own : ownKnob Tryz.prog.godebug = none := by kernel_rfl
set_option maxRecDepth 100000 in
theorem lifted (os : Os) (started : os.Started) (H : Type) (enc : TypeId × Value → H) :
  ReturnsInHanded {} Tryz.checked os 5 .any (Rows.vecTellsSpec.pre6 enc Tryz.prog Tryz.f5 Rows.vecTellsRow.domain false) (Rows.vecTellsSpec.post enc Tryz.prog Tryz.f5 false true false false) := by
 refine returnsInHanded_of_change (C := Tryz.checked) own started (by kernel_rfl) Tryz.func5
  (ChangeSpec.witness6 (enc := enc) (C := Tryz.checked) false ⟨#[], #[.agg #[.float .f64 0, .float .f64 0, .float .f64 0], .agg #[.float .f64 0, .float .f64 0, .float .f64 0, .float .f64 0, .float .f64 0, .float .f64 0], .agg #[.float .f64 0, .float .f64 0, .float .f64 0, .float .f64 0, .float .f64 0, .float .f64 0], .agg #[.float .f64 0, .float .f64 0]], []⟩ 8 (by kernel_rfl) (by kernel_rfl) (by kernel_rfl) (by kernel_rfl)) ?_
 intro W base args ds gs before hval0 hW hcnd _
 have hval : ∀ (j : Nat) t v, Tryz.f5.params[j]? = some t → args[j]? = some v → Value.okWide Tryz.prog W .any base t v := hval0
 have hW' := hW
 obtain ⟨p, q, hA0, hV, rfl, hfz, hnd⟩ := hW
 have hA : DataW.TrodAll enc Tryz.prog W 0 (fun _ => true) true Tryz.f5.params.toList args.toList ds p := hA0
 rw [Tryz.params5] at hA hval
 obtain ⟨v0, vs0, d0, ds0, p0, q0, hargs, rfl, rfl, h0, r0⟩ := trodAll_cons hA
 obtain ⟨v1, vs1, d1, ds1, p1, q1, rfl, rfl, rfl, h1, r1⟩ := trodAll_cons r0
 obtain ⟨v2, vs2, d2, ds2, p2, q2, rfl, rfl, rfl, h2, r2⟩ := trodAll_cons r1
 obtain ⟨v3, vs3, d3, ds3, p3, q3, rfl, rfl, rfl, h3, r3⟩ := trodAll_cons r2
 obtain ⟨rfl, rfl, rfl⟩ := trodAll_nil r3
 obtain rfl : args = #[v0, v1, v2, v3] := by cases args; simp_all
 obtain ⟨rfl, rfl⟩ := trodVars_none hV
 have k0 := h0
 obtain ⟨a0_0, a0_1, a0_2, rfl, rfl, rfl, w0_0, w0_1, w0_2⟩ := open_f3 Tryz.underlying28 (by kernel_rfl) (by kernel_rfl) Tryz.underlying22 rfl rfl rfl (hval 0 _ v0 rfl rfl) h0
 have k1 := h1
 obtain ⟨a1_0, a1_1, a1_2, a1_3, a1_4, a1_5, rfl, rfl, rfl, w1_0, w1_1, w1_2, w1_3, w1_4, w1_5⟩ := open_vec Tryz.underlying26 (by kernel_rfl) rfl rfl rfl rfl rfl rfl (by kernel_rfl) Tryz.underlying24 rfl rfl rfl rfl (by kernel_rfl) Tryz.underlying22 (hval 1 _ v1 rfl rfl) h1
 have k2 := h2
 obtain ⟨a2_0, a2_1, a2_2, a2_3, a2_4, a2_5, rfl, rfl, rfl, w2_0, w2_1, w2_2, w2_3, w2_4, w2_5⟩ := open_vec Tryz.underlying26 (by kernel_rfl) rfl rfl rfl rfl rfl rfl (by kernel_rfl) Tryz.underlying24 rfl rfl rfl rfl (by kernel_rfl) Tryz.underlying22 (hval 2 _ v2 rfl rfl) h2
 have k3 := h3
 obtain ⟨a3_0, a3_1, rfl, rfl, rfl, w3_0, w3_1⟩ := open_iv Tryz.underlying24 (by kernel_rfl) (by kernel_rfl) Tryz.underlying22 rfl rfl (hval 3 _ v3 rfl rfl) h3
 clear hA0 hval0
 simp only [List.append_nil] at hW'
 have b0_0 : Dy.W a0_0 := by have h := w0_0; simp [Lit.wf] at h; exact h
 have b0_1 : Dy.W a0_1 := by have h := w0_1; simp [Lit.wf] at h; exact h
 have b0_2 : Dy.W a0_2 := by have h := w0_2; simp [Lit.wf] at h; exact h
 have b1_0 : Dy.W a1_0 := by have h := w1_0; simp [Lit.wf] at h; exact h
 have b1_1 : Dy.W a1_1 := by have h := w1_1; simp [Lit.wf] at h; exact h
 have b1_2 : Dy.W a1_2 := by have h := w1_2; simp [Lit.wf] at h; exact h
 have b1_3 : Dy.W a1_3 := by have h := w1_3; simp [Lit.wf] at h; exact h
 have b1_4 : Dy.W a1_4 := by have h := w1_4; simp [Lit.wf] at h; exact h
 have b1_5 : Dy.W a1_5 := by have h := w1_5; simp [Lit.wf] at h; exact h
 have b2_0 : Dy.W a2_0 := by have h := w2_0; simp [Lit.wf] at h; exact h
 have b2_1 : Dy.W a2_1 := by have h := w2_1; simp [Lit.wf] at h; exact h
 have b2_2 : Dy.W a2_2 := by have h := w2_2; simp [Lit.wf] at h; exact h
 have b2_3 : Dy.W a2_3 := by have h := w2_3; simp [Lit.wf] at h; exact h
 have b2_4 : Dy.W a2_4 := by have h := w2_4; simp [Lit.wf] at h; exact h
 have b2_5 : Dy.W a2_5 := by have h := w2_5; simp [Lit.wf] at h; exact h
 have b3_0 : Dy.W a3_0 := by have h := w3_0; simp [Lit.wf] at h; exact h
 have b3_1 : Dy.W a3_1 := by have h := w3_1; simp [Lit.wf] at h; exact h
 refine (vectells_ok a0_0 a0_1 a0_2 a1_0 a1_1 a1_2 a1_3 a1_4 a1_5 a2_0 a2_1 a2_2 a2_3 a2_4 a2_5 a3_0 a3_1 W b0_0 b0_1 b0_2 b1_0 b1_1 b1_2 b1_3 b1_4 b1_5 b2_0 b2_1 b2_2 b2_3 b2_4 b2_5 b3_0 b3_1).mono fun e W' ⟨he, bel⟩ => ?_
 subst he
 exact ⟨_, rfl, _, _, _, [], _, [], hW', trodAll_mk1 (shut_bool Tryz.underlying4 _), (trodAll_cons_mk (Below.trod (by kernel_rfl) (by kernel_rfl) (of_decide_eq_true (by kernel_rfl)) k0 bel (fun x hx => by cases hx)) (trodAll_cons_mk (Below.trod (by kernel_rfl) (by kernel_rfl) (of_decide_eq_true (by kernel_rfl)) k1 bel (fun x hx => by cases hx)) (trodAll_cons_mk (Below.trod (by kernel_rfl) (by kernel_rfl) (of_decide_eq_true (by kernel_rfl)) k2 bel (fun x hx => by cases hx)) (trodAll_cons_mk (Below.trod (by kernel_rfl) (by kernel_rfl) (of_decide_eq_true (by kernel_rfl)) k3 bel (fun x hx => by cases hx)) trodAll_mk0)))), rfl, bel.frame _, fun h => by cases h⟩
theorem over : Rows.vecTellsRow.holds Tryz.pinned (OpenSpec.ofChange Rows.vecTellsSpec) :=
 OpenClaim.holds_of_wide 5 Tryz.f5 rfl rfl rfl rfl rfl rfl rfl ⟨rfl, rfl, rfl, rfl, rfl⟩ rfl rfl rfl rfl rfl (by kernel_rfl) Tryz.func5 (by kernel_rfl)
  (of_decide_eq_true (by kernel_rfl)) (by unfold Func.isWrapper; first | (rw [if_pos (by decide +kernel)]; kernel_rfl) | (rw [if_neg (by decide +kernel)]; exact ⟨rfl, rfl⟩))
  (fun os started H enc _ => lifted os started H enc)
theorem proved : Rows.VecTellsSaid := over
end Go.Proofs.YtkhplflbcgjkcaaGreat.VecTells
