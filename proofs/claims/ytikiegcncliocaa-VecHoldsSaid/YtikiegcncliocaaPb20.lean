/- The statement 'VecHolds' of burnishlaw05: for every input the law returns true, and does not panic, and its arguments read as before. Proved here: of any two vectors of right intervals, any interval, and parts of each, what is worked out of the vectors has what is worked out of the parts; and a vector and another one, less that one, has it again. No condition. -/
import Derived.Test.YtikiegcncliocaaLb20
import Derived.WalkKit
import Derived.ProofKit
import Derived.OpenShut
import Derived.Laws.Cover2
import Derived.Carry
import Derived.Test.YtikiegcncliocaaOv
namespace Go.Proofs.Ytikiegcncliocaa.VecHolds
open Go.ChangeShapes Go.WideShapes Go.ChangeAt Go.RowKit

theorem own : ownKnob Try.prog.godebug = none := by kernel_rfl

set_option maxRecDepth 100000 in
theorem lifted (os : Os) (started : os.Started) (H : Type) (enc : TypeId × Value → H) :
    ReturnsInHanded {} Try.checked os 9 .any (Rows.vecHoldsSpec.pre6 enc Try.prog Try.f9 Rows.vecHoldsRow.domain false) (Rows.vecHoldsSpec.post enc Try.prog Try.f9 false true false false) := by
  refine returnsInHanded_of_change (C := Try.checked) own started (by kernel_rfl) Try.func9
    (ChangeSpec.witness6 (enc := enc) (C := Try.checked) false ⟨#[], #[.agg #[.float .f64 0, .float .f64 0, .float .f64 0, .float .f64 0, .float .f64 0, .float .f64 0], .agg #[.float .f64 0, .float .f64 0, .float .f64 0, .float .f64 0, .float .f64 0, .float .f64 0], .agg #[.float .f64 0, .float .f64 0], .agg #[.int .u16 0, .int .u16 0, .int .u16 0, .int .u16 0, .int .u16 0, .int .u16 0]], []⟩ 8 (by kernel_rfl) (by kernel_rfl) (by kernel_rfl) (by kernel_rfl)) ?_
  intro W base args ds gs before hval0 hW hcnd _
  have hval : ∀ (j : Nat) t v, Try.f9.params[j]? = some t → args[j]? = some v → Value.okWide Try.prog W .any base t v := hval0
  have hW' := hW
  obtain ⟨p, q, hA0, hV, rfl, hfz, hnd⟩ := hW
  have hA : DataW.TrodAll enc Try.prog W 0 (fun _ => true) true Try.f9.params.toList args.toList ds p := hA0
  rw [Try.params9] at hA hval
  obtain ⟨v0, vs0, d0, ds0, p0, q0, hargs, rfl, rfl, h0, r0⟩ := trodAll_cons hA
  obtain ⟨v1, vs1, d1, ds1, p1, q1, rfl, rfl, rfl, h1, r1⟩ := trodAll_cons r0
  obtain ⟨v2, vs2, d2, ds2, p2, q2, rfl, rfl, rfl, h2, r2⟩ := trodAll_cons r1
  obtain ⟨v3, vs3, d3, ds3, p3, q3, rfl, rfl, rfl, h3, r3⟩ := trodAll_cons r2
  obtain ⟨rfl, rfl, rfl⟩ := trodAll_nil r3
  obtain rfl : args = #[v0, v1, v2, v3] := by cases args; simp_all
  obtain ⟨rfl, rfl⟩ := trodVars_none hV
  have k0 := h0
  obtain ⟨a0_0, a0_1, a0_2, a0_3, a0_4, a0_5, rfl, rfl, rfl, w0_0, w0_1, w0_2, w0_3, w0_4, w0_5⟩ := open_vec Try.underlying63 (by kernel_rfl) rfl rfl rfl rfl rfl rfl (by kernel_rfl) Try.underlying24 rfl rfl rfl rfl (by kernel_rfl) Try.underlying22 (hval 0 _ v0 rfl rfl) h0
  have k1 := h1
  obtain ⟨a1_0, a1_1, a1_2, a1_3, a1_4, a1_5, rfl, rfl, rfl, w1_0, w1_1, w1_2, w1_3, w1_4, w1_5⟩ := open_vec Try.underlying63 (by kernel_rfl) rfl rfl rfl rfl rfl rfl (by kernel_rfl) Try.underlying24 rfl rfl rfl rfl (by kernel_rfl) Try.underlying22 (hval 1 _ v1 rfl rfl) h1
  have k2 := h2
  obtain ⟨a2_0, a2_1, rfl, rfl, rfl, w2_0, w2_1⟩ := open_iv Try.underlying24 (by kernel_rfl) (by kernel_rfl) Try.underlying22 rfl rfl (hval 2 _ v2 rfl rfl) h2
  have k3 := h3
  obtain ⟨a3_0, a3_1, a3_2, a3_3, a3_4, a3_5, rfl, rfl, rfl, w3_0, w3_1, w3_2, w3_3, w3_4, w3_5⟩ := open_h6 Try.underlying77 Try.underlying50 (by kernel_rfl) (by kernel_rfl) (hval 3 _ v3 rfl rfl) h3
  clear hA0 hval0
  simp only [List.append_nil] at hW'
  have b0_0 : Dy.W a0_0 := by have h := w0_0; simp [Lit.wf] at h; exact h
  have b0_1 : Dy.W a0_1 := by have h := w0_1; simp [Lit.wf] at h; exact h
  have b0_2 : Dy.W a0_2 := by have h := w0_2; simp [Lit.wf] at h; exact h
  have b0_3 : Dy.W a0_3 := by have h := w0_3; simp [Lit.wf] at h; exact h
  have b0_4 : Dy.W a0_4 := by have h := w0_4; simp [Lit.wf] at h; exact h
  have b0_5 : Dy.W a0_5 := by have h := w0_5; simp [Lit.wf] at h; exact h
  have b1_0 : Dy.W a1_0 := by have h := w1_0; simp [Lit.wf] at h; exact h
  have b1_1 : Dy.W a1_1 := by have h := w1_1; simp [Lit.wf] at h; exact h
  have b1_2 : Dy.W a1_2 := by have h := w1_2; simp [Lit.wf] at h; exact h
  have b1_3 : Dy.W a1_3 := by have h := w1_3; simp [Lit.wf] at h; exact h
  have b1_4 : Dy.W a1_4 := by have h := w1_4; simp [Lit.wf] at h; exact h
  have b1_5 : Dy.W a1_5 := by have h := w1_5; simp [Lit.wf] at h; exact h
  have b2_0 : Dy.W a2_0 := by have h := w2_0; simp [Lit.wf] at h; exact h
  have b2_1 : Dy.W a2_1 := by have h := w2_1; simp [Lit.wf] at h; exact h
  have c3_0 : 0 ≤ a3_0 ∧ a3_0 < 65536 := by have h := w3_0; simp [Lit.wf] at h; have k1 : IntKind.u16.min = 0 := rfl; have k2 : IntKind.u16.max = 65535 := rfl; omega
  obtain ⟨m3_0, b3_0, rfl⟩ : ∃ m : Nat, m < 65536 ∧ a3_0 = (m : Int) := ⟨a3_0.toNat, by omega, by omega⟩
  have c3_1 : 0 ≤ a3_1 ∧ a3_1 < 65536 := by have h := w3_1; simp [Lit.wf] at h; have k1 : IntKind.u16.min = 0 := rfl; have k2 : IntKind.u16.max = 65535 := rfl; omega
  obtain ⟨m3_1, b3_1, rfl⟩ : ∃ m : Nat, m < 65536 ∧ a3_1 = (m : Int) := ⟨a3_1.toNat, by omega, by omega⟩
  have c3_2 : 0 ≤ a3_2 ∧ a3_2 < 65536 := by have h := w3_2; simp [Lit.wf] at h; have k1 : IntKind.u16.min = 0 := rfl; have k2 : IntKind.u16.max = 65535 := rfl; omega
  obtain ⟨m3_2, b3_2, rfl⟩ : ∃ m : Nat, m < 65536 ∧ a3_2 = (m : Int) := ⟨a3_2.toNat, by omega, by omega⟩
  have c3_3 : 0 ≤ a3_3 ∧ a3_3 < 65536 := by have h := w3_3; simp [Lit.wf] at h; have k1 : IntKind.u16.min = 0 := rfl; have k2 : IntKind.u16.max = 65535 := rfl; omega
  obtain ⟨m3_3, b3_3, rfl⟩ : ∃ m : Nat, m < 65536 ∧ a3_3 = (m : Int) := ⟨a3_3.toNat, by omega, by omega⟩
  have c3_4 : 0 ≤ a3_4 ∧ a3_4 < 65536 := by have h := w3_4; simp [Lit.wf] at h; have k1 : IntKind.u16.min = 0 := rfl; have k2 : IntKind.u16.max = 65535 := rfl; omega
  obtain ⟨m3_4, b3_4, rfl⟩ : ∃ m : Nat, m < 65536 ∧ a3_4 = (m : Int) := ⟨a3_4.toNat, by omega, by omega⟩
  have c3_5 : 0 ≤ a3_5 ∧ a3_5 < 65536 := by have h := w3_5; simp [Lit.wf] at h; have k1 : IntKind.u16.min = 0 := rfl; have k2 : IntKind.u16.max = 65535 := rfl; omega
  obtain ⟨m3_5, b3_5, rfl⟩ : ∃ m : Nat, m < 65536 ∧ a3_5 = (m : Int) := ⟨a3_5.toNat, by omega, by omega⟩
  refine (vech_any a0_0 a0_1 a0_2 a0_3 a0_4 a0_5 a1_0 a1_1 a1_2 a1_3 a1_4 a1_5 a2_0 a2_1 m3_0 m3_1 m3_2 m3_3 m3_4 m3_5 W b0_0 b0_1 b0_2 b0_3 b0_4 b0_5 b1_0 b1_1 b1_2 b1_3 b1_4 b1_5 b2_0 b2_1 b3_0 b3_1 b3_2 b3_3 b3_4 b3_5).mono fun e W' ⟨he, bel⟩ => ?_
  subst he
  exact ⟨_, rfl, _, _, _, [], _, [], hW', trodAll_mk1 (shut_bool Try.underlying4 _), (trodAll_cons_mk (Below.trod (by kernel_rfl) (by kernel_rfl) (of_decide_eq_true (by kernel_rfl)) k0 bel (fun x hx => by cases hx)) (trodAll_cons_mk (Below.trod (by kernel_rfl) (by kernel_rfl) (of_decide_eq_true (by kernel_rfl)) k1 bel (fun x hx => by cases hx)) (trodAll_cons_mk (Below.trod (by kernel_rfl) (by kernel_rfl) (of_decide_eq_true (by kernel_rfl)) k2 bel (fun x hx => by cases hx)) (trodAll_cons_mk (Below.trod (by kernel_rfl) (by kernel_rfl) (of_decide_eq_true (by kernel_rfl)) k3 bel (fun x hx => by cases hx)) trodAll_mk0)))), rfl, bel.frame _, fun h => by cases h⟩

theorem over : Rows.vecHoldsRow.holds Try.pinned (OpenSpec.ofChange Rows.vecHoldsSpec) :=
  OpenClaim.holds_of_wide 9 Try.f9 rfl rfl rfl rfl rfl rfl rfl ⟨rfl, rfl, rfl, rfl, rfl⟩ rfl rfl rfl rfl rfl (by kernel_rfl) Try.func9 (by kernel_rfl)
    (of_decide_eq_true (by kernel_rfl)) (by unfold Func.isWrapper; first | (rw [if_pos (by decide +kernel)]; kernel_rfl) | (rw [if_neg (by decide +kernel)]; exact ⟨rfl, rfl⟩))
    (fun os started H enc _ => lifted os started H enc)

theorem proved : Rows.VecHoldsSaid := over
end Go.Proofs.Ytikiegcncliocaa.VecHolds
