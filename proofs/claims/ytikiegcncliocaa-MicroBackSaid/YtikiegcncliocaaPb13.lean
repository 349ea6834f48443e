/- The statement 'MicroBack' of burnishlaw10: for every input the law returns true, and does not panic, and its arguments read as before. Proved here: of any two directions and any alpha the looks either way have no error, their values, leans and halves meet, and value and density are not below 0. No condition. -/
import Derived.Test.YtikiegcncliocaaLb13
import Derived.WalkKit
import Derived.ProofKit
import Derived.OpenShut
import Derived.Laws.Cover2
import Derived.Carry
import Derived.Test.YtikiegcncliocaaOq
namespace Go.Proofs.Ytikiegcncliocaa.MicroBack
open Go.ChangeShapes Go.WideShapes Go.ChangeAt Go.RowKit

theorem own : ownKnob Try.prog.godebug = none := by kernel_rfl

set_option maxRecDepth 100000 in
theorem lifted (os : Os) (started : os.Started) (H : Type) (enc : TypeId × Value → H) :
    ReturnsInHanded {} Try.checked os 12 .any (Rows.microBackSpec.pre6 enc Try.prog Try.f12 Rows.microBackRow.domain false) (Rows.microBackSpec.post enc Try.prog Try.f12 false true false false) := by
  refine returnsInHanded_of_change (C := Try.checked) own started (by kernel_rfl) Try.func12
    (ChangeSpec.witness6 (enc := enc) (C := Try.checked) false ⟨#[], #[.agg #[.int .u32 0, .int .u32 0, .int .u32 0, .int .u32 0, .int .u32 0, .int .u32 0], .int .u32 0], []⟩ 8 (by kernel_rfl) (by kernel_rfl) (by kernel_rfl) (by kernel_rfl)) ?_
  intro W base args ds gs before hval0 hW hcnd _
  have hval : ∀ (j : Nat) t v, Try.f12.params[j]? = some t → args[j]? = some v → Value.okWide Try.prog W .any base t v := hval0
  have hW' := hW
  obtain ⟨p, q, hA0, hV, rfl, hfz, hnd⟩ := hW
  have hA : DataW.TrodAll enc Try.prog W 0 (fun _ => true) true Try.f12.params.toList args.toList ds p := hA0
  rw [Try.params12] at hA hval
  obtain ⟨v0, vs0, d0, ds0, p0, q0, hargs, rfl, rfl, h0, r0⟩ := trodAll_cons hA
  obtain ⟨v1, vs1, d1, ds1, p1, q1, rfl, rfl, rfl, h1, r1⟩ := trodAll_cons r0
  obtain ⟨rfl, rfl, rfl⟩ := trodAll_nil r1
  obtain rfl : args = #[v0, v1] := by cases args; simp_all
  obtain ⟨rfl, rfl⟩ := trodVars_none hV
  have k0 := h0
  obtain ⟨a0_0, a0_1, a0_2, a0_3, a0_4, a0_5, rfl, rfl, rfl, w0_0, w0_1, w0_2, w0_3, w0_4, w0_5⟩ := open_u6 Try.underlying87 Try.underlying36 (by kernel_rfl) (by kernel_rfl) (hval 0 _ v0 rfl rfl) h0
  obtain ⟨a1, rfl, rfl, rfl, w1⟩ := open_int Try.underlying36 (hval 1 _ v1 rfl rfl) h1
  clear hA0 hval0
  simp only [List.append_nil] at hW'
  have c1 : 0 ≤ a1 ∧ a1 < 4294967296 := by have h := w1; simp [Lit.wf] at h; have k1 : IntKind.u32.min = 0 := rfl; have k2 : IntKind.u32.max = 4294967295 := rfl; omega
  obtain ⟨m1, b1, rfl⟩ : ∃ m : Nat, m < 4294967296 ∧ a1 = (m : Int) := ⟨a1.toNat, by omega, by omega⟩
  have c0_0 : 0 ≤ a0_0 ∧ a0_0 < 4294967296 := by have h := w0_0; simp [Lit.wf] at h; have k1 : IntKind.u32.min = 0 := rfl; have k2 : IntKind.u32.max = 4294967295 := rfl; omega
  obtain ⟨m0_0, b0_0, rfl⟩ : ∃ m : Nat, m < 4294967296 ∧ a0_0 = (m : Int) := ⟨a0_0.toNat, by omega, by omega⟩
  have c0_1 : 0 ≤ a0_1 ∧ a0_1 < 4294967296 := by have h := w0_1; simp [Lit.wf] at h; have k1 : IntKind.u32.min = 0 := rfl; have k2 : IntKind.u32.max = 4294967295 := rfl; omega
  obtain ⟨m0_1, b0_1, rfl⟩ : ∃ m : Nat, m < 4294967296 ∧ a0_1 = (m : Int) := ⟨a0_1.toNat, by omega, by omega⟩
  have c0_2 : 0 ≤ a0_2 ∧ a0_2 < 4294967296 := by have h := w0_2; simp [Lit.wf] at h; have k1 : IntKind.u32.min = 0 := rfl; have k2 : IntKind.u32.max = 4294967295 := rfl; omega
  obtain ⟨m0_2, b0_2, rfl⟩ : ∃ m : Nat, m < 4294967296 ∧ a0_2 = (m : Int) := ⟨a0_2.toNat, by omega, by omega⟩
  have c0_3 : 0 ≤ a0_3 ∧ a0_3 < 4294967296 := by have h := w0_3; simp [Lit.wf] at h; have k1 : IntKind.u32.min = 0 := rfl; have k2 : IntKind.u32.max = 4294967295 := rfl; omega
  obtain ⟨m0_3, b0_3, rfl⟩ : ∃ m : Nat, m < 4294967296 ∧ a0_3 = (m : Int) := ⟨a0_3.toNat, by omega, by omega⟩
  have c0_4 : 0 ≤ a0_4 ∧ a0_4 < 4294967296 := by have h := w0_4; simp [Lit.wf] at h; have k1 : IntKind.u32.min = 0 := rfl; have k2 : IntKind.u32.max = 4294967295 := rfl; omega
  obtain ⟨m0_4, b0_4, rfl⟩ : ∃ m : Nat, m < 4294967296 ∧ a0_4 = (m : Int) := ⟨a0_4.toNat, by omega, by omega⟩
  have c0_5 : 0 ≤ a0_5 ∧ a0_5 < 4294967296 := by have h := w0_5; simp [Lit.wf] at h; have k1 : IntKind.u32.min = 0 := rfl; have k2 : IntKind.u32.max = 4294967295 := rfl; omega
  obtain ⟨m0_5, b0_5, rfl⟩ : ∃ m : Nat, m < 4294967296 ∧ a0_5 = (m : Int) := ⟨a0_5.toNat, by omega, by omega⟩
  refine (microback_any m0_0 m0_1 m0_2 m0_3 m0_4 m0_5 m1 W b0_0 b0_1 b0_2 b0_3 b0_4 b0_5 b1).mono fun e W' ⟨he, bel⟩ => ?_
  subst he
  exact ⟨_, rfl, _, _, _, [], _, [], hW', trodAll_mk1 (shut_bool Try.underlying4 _), (trodAll_cons_mk (Below.trod (by kernel_rfl) (by kernel_rfl) (of_decide_eq_true (by kernel_rfl)) k0 bel (fun x hx => by cases hx)) (trodAll_cons_mk (shut_int Try.underlying36 w1) trodAll_mk0)), rfl, bel.frame _, fun h => by cases h⟩

theorem over : Rows.microBackRow.holds Try.pinned (OpenSpec.ofChange Rows.microBackSpec) :=
  OpenClaim.holds_of_wide 12 Try.f12 rfl rfl rfl rfl rfl rfl rfl ⟨rfl, rfl, rfl, rfl, rfl⟩ rfl rfl rfl rfl rfl (by kernel_rfl) Try.func12 (by kernel_rfl)
    (of_decide_eq_true (by kernel_rfl)) (by unfold Func.isWrapper; first | (rw [if_pos (by decide +kernel)]; kernel_rfl) | (rw [if_neg (by decide +kernel)]; exact ⟨rfl, rfl⟩))
    (fun os started H enc _ => lifted os started H enc)

theorem proved : Rows.MicroBackSaid := over
end Go.Proofs.Ytikiegcncliocaa.MicroBack
