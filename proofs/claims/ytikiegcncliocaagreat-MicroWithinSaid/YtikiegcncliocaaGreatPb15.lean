/- The statement 'MicroWithin' of burnishlaw10: for every input the law returns true, and does not panic, and its arguments read as before. Proved here: of any two directions, widened by up to 1, and any alpha, the look at intervals within them has no error where theirs has none, and is within theirs. No condition. -/
import Derived.Test.YtikiegcncliocaaGreatLb15
import Derived.WalkKit
import Derived.ProofKit
import Derived.OpenShut
import Derived.Laws.Cover2
import Derived.Carry
import Derived.Test.YtikiegcncliocaaGreatOq
namespace Go.Proofs.YtikiegcncliocaaGreat.MicroWithin
open Go.ChangeShapes Go.WideShapes Go.ChangeAt Go.RowKit

theorem own : ownKnob Tryz.prog.godebug = none := by kernel_rfl

set_option maxRecDepth 100000 in
theorem lifted (os : Os) (started : os.Started) (H : Type) (enc : TypeId × Value → H) :
    ReturnsInHanded {} Tryz.checked os 3 .any (Rows.microWithinSpec.pre6 enc Tryz.prog Tryz.f3 Rows.microWithinRow.domain false) (Rows.microWithinSpec.post enc Tryz.prog Tryz.f3 false true false false) := by
  refine returnsInHanded_of_change (C := Tryz.checked) own started (by kernel_rfl) Tryz.func3
    (ChangeSpec.witness6 (enc := enc) (C := Tryz.checked) false ⟨#[], #[.agg #[.int .u32 0, .int .u32 0, .int .u32 0, .int .u32 0, .int .u32 0, .int .u32 0], .int .u8 0, .agg #[.int .u32 0, .int .u32 0, .int .u32 0, .int .u32 0, .int .u32 0, .int .u32 0], .agg #[.int .u32 0, .int .u32 0, .int .u32 0, .int .u32 0, .int .u32 0, .int .u32 0], .agg #[.int .u32 0, .int .u32 0, .int .u32 0, .int .u32 0]], []⟩ 8 (by kernel_rfl) (by kernel_rfl) (by kernel_rfl) (by kernel_rfl)) ?_
  intro W base args ds gs before hval0 hW hcnd _
  have hval : ∀ (j : Nat) t v, Tryz.f3.params[j]? = some t → args[j]? = some v → Value.okWide Tryz.prog W .any base t v := hval0
  have hW' := hW
  obtain ⟨p, q, hA0, hV, rfl, hfz, hnd⟩ := hW
  have hA : DataW.TrodAll enc Tryz.prog W 0 (fun _ => true) true Tryz.f3.params.toList args.toList ds p := hA0
  rw [Tryz.params3] at hA hval
  obtain ⟨v0, vs0, d0, ds0, p0, q0, hargs, rfl, rfl, h0, r0⟩ := trodAll_cons hA
  obtain ⟨v1, vs1, d1, ds1, p1, q1, rfl, rfl, rfl, h1, r1⟩ := trodAll_cons r0
  obtain ⟨v2, vs2, d2, ds2, p2, q2, rfl, rfl, rfl, h2, r2⟩ := trodAll_cons r1
  obtain ⟨v3, vs3, d3, ds3, p3, q3, rfl, rfl, rfl, h3, r3⟩ := trodAll_cons r2
  obtain ⟨v4, vs4, d4, ds4, p4, q4, rfl, rfl, rfl, h4, r4⟩ := trodAll_cons r3
  obtain ⟨rfl, rfl, rfl⟩ := trodAll_nil r4
  obtain rfl : args = #[v0, v1, v2, v3, v4] := by cases args; simp_all
  obtain ⟨rfl, rfl⟩ := trodVars_none hV
  have k0 := h0
  obtain ⟨a0_0, a0_1, a0_2, a0_3, a0_4, a0_5, rfl, rfl, rfl, w0_0, w0_1, w0_2, w0_3, w0_4, w0_5⟩ := open_u6 Tryz.underlying23 Tryz.underlying22 (by kernel_rfl) (by kernel_rfl) (hval 0 _ v0 rfl rfl) h0
  obtain ⟨a1, rfl, rfl, rfl, w1⟩ := open_int Tryz.underlying5 (hval 1 _ v1 rfl rfl) h1
  have k2 := h2
  obtain ⟨a2_0, a2_1, a2_2, a2_3, a2_4, a2_5, rfl, rfl, rfl, w2_0, w2_1, w2_2, w2_3, w2_4, w2_5⟩ := open_u6 Tryz.underlying23 Tryz.underlying22 (by kernel_rfl) (by kernel_rfl) (hval 2 _ v2 rfl rfl) h2
  have k3 := h3
  obtain ⟨a3_0, a3_1, a3_2, a3_3, a3_4, a3_5, rfl, rfl, rfl, w3_0, w3_1, w3_2, w3_3, w3_4, w3_5⟩ := open_u6 Tryz.underlying23 Tryz.underlying22 (by kernel_rfl) (by kernel_rfl) (hval 3 _ v3 rfl rfl) h3
  have k4 := h4
  obtain ⟨a4_0, a4_1, a4_2, a4_3, rfl, rfl, rfl, w4_0, w4_1, w4_2, w4_3⟩ := open_u4 Tryz.underlying24 Tryz.underlying22 (by kernel_rfl) (by kernel_rfl) (hval 4 _ v4 rfl rfl) h4
  clear hA0 hval0
  simp only [List.append_nil] at hW'
  have c1 : 0 ≤ a1 ∧ a1 < 256 := by have h := w1; simp [Lit.wf] at h; have k1 : IntKind.u8.min = 0 := rfl; have k2 : IntKind.u8.max = 255 := rfl; omega
  obtain ⟨m1, b1, rfl⟩ : ∃ m : Nat, m < 256 ∧ a1 = (m : Int) := ⟨a1.toNat, by omega, by omega⟩
  have c0_0 : 0 ≤ a0_0 ∧ a0_0 < 4294967296 := by have h := w0_0; simp [Lit.wf] at h; have k1 : IntKind.u32.min = 0 := rfl; have k2 : IntKind.u32.max = 4294967295 := rfl; omega
  obtain ⟨m0_0, b0_0, rfl⟩ : ∃ m : Nat, m < 4294967296 ∧ a0_0 = (m : Int) := ⟨a0_0.toNat, by omega, by omega⟩
  have c0_1 : 0 ≤ a0_1 ∧ a0_1 < 4294967296 := by have h := w0_1; simp [Lit.wf] at h; have k1 : IntKind.u32.min = 0 := rfl; have k2 : IntKind.u32.max = 4294967295 := rfl; omega
  obtain ⟨m0_1, b0_1, rfl⟩ : ∃ m : Nat, m < 4294967296 ∧ a0_1 = (m : Int) := ⟨a0_1.toNat, by omega, by omega⟩
  have c0_2 : 0 ≤ a0_2 ∧ a0_2 < 4294967296 := by have h := w0_2; simp [Lit.wf] at h; have k1 : IntKind.u32.min = 0 := rfl; have k2 : IntKind.u32.max = 4294967295 := rfl; omega
  obtain ⟨m0_2, b0_2, rfl⟩ : ∃ m : Nat, m < 4294967296 ∧ a0_2 = (m : Int) := ⟨a0_2.toNat, by omega, by omega⟩
  have c0_3 : 0 ≤ a0_3 ∧ a0_3 < 4294967296 := by have h := w0_3; simp [Lit.wf] at h; have k1 : IntKind.u32.min = 0 := rfl; have k2 : IntKind.u32.max = 4294967295 := rfl; omega
  obtain ⟨m0_3, b0_3, rfl⟩ : ∃ m : Nat, m < 4294967296 ∧ a0_3 = (m : Int) := ⟨a0_3.toNat, by omega, by omega⟩
  have c0_4 : 0 ≤ a0_4 ∧ a0_4 < 4294967296 := by have h := w0_4; simp [Lit.wf] at h; have k1 : IntKind.u32.min = 0 := rfl; have k2 : IntKind.u32.max = 4294967295 := rfl; omega
  obtain ⟨m0_4, b0_4, rfl⟩ : ∃ m : Nat, m < 4294967296 ∧ a0_4 = (m : Int) := ⟨a0_4.toNat, by omega, by omega⟩
  have c0_5 : 0 ≤ a0_5 ∧ a0_5 < 4294967296 := by have h := w0_5; simp [Lit.wf] at h; have k1 : IntKind.u32.min = 0 := rfl; have k2 : IntKind.u32.max = 4294967295 := rfl; omega
  obtain ⟨m0_5, b0_5, rfl⟩ : ∃ m : Nat, m < 4294967296 ∧ a0_5 = (m : Int) := ⟨a0_5.toNat, by omega, by omega⟩
  have c2_0 : 0 ≤ a2_0 ∧ a2_0 < 4294967296 := by have h := w2_0; simp [Lit.wf] at h; have k1 : IntKind.u32.min = 0 := rfl; have k2 : IntKind.u32.max = 4294967295 := rfl; omega
  obtain ⟨m2_0, b2_0, rfl⟩ : ∃ m : Nat, m < 4294967296 ∧ a2_0 = (m : Int) := ⟨a2_0.toNat, by omega, by omega⟩
  have c2_1 : 0 ≤ a2_1 ∧ a2_1 < 4294967296 := by have h := w2_1; simp [Lit.wf] at h; have k1 : IntKind.u32.min = 0 := rfl; have k2 : IntKind.u32.max = 4294967295 := rfl; omega
  obtain ⟨m2_1, b2_1, rfl⟩ : ∃ m : Nat, m < 4294967296 ∧ a2_1 = (m : Int) := ⟨a2_1.toNat, by omega, by omega⟩
  have c2_2 : 0 ≤ a2_2 ∧ a2_2 < 4294967296 := by have h := w2_2; simp [Lit.wf] at h; have k1 : IntKind.u32.min = 0 := rfl; have k2 : IntKind.u32.max = 4294967295 := rfl; omega
  obtain ⟨m2_2, b2_2, rfl⟩ : ∃ m : Nat, m < 4294967296 ∧ a2_2 = (m : Int) := ⟨a2_2.toNat, by omega, by omega⟩
  have c2_3 : 0 ≤ a2_3 ∧ a2_3 < 4294967296 := by have h := w2_3; simp [Lit.wf] at h; have k1 : IntKind.u32.min = 0 := rfl; have k2 : IntKind.u32.max = 4294967295 := rfl; omega
  obtain ⟨m2_3, b2_3, rfl⟩ : ∃ m : Nat, m < 4294967296 ∧ a2_3 = (m : Int) := ⟨a2_3.toNat, by omega, by omega⟩
  have c2_4 : 0 ≤ a2_4 ∧ a2_4 < 4294967296 := by have h := w2_4; simp [Lit.wf] at h; have k1 : IntKind.u32.min = 0 := rfl; have k2 : IntKind.u32.max = 4294967295 := rfl; omega
  obtain ⟨m2_4, b2_4, rfl⟩ : ∃ m : Nat, m < 4294967296 ∧ a2_4 = (m : Int) := ⟨a2_4.toNat, by omega, by omega⟩
  have c2_5 : 0 ≤ a2_5 ∧ a2_5 < 4294967296 := by have h := w2_5; simp [Lit.wf] at h; have k1 : IntKind.u32.min = 0 := rfl; have k2 : IntKind.u32.max = 4294967295 := rfl; omega
  obtain ⟨m2_5, b2_5, rfl⟩ : ∃ m : Nat, m < 4294967296 ∧ a2_5 = (m : Int) := ⟨a2_5.toNat, by omega, by omega⟩
  have c3_0 : 0 ≤ a3_0 ∧ a3_0 < 4294967296 := by have h := w3_0; simp [Lit.wf] at h; have k1 : IntKind.u32.min = 0 := rfl; have k2 : IntKind.u32.max = 4294967295 := rfl; omega
  obtain ⟨m3_0, b3_0, rfl⟩ : ∃ m : Nat, m < 4294967296 ∧ a3_0 = (m : Int) := ⟨a3_0.toNat, by omega, by omega⟩
  have c3_1 : 0 ≤ a3_1 ∧ a3_1 < 4294967296 := by have h := w3_1; simp [Lit.wf] at h; have k1 : IntKind.u32.min = 0 := rfl; have k2 : IntKind.u32.max = 4294967295 := rfl; omega
  obtain ⟨m3_1, b3_1, rfl⟩ : ∃ m : Nat, m < 4294967296 ∧ a3_1 = (m : Int) := ⟨a3_1.toNat, by omega, by omega⟩
  have c3_2 : 0 ≤ a3_2 ∧ a3_2 < 4294967296 := by have h := w3_2; simp [Lit.wf] at h; have k1 : IntKind.u32.min = 0 := rfl; have k2 : IntKind.u32.max = 4294967295 := rfl; omega
  obtain ⟨m3_2, b3_2, rfl⟩ : ∃ m : Nat, m < 4294967296 ∧ a3_2 = (m : Int) := ⟨a3_2.toNat, by omega, by omega⟩
  have c3_3 : 0 ≤ a3_3 ∧ a3_3 < 4294967296 := by have h := w3_3; simp [Lit.wf] at h; have k1 : IntKind.u32.min = 0 := rfl; have k2 : IntKind.u32.max = 4294967295 := rfl; omega
  obtain ⟨m3_3, b3_3, rfl⟩ : ∃ m : Nat, m < 4294967296 ∧ a3_3 = (m : Int) := ⟨a3_3.toNat, by omega, by omega⟩
  have c3_4 : 0 ≤ a3_4 ∧ a3_4 < 4294967296 := by have h := w3_4; simp [Lit.wf] at h; have k1 : IntKind.u32.min = 0 := rfl; have k2 : IntKind.u32.max = 4294967295 := rfl; omega
  obtain ⟨m3_4, b3_4, rfl⟩ : ∃ m : Nat, m < 4294967296 ∧ a3_4 = (m : Int) := ⟨a3_4.toNat, by omega, by omega⟩
  have c3_5 : 0 ≤ a3_5 ∧ a3_5 < 4294967296 := by have h := w3_5; simp [Lit.wf] at h; have k1 : IntKind.u32.min = 0 := rfl; have k2 : IntKind.u32.max = 4294967295 := rfl; omega
  obtain ⟨m3_5, b3_5, rfl⟩ : ∃ m : Nat, m < 4294967296 ∧ a3_5 = (m : Int) := ⟨a3_5.toNat, by omega, by omega⟩
  have c4_0 : 0 ≤ a4_0 ∧ a4_0 < 4294967296 := by have h := w4_0; simp [Lit.wf] at h; have k1 : IntKind.u32.min = 0 := rfl; have k2 : IntKind.u32.max = 4294967295 := rfl; omega
  obtain ⟨m4_0, b4_0, rfl⟩ : ∃ m : Nat, m < 4294967296 ∧ a4_0 = (m : Int) := ⟨a4_0.toNat, by omega, by omega⟩
  have c4_1 : 0 ≤ a4_1 ∧ a4_1 < 4294967296 := by have h := w4_1; simp [Lit.wf] at h; have k1 : IntKind.u32.min = 0 := rfl; have k2 : IntKind.u32.max = 4294967295 := rfl; omega
  obtain ⟨m4_1, b4_1, rfl⟩ : ∃ m : Nat, m < 4294967296 ∧ a4_1 = (m : Int) := ⟨a4_1.toNat, by omega, by omega⟩
  have c4_2 : 0 ≤ a4_2 ∧ a4_2 < 4294967296 := by have h := w4_2; simp [Lit.wf] at h; have k1 : IntKind.u32.min = 0 := rfl; have k2 : IntKind.u32.max = 4294967295 := rfl; omega
  obtain ⟨m4_2, b4_2, rfl⟩ : ∃ m : Nat, m < 4294967296 ∧ a4_2 = (m : Int) := ⟨a4_2.toNat, by omega, by omega⟩
  have c4_3 : 0 ≤ a4_3 ∧ a4_3 < 4294967296 := by have h := w4_3; simp [Lit.wf] at h; have k1 : IntKind.u32.min = 0 := rfl; have k2 : IntKind.u32.max = 4294967295 := rfl; omega
  obtain ⟨m4_3, b4_3, rfl⟩ : ∃ m : Nat, m < 4294967296 ∧ a4_3 = (m : Int) := ⟨a4_3.toNat, by omega, by omega⟩
  refine (microwithin_any m0_0 m0_1 m0_2 m0_3 m0_4 m0_5 m1 m2_0 m2_1 m2_2 m2_3 m2_4 m2_5 m3_0 m3_1 m3_2 m3_3 m3_4 m3_5 m4_0 m4_1 m4_2 m4_3 W b0_0 b0_1 b0_2 b0_3 b0_4 b0_5 b1 b2_0 b2_1 b2_2 b2_3 b2_4 b2_5 b3_0 b3_1 b3_2 b3_3 b3_4 b3_5 b4_0 b4_1 b4_2 b4_3).mono fun e W' ⟨he, bel⟩ => ?_
  subst he
  exact ⟨_, rfl, _, _, _, [], _, [], hW', trodAll_mk1 (shut_bool Tryz.underlying4 _), (trodAll_cons_mk (Below.trod (by kernel_rfl) (by kernel_rfl) (of_decide_eq_true (by kernel_rfl)) k0 bel (fun x hx => by cases hx)) (trodAll_cons_mk (shut_int Tryz.underlying5 w1) (trodAll_cons_mk (Below.trod (by kernel_rfl) (by kernel_rfl) (of_decide_eq_true (by kernel_rfl)) k2 bel (fun x hx => by cases hx)) (trodAll_cons_mk (Below.trod (by kernel_rfl) (by kernel_rfl) (of_decide_eq_true (by kernel_rfl)) k3 bel (fun x hx => by cases hx)) (trodAll_cons_mk (Below.trod (by kernel_rfl) (by kernel_rfl) (of_decide_eq_true (by kernel_rfl)) k4 bel (fun x hx => by cases hx)) trodAll_mk0))))), rfl, bel.frame _, fun h => by cases h⟩

theorem over : Rows.microWithinRow.holds Tryz.pinned (OpenSpec.ofChange Rows.microWithinSpec) :=
  OpenClaim.holds_of_wide 3 Tryz.f3 rfl rfl rfl rfl rfl rfl rfl ⟨rfl, rfl, rfl, rfl, rfl⟩ rfl rfl rfl rfl rfl (by kernel_rfl) Tryz.func3 (by kernel_rfl)
    (of_decide_eq_true (by kernel_rfl)) (by unfold Func.isWrapper; first | (rw [if_pos (by decide +kernel)]; kernel_rfl) | (rw [if_neg (by decide +kernel)]; exact ⟨rfl, rfl⟩))
    (fun os started H enc _ => lifted os started H enc)

theorem proved : Rows.MicroWithinSaid := over
end Go.Proofs.YtikiegcncliocaaGreat.MicroWithin
