/- The statement 'IvalLess' of burnishlaw02: for every input the law returns true, and does not panic, and its arguments read as before. Proved here: of lesser intervals comes a lesser one, or the same; and where those of greater ones have an answer, those of lesser ones have: any op of any two right intervals, any part of each. No condition. -/
import Derived.Test.YthfgdhobldejmaaLq
import Derived.WalkKit
import Derived.ProofKit
import Derived.OpenShut
import Derived.Laws.Cover2
import Derived.Carry
import Derived.Test.YthfgdhobldejmaaOp
namespace Go.Proofs.Ythfgdhobldejmaa.IvalLess
open Go.ChangeShapes Go.WideShapes Go.ChangeAt Go.RowKit

theorem own : ownKnob Try.prog.godebug = none := by kernel_rfl

set_option maxRecDepth 100000 in
theorem lifted (os : Os) (started : os.Started) (H : Type) (enc : TypeId × Value → H) :
    ReturnsInHanded {} Try.checked os 9 .any (Rows.ivalLessSpec.pre6 enc Try.prog Try.f9 Rows.ivalLessRow.domain false) (Rows.ivalLessSpec.post enc Try.prog Try.f9 false true false false) := by
  refine returnsInHanded_of_change (C := Try.checked) own started (by kernel_rfl) Try.func9
    (ChangeSpec.witness6 (enc := enc) (C := Try.checked) false ⟨#[], #[.agg #[.int .u8 0, .float .f64 0, .float .f64 0, .float .f64 0, .float .f64 0], .int .u16 0, .int .u16 0, .int .u16 0, .int .u16 0], []⟩ 8 (by kernel_rfl) (by kernel_rfl) (by kernel_rfl) (by kernel_rfl)) ?_
  intro W base args ds gs before hval0 hW hcnd _
  have hval : ∀ (j : Nat) t v, Try.f9.params[j]? = some t → args[j]? = some v → Value.okWide Try.prog W .any base t v := hval0
  have hW' := hW
  obtain ⟨p, q, hA0, hV, rfl, hfz, hnd⟩ := hW
  have hA : DataW.TrodAll enc Try.prog W 0 (fun _ => true) true Try.f9.params.toList args.toList ds p := hA0
  rw [Try.params9] at hA hval
  obtain ⟨v0, vs0, d0, ds0, p0, q0, hargs, rfl, rfl, h0, r0⟩ := trodAll_cons hA
  obtain ⟨v1, vs1, d1, ds1, p1, q1, rfl, rfl, rfl, h1, r1⟩ := trodAll_cons r0
  obtain ⟨v2, vs2, d2, ds2, p2, q2, rfl, rfl, rfl, h2, r2⟩ := trodAll_cons r1
  obtain ⟨v3, vs3, d3, ds3, p3, q3, rfl, rfl, rfl, h3, r3⟩ := trodAll_cons r2
  obtain ⟨v4, vs4, d4, ds4, p4, q4, rfl, rfl, rfl, h4, r4⟩ := trodAll_cons r3
  obtain ⟨rfl, rfl, rfl⟩ := trodAll_nil r4
  obtain rfl : args = #[v0, v1, v2, v3, v4] := by cases args; simp_all
  obtain ⟨rfl, rfl⟩ := trodVars_none hV
  have k0 := h0
  obtain ⟨a0_k, a0_0, a0_1, a0_2, a0_3, rfl, rfl, rfl, w0_k, w0_0, w0_1, w0_2, w0_3⟩ := open_op Try.underlying56 (by kernel_rfl) rfl rfl (by kernel_rfl) Try.underlying5 rfl rfl rfl rfl (by kernel_rfl) Try.underlying26 rfl rfl rfl rfl (by kernel_rfl) Try.underlying24 (hval 0 _ v0 rfl rfl) h0
  obtain ⟨a1, rfl, rfl, rfl, w1⟩ := open_int Try.underlying57 (hval 1 _ v1 rfl rfl) h1
  obtain ⟨a2, rfl, rfl, rfl, w2⟩ := open_int Try.underlying57 (hval 2 _ v2 rfl rfl) h2
  obtain ⟨a3, rfl, rfl, rfl, w3⟩ := open_int Try.underlying57 (hval 3 _ v3 rfl rfl) h3
  obtain ⟨a4, rfl, rfl, rfl, w4⟩ := open_int Try.underlying57 (hval 4 _ v4 rfl rfl) h4
  clear hA0 hval0
  simp only [List.append_nil] at hW'
  have c1 : 0 ≤ a1 ∧ a1 < 65536 := by have h := w1; simp [Lit.wf] at h; have k1 : IntKind.u16.min = 0 := rfl; have k2 : IntKind.u16.max = 65535 := rfl; omega
  obtain ⟨m1, b1, rfl⟩ : ∃ m : Nat, m < 65536 ∧ a1 = (m : Int) := ⟨a1.toNat, by omega, by omega⟩
  have c2 : 0 ≤ a2 ∧ a2 < 65536 := by have h := w2; simp [Lit.wf] at h; have k1 : IntKind.u16.min = 0 := rfl; have k2 : IntKind.u16.max = 65535 := rfl; omega
  obtain ⟨m2, b2, rfl⟩ : ∃ m : Nat, m < 65536 ∧ a2 = (m : Int) := ⟨a2.toNat, by omega, by omega⟩
  have c3 : 0 ≤ a3 ∧ a3 < 65536 := by have h := w3; simp [Lit.wf] at h; have k1 : IntKind.u16.min = 0 := rfl; have k2 : IntKind.u16.max = 65535 := rfl; omega
  obtain ⟨m3, b3, rfl⟩ : ∃ m : Nat, m < 65536 ∧ a3 = (m : Int) := ⟨a3.toNat, by omega, by omega⟩
  have c4 : 0 ≤ a4 ∧ a4 < 65536 := by have h := w4; simp [Lit.wf] at h; have k1 : IntKind.u16.min = 0 := rfl; have k2 : IntKind.u16.max = 65535 := rfl; omega
  obtain ⟨m4, b4, rfl⟩ : ∃ m : Nat, m < 65536 ∧ a4 = (m : Int) := ⟨a4.toNat, by omega, by omega⟩
  have c0_k : 0 ≤ a0_k ∧ a0_k < 256 := by have h := w0_k; simp [Lit.wf] at h; have k1 : IntKind.u8.min = 0 := rfl; have k2 : IntKind.u8.max = 255 := rfl; omega
  have b0_0 : Dy.W a0_0 := by have h := w0_0; simp [Lit.wf] at h; exact h
  have b0_1 : Dy.W a0_1 := by have h := w0_1; simp [Lit.wf] at h; exact h
  have b0_2 : Dy.W a0_2 := by have h := w0_2; simp [Lit.wf] at h; exact h
  have b0_3 : Dy.W a0_3 := by have h := w0_3; simp [Lit.wf] at h; exact h
  refine (less_any a0_k a0_0 a0_1 a0_2 a0_3 m1 m2 m3 m4 W b0_0 b0_1 b0_2 b0_3 c0_k.1 b1 b2 b3 b4).mono fun e W' ⟨he, bel⟩ => ?_
  subst he
  exact ⟨_, rfl, _, _, _, [], _, [], hW', trodAll_mk1 (shut_bool Try.underlying4 _), (trodAll_cons_mk (Below.trod (by kernel_rfl) (by kernel_rfl) (of_decide_eq_true (by kernel_rfl)) k0 bel (fun x hx => by cases hx)) (trodAll_cons_mk (shut_int Try.underlying57 w1) (trodAll_cons_mk (shut_int Try.underlying57 w2) (trodAll_cons_mk (shut_int Try.underlying57 w3) (trodAll_cons_mk (shut_int Try.underlying57 w4) trodAll_mk0))))), rfl, bel.frame _, fun h => by cases h⟩

theorem over : Rows.ivalLessRow.holds Try.pinned (OpenSpec.ofChange Rows.ivalLessSpec) :=
  OpenClaim.holds_of_wide 9 Try.f9 rfl rfl rfl rfl rfl rfl rfl ⟨rfl, rfl, rfl, rfl, rfl⟩ rfl rfl rfl rfl rfl (by kernel_rfl) Try.func9 (by kernel_rfl)
    (of_decide_eq_true (by kernel_rfl)) (by unfold Func.isWrapper; first | (rw [if_pos (by decide +kernel)]; kernel_rfl) | (rw [if_neg (by decide +kernel)]; exact ⟨rfl, rfl⟩))
    (fun os started H enc _ => lifted os started H enc)

theorem proved : Rows.IvalLessSaid := over
end Go.Proofs.Ythfgdhobldejmaa.IvalLess
