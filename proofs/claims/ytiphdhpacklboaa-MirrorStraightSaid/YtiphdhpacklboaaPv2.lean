/- The statement 'MirrorStraight' of burnishlaw14: for every input the law returns true, and does not panic, and its arguments read as before. Proved here: straight, done twice, is nothing; its unit vector meets what comes back about (0, 0, 1), and has the same cosine. No condition. -/
import Derived.Test.YtiphdhpacklboaaSe
import Derived.WalkKit
import Derived.ProofKit
import Derived.OpenShut
import Derived.Laws.Cover2
import Derived.Carry
import Derived.Test.YtiphdhpacklboaaOs
namespace Go.Proofs.Ytiphdhpacklboaa.MirrorStraight
open Go.ChangeShapes Go.WideShapes Go.ChangeAt Go.RowKit

theorem own : ownKnob Try.prog.godebug = none := by kernel_rfl

set_option maxRecDepth 100000 in
theorem lifted (os : Os) (started : os.Started) (H : Type) (enc : TypeId × Value → H) :
    ReturnsInHanded {} Try.checked os 6 .any (Rows.mirrorStraightSpec.pre6 enc Try.prog Try.f6 Rows.mirrorStraightRow.domain false) (Rows.mirrorStraightSpec.post enc Try.prog Try.f6 false true false false) := by
  refine returnsInHanded_of_change (C := Try.checked) own started (by kernel_rfl) Try.func6
    (ChangeSpec.witness6 (enc := enc) (C := Try.checked) false ⟨#[], #[.agg #[.float .f64 0, .float .f64 0, .float .f64 0]], []⟩ 8 (by kernel_rfl) (by kernel_rfl) (by kernel_rfl) (by kernel_rfl)) ?_
  intro W base args ds gs before hval0 hW hcnd _
  have hval : ∀ (j : Nat) t v, Try.f6.params[j]? = some t → args[j]? = some v → Value.okWide Try.prog W .any base t v := hval0
  have hW' := hW
  obtain ⟨p, q, hA0, hV, rfl, hfz, hnd⟩ := hW
  have hA : DataW.TrodAll enc Try.prog W 0 (fun _ => true) true Try.f6.params.toList args.toList ds p := hA0
  rw [Try.params6] at hA hval
  obtain ⟨v0, vs0, d0, ds0, p0, q0, hargs, rfl, rfl, h0, r0⟩ := trodAll_cons hA
  obtain ⟨rfl, rfl, rfl⟩ := trodAll_nil r0
  obtain rfl : args = #[v0] := by cases args; simp_all
  obtain ⟨rfl, rfl⟩ := trodVars_none hV
  have k0 := h0
  obtain ⟨a0_0, a0_1, a0_2, rfl, rfl, rfl, w0_0, w0_1, w0_2⟩ := open_f3 Try.underlying43 (by kernel_rfl) (by kernel_rfl) Try.underlying22 rfl rfl rfl (hval 0 _ v0 rfl rfl) h0
  clear hA0 hval0
  simp only [List.append_nil] at hW'
  have b0_0 : Dy.W a0_0 := by have h := w0_0; simp [Lit.wf] at h; exact h
  have b0_1 : Dy.W a0_1 := by have h := w0_1; simp [Lit.wf] at h; exact h
  have b0_2 : Dy.W a0_2 := by have h := w0_2; simp [Lit.wf] at h; exact h
  refine (mstraight_ok a0_0 a0_1 a0_2 W b0_0 b0_1 b0_2).mono fun e W' ⟨he, bel⟩ => ?_
  subst he
  exact ⟨_, rfl, _, _, _, [], _, [], hW', trodAll_mk1 (shut_bool Try.underlying4 _), (trodAll_cons_mk (Below.trod (by kernel_rfl) (by kernel_rfl) (of_decide_eq_true (by kernel_rfl)) k0 bel (fun x hx => by cases hx)) trodAll_mk0), rfl, bel.frame _, fun h => by cases h⟩

theorem over : Rows.mirrorStraightRow.holds Try.pinned (OpenSpec.ofChange Rows.mirrorStraightSpec) :=
  OpenClaim.holds_of_wide 6 Try.f6 rfl rfl rfl rfl rfl rfl rfl ⟨rfl, rfl, rfl, rfl, rfl⟩ rfl rfl rfl rfl rfl (by kernel_rfl) Try.func6 (by kernel_rfl)
    (of_decide_eq_true (by kernel_rfl)) (by unfold Func.isWrapper; first | (rw [if_pos (by decide +kernel)]; kernel_rfl) | (rw [if_neg (by decide +kernel)]; exact ⟨rfl, rfl⟩))
    (fun os started H enc _ => lifted os started H enc)

theorem proved : Rows.MirrorStraightSaid := over
end Go.Proofs.Ytiphdhpacklboaa.MirrorStraight
