/- Walks: dir.Sqrt, of every float64. -/
import Derived.Test.YtfjomcbbgnaaiaaWn
import Derived.Test.YtfjomcbbgnaaiaaDyP
namespace Go.Proofs.Ytfjomcbbgnaaiaa
open Go.RowKit

set_option maxRecDepth 100000 in
set_option maxHeartbeats 1000000 in
theorem sqrt_any (a : Nat) (up : Bool) (w : World) (ha : Dy.W a) :
    Calls Try.prog 27 #[.float .f64 a, .bool up] w fun e w' => e = .returned (.tuple #[.float .f64 (Dy.dSqrt a up).1, .int .i64 (Dy.dSqrt a up).2]) ∧ Below w.heap.size w w' := by
  cases h1 : Dy.right a
  · have e1 : Dy.dSqrt a up = (0, 13) := by unfold Dy.dSqrt; rw [h1]; rfl
    rw [e1]; clear e1
    go_enter Try.func27, Try.ntmps27
    go_wp2_with (go_at_call 25; refine (right_any _ _ (by assumption)).mono ?_; rintro e w' ⟨rfl, rfl⟩)
    go_ret2
    exact ⟨rfl, Below.refl _ _⟩
  have f1 := Dy.flt_right ha h1
  have f2 := Dy.feq_right ha h1
  by_cases hn : 2 ^ 63 ≤ a
  · have e1 : Dy.dSqrt a up = (0, 12) := by unfold Dy.dSqrt; rw [h1, if_neg (by decide), if_pos hn]
    have f1' : Dy.flt a 0 = true := by rw [f1]; exact decide_eq_true hn
    rw [e1]; clear e1 f1 f2 hn
    go_enter Try.func27, Try.ntmps27
    go_wp2_with (go_at_call 25; refine (right_any _ _ (by assumption)).mono ?_; rintro e w' ⟨rfl, rfl⟩)
    go_ret2
    exact ⟨rfl, Below.refl _ _⟩
  have f1' : Dy.flt a 0 = false := by rw [f1]; exact decide_eq_false hn
  by_cases h0 : a = 0
  · have e1 : Dy.dSqrt a up = (0, 0) := by unfold Dy.dSqrt; rw [h1, if_neg (by decide), if_neg hn, if_pos h0]
    have f2' : Dy.feq a 0 = true := by rw [f2]; exact decide_eq_true h0
    rw [e1]; clear e1 f1 f2 hn h0
    go_enter Try.func27, Try.ntmps27
    go_wp2_with (go_at_call 25; refine (right_any _ _ (by assumption)).mono ?_; rintro e w' ⟨rfl, rfl⟩)
    go_ret2
    exact ⟨rfl, Below.refl _ _⟩
  have f2' : Dy.feq a 0 = false := by rw [f2]; exact decide_eq_false h0
  by_cases hp : (Dy.pe a - Dy.lz (Dy.pm a) - 64) % 2 = 0
  · exact sqrt_even a up w ha h1 f1' f2' (by omega) hp
  · exact sqrt_odd a up w ha h1 f1' f2' (by omega) hp
end Go.Proofs.Ytfjomcbbgnaaiaa
