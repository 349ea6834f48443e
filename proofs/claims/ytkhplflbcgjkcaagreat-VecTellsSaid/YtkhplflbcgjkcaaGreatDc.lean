/- Plain facts: the laws RayTurned and RayNear. -/
import Derived.Test.YtkhplflbcgjkcaaGreatDb
namespace Go.Dy
open Ieee
theorem zero_sub {x : Nat} (hx : W x) (r : right x = true) : double.sub 0 x = some (minus x) := by
 obtain ⟨h1, h2, h3⟩ := minus_dec hx r
 rw [sub_near W_zero hx right_zero r, dec_zero, V_zero]
 have e : nz (0 - V (dec x)) = dec (minus x) := by
  have v : 0 - V (dec x) = V (-dec x) := by rw [V_neg]; omega
  rw [v, h2]
  exact Int.le_antisymm (nz_le (Int.le_refl _)) (le_nz (Int.le_refl _))
 rw [e, nrst_ok (ok_dec h3 h1), enc_of_dec h3 h1]
end Go.Dy
