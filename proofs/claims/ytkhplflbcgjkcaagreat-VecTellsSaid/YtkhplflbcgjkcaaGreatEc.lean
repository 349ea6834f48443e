/- Plain facts: numbers within others, of any 32 bits (package burnishlow). -/
import Derived.Test.YtkhplflbcgjkcaaGreatEb
import Derived.Test.YtkhplflbcgjkcaaGreatDc
namespace Go.Dy
open Ieee
def B10 : Int := 4652218415073722368
theorem ok_B {z : Int} (h1 : -(B10 + 9007199254740992) ≤ z) (h2 : z ≤ B10 + 9007199254740992) : ok z := by
 have tp := top_eq
 unfold ok; unfold B10 at *; omega
theorem add_zero {z : Int} (h : ok z) : double.add (enc z) 0 = some (enc z) := by
 have e : nz (V z + V 0) = z := by
  rw [V_zero, Int.add_zero]
  have a := le_nz (z := z) (s := V z) (Int.le_refl _)
  have b := nz_le (z := z) (s := V z) (Int.le_refl _)
  omega
 have := add_enc h ok_zero (by rw [e]; exact h)
 rw [e] at this
 exact this
end Go.Dy
