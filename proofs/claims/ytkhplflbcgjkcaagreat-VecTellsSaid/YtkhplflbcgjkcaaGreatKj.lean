/- Walks: calls that make memory, one behind the other; min, max; comparisons of literals. -/
import Derived.Test.YtkhplflbcgjkcaaGreatKf
import Derived.Test.YtkhplflbcgjkcaaGreatKb
namespace Go.Proofs.YtkhplflbcgjkcaaGreat
open Go.RowKit
theorem same_any (a b : Nat) (w : World) :
  Calls Tryz.prog 22 #[.float .f64 a, .float .f64 b] w fun e w' => e = .returned (.bool ((a : Int) == (b : Int))) ∧ w = w' := by
 go_enter Tryz.func22, Tryz.ntmps22
 go_wp2
 go_ret
 exact ⟨rfl, rfl⟩
theorem order_right {a b : Nat} (ha : Dy.W a) (hb : Dy.W b) (ra : Dy.right a = true) (rb : Dy.right b = true) : FloatKind.f64.format.order a b = some (compare (Dy.dec a) (Dy.dec b)) := by
 have e := Dy.order_eq ha.lt hb.lt
 rw [Dy.right_nan ra, Dy.right_nan rb] at e
 exact e
theorem dec_inj {a b : Nat} (ha : Dy.W a) (hb : Dy.W b) (ra : Dy.right a = true) (rb : Dy.right b = true) (h : Dy.dec a = Dy.dec b) : a = b := by
 rw [← Dy.enc_of_dec ha ra, ← Dy.enc_of_dec hb rb, h]
theorem run_min {P : Program} (a b : Nat) (ats : Array TypeId) (t : TypeId) (w : World) (ha : Dy.W a) (hb : Dy.W b) (ra : Dy.right a = true) (rb : Dy.right b = true) :
  (Builtin.min_ ats t #[.float .f64 a, .float .f64 b]).run P w = .ok (.float .f64 (Dy.dmin a b)) w := by
 have e := order_right ha hb ra rb
 have hi := dec_inj ha hb ra rb
 by_cases h1 : Dy.dec a < Dy.dec b
 ·rw [Dy.cmp_int, if_pos h1] at e
  simp [Builtin.min_, Builtin.min2, e, Dy.dmin, if_neg (show ¬ (Dy.dec b < Dy.dec a) by omega), go_sem]
 ·by_cases h2 : Dy.dec a = Dy.dec b
  ·rw [Dy.cmp_int, if_neg h1, if_pos h2] at e
   obtain rfl := hi h2
   simp [Builtin.min_, Builtin.min2, e, Dy.dmin, go_sem]
  ·rw [Dy.cmp_int, if_neg h1, if_neg h2] at e
   simp [Builtin.min_, Builtin.min2, e, Dy.dmin, if_pos (show Dy.dec b < Dy.dec a by omega), go_sem]
theorem run_max {P : Program} (a b : Nat) (ats : Array TypeId) (t : TypeId) (w : World) (ha : Dy.W a) (hb : Dy.W b) (ra : Dy.right a = true) (rb : Dy.right b = true) :
  (Builtin.max_ ats t #[.float .f64 a, .float .f64 b]).run P w = .ok (.float .f64 (Dy.dmax a b)) w := by
 have e := order_right ha hb ra rb
 have hi := dec_inj ha hb ra rb
 by_cases h1 : Dy.dec a < Dy.dec b
 ·rw [Dy.cmp_int, if_pos h1] at e
  simp [Builtin.max_, Builtin.max2, e, Dy.dmax, if_pos h1, go_sem]
 ·by_cases h2 : Dy.dec a = Dy.dec b
  ·rw [Dy.cmp_int, if_neg h1, if_pos h2] at e
   obtain rfl := hi h2
   simp [Builtin.max_, Builtin.max2, e, Dy.dmax, go_sem]
  ·rw [Dy.cmp_int, if_neg h1, if_neg h2] at e
   simp [Builtin.max_, Builtin.max2, e, Dy.dmax, if_neg h1, go_sem]
end Go.Proofs.YtkhplflbcgjkcaaGreat
