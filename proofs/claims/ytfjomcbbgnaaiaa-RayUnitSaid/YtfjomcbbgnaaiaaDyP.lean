/- Plain facts: numbers compared are their ranks compared. -/
import Derived.Test.YtfjomcbbgnaaiaaDyO
namespace Go.Dy

theorem right_nan {a : Nat} (r : right a = true) : nan a = false := by
  unfold right at r; rw [decide_eq_true_eq] at r
  unfold nan
  simp; omega

theorem flt_dec {a b : Nat} (ha : W a) (hb : W b) (ra : right a = true) (rb : right b = true) : flt a b = decide (dec a < dec b) := by
  rw [flt_eq ha.lt hb.lt, right_nan ra, right_nan rb]; rfl
theorem feq_dec {a b : Nat} (ha : W a) (hb : W b) (ra : right a = true) (rb : right b = true) : feq a b = decide (dec a = dec b) := by
  rw [feq_eq ha.lt hb.lt, right_nan ra, right_nan rb]; rfl
theorem fgt_dec {a b : Nat} (ha : W a) (hb : W b) (ra : right a = true) (rb : right b = true) : fgt a b = decide (dec b < dec a) := by
  rw [fgt_eq ha.lt hb.lt, right_nan ra, right_nan rb]; rfl

theorem right_zero : right 0 = true := by decide
theorem dec_zero : dec 0 = 0 := by decide
theorem W_zero : W 0 := by unfold W; omega

theorem dec_neg {a : Nat} (ha : W a) (r : right a = true) : dec a < 0 ↔ 2 ^ 63 ≤ a := by
  unfold right at r; rw [decide_eq_true_eq] at r
  have := ha.lt
  unfold dec
  split <;> omega

theorem flt_right {a : Nat} (ha : W a) (r : right a = true) : flt a 0 = decide (2 ^ 63 ≤ a) := by
  rw [flt_dec ha W_zero r right_zero, dec_zero, decide_eq_decide]
  exact dec_neg ha r

end Go.Dy
