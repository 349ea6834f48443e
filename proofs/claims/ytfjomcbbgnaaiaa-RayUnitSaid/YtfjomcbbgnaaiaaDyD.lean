/-
  Plain facts: the comparisons of two words, by names.
-/
import Derived.Test.YtfjomcbbgnaaiaaDyC
namespace Go.Dy
open Ieee

def feq (a b : Nat) : Bool := double.order a b == some .eq
def fne (a b : Nat) : Bool := double.order a b != some .eq
def flt (a b : Nat) : Bool := double.order a b == some .lt
def fgt (a b : Nat) : Bool := double.order a b == some .gt

theorem feq_eq {a b : Nat} (ha : a < 2 ^ 64) (hb : b < 2 ^ 64) : feq a b = (!nan a && !nan b && decide (dec a = dec b)) := by
  unfold feq
  rw [order_eq ha hb, cmp_int]
  cases nan a <;> cases nan b <;> simp
  split
  · rename_i h; simp; omega
  · split
    · rename_i h1 h2; simp [h2]
    · rename_i h1 h2; simp [h2]

theorem fne_eq (a b : Nat) : fne a b = !feq a b := rfl

theorem flt_eq {a b : Nat} (ha : a < 2 ^ 64) (hb : b < 2 ^ 64) : flt a b = (!nan a && !nan b && decide (dec a < dec b)) := by
  unfold flt
  rw [order_eq ha hb, cmp_int]
  cases nan a <;> cases nan b <;> simp
  split
  · rename_i h; simp [h]
  · split
    · rename_i h1 h2; simp [h2]
    · rename_i h1 h2; simp; omega

theorem fgt_eq {a b : Nat} (ha : a < 2 ^ 64) (hb : b < 2 ^ 64) : fgt a b = (!nan a && !nan b && decide (dec b < dec a)) := by
  unfold fgt
  rw [order_eq ha hb, cmp_int]
  cases nan a <;> cases nan b <;> simp
  split
  · rename_i h; simp; omega
  · split
    · rename_i h1 h2; simp [h2]
    · rename_i h1 h2; simp; omega

theorem nan_of_right {b : Nat} (h : right b = true) : nan b = false := by
  unfold right at h; unfold nan
  rw [decide_eq_true_eq] at h
  simp; omega

theorem nan_enc {z : Int} (h : ok z) : nan (enc z) = false := nan_of_right (right_enc h)

theorem feq_enc {y z : Int} (hy : ok y) (hz : ok z) : feq (enc y) (enc z) = decide (y = z) := by
  rw [feq_eq (enc_lt hy) (enc_lt hz), nan_enc hy, nan_enc hz, dec_enc hy, dec_enc hz]; rfl
theorem flt_enc {y z : Int} (hy : ok y) (hz : ok z) : flt (enc y) (enc z) = decide (y < z) := by
  rw [flt_eq (enc_lt hy) (enc_lt hz), nan_enc hy, nan_enc hz, dec_enc hy, dec_enc hz]; rfl
theorem fgt_enc {y z : Int} (hy : ok y) (hz : ok z) : fgt (enc y) (enc z) = decide (z < y) := by
  rw [fgt_eq (enc_lt hy) (enc_lt hz), nan_enc hy, nan_enc hz, dec_enc hy, dec_enc hz]; rfl

theorem fne_self {b : Nat} (hb : b < 2 ^ 64) : fne b b = nan b := by
  rw [fne_eq, feq_eq hb hb]
  cases nan b <;> simp

theorem fgt_max {b : Nat} (hb : b < 2 ^ 64) : fgt b 9218868437227405311 = (inf b && !sgn b) := by
  rw [fgt_eq hb (by decide)]
  have e1 : nan 9218868437227405311 = false := by decide
  have e2 : dec 9218868437227405311 = 9218868437227405311 := by decide
  rw [e1, e2, Bool.eq_iff_iff]
  unfold nan inf sgn dec
  rw [top_eq]
  simp
  split <;> omega

theorem flt_min {b : Nat} (hb : b < 2 ^ 64) : flt b 18442240474082181119 = (inf b && sgn b) := by
  rw [flt_eq hb (by decide)]
  have e1 : nan 18442240474082181119 = false := by decide
  have e2 : dec 18442240474082181119 = -9218868437227405311 := by decide
  rw [e1, e2, Bool.eq_iff_iff]
  unfold nan inf sgn dec
  rw [top_eq]
  simp
  split <;> omega

theorem feq_zero {b : Nat} (hb : b < 2 ^ 64) : feq b 0 = decide (b % 2 ^ 63 = 0) := by
  rw [feq_eq hb (by decide)]
  have e1 : nan 0 = false := by decide
  have e2 : dec 0 = 0 := by decide
  rw [e1, e2, Bool.eq_iff_iff]
  unfold nan dec
  rw [top_eq]
  simp
  split <;> omega

theorem right_parts {b : Nat} (hb : b < 2 ^ 64) : right b = (!nan b && !inf b && !(decide (b % 2 ^ 63 = 0) && sgn b)) := by
  rw [Bool.eq_iff_iff]
  unfold right nan inf sgn
  rw [top_eq]
  simp
  omega


/-- Without its sign. -/
def abs (b : Nat) : Nat := b % 2 ^ 63

theorem fgt_abs_max {b : Nat} (_hb : b < 2 ^ 64) : fgt (abs b) 9218868437227405311 = inf b := by
  have h1 : abs b < 2 ^ 64 := by unfold abs; omega
  rw [fgt_max h1, Bool.eq_iff_iff]
  unfold inf sgn abs
  simp
  omega

/-- A word of 64 bits. (Behind a name: a walk does not return where so great a number stands open.) -/
def W (b : Nat) : Prop := b < 2 ^ 64
theorem W.lt {b : Nat} (h : W b) : b < 2 ^ 64 := h

end Go.Dy
