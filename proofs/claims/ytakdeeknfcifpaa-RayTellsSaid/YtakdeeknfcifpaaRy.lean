/- Plain facts for RayTells: a float64 that is not below 0, made a whole number: its floor. -/
import Derived.Test.YtakdeeknfcifpaaRz
namespace Go.Dy
open Ieee
theorem cutz_zero (n d : Nat) : Toward.zero.cut false n d = n / 2 ^ d := by
  unfold Toward.cut
  simp only [Bool.toNat_false, Nat.add_zero]
  rw [Nat.one_shiftLeft]
  by_cases h : d ≤ n.log2 + 2
  · rw [Nat.min_eq_left h]
  · rw [Nat.min_eq_right (by omega)]
    have l := Nat.lt_log2_self (n := n)
    have a : n < 2 ^ (n.log2 + 2) := Nat.lt_of_lt_of_le l (Nat.pow_le_pow_right (by decide) (by omega))
    have b : n < 2 ^ d := Nat.lt_of_lt_of_le a (Nat.pow_le_pow_right (by decide) (by omega))
    rw [Nat.div_eq_of_lt a, Nat.div_eq_of_lt b]
theorem read_mag {r : Nat} (h : r < top) : double.read r = if r < 2 ^ 52 then .number false r (-1074) else .number false (2 ^ 52 + r % 2 ^ 52) (-1074 + ((r / 2 ^ 52 - 1 : Nat) : Int)) := by
  have tp := top_eq
  unfold Format.read
  rw [sgn_eq (by omega), d_signWeight, d_binade, d_infRung, d_leastPlace]
  have e1 : r % 2 ^ 63 = r := by omega
  have e2 : sgn r = false := by unfold sgn; rw [decide_eq_false_iff_not]; omega
  dsimp only
  rw [e1, e2]
  by_cases c : r < 2 ^ 52
  · rw [if_pos c, if_pos c]
  · rw [if_neg c, if_neg c, if_pos h]
theorem whole_neg (n j : Nat) : (Datum.number false n (-(j : Int))).toInt .zero = some ((n / 2 ^ j : Nat) : Int) := by
  unfold Datum.toInt Datum.integral
  have z2 : (-(-(j : Int))).toNat = j := by omega
  have z3 : (-(j : Int)).toNat = 0 := by omega
  simp only [z2, z3, cutz_zero, signed_eq]
  simp
theorem whole_pos (n j : Nat) : (Datum.number false n (j : Int)).toInt .zero = some ((n * 2 ^ j : Nat) : Int) := by
  unfold Datum.toInt Datum.integral
  have z2 : (-(j : Int)).toNat = 0 := by omega
  simp only [z2, Int.toNat_natCast, cutz_zero, signed_eq, Nat.shiftLeft_eq, Nat.pow_zero, Nat.div_one]
  simp
theorem whole_any (n k N : Nat) : (Datum.number false n (-(N : Int) + (k : Int))).toInt .zero = some ((n * 2 ^ k / 2 ^ N : Nat) : Int) := by
  by_cases d : k ≤ N
  · rw [show (-(N : Int) + (k : Int)) = -((N - k : Nat) : Int) by omega, whole_neg]
    have p : 2 ^ N = 2 ^ (N - k) * 2 ^ k := by rw [← Nat.pow_add]; congr 1; omega
    rw [p, Nat.mul_div_mul_right _ _ (Nat.two_pow_pos k)]
  · rw [show (-(N : Int) + (k : Int)) = ((k - N : Nat) : Int) by omega, whole_pos]
    have p : 2 ^ k = 2 ^ (k - N) * 2 ^ N := by rw [← Nat.pow_add]; congr 1; omega
    rw [p, ← Nat.mul_assoc, Nat.mul_div_cancel _ (Nat.two_pow_pos N)]
theorem whole_one {n k q : Nat} (h : q = n * 2 ^ k) : (Datum.number false n (-1074 + (k : Int))).toInt .zero = some ((q / one : Nat) : Int) := by
  subst h
  exact (whole_any n k 1074).trans (by rw [one_eq])
/-- What is not below 0, made a whole number. -/
theorem toInt_mag {r : Nat} (h : r < top) (hd : mag r / one < 18446744073709551616) : floatToIntVal .f64 r .u64 = some ((mag r / one : Nat) : Int) := by
  have e : (double.read r).toInt .zero = some ((mag r / one : Nat) : Int) := by
    rw [read_mag h]
    by_cases c : r < 2 ^ 52
    · rw [if_pos c]
      exact whole_one (k := 0) (by rw [mag_low (by omega), Nat.pow_zero, Nat.mul_one])
    · rw [if_neg c]
      exact whole_one (mag_parts (by omega))
  unfold floatToIntVal
  have e' : FloatKind.f64.decode r = double.read r := rfl
  rw [e', e]
  have k1 : IntKind.u64.min = 0 := rfl
  have k2 : IntKind.u64.max = 18446744073709551615 := rfl
  simp only [k1, k2]
  generalize mag r / one = q at *
  rw [if_pos (by omega)]
end Go.Dy
namespace Go.Proofs.Ytakdeeknfcifpaa
end Go.Proofs.Ytakdeeknfcifpaa
