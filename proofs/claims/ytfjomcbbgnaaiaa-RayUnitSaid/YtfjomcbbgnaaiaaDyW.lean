/- Plain facts: a float64 made a whole number. -/
import Derived.Test.YtfjomcbbgnaaiaaDyV
import Derived.Laws.FloatArith
namespace Go.Dy
open Ieee

theorem cut_none (neg : Bool) (n : Nat) : Toward.zero.cut neg n 0 = n := by
  unfold Toward.cut
  simp

/-- A number from 2^52 on below 2^53: its bits are read as that whole number. -/
theorem read_whole {f : Nat} (hf : f < 2 ^ 52) : double.read (1075 * 2 ^ 52 + f) = .number false (2 ^ 52 + f) 0 := by
  unfold Format.read
  rw [sgn_eq (by omega), d_signWeight, d_binade, d_infRung, d_leastPlace]
  have e1 : (1075 * 2 ^ 52 + f) % 2 ^ 63 = 1075 * 2 ^ 52 + f := by omega
  have e2 : sgn (1075 * 2 ^ 52 + f) = false := by unfold sgn; rw [decide_eq_false_iff_not]; omega
  dsimp only
  rw [e1, e2, if_neg (by omega), if_pos (by rw [top_eq]; omega)]
  have e3 : (1075 * 2 ^ 52 + f) % 2 ^ 52 = f := by omega
  have e4 : (1075 * 2 ^ 52 + f) / 2 ^ 52 = 1075 := by omega
  rw [e3, e4]
  rfl

theorem toInt_up53 (b : Nat) : floatToIntVal .f64 (up53 b) .u64 = some ((n53 b : Nat) : Int) := by
  unfold up53 n53
  by_cases h : b = 0
  · rw [if_pos h, if_pos h]; decide +kernel
  · rw [if_neg h, if_neg h]
    have hf : b % 2 ^ 52 < 2 ^ 52 := by omega
    have e := read_whole hf
    generalize b % 2 ^ 52 = f at *
    unfold floatToIntVal
    have e' : FloatKind.f64.decode (1075 * 2 ^ 52 + f) = .number false (2 ^ 52 + f) 0 := e
    rw [e']
    have e5 : Datum.toInt .zero (.number false (2 ^ 52 + f) 0) = some ((2 ^ 52 + f : Nat) : Int) := by
      unfold Datum.toInt Datum.integral
      have z1 : (2 ^ 52 + f) <<< (0 : Int).toNat = 2 ^ 52 + f := by simp
      have z2 : (-(0 : Int)).toNat = 0 := rfl
      simp only [z1, z2, cut_none, signed_eq]
      simp
    rw [e5]
    have k1 : IntKind.u64.min = 0 := rfl
    have k2 : IntKind.u64.max = 18446744073709551615 := rfl
    simp only [k1, k2]
    rw [if_pos (by omega)]
end Go.Dy
