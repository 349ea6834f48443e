/- Plain facts for RayTells: squares, digit by digit (base 65536), and their carries. Plain facts for RayTells: a float64 that is not below 0, made a whole number: its floor. Plain facts for RayTells: one digit of a float64 (base 65536). -/
import Derived.Test.YtakdeeknfcifpaaKb
/-! Plain facts for RayTells: squares, digit by digit (base 65536), and their carries. -/
namespace Go.Dy
/-- Carries from the last place to the first one. -/
def carry : List Nat → Nat
  | [] => 0
  | s :: l => s + carry l / 65536
/-- What places are worth, in units of the last one. -/
def worth : List Nat → Nat
  | [] => 0
  | s :: l => s * 65536 ^ l.length + worth l
theorem carry_worth : ∀ (s : Nat) (l : List Nat), carry (s :: l) = worth (s :: l) / 65536 ^ l.length
  | s, [] => by simp [carry, worth]
  | s, t :: l => by
    have h := carry_worth t l
    show s + carry (t :: l) / 65536 = (s * 65536 ^ (t :: l).length + worth (t :: l)) / 65536 ^ (t :: l).length
    have p : 0 < 65536 ^ (t :: l).length := Nat.pow_pos (by decide)
    rw [h, Nat.div_div_eq_div_mul, Nat.add_comm (s * _), Nat.add_mul_div_right _ _ p, Nat.add_comm]
    congr 1
/-- The first place, with all carries, is below 65536 just if all are worth less than one. -/
theorem carry_lt (s : Nat) (l : List Nat) : carry (s :: l) < 65536 ↔ worth (s :: l) < 65536 ^ (l.length + 1) := by
  have p : 0 < 65536 ^ l.length := Nat.pow_pos (by decide)
  rw [carry_worth, Nat.div_lt_iff_lt_mul p, Nat.pow_succ, Nat.mul_comm]
/-- A product of two digits: its high part, a place ahead, and its low part. -/
theorem parts (a k : Nat) : a / 65536 * 65536 ^ (k + 1) + a % 65536 * 65536 ^ k = a * 65536 ^ k := by
  have h := Nat.div_add_mod a 65536
  rw [Nat.pow_succ]
  calc a / 65536 * (65536 ^ k * 65536) + a % 65536 * 65536 ^ k = (65536 * (a / 65536) + a % 65536) * 65536 ^ k := by rw [Nat.add_mul]; congr 1; rw [Nat.mul_comm (65536 ^ k), ← Nat.mul_assoc, Nat.mul_comm (a / 65536)]
    _ = a * 65536 ^ k := by rw [h]
/-- What one place gains all are worth more. -/
theorem worth_set : ∀ (l : List Nat) (p d : Nat), p < l.length → worth (l.set p (l.getD p 0 + d)) = worth l + d * 65536 ^ (l.length - 1 - p)
  | [], p, d, h => by simp at h
  | s :: l, 0, d, _ => by
    show (s + d) * 65536 ^ l.length + worth l = s * 65536 ^ l.length + worth l + d * 65536 ^ ((l.length + 1) - 1 - 0)
    rw [Nat.add_mul, Nat.add_sub_cancel, Nat.sub_zero]; omega
  | s :: l, p + 1, d, h => by
    have h' : p < l.length := by simpa using h
    have ih := worth_set l p d h'
    show s * 65536 ^ (l.set p (l.getD p 0 + d)).length + worth (l.set p (l.getD p 0 + d)) = s * 65536 ^ l.length + worth l + d * 65536 ^ ((l.length + 1) - 1 - (p + 1))
    rw [ih, List.length_set, show l.length + 1 - 1 - (p + 1) = l.length - 1 - p by omega]; omega
/-- A product that is laid into two places: its low part behind, its high part ahead. -/
theorem worth_two {l : List Nat} {p : Nat} (a : Nat) (h : p + 1 < l.length) :
    worth ((l.set (p + 1) (l.getD (p + 1) 0 + a % 65536)).set p ((l.set (p + 1) (l.getD (p + 1) 0 + a % 65536)).getD p 0 + a / 65536)) = worth l + a * 65536 ^ (l.length - 1 - (p + 1)) := by
  rw [worth_set _ p _ (by rw [List.length_set]; omega), worth_set l (p + 1) _ h, List.length_set]
  have e : l.length - 1 - p = (l.length - 1 - (p + 1)) + 1 := by omega
  have := parts a (l.length - 1 - (p + 1))
  rw [e]; omega
/-- Seven digits of a number below 65536^7. -/
def dig (m i : Nat) : Nat := m / 65536 ^ (6 - i) % 65536
theorem digits7 {m : Nat} (h : m < 65536 ^ 7) : dig m 0 * 65536 ^ 6 + dig m 1 * 65536 ^ 5 + dig m 2 * 65536 ^ 4 + dig m 3 * 65536 ^ 3 + dig m 4 * 65536 ^ 2 + dig m 5 * 65536 + dig m 6 = m := by
  unfold dig
  simp only [Nat.sub_zero, Nat.reduceSub, Nat.reducePow] at *
  omega
end Go.Dy
namespace Go.Proofs.Ytakdeeknfcifpaa
end Go.Proofs.Ytakdeeknfcifpaa
/-! Plain facts for RayTells: a float64 that is not below 0, made a whole number: its floor. -/
namespace Go.Dy
open Ieee
theorem cutz_zero (n d : Nat) : Toward.zero.cut false n d = n / 2 ^ d := by
  unfold Toward.cut
  simp only [Bool.toNat_false, Nat.add_zero]
  rw [Nat.one_shiftLeft]
  by_cases h : d ≤ n.log2 + 2
  · rw [Nat.min_eq_left h]
  · rw [Nat.min_eq_right (by omega)]
    have l := Nat.lt_log2_self (n := n)
    have a : n < 2 ^ (n.log2 + 2) := Nat.lt_of_lt_of_le l (Nat.pow_le_pow_right (by decide) (by omega))
    have b : n < 2 ^ d := Nat.lt_of_lt_of_le a (Nat.pow_le_pow_right (by decide) (by omega))
    rw [Nat.div_eq_of_lt a, Nat.div_eq_of_lt b]
theorem read_mag {r : Nat} (h : r < top) : double.read r = if r < 2 ^ 52 then .number false r (-1074) else .number false (2 ^ 52 + r % 2 ^ 52) (-1074 + ((r / 2 ^ 52 - 1 : Nat) : Int)) := by
  have tp := top_eq
  unfold Format.read
  rw [sgn_eq (by omega), d_signWeight, d_binade, d_infRung, d_leastPlace]
  have e1 : r % 2 ^ 63 = r := by omega
  have e2 : sgn r = false := by unfold sgn; rw [decide_eq_false_iff_not]; omega
  dsimp only
  rw [e1, e2]
  by_cases c : r < 2 ^ 52
  · rw [if_pos c, if_pos c]
  · rw [if_neg c, if_neg c, if_pos h]
theorem whole_neg (n j : Nat) : (Datum.number false n (-(j : Int))).toInt .zero = some ((n / 2 ^ j : Nat) : Int) := by
  unfold Datum.toInt Datum.integral
  have z2 : (-(-(j : Int))).toNat = j := by omega
  have z3 : (-(j : Int)).toNat = 0 := by omega
  simp only [z2, z3, cutz_zero, signed_eq]
  simp
theorem whole_pos (n j : Nat) : (Datum.number false n (j : Int)).toInt .zero = some ((n * 2 ^ j : Nat) : Int) := by
  unfold Datum.toInt Datum.integral
  have z2 : (-(j : Int)).toNat = 0 := by omega
  simp only [z2, Int.toNat_natCast, cutz_zero, signed_eq, Nat.shiftLeft_eq, Nat.pow_zero, Nat.div_one]
  simp
theorem whole_any (n k N : Nat) : (Datum.number false n (-(N : Int) + (k : Int))).toInt .zero = some ((n * 2 ^ k / 2 ^ N : Nat) : Int) := by
  by_cases d : k ≤ N
  · rw [show (-(N : Int) + (k : Int)) = -((N - k : Nat) : Int) by omega, whole_neg]
    have p : 2 ^ N = 2 ^ (N - k) * 2 ^ k := by rw [← Nat.pow_add]; congr 1; omega
    rw [p, Nat.mul_div_mul_right _ _ (Nat.two_pow_pos k)]
  · rw [show (-(N : Int) + (k : Int)) = ((k - N : Nat) : Int) by omega, whole_pos]
    have p : 2 ^ k = 2 ^ (k - N) * 2 ^ N := by rw [← Nat.pow_add]; congr 1; omega
    rw [p, ← Nat.mul_assoc, Nat.mul_div_cancel _ (Nat.two_pow_pos N)]
theorem whole_one {n k q : Nat} (h : q = n * 2 ^ k) : (Datum.number false n (-1074 + (k : Int))).toInt .zero = some ((q / one : Nat) : Int) := by
  subst h
  exact (whole_any n k 1074).trans (by rw [one_eq])
/-- What is not below 0, made a whole number. -/
theorem toInt_mag {r : Nat} (h : r < top) (hd : mag r / one < 18446744073709551616) : floatToIntVal .f64 r .u64 = some ((mag r / one : Nat) : Int) := by
  have e : (double.read r).toInt .zero = some ((mag r / one : Nat) : Int) := by
    rw [read_mag h]
    by_cases c : r < 2 ^ 52
    · rw [if_pos c]
      exact whole_one (k := 0) (by rw [mag_low (by omega), Nat.pow_zero, Nat.mul_one])
    · rw [if_neg c]
      exact whole_one (mag_parts (by omega))
  unfold floatToIntVal
  have e' : FloatKind.f64.decode r = double.read r := rfl
  rw [e', e]
  have k1 : IntKind.u64.min = 0 := rfl
  have k2 : IntKind.u64.max = 18446744073709551615 := rfl
  simp only [k1, k2]
  generalize mag r / one = q at *
  rw [if_pos (by omega)]
end Go.Dy
namespace Go.Proofs.Ytakdeeknfcifpaa
end Go.Proofs.Ytakdeeknfcifpaa
/-! Plain facts for RayTells: one digit of a float64 (base 65536). -/
namespace Go.Dy
open Ieee
theorem one_gt : 0 < one := by
  obtain ⟨S, _, e⟩ := one_pow
  rw [e]; exact Nat.two_pow_pos _
theorem mag_double : ∀ r : Nat, ∃ w, mag w = mag r * 2 := fun r => by
  by_cases c : r < 2 ^ 52
  · exact ⟨2 * r, by rw [mag_low (r := 2 * r) (by omega), mag_low (by omega)]; omega⟩
  · refine ⟨r + 2 ^ 52, ?_⟩
    rw [mag_parts (r := r + 2 ^ 52) (by omega), mag_parts (by omega)]
    have e1 : (r + 2 ^ 52) % 2 ^ 52 = r % 2 ^ 52 := by omega
    have e2 : (r + 2 ^ 52) / 2 ^ 52 - 1 = (r / 2 ^ 52 - 1) + 1 := by omega
    rw [e1, e2]
    generalize 2 ^ 52 + r % 2 ^ 52 = n
    generalize r / 2 ^ 52 - 1 = k
    rw [Nat.pow_succ, Nat.mul_assoc]
theorem mag_times (r : Nat) : ∀ k : Nat, ∃ w, mag w = mag r * 2 ^ k
  | 0 => ⟨r, by rw [Nat.pow_zero, Nat.mul_one]⟩
  | k + 1 => by
    obtain ⟨w, hw⟩ := mag_times r k
    obtain ⟨v, hv⟩ := mag_double w
    exact ⟨v, by rw [hv, hw, Nat.pow_succ, Nat.mul_assoc]⟩
theorem mag_of {M : Nat} (h : M < 2 ^ 53) (e : Nat) : ∃ w, mag w = M * 2 ^ e := by
  obtain ⟨w, hw⟩ := mag_times M e
  exact ⟨w, by rw [hw, mag_low h]⟩
theorem mod_pow (M e N : Nat) : ∃ M', M' ≤ M ∧ M * 2 ^ e % 2 ^ N = M' * 2 ^ e := by
  by_cases c : e ≤ N
  · refine ⟨M % 2 ^ (N - e), Nat.mod_le _ _, ?_⟩
    have p : 2 ^ N = 2 ^ (N - e) * 2 ^ e := by rw [← Nat.pow_add]; congr 1; omega
    rw [p, Nat.mul_mod_mul_right]
  · refine ⟨0, Nat.zero_le _, ?_⟩
    have p : 2 ^ e = 2 ^ (e - N) * 2 ^ N := by rw [← Nat.pow_add]; congr 1; omega
    rw [p, ← Nat.mul_assoc, Nat.mul_mod_left, Nat.zero_mul]
/-- What is left of a number behind its first digit. -/
theorem rest_of {r w M e : Nat} (hm : mag r = M * 2 ^ e) (hM : M < 2 ^ 53) (hw : mag w = mag r * 2 ^ 16) : ∃ r' M', mag r' = mag w % one ∧ mag r' = M' * 2 ^ (e + 16) ∧ M' < 2 ^ 53 := by
  obtain ⟨M', h1, h2⟩ := mod_pow M (e + 16) 1074
  obtain ⟨r', hr⟩ := mag_of (M := M') (by omega) (e + 16)
  refine ⟨r', M', ?_, hr, by omega⟩
  rw [hr, hw, hm, Nat.mul_assoc, ← Nat.pow_add]
  exact h2.symm.trans (by rw [one_eq])
theorem bits_even {r : Nat} (h : r < top) : r % 2 ^ 63 = r ∧ sgn r = false ∧ W r ∧ dec r = (r : Int) ∧ right r = true := by
  rw [top_eq] at h
  have w : W r := by unfold W; omega
  have e1 : r % 2 ^ 63 = r := by omega
  have e2 : sgn r = false := by unfold sgn; rw [decide_eq_false_iff_not]; omega
  refine ⟨e1, e2, w, ?_, ?_⟩
  · unfold dec; rw [if_pos (by omega)]
  · unfold right; rw [e1, top_eq]; exact decide_eq_true ⟨h, by omega⟩
theorem mul_16 {r w : Nat} (hr : r < top) (hw : mag w = mag r * 2 ^ 16) (ht : w < top) : double.mul r 4679240012837945344 = some w := by
  obtain ⟨a1, a2, a3, a4, a5⟩ := bits_even hr
  rw [mul_eq (x := r) (y := 4679240012837945344) (by rw [top_eq] at hr; omega) (by omega) (by rw [a1]; exact hr) (by decide)]
  have g2 : mag (4679240012837945344 % 2 ^ 63) = 65536 * one := by decide +kernel
  have g3 : sgn 4679240012837945344 = false := by decide +kernel
  unfold fmul
  rw [a1, a2, g2, g3]
  have e : mag r * (65536 * one) = mag w * one := by rw [hw, ← Nat.mul_assoc]
  have n1 : nr (mag w * one) 1074 = nr (mag w) 0 := nr_scale' one_eq (by omega)
  rw [e, n1, (nr_exact (by rw [Nat.pow_zero, Nat.mul_one]) : nr (mag w) 0 = w), Nat.min_eq_left (Nat.le_of_lt ht)]
  rfl
theorem fi_bits {D : Nat} (h : D ≤ 2 ^ 53) : fi D < top ∧ mag (fi D) = D * one := by
  obtain ⟨f1, f2, f3, f4⟩ := fi_spec h
  have e : fi D % 2 ^ 63 = fi D := by
    unfold sgn at f3; rw [decide_eq_false_iff_not] at f3; omega
  unfold fin at f1
  rw [e] at f1 f4
  exact ⟨f1, f4⟩
theorem sub_mag {w f r' : Nat} (hw : w < top) (hf : f < top) (hr : r' < top) (h : mag w = mag f + mag r') : double.sub w f = some r' := by
  obtain ⟨a1, a2, a3, a4, a5⟩ := bits_even hw
  obtain ⟨b1, b2, b3, b4, b5⟩ := bits_even hf
  rw [sub_near a3 b3 a5 b5, a4, b4, V_nat, V_nat]
  have e : (mag w : Int) - (mag f : Int) = V (r' : Int) := by rw [V_nat]; omega
  have n : nz (V (r' : Int)) = (r' : Int) := Int.le_antisymm (nz_le (Int.le_refl _)) (le_nz (Int.le_refl _))
  rw [e, n, nrst_ok (by unfold ok; rw [top_eq] at *; omega)]
  have : enc (r' : Int) = r' := by unfold enc; rw [if_pos (by omega)]; omega
  rw [this]
/-- One digit: what is left times 65536, its whole part, and what is left then. -/
structure Digit (r Y D r' : Nat) : Prop where
  y : double.mul r 4679240012837945344 = some Y
  d : floatToIntVal .f64 Y .u64 = some (D : Int)
  s : double.sub Y (fi D) = some r'
  dl : D < 65536
  m : mag r * 65536 = D * one + mag r'
theorem div_16 {a O : Nat} (p : 0 < O) (h : a < O) : a * 2 ^ 16 / O < 65536 := by rw [Nat.div_lt_iff_lt_mul p]; omega
theorem lt_one_rank {r : Nat} (h : mag r < one) : r < 4607182418800017408 := mag_lt_iff.1 (by rw [mag_one]; exact h)
theorem dig_step {r M e : Nat} (hr : mag r < one) (hm : mag r = M * 2 ^ e) (hM : M < 2 ^ 53) :
    ∃ Y D r' M', Digit r Y D r' ∧ mag r' < one ∧ mag r' = M' * 2 ^ (e + 16) ∧ M' < 2 ^ 53 := by
  obtain ⟨w, hw⟩ := mag_times r 16
  obtain ⟨r', M', h1, h2, h3⟩ := rest_of hm hM hw
  have rt : r < top := by have := lt_one_rank hr; rw [top_eq]; omega
  have p : 0 < one := one_gt
  have l1 : mag r' < one := by rw [h1]; exact Nat.mod_lt _ p
  have rt' : r' < top := by have := lt_one_rank l1; rw [top_eq]; omega
  have wt : w < top := by
    refine mag_lt_iff.1 ?_
    obtain ⟨T, hT, e1⟩ := mag_top
    obtain ⟨S, hS, e2⟩ := one_pow
    rw [hw, e1]
    rw [e2] at hr
    refine Nat.lt_of_lt_of_le (Nat.mul_lt_mul_of_pos_right hr (Nat.two_pow_pos 16)) ?_
    rw [← Nat.pow_add, ← Nat.pow_add]
    exact Nat.pow_le_pow_right (by omega) (by omega)
  have D1 : mag w / one < 65536 := by rw [hw]; exact div_16 p hr
  obtain ⟨f1, f2⟩ := fi_bits (D := mag w / one) (by omega)
  refine ⟨w, mag w / one, r', M', ⟨mul_16 rt hw wt, toInt_mag wt (by omega), sub_mag wt f1 rt' ?_, D1, ?_⟩, l1, h2, h3⟩
  · rw [f2, h1, Nat.mul_comm]; exact (Nat.div_add_mod _ _).symm
  · have : mag r * 65536 = mag w := hw.symm
    rw [this, h1, Nat.mul_comm]; exact (Nat.div_add_mod _ _).symm
/-- All digits. -/
structure Digits (x : Nat) (X Y D : Nat → Nat) : Prop where
  x0 : X 0 = x
  st : ∀ k, k < 7 → Digit (X k) (Y k) (D k) (X (k + 1))
theorem horner {O a0 a1 a2 a3 a4 a5 a6 d0 d1 d2 d3 d4 d5 d6 : Nat} (e0 : a0 * 65536 = d0 * O + a1) (e1 : a1 * 65536 = d1 * O + a2) (e2 : a2 * 65536 = d2 * O + a3) (e3 : a3 * 65536 = d3 * O + a4) (e4 : a4 * 65536 = d4 * O + a5) (e5 : a5 * 65536 = d5 * O + a6) (e6 : a6 * 65536 = d6 * O + 0) :
    a0 * 65536 ^ 7 = (d0 * 65536 ^ 6 + d1 * 65536 ^ 5 + d2 * 65536 ^ 4 + d3 * 65536 ^ 3 + d4 * 65536 ^ 2 + d5 * 65536 + d6) * O := by
  generalize 65536 = B at *
  grind
theorem digs {x : Nat} (h0 : one ≤ mag x * 2 ^ 53) (hr : mag x < one) :
    ∃ X Y D : Nat → Nat, Digits x X Y D ∧ mag x * 65536 ^ 7 = (D 0 * 65536 ^ 6 + D 1 * 65536 ^ 5 + D 2 * 65536 ^ 4 + D 3 * 65536 ^ 3 + D 4 * 65536 ^ 2 + D 5 * 65536 + D 6) * one := by
  obtain ⟨M, e, hm, hM, he⟩ : ∃ M e, mag x = M * 2 ^ e ∧ M < 2 ^ 53 ∧ 1074 < e + 106 := by
    have c : 2 ^ 52 ≤ x := by
      refine Nat.le_of_not_lt fun c => ?_
      rw [mag_low (by omega)] at h0
      have : x * 2 ^ 53 < 2 ^ 52 * 2 ^ 53 := Nat.mul_lt_mul_of_pos_right c (Nat.two_pow_pos _)
      have t : 2 ^ 52 * 2 ^ 53 < one := by
        obtain ⟨S, hS, e⟩ := one_pow
        rw [e, ← Nat.pow_add]; exact Nat.pow_lt_pow_right (by omega) (by omega)
      omega
    refine ⟨_, _, mag_parts c, by omega, ?_⟩
    obtain ⟨S, hS, eS⟩ := one_pow
    rw [mag_parts c, eS] at h0
    generalize x / 2 ^ 52 - 1 = k at *
    refine Nat.lt_of_not_le fun n => ?_
    have a : (2 ^ 52 + x % 2 ^ 52) * 2 ^ k * 2 ^ 53 < 2 ^ 53 * 2 ^ k * 2 ^ 53 := Nat.mul_lt_mul_of_pos_right (Nat.mul_lt_mul_of_pos_right (by omega) (Nat.two_pow_pos _)) (Nat.two_pow_pos _)
    rw [← Nat.pow_add, ← Nat.pow_add] at a
    have b : 2 ^ (53 + k + 53) ≤ 2 ^ S := Nat.pow_le_pow_right (by omega) (by omega)
    exact absurd (Nat.lt_of_lt_of_le (Nat.lt_of_le_of_lt h0 a) b) (Nat.lt_irrefl _)
  obtain ⟨y0, d0, x1, m1, s0, l1, h1, k1⟩ := dig_step hr hm hM
  obtain ⟨y1, d1, x2, m2, s1, l2, h2, k2⟩ := dig_step l1 h1 k1
  obtain ⟨y2, d2, x3, m3, s2, l3, h3, k3⟩ := dig_step l2 h2 k2
  obtain ⟨y3, d3, x4, m4, s3, l4, h4, k4⟩ := dig_step l3 h3 k3
  obtain ⟨y4, d4, x5, m5, s4, l5, h5, k5⟩ := dig_step l4 h4 k4
  obtain ⟨y5, d5, x6, m6, s5, l6, h6, k6⟩ := dig_step l5 h5 k5
  obtain ⟨y6, d6, x7, m7, s6, l7, h7, k7⟩ := dig_step l6 h6 k6
  have z : mag x7 = 0 := by
    rw [h7] at l7 ⊢
    by_cases c : m7 = 0
    · rw [c, Nat.zero_mul]
    · exfalso
      have a : 1 * 2 ^ (e + 16 + 16 + 16 + 16 + 16 + 16 + 16) ≤ m7 * 2 ^ (e + 16 + 16 + 16 + 16 + 16 + 16 + 16) := Nat.mul_le_mul_right _ (by omega)
      have b : one ≤ 2 ^ (e + 16 + 16 + 16 + 16 + 16 + 16 + 16) := by
        obtain ⟨S, hS, eS⟩ := one_pow
        rw [eS]; exact Nat.pow_le_pow_right (by omega) (by omega)
      omega
  refine ⟨fun k => [x, x1, x2, x3, x4, x5, x6, x7].getD k 0, fun k => [y0, y1, y2, y3, y4, y5, y6].getD k 0, fun k => [d0, d1, d2, d3, d4, d5, d6].getD k 0, ⟨rfl, fun k hk => ?_⟩, ?_⟩
  · match k, hk with
    | 0, _ => exact s0
    | 1, _ => exact s1
    | 2, _ => exact s2
    | 3, _ => exact s3
    | 4, _ => exact s4
    | 5, _ => exact s5
    | 6, _ => exact s6
  · show mag x * 65536 ^ 7 = (d0 * 65536 ^ 6 + d1 * 65536 ^ 5 + d2 * 65536 ^ 4 + d3 * 65536 ^ 3 + d4 * 65536 ^ 2 + d5 * 65536 + d6) * one
    have e0 := s0.m; have e1 := s1.m; have e2 := s2.m; have e3 := s3.m; have e4 := s4.m; have e5 := s5.m; have e6 := s6.m
    rw [z] at e6
    clear s0 s1 s2 s3 s4 s5 s6 h0 hr hm l1 l2 l3 l4 l5 l6 l7 h1 h2 h3 h4 h5 h6 h7 z
    generalize one = O at *
    generalize mag x = a0 at *
    generalize mag x1 = a1 at *
    generalize mag x2 = a2 at *
    generalize mag x3 = a3 at *
    generalize mag x4 = a4 at *
    generalize mag x5 = a5 at *
    generalize mag x6 = a6 at *
    exact horner e0 e1 e2 e3 e4 e5 e6
end Go.Dy
namespace Go.Proofs.Ytakdeeknfcifpaa
end Go.Proofs.Ytakdeeknfcifpaa
