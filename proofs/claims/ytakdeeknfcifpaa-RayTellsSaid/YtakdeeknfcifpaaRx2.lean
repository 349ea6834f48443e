/- Plain facts for RayTells: one digit of a float64 (base 65536). -/
import Derived.Test.YtakdeeknfcifpaaRy
namespace Go.Dy
open Ieee
theorem one_gt : 0 < one := by
  obtain ⟨S, _, e⟩ := one_pow
  rw [e]; exact Nat.two_pow_pos _
theorem mag_double : ∀ r : Nat, ∃ w, mag w = mag r * 2 := fun r => by
  by_cases c : r < 2 ^ 52
  · exact ⟨2 * r, by rw [mag_low (r := 2 * r) (by omega), mag_low (by omega)]; omega⟩
  · refine ⟨r + 2 ^ 52, ?_⟩
    rw [mag_parts (r := r + 2 ^ 52) (by omega), mag_parts (by omega)]
    have e1 : (r + 2 ^ 52) % 2 ^ 52 = r % 2 ^ 52 := by omega
    have e2 : (r + 2 ^ 52) / 2 ^ 52 - 1 = (r / 2 ^ 52 - 1) + 1 := by omega
    rw [e1, e2]
    generalize 2 ^ 52 + r % 2 ^ 52 = n
    generalize r / 2 ^ 52 - 1 = k
    rw [Nat.pow_succ, Nat.mul_assoc]
theorem mag_times (r : Nat) : ∀ k : Nat, ∃ w, mag w = mag r * 2 ^ k
  | 0 => ⟨r, by rw [Nat.pow_zero, Nat.mul_one]⟩
  | k + 1 => by
    obtain ⟨w, hw⟩ := mag_times r k
    obtain ⟨v, hv⟩ := mag_double w
    exact ⟨v, by rw [hv, hw, Nat.pow_succ, Nat.mul_assoc]⟩
theorem mag_of {M : Nat} (h : M < 2 ^ 53) (e : Nat) : ∃ w, mag w = M * 2 ^ e := by
  obtain ⟨w, hw⟩ := mag_times M e
  exact ⟨w, by rw [hw, mag_low h]⟩
theorem mod_pow (M e N : Nat) : ∃ M', M' ≤ M ∧ M * 2 ^ e % 2 ^ N = M' * 2 ^ e := by
  by_cases c : e ≤ N
  · refine ⟨M % 2 ^ (N - e), Nat.mod_le _ _, ?_⟩
    have p : 2 ^ N = 2 ^ (N - e) * 2 ^ e := by rw [← Nat.pow_add]; congr 1; omega
    rw [p, Nat.mul_mod_mul_right]
  · refine ⟨0, Nat.zero_le _, ?_⟩
    have p : 2 ^ e = 2 ^ (e - N) * 2 ^ N := by rw [← Nat.pow_add]; congr 1; omega
    rw [p, ← Nat.mul_assoc, Nat.mul_mod_left, Nat.zero_mul]
/-- What is left of a number behind its first digit. -/
theorem rest_of {r w M e : Nat} (hm : mag r = M * 2 ^ e) (hM : M < 2 ^ 53) (hw : mag w = mag r * 2 ^ 16) : ∃ r' M', mag r' = mag w % one ∧ mag r' = M' * 2 ^ (e + 16) ∧ M' < 2 ^ 53 := by
  obtain ⟨M', h1, h2⟩ := mod_pow M (e + 16) 1074
  obtain ⟨r', hr⟩ := mag_of (M := M') (by omega) (e + 16)
  refine ⟨r', M', ?_, hr, by omega⟩
  rw [hr, hw, hm, Nat.mul_assoc, ← Nat.pow_add]
  exact h2.symm.trans (by rw [one_eq])
theorem bits_even {r : Nat} (h : r < top) : r % 2 ^ 63 = r ∧ sgn r = false ∧ W r ∧ dec r = (r : Int) ∧ right r = true := by
  rw [top_eq] at h
  have w : W r := by unfold W; omega
  have e1 : r % 2 ^ 63 = r := by omega
  have e2 : sgn r = false := by unfold sgn; rw [decide_eq_false_iff_not]; omega
  refine ⟨e1, e2, w, ?_, ?_⟩
  · unfold dec; rw [if_pos (by omega)]
  · unfold right; rw [e1, top_eq]; exact decide_eq_true ⟨h, by omega⟩
theorem mul_16 {r w : Nat} (hr : r < top) (hw : mag w = mag r * 2 ^ 16) (ht : w < top) : double.mul r 4679240012837945344 = some w := by
  obtain ⟨a1, a2, a3, a4, a5⟩ := bits_even hr
  rw [mul_eq (x := r) (y := 4679240012837945344) (by rw [top_eq] at hr; omega) (by omega) (by rw [a1]; exact hr) (by decide)]
  have g2 : mag (4679240012837945344 % 2 ^ 63) = 65536 * one := by decide +kernel
  have g3 : sgn 4679240012837945344 = false := by decide +kernel
  unfold fmul
  rw [a1, a2, g2, g3]
  have e : mag r * (65536 * one) = mag w * one := by rw [hw, ← Nat.mul_assoc]
  have n1 : nr (mag w * one) 1074 = nr (mag w) 0 := nr_scale' one_eq (by omega)
  rw [e, n1, (nr_exact (by rw [Nat.pow_zero, Nat.mul_one]) : nr (mag w) 0 = w), Nat.min_eq_left (Nat.le_of_lt ht)]
  rfl
theorem fi_bits {D : Nat} (h : D ≤ 2 ^ 53) : fi D < top ∧ mag (fi D) = D * one := by
  obtain ⟨f1, f2, f3, f4⟩ := fi_spec h
  have e : fi D % 2 ^ 63 = fi D := by
    unfold sgn at f3; rw [decide_eq_false_iff_not] at f3; omega
  unfold fin at f1
  rw [e] at f1 f4
  exact ⟨f1, f4⟩
theorem sub_mag {w f r' : Nat} (hw : w < top) (hf : f < top) (hr : r' < top) (h : mag w = mag f + mag r') : double.sub w f = some r' := by
  obtain ⟨a1, a2, a3, a4, a5⟩ := bits_even hw
  obtain ⟨b1, b2, b3, b4, b5⟩ := bits_even hf
  rw [sub_near a3 b3 a5 b5, a4, b4, V_nat, V_nat]
  have e : (mag w : Int) - (mag f : Int) = V (r' : Int) := by rw [V_nat]; omega
  have n : nz (V (r' : Int)) = (r' : Int) := Int.le_antisymm (nz_le (Int.le_refl _)) (le_nz (Int.le_refl _))
  rw [e, n, nrst_ok (by unfold ok; rw [top_eq] at *; omega)]
  have : enc (r' : Int) = r' := by unfold enc; rw [if_pos (by omega)]; omega
  rw [this]
/-- One digit: what is left times 65536, its whole part, and what is left then. -/
structure Digit (r Y D r' : Nat) : Prop where
  y : double.mul r 4679240012837945344 = some Y
  d : floatToIntVal .f64 Y .u64 = some (D : Int)
  s : double.sub Y (fi D) = some r'
  dl : D < 65536
  m : mag r * 65536 = D * one + mag r'
theorem div_16 {a O : Nat} (p : 0 < O) (h : a < O) : a * 2 ^ 16 / O < 65536 := by rw [Nat.div_lt_iff_lt_mul p]; omega
theorem lt_one_rank {r : Nat} (h : mag r < one) : r < 4607182418800017408 := mag_lt_iff.1 (by rw [mag_one]; exact h)
theorem dig_step {r M e : Nat} (hr : mag r < one) (hm : mag r = M * 2 ^ e) (hM : M < 2 ^ 53) :
    ∃ Y D r' M', Digit r Y D r' ∧ mag r' < one ∧ mag r' = M' * 2 ^ (e + 16) ∧ M' < 2 ^ 53 := by
  obtain ⟨w, hw⟩ := mag_times r 16
  obtain ⟨r', M', h1, h2, h3⟩ := rest_of hm hM hw
  have rt : r < top := by have := lt_one_rank hr; rw [top_eq]; omega
  have p : 0 < one := one_gt
  have l1 : mag r' < one := by rw [h1]; exact Nat.mod_lt _ p
  have rt' : r' < top := by have := lt_one_rank l1; rw [top_eq]; omega
  have wt : w < top := by
    refine mag_lt_iff.1 ?_
    obtain ⟨T, hT, e1⟩ := mag_top
    obtain ⟨S, hS, e2⟩ := one_pow
    rw [hw, e1]
    rw [e2] at hr
    refine Nat.lt_of_lt_of_le (Nat.mul_lt_mul_of_pos_right hr (Nat.two_pow_pos 16)) ?_
    rw [← Nat.pow_add, ← Nat.pow_add]
    exact Nat.pow_le_pow_right (by omega) (by omega)
  have D1 : mag w / one < 65536 := by rw [hw]; exact div_16 p hr
  obtain ⟨f1, f2⟩ := fi_bits (D := mag w / one) (by omega)
  refine ⟨w, mag w / one, r', M', ⟨mul_16 rt hw wt, toInt_mag wt (by omega), sub_mag wt f1 rt' ?_, D1, ?_⟩, l1, h2, h3⟩
  · rw [f2, h1, Nat.mul_comm]; exact (Nat.div_add_mod _ _).symm
  · have : mag r * 65536 = mag w := hw.symm
    rw [this, h1, Nat.mul_comm]; exact (Nat.div_add_mod _ _).symm
/-- All digits. -/
structure Digits (x : Nat) (X Y D : Nat → Nat) : Prop where
  x0 : X 0 = x
  st : ∀ k, k < 7 → Digit (X k) (Y k) (D k) (X (k + 1))
theorem horner {O a0 a1 a2 a3 a4 a5 a6 d0 d1 d2 d3 d4 d5 d6 : Nat} (e0 : a0 * 65536 = d0 * O + a1) (e1 : a1 * 65536 = d1 * O + a2) (e2 : a2 * 65536 = d2 * O + a3) (e3 : a3 * 65536 = d3 * O + a4) (e4 : a4 * 65536 = d4 * O + a5) (e5 : a5 * 65536 = d5 * O + a6) (e6 : a6 * 65536 = d6 * O + 0) :
    a0 * 65536 ^ 7 = (d0 * 65536 ^ 6 + d1 * 65536 ^ 5 + d2 * 65536 ^ 4 + d3 * 65536 ^ 3 + d4 * 65536 ^ 2 + d5 * 65536 + d6) * O := by
  generalize 65536 = B at *
  grind
theorem digs {x : Nat} (h0 : one ≤ mag x * 2 ^ 53) (hr : mag x < one) :
    ∃ X Y D : Nat → Nat, Digits x X Y D ∧ mag x * 65536 ^ 7 = (D 0 * 65536 ^ 6 + D 1 * 65536 ^ 5 + D 2 * 65536 ^ 4 + D 3 * 65536 ^ 3 + D 4 * 65536 ^ 2 + D 5 * 65536 + D 6) * one := by
  obtain ⟨M, e, hm, hM, he⟩ : ∃ M e, mag x = M * 2 ^ e ∧ M < 2 ^ 53 ∧ 1074 < e + 106 := by
    have c : 2 ^ 52 ≤ x := by
      refine Nat.le_of_not_lt fun c => ?_
      rw [mag_low (by omega)] at h0
      have : x * 2 ^ 53 < 2 ^ 52 * 2 ^ 53 := Nat.mul_lt_mul_of_pos_right c (Nat.two_pow_pos _)
      have t : 2 ^ 52 * 2 ^ 53 < one := by
        obtain ⟨S, hS, e⟩ := one_pow
        rw [e, ← Nat.pow_add]; exact Nat.pow_lt_pow_right (by omega) (by omega)
      omega
    refine ⟨_, _, mag_parts c, by omega, ?_⟩
    obtain ⟨S, hS, eS⟩ := one_pow
    rw [mag_parts c, eS] at h0
    generalize x / 2 ^ 52 - 1 = k at *
    refine Nat.lt_of_not_le fun n => ?_
    have a : (2 ^ 52 + x % 2 ^ 52) * 2 ^ k * 2 ^ 53 < 2 ^ 53 * 2 ^ k * 2 ^ 53 := Nat.mul_lt_mul_of_pos_right (Nat.mul_lt_mul_of_pos_right (by omega) (Nat.two_pow_pos _)) (Nat.two_pow_pos _)
    rw [← Nat.pow_add, ← Nat.pow_add] at a
    have b : 2 ^ (53 + k + 53) ≤ 2 ^ S := Nat.pow_le_pow_right (by omega) (by omega)
    exact absurd (Nat.lt_of_lt_of_le (Nat.lt_of_le_of_lt h0 a) b) (Nat.lt_irrefl _)
  obtain ⟨y0, d0, x1, m1, s0, l1, h1, k1⟩ := dig_step hr hm hM
  obtain ⟨y1, d1, x2, m2, s1, l2, h2, k2⟩ := dig_step l1 h1 k1
  obtain ⟨y2, d2, x3, m3, s2, l3, h3, k3⟩ := dig_step l2 h2 k2
  obtain ⟨y3, d3, x4, m4, s3, l4, h4, k4⟩ := dig_step l3 h3 k3
  obtain ⟨y4, d4, x5, m5, s4, l5, h5, k5⟩ := dig_step l4 h4 k4
  obtain ⟨y5, d5, x6, m6, s5, l6, h6, k6⟩ := dig_step l5 h5 k5
  obtain ⟨y6, d6, x7, m7, s6, l7, h7, k7⟩ := dig_step l6 h6 k6
  have z : mag x7 = 0 := by
    rw [h7] at l7 ⊢
    by_cases c : m7 = 0
    · rw [c, Nat.zero_mul]
    · exfalso
      have a : 1 * 2 ^ (e + 16 + 16 + 16 + 16 + 16 + 16 + 16) ≤ m7 * 2 ^ (e + 16 + 16 + 16 + 16 + 16 + 16 + 16) := Nat.mul_le_mul_right _ (by omega)
      have b : one ≤ 2 ^ (e + 16 + 16 + 16 + 16 + 16 + 16 + 16) := by
        obtain ⟨S, hS, eS⟩ := one_pow
        rw [eS]; exact Nat.pow_le_pow_right (by omega) (by omega)
      omega
  refine ⟨fun k => [x, x1, x2, x3, x4, x5, x6, x7].getD k 0, fun k => [y0, y1, y2, y3, y4, y5, y6].getD k 0, fun k => [d0, d1, d2, d3, d4, d5, d6].getD k 0, ⟨rfl, fun k hk => ?_⟩, ?_⟩
  · match k, hk with
    | 0, _ => exact s0
    | 1, _ => exact s1
    | 2, _ => exact s2
    | 3, _ => exact s3
    | 4, _ => exact s4
    | 5, _ => exact s5
    | 6, _ => exact s6
  · show mag x * 65536 ^ 7 = (d0 * 65536 ^ 6 + d1 * 65536 ^ 5 + d2 * 65536 ^ 4 + d3 * 65536 ^ 3 + d4 * 65536 ^ 2 + d5 * 65536 + d6) * one
    have e0 := s0.m; have e1 := s1.m; have e2 := s2.m; have e3 := s3.m; have e4 := s4.m; have e5 := s5.m; have e6 := s6.m
    rw [z] at e6
    clear s0 s1 s2 s3 s4 s5 s6 h0 hr hm l1 l2 l3 l4 l5 l6 l7 h1 h2 h3 h4 h5 h6 h7 z
    generalize one = O at *
    generalize mag x = a0 at *
    generalize mag x1 = a1 at *
    generalize mag x2 = a2 at *
    generalize mag x3 = a3 at *
    generalize mag x4 = a4 at *
    generalize mag x5 = a5 at *
    generalize mag x6 = a6 at *
    exact horner e0 e1 e2 e3 e4 e5 e6
end Go.Dy
namespace Go.Proofs.Ytakdeeknfcifpaa
end Go.Proofs.Ytakdeeknfcifpaa
