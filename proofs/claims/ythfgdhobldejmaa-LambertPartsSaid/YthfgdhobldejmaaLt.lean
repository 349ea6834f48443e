/- The law LambertParts: plain facts. Twice a number, half a number, quotients of twice a number. -/
import Derived.Test.YthfgdhobldejmaaLm
namespace Go.Dy
open Ieee

theorem mag_dbl {r : Nat} (h : 2 ^ 52 ≤ r) : mag (r + 2 ^ 52) = 2 * mag r := by
  obtain ⟨k, f, hf, rfl⟩ : ∃ k f, f < 2 ^ 52 ∧ r = (k + 1) * 2 ^ 52 + f := ⟨r / 2 ^ 52 - 1, r % 2 ^ 52, Nat.mod_lt _ (by decide), by omega⟩
  rw [show (k + 1) * 2 ^ 52 + f + 2 ^ 52 = (k + 1 + 1) * 2 ^ 52 + f by omega, mag_at (k + 1) f hf, mag_at k f hf]
  generalize 2 ^ 52 + f = g
  rw [Nat.pow_succ, Nat.mul_comm (2 ^ k) 2, Nat.mul_left_comm]
def D52 : Int := 4503599627370496
theorem V_dbl {z : Int} (h : D52 ≤ z) : V (z + D52) = 2 * V z := by
  have hd : D52 = 4503599627370496 := rfl
  rw [V_toNat (by omega), V_toNat (by omega)]
  have e : (z + D52).toNat = z.toNat + 2 ^ 52 := by omega
  rw [e, mag_dbl (by omega)]
  omega
def two : Nat := 4611686018427387904
theorem mag_two : mag two = 2 * one := by decide +kernel
theorem half_nat {q : Nat} (h : 2 ^ 52 ≤ q) (hq : q + 2 ^ 52 < top) : double.div (q + 2 ^ 52) two = some q := by
  have tp := top_eq
  have m1 : (q + 2 ^ 52) % 2 ^ 63 = q + 2 ^ 52 := Nat.mod_eq_of_lt (by omega)
  have m2 : two % 2 ^ 63 = two := by decide
  have f2 : fin two := by unfold fin; decide +kernel
  have f1 : fin (q + 2 ^ 52) := by unfold fin; rw [m1]; exact hq
  have n0 : two % 2 ^ 63 ≠ 0 := by rw [m2]; decide
  obtain ⟨r, e, h1, h2⟩ := div_near (x := q + 2 ^ 52) (y := two) (by unfold W; omega) (by unfold W two; omega) f1 f2 n0
  have s1 : sgn (q + 2 ^ 52) = false := by unfold sgn; rw [decide_eq_false]; omega
  have s2 : sgn two = false := by decide +kernel
  have md := mag_dbl h
  rw [m1, m2, mag_two, md] at h1 h2
  have k : mag q * (2 * one) = 2 * mag q * one := by rw [← Nat.mul_assoc, Nat.mul_comm (mag q) 2]
  have g1 := h1 q (by rw [k]; exact Nat.le_refl _)
  have g2 := h2 q (by rw [k]; exact Nat.le_refl _)
  have er : r = q := by omega
  rw [e, s1, s2, er, Nat.min_eq_left (by omega)]
  rfl
theorem half_enc {R : Int} (h : 2 * D52 ≤ R) (hR : ok R) : double.div (enc R) two = some (enc (R - D52)) := by
  have hd : D52 = 4503599627370496 := rfl
  have tp := top_eq
  have hk : R < (top : Int) := by unfold ok at hR; omega
  obtain ⟨q, hq⟩ : ∃ q : Nat, R = (q : Int) + D52 := ⟨(R - D52).toNat, by omega⟩
  subst hq
  have e1 : enc ((q : Int) + D52) = q + 2 ^ 52 := by rw [enc_nonneg (by omega)]; omega
  have e2 : enc ((q : Int) + D52 - D52) = q := by rw [show (q : Int) + D52 - D52 = q by omega, enc_nonneg (by omega)]; omega
  rw [e1, e2]
  exact half_nat (by omega) (by omega)
theorem half_zero : double.div (enc 0) two = some (enc 0) := by decide +kernel
theorem twice_enc {A : Int} (h : D52 ≤ A) (hA : A + D52 < (top : Int)) : double.mul (enc A) two = some (enc (A + D52)) := by
  have hd : D52 = 4503599627370496 := rfl
  have tp := top_eq
  have e1 : enc A = A.toNat := enc_nonneg (by omega)
  have e2 : enc (A + D52) = A.toNat + 2 ^ 52 := by rw [enc_nonneg (by omega)]; omega
  have m1 : A.toNat % 2 ^ 63 = A.toNat := Nat.mod_eq_of_lt (by omega)
  have m2 : two % 2 ^ 63 = two := by decide
  obtain ⟨S, hS, eS⟩ : ∃ S, S = 1074 ∧ one = 2 ^ S := ⟨1074, rfl, one_eq⟩
  have k : mag (A.toNat + 2 ^ 52) * 2 ^ S = mag A.toNat * mag two := by
    rw [mag_dbl (by omega), mag_two, ← eS, Nat.mul_comm 2 (mag _), Nat.mul_assoc]
  have g1 : A.toNat + 2 ^ 52 ≤ nr (mag A.toNat * mag two) S := le_nr (by rw [k]; exact Nat.le_refl _)
  have g2 : nr (mag A.toNat * mag two) S ≤ A.toNat + 2 ^ 52 := nr_le (by rw [k]; exact Nat.le_refl _)
  rw [mul_eq (by rw [e1]; omega) (by unfold two; omega) (by rw [e1, m1]; omega) (by rw [m2]; unfold two; omega)]
  have s1 : sgn (enc A) = false := by unfold sgn; rw [decide_eq_false]; rw [e1]; omega
  have s2 : sgn two = false := by decide +kernel
  unfold fmul
  rw [← hS, s1, s2, e1, m1, m2, e2]
  generalize nr (mag A.toNat * mag two) S = q at *
  rw [show q = A.toNat + 2 ^ 52 by omega, Nat.min_eq_left (by omega)]
  rfl
theorem twice_zero : double.mul (enc 0) two = some (enc 0) := by decide +kernel
/-- A quotient of twice a number is twice its quotient. -/
theorem divR_dbl {x y : Int} {up : Bool} (hx : D52 ≤ x) (hy : 0 < y) (h : D52 < divR x y up) : divR (x + D52) y up = divR x y up + D52 := by
  have vy := V_pos.2 hy
  have hd : 0 < (V y).toNat := by omega
  rw [divR_pos hy] at h ⊢
  rw [divR_pos hy, V_dbl hx]
  generalize (V y).toNat = d at *
  generalize hN : V x * (one : Int) = N at *
  have e2 : 2 * V x * (one : Int) = 2 * N := by rw [← hN, Int.mul_assoc]
  rw [e2]
  cases up with
  | false =>
    have a1 := (fl_down (z := fl N d false) (num := N) hd).1 (Int.le_refl _)
    have a2 : ¬ V (fl N d false + 1) * d ≤ N := fun hh => by have := (fl_down (z := fl N d false + 1) (num := N) hd).2 hh; omega
    generalize fl N d false = z at *
    have b1 : V (z + D52) = 2 * V z := V_dbl (by omega)
    have b2 : V (z + 1 + D52) = 2 * V (z + 1) := V_dbl (by omega)
    have c1 : z + D52 ≤ fl (2 * N) d false := (fl_down hd).2 (by rw [b1, Int.mul_assoc]; omega)
    have c2 : ¬ z + 1 + D52 ≤ fl (2 * N) d false := fun hh => a2 (by have := (fl_down hd).1 hh; rw [b2, Int.mul_assoc] at this; omega)
    omega
  | true =>
    have a1 := (fl_up (z := fl N d true) (num := N) hd).1 (Int.le_refl _)
    have a2 : ¬ N ≤ V (fl N d true - 1) * d := fun hh => by have := (fl_up (z := fl N d true - 1) (num := N) hd).2 hh; omega
    generalize fl N d true = z at *
    have b1 : V (z + D52) = 2 * V z := V_dbl (by omega)
    have b2 : V (z - 1 + D52) = 2 * V (z - 1) := V_dbl (by omega)
    have c1 : fl (2 * N) d true ≤ z + D52 := (fl_up hd).2 (by rw [b1, Int.mul_assoc]; omega)
    have c2 : ¬ fl (2 * N) d true ≤ z - 1 + D52 := fun hh => a2 (by have := (fl_up hd).1 hh; rw [b2, Int.mul_assoc] at this; omega)
    omega
/-- 2^-32, as a rank. -/
def L32 : Nat := 4463067230724161536
theorem mag_L32 : mag L32 * 4294967296 = one := by decide +kernel
theorem frq_low {u : Nat} (hu : u ≤ 4294967295) : ∃ r : Nat, double.div (fi u) 4751297606873776128 = some r ∧ r ≤ 4607182418800017408 ∧ (r = 0 ∨ L32 ≤ r) := by
  obtain ⟨r, e, h1⟩ := frq_of hu
  refine ⟨r, e, h1, ?_⟩
  obtain ⟨f1, f2, f3, f4⟩ := fi_spec (m := u) (by omega)
  have g1 : fin 4751297606873776128 := by unfold fin; decide +kernel
  have g2 : mag (4751297606873776128 % 2 ^ 63) = 4294967295 * one := by decide +kernel
  have g3 : sgn 4751297606873776128 = false := by decide +kernel
  obtain ⟨q, e', hlo, hhi⟩ := div_near (x := fi u) (y := 4751297606873776128) f2 (by unfold W; omega) f1 g1 (by decide)
  have tp := top_eq
  rw [e', f3, g3] at e
  have hq : min q top = r := by simpa [word] using e
  rw [f4, g2] at hlo hhi
  rcases Nat.eq_zero_or_pos u with h0 | h0
  · left
    have := hhi 0 (by rw [h0]; simp)
    omega
  · right
    have := hlo L32 (by
      obtain ⟨o, ho⟩ : ∃ o, o = one := ⟨_, rfl⟩
      have m := mag_L32
      rw [← ho] at m ⊢
      have s1 : mag L32 * 4294967295 ≤ o := by omega
      have s2 : o ≤ u * o := Nat.le_mul_of_pos_left _ h0
      rw [← Nat.mul_assoc]
      exact Nat.mul_le_mul_right _ (Nat.le_trans s1 s2))
    have hl : L32 < top := by rw [tp]; decide
    omega
end Go.Dy
