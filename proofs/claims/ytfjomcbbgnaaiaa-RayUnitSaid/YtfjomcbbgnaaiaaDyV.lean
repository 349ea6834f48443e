/- Plain facts: the parts of a number (Frexp), and which points are within the ball. -/
import Derived.Test.YtfjomcbbgnaaiaaDyU
namespace Go.Dy

/-- What math.Frexp gives: the fraction's bits, and the exponent. -/
def frF (b : Nat) : Nat := if b % 2 ^ 63 = 0 then b else built b (-1)
def frE (b : Nat) : Int := if b % 2 ^ 63 = 0 then 0 else lexp b 0 + 1
/-- The fraction, times 2^53. -/
def frN (b : Nat) : Nat := if b = 0 then 0 else 2 ^ 52 + norm1 b % 2 ^ 52
/-- A number from 1/2 to 1, or 0, times 2^53: the bits. -/
def up53 (b : Nat) : Nat := if b = 0 then 0 else 1075 * 2 ^ 52 + b % 2 ^ 52

theorem mag_at (k f : Nat) (hf : f < 2 ^ 52) : mag ((k + 1) * 2 ^ 52 + f) = (2 ^ 52 + f) * 2 ^ k := by
  have : (k + 1) * 2 ^ 52 + f = k * 2 ^ 52 + (2 ^ 52 + f) := by omega
  rw [this, mag_form k f hf]

theorem nr_zero (r : Nat) : nr (mag r) 0 = r := by
  have h := nr_exact (r := r) (n := mag r) (j := 0) (by rw [Nat.pow_zero, Nat.mul_one])
  exact h

theorem ldx_half {f : Nat} (hf : f < 2 ^ 52) : ldx (1022 * 2 ^ 52 + f) 53 = 1075 * 2 ^ 52 + f := by
  unfold ldx
  have e1 : (1022 * 2 ^ 52 + f) % 2 ^ 63 = 1022 * 2 ^ 52 + f := by omega
  have e2 : sgn (1022 * 2 ^ 52 + f) = false := by unfold sgn; rw [decide_eq_false_iff_not]; omega
  rw [e1, e2, if_pos (by rw [top_eq]; omega)]
  obtain ⟨S, hS, eS⟩ : ∃ S : Nat, S = 1021 ∧ (1022 : Nat) = S + 1 := ⟨1021, rfl, rfl⟩
  have m1 : mag (1022 * 2 ^ 52 + f) * 2 ^ 53 = mag (1075 * 2 ^ 52 + f) := by
    have e3 : (1075 : Nat) = S + 53 + 1 := by omega
    rw [eS, e3, mag_at _ _ hf, mag_at _ _ hf, Nat.pow_add, Nat.mul_assoc]
  have t1 : (53 : Int).toNat = 53 := rfl
  have t2 : (-(53 : Int)).toNat = 0 := rfl
  rw [t1, t2, m1, nr_zero, Nat.min_eq_left (by rw [top_eq]; omega)]
  rfl
theorem ldx_zero53 : ldx 0 53 = 0 := by decide +kernel

/-- The rank of a half. -/
def Ih : Int := 4602678819172646912

theorem ldx_up53 {b : Nat} (h : b = 0 ∨ 4602678819172646912 ≤ b ∧ b < 4607182418800017408) : ldx b 53 = up53 b := by
  rcases h with rfl | ⟨h1, h2⟩
  · exact ldx_zero53
  · obtain ⟨f, hf, rfl⟩ : ∃ f, f < 2 ^ 52 ∧ b = 1022 * 2 ^ 52 + f := ⟨b - 1022 * 2 ^ 52, by omega, by omega⟩
    rw [ldx_half hf]; unfold up53
    rw [if_neg (by omega)]; omega

/-- The whole number that 'up53' is. -/
def n53 (b : Nat) : Nat := if b = 0 then 0 else 2 ^ 52 + b % 2 ^ 52
theorem n53_lt (b : Nat) : n53 b < 2 ^ 53 := by unfold n53; split <;> omega

theorem frF_cases {b : Nat} (hf : b < top) : frF b = 0 ∧ b = 0 ∨ b ≠ 0 ∧ 4602678819172646912 ≤ frF b ∧ frF b < 4607182418800017408 ∧ frF b % 2 ^ 52 = norm1 b % 2 ^ 52 := by
  rw [top_eq] at hf
  unfold frF
  by_cases h0 : b = 0
  · exact Or.inl ⟨by rw [h0]; rfl, h0⟩
  · refine Or.inr ⟨h0, ?_⟩
    rw [if_neg (by omega)]
    have hs : sgn b = false := by unfold sgn; rw [decide_eq_false_iff_not]; omega
    unfold built word
    rw [hs]
    have e : (-1 + 1023 : Int).toNat = 1022 := rfl
    rw [e, if_neg (by decide)]
    generalize norm1 b = N
    omega

theorem n53_frF {b : Nat} (hf : b < top) : n53 (frF b) = frN b := by
  rcases frF_cases hf with ⟨h, h0⟩ | ⟨h0, h1, h2, h3⟩
  · unfold n53 frN; rw [h, h0, if_pos rfl, if_pos rfl]
  · unfold n53 frN; rw [if_neg (by omega), if_neg h0, h3]

/-- A number below one, of its fraction and exponent. -/
theorem frexp_spec {b : Nat} (h : b < 4607182418800017408) : ∃ k : Nat, frE b = -(k : Int) ∧ k ≤ 1073 ∧ mag b * 2 ^ k = frN b * big := by
  by_cases h0 : b = 0
  · subst h0
    refine ⟨0, by decide, by omega, ?_⟩
    unfold frN; rw [if_pos rfl, Nat.zero_mul, mag_zero, Nat.zero_mul]
  · have hm : b % 2 ^ 63 = b := by omega
    have hs : sgn b = false := by unfold sgn; rw [decide_eq_false_iff_not]; omega
    obtain ⟨N, e1, hN1, hN2, hN3, hN4⟩ := norm_spec (b := b) (by omega) (by rw [hm, top_eq]; omega) (by omega)
    rw [hm] at hN3 hN4
    rw [hs] at e1
    have e1 : norm1 b = N := e1
    have mb : mag b < mag 4607182418800017408 := mag_lt h
    have m1 : mag 4607182418800017408 = one := by decide +kernel
    have h1' : one = 2 ^ 53 * big := by decide +kernel
    obtain ⟨S, hS, eS⟩ : ∃ S, S = 1021 ∧ big = 2 ^ S := ⟨1021, rfl, big_eq⟩
    rw [m1, h1', eS, ← Nat.pow_add] at mb
    have mp := mag_parts hN1
    -- both ways alike: k2 is 52 or 0
    obtain ⟨k2, hk2, hk3, hk4⟩ : ∃ k2 : Nat, norm2 b = -(k2 : Int) ∧ mag b * 2 ^ k2 = mag N ∧ k2 ≤ 52 := by
      by_cases hl : abs b < 2 ^ 52
      · refine ⟨52, ?_, (hN3 hl).symm, Nat.le_refl _⟩
        unfold norm2; rw [if_pos hl]; rfl
      · refine ⟨0, ?_, ?_, by omega⟩
        · unfold norm2; rw [if_neg hl]; rfl
        · rw [hN4 hl, Nat.pow_zero, Nat.mul_one]
    have hq : N / 2 ^ 52 % 2048 = N / 2 ^ 52 := by rw [top_eq] at hN2; omega
    obtain ⟨q, hq2⟩ : ∃ q, N / 2 ^ 52 = q + 1 := ⟨N / 2 ^ 52 - 1, by omega⟩
    have hF : frN b = 2 ^ 52 + N % 2 ^ 52 := by unfold frN; rw [if_neg h0, e1]
    have hE : frE b = -(k2 : Int) + q + 1 - 1022 := by
      unfold frE lexp; rw [if_neg (by omega), hk2, e1, hq, hq2]; omega
    have hmq : mag b * 2 ^ k2 = frN b * 2 ^ q := by
      rw [hk3, mp, hq2, hF]; rfl
    have hle : q ≤ 1021 + k2 := by
      by_cases hc : q ≤ 1021 + k2
      · exact hc
      · exfalso
        have a1 : 2 ^ 52 * 2 ^ (1022 + k2) ≤ frN b * 2 ^ q := Nat.mul_le_mul (by rw [hF]; omega) (Nat.pow_le_pow_right (by omega) (by omega))
        have a2 : mag b * 2 ^ k2 < 2 ^ (53 + S) * 2 ^ k2 := Nat.mul_lt_mul_of_pos_right mb (Nat.two_pow_pos _)
        rw [← hmq, ← Nat.pow_add] at a1
        rw [← Nat.pow_add] at a2
        have : 52 + (1022 + k2) = 53 + S + k2 := by omega
        rw [this] at a1
        exact absurd (Nat.lt_of_le_of_lt a1 a2) (Nat.lt_irrefl _)
    refine ⟨1021 + k2 - q, by rw [hE]; omega, by omega, ?_⟩
    refine Nat.eq_of_mul_eq_mul_right (Nat.two_pow_pos q) ?_
    rw [Nat.mul_assoc, ← Nat.pow_add]
    have e5 : 1021 + k2 - q + q = k2 + S := by omega
    rw [e5, Nat.pow_add, ← Nat.mul_assoc, hmq, eS, Nat.mul_right_comm]

/-- Within the ball: by the whole numbers that the program works out. -/
theorem inside_core {X Y k : Nat} (h1 : 4602678819172646912 ≤ X) (h2 : X < 4607182418800017408) (hk : mag Y * 2 ^ k = frN Y * big) :
    (frN Y * frN Y / 2 ^ (2 * k) < 2 ^ 106 - n53 X * n53 X) ↔ mag X * mag X + mag Y * mag Y < one * one := by
  have hX : mag X = n53 X * big := by
    obtain ⟨f, hf, rfl⟩ : ∃ f, f < 2 ^ 52 ∧ X = 1022 * 2 ^ 52 + f := ⟨X - 1022 * 2 ^ 52, by omega, by omega⟩
    obtain ⟨S, hS, eS, eB⟩ : ∃ S : Nat, S = 1021 ∧ (1022 : Nat) = S + 1 ∧ big = 2 ^ S := ⟨1021, rfl, rfl, big_eq⟩
    have e1 : (1022 * 2 ^ 52 + f) % 2 ^ 52 = f := by omega
    unfold n53
    rw [if_neg (by omega), e1, eS, mag_at _ _ hf, eB]
  have h1' : one = 2 ^ 53 * big := by decide +kernel
  have hB : 0 < big := by decide +kernel
  have hK : 0 < 2 ^ k := Nat.two_pow_pos _
  have hn := n53_lt X
  rw [hX, h1']
  generalize n53 X = n at *
  generalize frN Y = F at *
  generalize mag Y = y at *
  generalize big = B at *
  have eK : 2 ^ (2 * k) = 2 ^ k * 2 ^ k := by rw [Nat.two_mul, Nat.pow_add]
  rw [eK]
  generalize 2 ^ k = K at *
  have hn2 : n * n < 2 ^ 106 := by
    have : n * n ≤ (2 ^ 53 - 1) * (2 ^ 53 - 1) := Nat.mul_le_mul (by omega) (by omega)
    omega
  obtain ⟨L, hL⟩ : ∃ L, 2 ^ 106 = n * n + L := ⟨2 ^ 106 - n * n, by omega⟩
  have e1 : 2 ^ 106 - n * n = L := by omega
  rw [e1, Nat.div_lt_iff_lt_mul (Nat.mul_pos hK hK)]
  have e2 : 2 ^ 53 * B * (2 ^ 53 * B) = n * B * (n * B) + L * (B * B) := by
    have : 2 ^ 53 * B * (2 ^ 53 * B) = 2 ^ 106 * (B * B) := by
      rw [Nat.mul_mul_mul_comm]
    rw [this, hL, Nat.add_mul, Nat.mul_mul_mul_comm n B n B]
  rw [e2]
  have e3 : (n * B * (n * B) + y * y < n * B * (n * B) + L * (B * B)) ↔ y * y < L * (B * B) := by omega
  rw [e3]
  have e4 : y * y < L * (B * B) ↔ y * y * (K * K) < L * (B * B) * (K * K) := (Nat.mul_lt_mul_right (Nat.mul_pos hK hK)).symm
  rw [e4]
  have e5 : y * y * (K * K) = F * F * (B * B) := by
    rw [Nat.mul_mul_mul_comm, hk, Nat.mul_mul_mul_comm]
  rw [e5, Nat.mul_right_comm L, Nat.mul_lt_mul_right (Nat.mul_pos hB hB)]

/-- May a number be one of a point: is it from -1 to 1? -/
def may (x : Nat) : Bool := right x && decide ((dec x).natAbs ≤ 4607182418800017408)
/-- Is a point within the ball? -/
def inB (x y : Nat) : Bool := decide (V (dec x) * V (dec x) + V (dec y) * V (dec y) < one * one)
/-- ray.Inside. -/
def dIn (x y : Nat) : Bool × Int := if may x && may y then (inB x y, 0) else (false, 2)
end Go.Dy
