/- Plain facts: quotients and roots to the nearest number: no number lies between what is nearest and the real result. -/
import Derived.Test.YtinhbebjlbnejaaDoorKb
namespace Go.Dy
open Ieee

theorem mag_dvd {r t : Nat} (h : 2 ^ (53 + t) ≤ mag r) : 2 ^ t ∣ mag r := by
  by_cases h1 : r < 2 ^ 52
  · rw [mag_low (by omega)] at h
    have : 2 ^ 52 < 2 ^ (53 + t) := Nat.pow_lt_pow_right (by omega) (by omega)
    omega
  · rw [mag_parts (by omega)] at h ⊢
    have h2 : 2 ^ 52 + r % 2 ^ 52 < 2 ^ 53 := by omega
    generalize 2 ^ 52 + r % 2 ^ 52 = m at *
    generalize r / 2 ^ 52 - 1 = k at *
    have h3 : t ≤ k := by
      by_cases hc : t ≤ k
      · exact hc
      · exfalso
        have a : m * 2 ^ k < 2 ^ 53 * 2 ^ k := Nat.mul_lt_mul_of_pos_right h2 (Nat.two_pow_pos _)
        rw [← Nat.pow_add] at a
        have b : 2 ^ (53 + k) ≤ 2 ^ (53 + t) := Nat.pow_le_pow_right (by omega) (by omega)
        omega
    exact Nat.dvd_mul_left_of_dvd (Nat.pow_dvd_pow 2 h3) m

/-- A result of 54 bits at least and one more that says whether something is left: rounded, it is on the same side of each number as the result itself. -/
theorem sticky_le {q s r E J : Nat} (hq : 2 ^ 53 ≤ q) (hs : s ≤ 1) (hz : E = 0 ∨ J = 0) (h1 : mag r * 2 ^ J < (2 * q + 2) * 2 ^ E) (h2 : s = 0 → mag r * 2 ^ J ≤ 2 * q * 2 ^ E) : r ≤ nr ((2 * q + s) * 2 ^ E) J := by
  refine le_nr ?_
  by_cases h0 : s = 0
  · subst h0; exact h2 rfl
  · obtain rfl : s = 1 := by omega
    rcases hz with rfl | rfl
    · rw [Nat.pow_zero, Nat.mul_one] at h1 ⊢; omega
    · rw [Nat.pow_zero, Nat.mul_one] at h1 ⊢
      by_cases hc : mag r ≤ 2 * q * 2 ^ E
      · rw [Nat.add_mul]; omega
      · exfalso
        have hb : 2 ^ (53 + (E + 1)) ≤ mag r := by
          have : 2 ^ (53 + (E + 1)) = 2 * 2 ^ 53 * 2 ^ E := by rw [Nat.pow_add, Nat.pow_add]; generalize 2 ^ E = t; omega
          rw [this]
          have : 2 * 2 ^ 53 * 2 ^ E ≤ 2 * q * 2 ^ E := Nat.mul_le_mul_right _ (by omega)
          omega
        obtain ⟨c, hc2⟩ := mag_dvd hb
        rw [hc2, Nat.pow_succ] at h1 hc
        have e1 : (2 * q + 2) * 2 ^ E = 2 ^ E * 2 * (q + 1) := by
          rw [Nat.mul_comm, Nat.mul_assoc]; congr 1
        have e2 : 2 * q * 2 ^ E = 2 ^ E * 2 * q := by rw [Nat.mul_comm, Nat.mul_assoc]
        rw [e1] at h1
        rw [e2] at hc
        have p : 0 < 2 ^ E * 2 := Nat.mul_pos (Nat.two_pow_pos _) (by omega)
        have a := (Nat.mul_lt_mul_left p).1 h1
        have b : ¬ c ≤ q := fun h => hc (Nat.mul_le_mul_left _ h)
        omega
theorem sticky_ge {q s r E J : Nat} (hq : 2 ^ 53 ≤ q) (hs : s ≤ 1) (hz : E = 0 ∨ J = 0) (h : if s = 0 then 2 * q * 2 ^ E ≤ mag r * 2 ^ J else 2 * q * 2 ^ E < mag r * 2 ^ J) : nr ((2 * q + s) * 2 ^ E) J ≤ r := by
  refine nr_le ?_
  by_cases h0 : s = 0
  · subst h0; rw [if_pos rfl] at h; exact h
  · obtain rfl : s = 1 := by omega
    rw [if_neg (by omega)] at h
    rcases hz with rfl | rfl
    · rw [Nat.pow_zero, Nat.mul_one] at h ⊢; omega
    · rw [Nat.pow_zero, Nat.mul_one] at h ⊢
      have hb : 2 ^ (53 + (E + 1)) ≤ mag r := by
        have : 2 ^ (53 + (E + 1)) = 2 * 2 ^ 53 * 2 ^ E := by rw [Nat.pow_add, Nat.pow_add]; generalize 2 ^ E = t; omega
        rw [this]
        have : 2 * 2 ^ 53 * 2 ^ E ≤ 2 * q * 2 ^ E := Nat.mul_le_mul_right _ (by omega)
        omega
      obtain ⟨c, hc2⟩ := mag_dvd hb
      rw [hc2, Nat.pow_succ] at h ⊢
      have e2 : 2 * q * 2 ^ E = 2 ^ E * 2 * q := by rw [Nat.mul_comm, Nat.mul_assoc]
      rw [e2] at h
      have b : q < c := by
        by_cases hc : q < c
        · exact hc
        · have := Nat.mul_le_mul_left (2 ^ E * 2) (Nat.le_of_not_lt hc); omega
      have e3 : (2 * q + 1) * 2 ^ E ≤ 2 ^ E * 2 * (q + 1) := by
        rw [Nat.mul_comm, Nat.mul_assoc]; exact Nat.mul_le_mul_left _ (by omega)
      exact Nat.le_trans e3 (Nat.mul_le_mul_left _ b)

theorem nearest_at (neg : Bool) (m : Nat) (P : Int) : double.nearest neg m (-1074 + P) = word neg (min (nr (m * 2 ^ P.toNat) (-P).toNat) top) := by
  rw [nearest_eq, word_eq]
  have e : -1074 + P + 1074 = P := by omega
  rw [e]

/-- Is x by y, the nearest one: of which sign, and r by magnitude: no number lies between. -/
theorem div_near {x y : Nat} (hx : W x) (hy : W y) (fx : fin x) (fy : fin y) (hy0 : y % 2 ^ 63 ≠ 0) :
    ∃ r : Nat, double.div x y = some (word (sgn x ^^ sgn y) (min r top)) ∧ (∀ z : Nat, mag z * mag (y % 2 ^ 63) ≤ mag (x % 2 ^ 63) * one → z ≤ r) ∧ (∀ z : Nat, mag (x % 2 ^ 63) * one ≤ mag z * mag (y % 2 ^ 63) → r ≤ z) := by
  obtain ⟨m, e, r1, m1⟩ := read_num hx.lt fx
  obtain ⟨n, f, r2, m2⟩ := read_num hy.lt fy
  have hyp : 0 < mag (y % 2 ^ 63) := by
    have := @mag_lt 0 (y % 2 ^ 63) (by omega)
    rw [mag_zero] at this; exact this
  have hn : n ≠ 0 := by
    intro h; rw [h, Nat.zero_mul] at m2; omega
  unfold Format.div
  rw [r1, r2]
  have fb : double.fractionBits + 2 = 54 := rfl
  rw [fb]
  unfold Datum.quotient
  dsimp only
  rw [if_neg hn]
  simp only [Option.map, Format.write]
  obtain ⟨g, hg⟩ : ∃ g : Nat, g = 54 + n.log2 - m.log2 := ⟨_, rfl⟩
  rw [← hg, Nat.shiftLeft_eq]
  by_cases hm : m = 0
  · subst hm
    have z1 : 2 * (0 * 2 ^ g / n) + (0 * 2 ^ g % n != 0).toNat = 0 := by
      rw [Nat.zero_mul, Nat.zero_div, Nat.zero_mod]; rfl
    rw [z1]
    have e0 : mag (x % 2 ^ 63) = 0 := by rw [m1, Nat.zero_mul]
    refine ⟨0, ?_, ?_, ?_⟩
    · unfold Format.nearest; rw [if_pos rfl, Nat.min_eq_left (Nat.zero_le _), word_eq]
    · intro z hz
      rw [e0, Nat.zero_mul] at hz
      have := Nat.le_zero.1 hz
      rcases Nat.mul_eq_zero.1 this with h | h
      · have : ¬ 0 < z := fun h2 => by have := @mag_lt 0 z h2; rw [mag_zero] at this; omega
        omega
      · omega
    · intro z _; omega
  · -- the quotient has 54 bits at least
    have bm1 := Nat.log2_self_le hm
    have bm2 : m < 2 ^ (m.log2 + 1) := Nat.lt_log2_self
    have bn1 := Nat.log2_self_le hn
    have bn2 : n < 2 ^ (n.log2 + 1) := Nat.lt_log2_self
    have hq : 2 ^ 53 ≤ m * 2 ^ g / n := by
      rw [Nat.le_div_iff_mul_le (by omega)]
      have a : 2 ^ 53 * n ≤ 2 ^ 53 * 2 ^ (n.log2 + 1) := Nat.mul_le_mul_left _ (by omega)
      have b : 2 ^ m.log2 * 2 ^ g ≤ m * 2 ^ g := Nat.mul_le_mul_right _ bm1
      rw [← Nat.pow_add] at a b
      have c : 2 ^ (53 + (n.log2 + 1)) ≤ 2 ^ (m.log2 + g) := Nat.pow_le_pow_right (by omega) (by omega)
      omega
    obtain ⟨q, hqq⟩ : ∃ q, q = m * 2 ^ g / n := ⟨_, rfl⟩
    obtain ⟨ρ, hρ⟩ : ∃ ρ, ρ = m * 2 ^ g % n := ⟨_, rfl⟩
    have hdm : m * 2 ^ g = n * q + ρ := by rw [hqq, hρ]; exact (Nat.div_add_mod _ _).symm
    have hρn : ρ < n := by rw [hρ]; exact Nat.mod_lt _ (by omega)
    rw [← hqq] at hq ⊢
    rw [← hρ]
    obtain ⟨s, hs⟩ : ∃ s, s = (ρ != 0).toNat := ⟨_, rfl⟩
    have hs1 : s ≤ 1 := by rw [hs]; cases (ρ != 0) <;> decide
    have hs0 : s = 0 ↔ ρ = 0 := by
      rw [hs]
      by_cases h : ρ = 0
      · rw [h]; decide
      · have : (ρ != 0) = true := by simpa using h
        rw [this]; simp [h]
    rw [← hs]
    obtain ⟨P, hP⟩ : ∃ P : Int, P = (e : Int) + 1074 - f - g - 1 := ⟨_, rfl⟩
    have hpl : -1074 + (e : Int) - (-1074 + (f : Int)) - (g : Int) - 1 = -1074 + P := by omega
    rw [hpl, nearest_at]
    obtain ⟨E, hE⟩ : ∃ E, P.toNat = E := ⟨_, rfl⟩
    obtain ⟨J, hJ⟩ : ∃ J, (-P).toNat = J := ⟨_, rfl⟩
    have hz : E = 0 ∨ J = 0 := by omega
    have hEJ : (E : Int) - J = (e : Int) + 1074 - f - g - 1 := by omega
    rw [hE, hJ]
    rw [m1, m2]
    -- both sides, times what makes them whole
    have key : ∀ z : Nat, mag z * (n * 2 ^ f) * (2 ^ J * 2 ^ g * 2) = mag z * 2 ^ J * n * (2 ^ (f + g + 1)) ∧ m * 2 ^ e * one * (2 ^ J * 2 ^ g * 2) = 2 * (n * q + ρ) * 2 ^ E * 2 ^ (f + g + 1) := by
      intro z
      obtain ⟨S, hS, eS⟩ : ∃ S, S = 1074 ∧ one = 2 ^ S := ⟨1074, rfl, one_eq⟩
      refine ⟨?_, ?_⟩
      · rw [Nat.pow_add, Nat.pow_add, Nat.pow_one]
        simp only [Nat.mul_assoc, Nat.mul_left_comm, Nat.mul_comm]
      · rw [← hdm, eS]
        have e1 : 2 ^ e * 2 ^ S * 2 ^ J = 2 ^ E * 2 ^ (f + g + 1) := by
          rw [← Nat.pow_add, ← Nat.pow_add, ← Nat.pow_add]; exact congrArg (fun t => 2 ^ t) (by omega)
        have l : m * 2 ^ e * 2 ^ S * (2 ^ J * 2 ^ g * 2) = 2 * (m * 2 ^ g) * (2 ^ e * 2 ^ S * 2 ^ J) := by
          simp only [Nat.mul_assoc, Nat.mul_left_comm, Nat.mul_comm]
        rw [l, e1, ← Nat.mul_assoc]
    have pos1 : 0 < 2 ^ J * 2 ^ g * 2 := Nat.mul_pos (Nat.mul_pos (Nat.two_pow_pos _) (Nat.two_pow_pos _)) (by omega)
    have pos2 : 0 < 2 ^ (f + g + 1) := Nat.two_pow_pos _
    have cmp1 : ∀ z : Nat, mag z * (n * 2 ^ f) ≤ m * 2 ^ e * one ↔ mag z * 2 ^ J * n ≤ 2 * (n * q + ρ) * 2 ^ E := by
      intro z
      rw [← Nat.mul_le_mul_right_iff pos1, (key z).1, (key z).2, Nat.mul_le_mul_right_iff pos2]
    have cmp2 : ∀ z : Nat, m * 2 ^ e * one ≤ mag z * (n * 2 ^ f) ↔ 2 * (n * q + ρ) * 2 ^ E ≤ mag z * 2 ^ J * n := by
      intro z
      rw [← Nat.mul_le_mul_right_iff pos1, (key z).1, (key z).2, Nat.mul_le_mul_right_iff pos2]
    have hn0 : 0 < n := by omega
    have pE : 0 < 2 ^ E := Nat.two_pow_pos _
    refine ⟨_, rfl, ?_, ?_⟩
    · intro z hzz
      rw [cmp1] at hzz
      refine sticky_le hq hs1 hz ?_ ?_
      · have a : 2 * (n * q + ρ) * 2 ^ E < (2 * q + 2) * 2 ^ E * n := by
          have : (2 * q + 2) * 2 ^ E * n = (2 * (n * q) + 2 * n) * 2 ^ E := by
            rw [Nat.mul_right_comm, Nat.add_mul, Nat.mul_assoc 2 q n, Nat.mul_comm q n]
          rw [this]
          exact Nat.mul_lt_mul_of_pos_right (by omega) pE
        exact Nat.lt_of_mul_lt_mul_right (Nat.lt_of_le_of_lt hzz a)
      · intro h0
        rw [hs0.1 h0, Nat.add_zero] at hzz
        have : 2 * (n * q) * 2 ^ E = 2 * q * 2 ^ E * n := by
          simp only [Nat.mul_assoc, Nat.mul_comm]
        rw [this] at hzz
        exact Nat.le_of_mul_le_mul_right hzz hn0
    · intro z hzz
      rw [cmp2] at hzz
      refine sticky_ge hq hs1 hz ?_
      have e5 : 2 * (n * q) * 2 ^ E = 2 * q * 2 ^ E * n := by
        simp only [Nat.mul_assoc, Nat.mul_comm]
      by_cases h0 : s = 0
      · rw [if_pos h0]
        rw [hs0.1 h0, Nat.add_zero, e5] at hzz
        exact Nat.le_of_mul_le_mul_right hzz hn0
      · rw [if_neg h0]
        have hr : 0 < ρ := by
          have : ρ ≠ 0 := fun h => h0 (hs0.2 h)
          omega
        have a : 2 * (n * q) * 2 ^ E < 2 * (n * q + ρ) * 2 ^ E := Nat.mul_lt_mul_of_pos_right (by omega) pE
        rw [e5] at a
        exact Nat.lt_of_mul_lt_mul_right (Nat.lt_of_lt_of_le a hzz)
end Go.Dy
