/-
  Plain facts: the word nearest to a number, told by rungs.
-/
import Derived.Test.YtfjomcbbgnaaiaaDyE
namespace Go.Dy
open Ieee

/-- The rung nearest to n by 2^j units; between two, the even one. -/
def nr (n j : Nat) : Nat :=
  let r := rdn (n / 2 ^ j)
  let mid := (mag r + mag (r + 1)) * 2 ^ j
  if mid < 2 * n then r + 1 else if 2 * n = mid ∧ r % 2 = 1 then r + 1 else r

theorem rdn_le_nr (n j : Nat) : rdn (n / 2 ^ j) ≤ nr n j := by
  unfold nr; dsimp only; split
  · omega
  · split <;> omega

theorem nr_le_succ (n j : Nat) : nr n j ≤ rdn (n / 2 ^ j) + 1 := by
  unfold nr; dsimp only; split
  · omega
  · split <;> omega

theorem nr_exact {r n j : Nat} (h : n = mag r * 2 ^ j) : nr n j = r := by
  have e : n / 2 ^ j = mag r := by rw [h]; exact Nat.mul_div_cancel _ (Nat.two_pow_pos _)
  unfold nr
  rw [e, rdn_mag]
  dsimp only
  have h1 := Nat.mul_lt_mul_of_pos_right (mag_lt_succ r) (Nat.two_pow_pos j)
  rw [Nat.add_mul, if_neg (by omega), if_neg (by omega)]

/-- What is not above a number's exact one is not above the nearest; and likewise below. -/
theorem le_nr {r n j : Nat} (h : mag r * 2 ^ j ≤ n) : r ≤ nr n j := by
  have : r ≤ rdn (n / 2 ^ j) := le_rdn.2 ((Nat.le_div_iff_mul_le (Nat.two_pow_pos _)).2 h)
  exact Nat.le_trans this (rdn_le_nr n j)

theorem nr_le {r n j : Nat} (h : n ≤ mag r * 2 ^ j) : nr n j ≤ r := by
  by_cases e : n = mag r * 2 ^ j
  · rw [nr_exact e]; exact Nat.le_refl _
  · have h1 : n / 2 ^ j < mag r := (Nat.div_lt_iff_lt_mul (Nat.two_pow_pos _)).2 (by omega)
    have h2 : mag (rdn (n / 2 ^ j)) < mag r := Nat.lt_of_le_of_lt (rdn_le _) h1
    have h3 := mag_lt_iff.1 h2
    have h4 := nr_le_succ n j
    omega

/-- 'n / 2 ^ d', the even one between two. -/
def even (n d : Nat) : Nat := if 2 ^ d < 2 * (n % 2 ^ d) ∨ 2 ^ d = 2 * (n % 2 ^ d) ∧ n / 2 ^ d % 2 = 1 then n / 2 ^ d + 1 else n / 2 ^ d

theorem cut_zero (neg : Bool) (n : Nat) : Toward.even.cut neg n 0 = n := by
  unfold Toward.cut
  simp
  omega

theorem cut_even (neg : Bool) (n d : Nat) : Toward.even.cut neg n d = even n d := by
  unfold Toward.cut
  dsimp only
  by_cases hd : d ≤ n.log2 + 2
  · rw [Nat.min_eq_left hd, Nat.shiftLeft_eq, Nat.one_mul]
    unfold even
    by_cases h1 : 2 ^ d < 2 * (n % 2 ^ d)
    · rw [if_pos (Or.inl h1)]; simp [h1]
    · by_cases h2 : 2 ^ d = 2 * (n % 2 ^ d) ∧ n / 2 ^ d % 2 = 1
      · rw [if_pos (Or.inr h2)]
        have : (2 ^ d == 2 * (n % 2 ^ d) && n / 2 ^ d % 2 == 1) = true := by simp [← h2.1, h2.2]
        rw [this]; simp
      · rw [if_neg (by intro h; rcases h with h | h <;> contradiction)]
        have : (2 ^ d == 2 * (n % 2 ^ d) && n / 2 ^ d % 2 == 1) = false := by
          rw [Bool.eq_false_iff]; intro h3; apply h2; simpa using h3
        rw [this]; simp [h1]
  · rw [Nat.min_eq_right (by omega), Nat.shiftLeft_eq, Nat.one_mul]
    have a1 : n < 2 ^ (n.log2 + 1) := Nat.lt_log2_self
    have a2 : 2 ^ (n.log2 + 2) ≤ 2 ^ d := Nat.pow_le_pow_right (by omega) (by omega)
    have a3 : 2 ^ (n.log2 + 2) = 2 * 2 ^ (n.log2 + 1) := by rw [Nat.pow_succ, Nat.mul_comm]
    have b1 : n < 2 ^ (n.log2 + 2) := by omega
    have b2 : n < 2 ^ d := by omega
    unfold even
    rw [Nat.mod_eq_of_lt b1, Nat.mod_eq_of_lt b2, Nat.div_eq_of_lt b1, Nat.div_eq_of_lt b2]
    rw [if_neg (by omega)]
    have c1 : ¬ 2 ^ (n.log2 + 2) < 2 * n := by omega
    simp [c1]

/-- The core: m by 2^d, at the binade K, where the first digits lie right. -/
theorem nr_core {m d K a j : Nat} (h1 : m / 2 ^ d < 2 ^ 53) (h2 : K = 0 ∨ 2 ^ 52 ≤ m / 2 ^ d) (ha : K + j = d + a) :
    nr (m * 2 ^ a) j = K * 2 ^ 52 + even m d := by
  have pd : 0 < 2 ^ d := Nat.two_pow_pos _
  have pa : 0 < 2 ^ a := Nat.two_pow_pos _
  have pj : 0 < 2 ^ j := Nat.two_pow_pos _
  have pK : 0 < 2 ^ K := Nat.two_pow_pos _
  have e1 : 2 ^ K * 2 ^ j = 2 ^ d * 2 ^ a := by rw [← Nat.pow_add, ← Nat.pow_add, ha]
  have em := Nat.div_add_mod m (2 ^ d)
  have hr := Nat.mod_lt m pd
  generalize hlow : m / 2 ^ d = low at *
  generalize hrest : m % 2 ^ d = rest at *
  have mr : ∀ x : Nat, x ≤ 2 ^ 53 → (x < 2 ^ 52 → K = 0) → mag (K * 2 ^ 52 + x) = x * 2 ^ K := by
    intro x hx hk
    by_cases hx2 : x < 2 ^ 52
    · rw [hk hx2, mag_low (by omega)]; simp
    · by_cases hx3 : x < 2 ^ 53
      · obtain ⟨y, rfl⟩ : ∃ y, x = 2 ^ 52 + y := ⟨x - 2 ^ 52, by omega⟩
        exact mag_form K y (by omega)
      · have : x = 2 ^ 53 := by omega
        subst this
        have e : K * 2 ^ 52 + 2 ^ 53 = (K + 1) * 2 ^ 52 + (2 ^ 52 + 0) := by omega
        rw [e, mag_form (K + 1) 0 (by omega), Nat.pow_succ]
        have : 2 ^ 53 = 2 ^ 52 * 2 := rfl
        rw [this, Nat.mul_assoc, Nat.mul_comm 2]
        rfl
  have m0 := mr low (by omega) (by omega)
  have m1 := mr (low + 1) (by omega) (by omega)
  have en : m * 2 ^ a = low * (2 ^ K * 2 ^ j) + rest * 2 ^ a := by
    rw [e1, ← em, Nat.add_mul, Nat.mul_comm (2 ^ d) low, Nat.mul_assoc]
  have hr2 : rest * 2 ^ a < 2 ^ K * 2 ^ j := by rw [e1]; exact Nat.mul_lt_mul_of_pos_right hr pa
  have er : rdn (m * 2 ^ a / 2 ^ j) = K * 2 ^ 52 + low := by
    have b1 : K * 2 ^ 52 + low ≤ rdn (m * 2 ^ a / 2 ^ j) := by
      rw [le_rdn, Nat.le_div_iff_mul_le pj, m0, en, Nat.mul_assoc]; omega
    have b2 : ¬ (K * 2 ^ 52 + (low + 1) ≤ rdn (m * 2 ^ a / 2 ^ j)) := by
      rw [le_rdn, Nat.le_div_iff_mul_le pj, m1, en, Nat.mul_assoc, Nat.succ_mul]; omega
    omega
  unfold nr
  dsimp only
  rw [er]
  have m1' : mag (K * 2 ^ 52 + low + 1) = (low + 1) * 2 ^ K := by rw [Nat.add_assoc]; exact m1
  rw [m0, m1']
  have emid : (low * 2 ^ K + (low + 1) * 2 ^ K) * 2 ^ j = 2 * (low * (2 ^ K * 2 ^ j)) + 2 ^ K * 2 ^ j := by
    rw [← Nat.add_mul, Nat.mul_assoc, ← Nat.mul_assoc 2, ← Nat.succ_mul]
    congr 1; omega
  rw [emid]
  have k1 : 2 * (low * (2 ^ K * 2 ^ j)) + 2 ^ K * 2 ^ j < 2 * (m * 2 ^ a) ↔ 2 ^ d < 2 * rest := by
    rw [en, e1]
    have : 2 ^ d * 2 ^ a < 2 * rest * 2 ^ a ↔ 2 ^ d < 2 * rest := Nat.mul_lt_mul_right pa
    rw [Nat.mul_assoc 2 rest] at this
    omega
  have k2 : 2 * (m * 2 ^ a) = 2 * (low * (2 ^ K * 2 ^ j)) + 2 ^ K * 2 ^ j ↔ 2 ^ d = 2 * rest := by
    rw [en, e1]
    have : 2 ^ d * 2 ^ a = 2 * rest * 2 ^ a ↔ 2 ^ d = 2 * rest := Nat.mul_left_inj (by omega)
    rw [Nat.mul_assoc 2 rest] at this
    omega
  unfold even
  rw [hlow, hrest]
  simp only [k1, k2]
  have par : (K * 2 ^ 52 + low) % 2 = low % 2 := by omega
  rw [par]
  by_cases c1 : 2 ^ d < 2 * rest
  · rw [if_pos c1, if_pos (Or.inl c1)]; omega
  · rw [if_neg c1]
    by_cases c2 : 2 ^ d = 2 * rest ∧ low % 2 = 1
    · rw [if_pos c2, if_pos (Or.inr c2)]; omega
    · rw [if_neg c2, if_neg (by intro h; rcases h with h | h <;> contradiction)]

/-- The word nearest to m by 2^place. -/
theorem nearest_eq (neg : Bool) (m : Nat) (place : Int) :
    double.nearest neg m place = double.word neg (min (nr (m * 2 ^ (place + 1074).toNat) (-(place + 1074)).toNat) top) := by
  unfold Format.nearest
  by_cases hm : m = 0
  · subst hm
    rw [if_pos rfl, Nat.zero_mul, nr_exact (r := 0) (by rw [mag_zero]; omega)]
    rw [Nat.min_eq_left (by omega)]
  · rw [if_neg hm, d_fractionBits, d_leastPlace, d_binade, d_infRung]
    dsimp only
    rw [cut_even]
    congr 2
    have hl1 : 2 ^ m.log2 ≤ m := Nat.log2_self_le hm
    have hl2 : m < 2 ^ (m.log2 + 1) := Nat.lt_log2_self
    have e52 : ((52 : Nat) : Int) = 52 := rfl
    rw [e52]
    generalize hlast : max (place + (m.log2 : Int) - 52) (-1074) = last
    by_cases hp : last ≤ place
    · -- nothing is dropped
      have ed : (last - place).toNat = 0 := by omega
      rw [ed]
      obtain ⟨c, hc⟩ : ∃ c : Nat, (place - last).toNat = c := ⟨_, rfl⟩
      obtain ⟨K, hK⟩ : ∃ K : Nat, (last - -1074).toNat = K := ⟨_, rfl⟩
      rw [hc, hK, Nat.shiftLeft_eq]
      have ea : (place + 1074).toNat = K + c := by omega
      have ej : (-(place + 1074)).toNat = 0 := by omega
      rw [ea, ej, Nat.pow_add, Nat.mul_comm (2 ^ K), ← Nat.mul_assoc]
      symm
      refine nr_core (m := m * 2 ^ c) (d := 0) (K := K) ?_ ?_ (by omega)
      · rw [Nat.pow_zero, Nat.div_one]
        have hc2 : m.log2 + 1 + c ≤ 53 := by omega
        have : m * 2 ^ c < 2 ^ (m.log2 + 1 + c) := by
          rw [Nat.pow_add]; exact Nat.mul_lt_mul_of_pos_right hl2 (Nat.two_pow_pos _)
        exact Nat.lt_of_lt_of_le this (Nat.pow_le_pow_right (by omega) hc2)
      · rw [Nat.pow_zero, Nat.div_one]
        by_cases h0 : K = 0
        · exact Or.inl h0
        · right
          have hc2 : 52 ≤ m.log2 + c := by omega
          have : 2 ^ (m.log2 + c) ≤ m * 2 ^ c := by
            rw [Nat.pow_add]; exact Nat.mul_le_mul_right _ hl1
          exact Nat.le_trans (Nat.pow_le_pow_right (by omega) hc2) this
    · have ec : (place - last).toNat = 0 := by omega
      rw [ec]
      obtain ⟨d, hd⟩ : ∃ d : Nat, (last - place).toNat = d := ⟨_, rfl⟩
      obtain ⟨K, hK⟩ : ∃ K : Nat, (last - -1074).toNat = K := ⟨_, rfl⟩
      rw [hd, hK, Nat.shiftLeft_eq, Nat.pow_zero, Nat.mul_one]
      symm
      refine nr_core (m := m) (d := d) (K := K) ?_ ?_ (by omega)
      · rw [Nat.div_lt_iff_lt_mul (Nat.two_pow_pos _), ← Nat.pow_add]
        exact Nat.lt_of_lt_of_le hl2 (Nat.pow_le_pow_right (by omega) (by omega))
      · by_cases h0 : K = 0
        · exact Or.inl h0
        · right
          rw [Nat.le_div_iff_mul_le (Nat.two_pow_pos _), ← Nat.pow_add]
          exact Nat.le_trans (Nat.pow_le_pow_right (by omega) (by omega)) hl1

end Go.Dy
