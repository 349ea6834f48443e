/-
  Plain facts: quotients by their parts.
-/
import Derived.Test.YtfjomcbbgnaaiaaDyL
namespace Go.Dy

/-- How far the digits are from the upper end of a word; and put there. -/
def lz (m : Nat) : Nat := 64 - blen m
def nm (m : Nat) : Nat := m * 2 ^ lz m

theorem nm_bounds {m : Nat} (h0 : m ≠ 0) (h : m < 2 ^ 53) : 9223372036854775808 ≤ nm m ∧ W (nm m) ∧ lz m ≤ 63 := by
  have hb : blen m = m.log2 + 1 := by unfold blen; rw [if_neg h0]
  have h1 : 2 ^ m.log2 ≤ m := Nat.log2_self_le h0
  have h2 : m < 2 ^ (m.log2 + 1) := Nat.lt_log2_self
  have h3 : m.log2 < 53 := (Nat.log2_lt h0).2 h
  unfold nm lz W
  rw [hb]
  have e1 : 9223372036854775808 = 2 ^ m.log2 * 2 ^ (64 - (m.log2 + 1)) := by
    rw [← Nat.pow_add]
    have : m.log2 + (64 - (m.log2 + 1)) = 63 := by omega
    rw [this]
  have e2 : 2 ^ 64 = 2 ^ (m.log2 + 1) * 2 ^ (64 - (m.log2 + 1)) := by
    rw [← Nat.pow_add]
    have : m.log2 + 1 + (64 - (m.log2 + 1)) = 64 := by omega
    rw [this]
  refine ⟨?_, ?_, by omega⟩
  · rw [e1]; exact Nat.mul_le_mul_right _ h1
  · rw [e2]; exact Nat.mul_lt_mul_of_pos_right h2 (Nat.two_pow_pos _)

/-- The quotient of two words whose upper bits are set, by 2^63. -/
def dq (M N : Nat) : Nat := quo64 (M / 2) (lo64 (M * 2 ^ 63)) N
def dr (M N : Nat) : Nat := rem64 (M / 2) (lo64 (M * 2 ^ 63)) N
theorem half_up (M : Nat) : M / 2 * 18446744073709551616 + lo64 (M * 2 ^ 63) = M * 9223372036854775808 := by unfold lo64; omega
theorem dq_eq (M N : Nat) : dq M N = M * 9223372036854775808 / N := by unfold dq quo64; rw [half_up]
theorem dr_eq (M N : Nat) : dr M N = M * 9223372036854775808 % N := by unfold dr rem64; rw [half_up]
theorem dq_bounds {M N : Nat} (h1 : 9223372036854775808 ≤ M) (h2 : W M) (h3 : 9223372036854775808 ≤ N) (h4 : W N) : 4611686018427387904 ≤ dq M N ∧ W (dq M N) := by
  have := h2.lt; have := h4.lt
  rw [dq_eq]
  constructor
  · rw [Nat.le_div_iff_mul_le (by omega)]; omega
  · unfold W
    rw [Nat.div_lt_iff_lt_mul (by omega)]; omega

theorem divR_fl {a b : Nat} {up : Bool} (ha : W a) (hb : W b) (rb : right b = true) (hb0 : b ≠ 0) :
    divR (dec a) (dec b) up = rnk (sgn a != sgn b) (mag (a % 2 ^ 63) * one / mag (b % 2 ^ 63)) (decide (mag (a % 2 ^ 63) * one % mag (b % 2 ^ 63) ≠ 0)) up := by
  have hdb := dec_rung hb
  have hva := V_sgn ha
  have hvb := V_sgn hb
  have hb1 : b % 2 ^ 63 ≠ 0 := by
    unfold right at rb; rw [decide_eq_true_eq] at rb
    have := hb.lt
    omega
  have hneg : dec b < 0 ↔ sgn b = true := by
    rw [hdb]; cases sgn b <;> simp <;> omega
  have hvbn : (V (dec b)).natAbs = mag (b % 2 ^ 63) := by rw [hvb]; split <;> simp
  unfold divR
  rw [hvbn]
  have hone : (0 : Int) < one := by have := one_pos; omega
  have key : ∀ x : Int, x = V (dec a) ∨ x = -V (dec a) → (x * one).natAbs = mag (a % 2 ^ 63) * one := by
    intro x hx
    have : x.natAbs = mag (a % 2 ^ 63) := by
      rcases hx with rfl | rfl
      · rw [hva]; split <;> simp
      · rw [hva]; split <;> simp
    rw [Int.natAbs_mul, this]; simp
  have sg : ∀ x : Int, (x * one ≠ 0 → (decide (x * one < 0) = decide (x < 0))) := by
    intro x _
    have : x * one < 0 ↔ x < 0 := by
      constructor
      · intro h
        by_cases h2 : x < 0
        · exact h2
        · have := Int.mul_nonneg (Int.not_lt.1 h2) (Int.le_of_lt hone); omega
      · intro h; exact Int.mul_neg_of_neg_of_pos h hone
    simp only [this]
  cases hs : sgn b
  · have h1 : ¬ dec b < 0 := fun h => by have := hneg.1 h; rw [hs] at this; cases this
    rw [if_neg h1, fl_rnk (neg := (sgn a != false)), key _ (Or.inl rfl)]
    intro h0
    rw [sg _ h0]
    have hv0 : V (dec a) ≠ 0 := fun h => h0 (by rw [h]; simp)
    rw [hva] at hv0 ⊢
    cases sgn a
    · simp
    · simp at hv0 ⊢; omega
  · have h1 : dec b < 0 := hneg.2 hs
    rw [if_pos h1, ← Int.neg_mul, fl_rnk (neg := (sgn a != true)), key _ (Or.inr rfl)]
    intro h0
    rw [sg _ h0]
    have hv0 : -V (dec a) ≠ 0 := fun h => h0 (by rw [h]; simp)
    rw [hva] at hv0 ⊢
    cases sgn a
    · simp at hv0 ⊢; omega
    · simp

theorem pm_ne {b : Nat} (hb : W b) (r : right b = true) (h0 : b ≠ 0) : pm b ≠ 0 := by
  intro h
  have h1 := rung_pm (right_fin r)
  have h2 := pe_bounds b
  have h3 : pe b = -1074 := by
    apply Int.le_antisymm _ h2.1
    apply Int.le_of_not_gt
    intro hh; have := pm_norm hh; omega
  have e0 : (pe b + 1074).toNat = 0 := by omega
  rw [e0, h] at h1
  unfold right at r; rw [decide_eq_true_eq] at r
  have := hb.lt
  omega

theorem quo_out {a b : Nat} {up : Bool} (ha : W a) (hb : W b) (ra : right a = true) (rb : right b = true) (ha0 : a ≠ 0) (hb0 : b ≠ 0) :
    rnd (sgn a != sgn b) (dq (nm (pm a)) (nm (pm b))) (decide (0 < dr (nm (pm a)) (nm (pm b)))) (pe a - lz (pm a) - (pe b - lz (pm b)) - 63) up = dDiv a b up := by
  unfold dDiv
  rw [ra, rb, if_neg (by decide), if_neg hb0, divR_fl ha hb rb hb0]
  have fa := right_fin ra
  have fb := right_fin rb
  have pa := pm_ne ha ra ha0
  have pb := pm_ne hb rb hb0
  have ba := pe_bounds a
  have bb := pe_bounds b
  obtain ⟨a1, a2, a3⟩ := nm_bounds pa (pm_lt a)
  obtain ⟨b1, b2, b3⟩ := nm_bounds pb (pm_lt b)
  obtain ⟨q1, q2⟩ := dq_bounds a1 a2 b1 b2
  have hden : 0 < mag (b % 2 ^ 63) := by
    rw [mag_pm fb]; exact Nat.mul_pos (Nat.pos_of_ne_zero pb) (Nat.two_pow_pos _)
  obtain ⟨S, hS, eS⟩ := one_pow
  refine rnd_eq (i := (pe a + 1074).toNat + lz (pm b) + S) (j := (pe b + 1074).toNat + lz (pm a) + 63) hden (by omega) ?_ (fun _ => Or.inl (blen_ge (by omega)))
  rw [mag_pm fa, mag_pm fb, eS]
  clear hS eS
  have e1 := Nat.div_add_mod (nm (pm a) * 9223372036854775808) (nm (pm b))
  rw [← dq_eq, ← dr_eq] at e1
  have e2 : dr (nm (pm a)) (nm (pm b)) < nm (pm b) := by rw [dr_eq]; exact Nat.mod_lt _ (by omega)
  generalize dq (nm (pm a)) (nm (pm b)) = x at *
  generalize dr (nm (pm a)) (nm (pm b)) = y at *
  -- all by one power of two
  have eL : ∀ z, z * 2 ^ ((pe a + 1074).toNat + lz (pm b) + S) * (pm b * 2 ^ (pe b + 1074).toNat) = z * nm (pm b) * 2 ^ ((pe a + 1074).toNat + (pe b + 1074).toNat + S) := by
    intro z
    unfold nm
    generalize (pe a + 1074).toNat = u
    generalize (pe b + 1074).toNat = v
    rw [Nat.pow_add, Nat.pow_add, Nat.pow_add, Nat.pow_add]
    generalize 2 ^ u = U
    generalize 2 ^ v = V'
    generalize 2 ^ S = T
    generalize 2 ^ lz (pm b) = L
    generalize pm b = n
    simp only [Nat.mul_left_comm, Nat.mul_comm]
  have eR : pm a * 2 ^ (pe a + 1074).toNat * 2 ^ S * 2 ^ ((pe b + 1074).toNat + lz (pm a) + 63) = nm (pm a) * 9223372036854775808 * 2 ^ ((pe a + 1074).toNat + (pe b + 1074).toNat + S) := by
    unfold nm
    have e63 : (9223372036854775808 : Nat) = 2 ^ 63 := by decide
    rw [e63]
    generalize (pe a + 1074).toNat = u
    generalize (pe b + 1074).toNat = v
    rw [Nat.pow_add, Nat.pow_add, Nat.pow_add, Nat.pow_add]
    generalize 2 ^ u = U
    generalize 2 ^ v = V'
    generalize 2 ^ S = T
    generalize 2 ^ lz (pm a) = L
    generalize pm a = n
    generalize 2 ^ 63 = K
    simp only [Nat.mul_left_comm, Nat.mul_comm]
  unfold Is
  rw [eL, eL, eR]
  have pp : 0 < 2 ^ ((pe a + 1074).toNat + (pe b + 1074).toNat + S) := Nat.two_pow_pos _
  generalize 2 ^ ((pe a + 1074).toNat + (pe b + 1074).toNat + S) = T at pp ⊢
  rw [Nat.mul_comm (nm (pm b))] at e1
  split
  · rename_i hy
    rw [decide_eq_true_eq] at hy
    constructor
    · exact Nat.mul_lt_mul_of_pos_right (by omega) pp
    · refine Nat.mul_lt_mul_of_pos_right ?_ pp
      rw [Nat.succ_mul]; omega
  · rename_i hy
    simp at hy
    rw [← e1, hy, Nat.add_zero]

theorem feq_right {b : Nat} (hb : W b) (r : right b = true) : feq b 0 = decide (b = 0) := by
  rw [feq_zero hb.lt]
  unfold right at r; rw [decide_eq_true_eq] at r
  have := hb.lt
  congr 1
  rw [eq_iff_iff]
  omega

theorem out_divR_zero (z : Int) (up : Bool) : out (divR (dec 0) z up) up = (0, 0) := by
  have h0 : dec 0 = 0 := by decide
  unfold divR
  rw [h0, V_zero, Int.zero_mul, Int.neg_zero]
  have h1 : fl 0 (V z).natAbs up = 0 := by
    unfold fl
    have e1 : (0 : Int).natAbs / (V z).natAbs = 0 := by simp
    have e2 : (0 : Int).natAbs % (V z).natAbs = 0 := by simp
    rw [e1, e2]
    exact rnk_zero _ _
  rw [h1]
  cases up <;> split <;> decide

end Go.Dy
