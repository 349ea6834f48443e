/-
  Plain facts: the parts of a number; sums and products by their parts.
-/
import Derived.Test.YtfjomcbbgnaaiaaDyH
namespace Go.Dy

/-- dir.parts: the digits, and the place of the last one. -/
def pm (b : Nat) : Nat := if field b = 0 then b % 2 ^ 52 else 2 ^ 52 + b % 2 ^ 52
def pe (b : Nat) : Int := if field b = 0 then -1074 else (field b : Int) + -1074 - 1

theorem pm_lt (b : Nat) : pm b < 2 ^ 53 := by unfold pm; split <;> omega
theorem pe_bounds (b : Nat) : -1074 ≤ pe b ∧ pe b ≤ 972 := by
  have := field_lt b
  unfold pe; split <;> omega
theorem pm_norm {b : Nat} (h : -1074 < pe b) : 2 ^ 52 ≤ pm b := by
  unfold pe at h; unfold pm; split at h
  · omega
  · rename_i h1; rw [if_neg h1]; omega

theorem mag_pm {b : Nat} (_hf : b % 2 ^ 63 < top) : mag (b % 2 ^ 63) = pm b * 2 ^ (pe b + 1074).toNat := by
  have e1 : b % 2 ^ 63 / 2 ^ 52 = field b := by unfold field; omega
  have e2 : b % 2 ^ 63 % 2 ^ 52 = b % 2 ^ 52 := by omega
  unfold mag pm pe
  rw [e1, e2]
  by_cases h : field b = 0
  · have : b % 2 ^ 63 < 2 ^ 52 := by omega
    rw [if_pos this, if_pos h, if_pos h]
    have : b % 2 ^ 63 = b % 2 ^ 52 := by omega
    rw [this]
    simp
  · have : ¬ b % 2 ^ 63 < 2 ^ 52 := by omega
    rw [if_neg this, if_neg h, if_neg h]
    have : ((field b : Int) + -1074 - 1 + 1074).toNat = field b - 1 := by omega
    rw [this]

theorem right_fin {b : Nat} (h : right b = true) : fin b := by
  unfold right at h; rw [decide_eq_true_eq] at h; exact h.1

theorem rnk_zero (neg up : Bool) : rnk neg 0 false up = 0 := by cases neg <;> cases up <;> decide

theorem V_sgn {b : Nat} (hb : W b) : V (dec b) = if sgn b then -(mag (b % 2 ^ 63) : Int) else (mag (b % 2 ^ 63) : Int) := V_dec hb.lt

/-- Of a sign that is right wherever there is something. -/
theorem fl_rnk {num : Int} {den : Nat} {neg up : Bool} (h : num ≠ 0 → neg = decide (num < 0)) : fl num den up = rnk neg (num.natAbs / den) (decide (num.natAbs % den ≠ 0)) up := by
  unfold fl
  by_cases h0 : num = 0
  · subst h0
    have e1 : (0 : Int).natAbs / den = 0 := by simp
    have e2 : (0 : Int).natAbs % den = 0 := by simp
    rw [e1, e2]
    have : decide ((0 : Nat) ≠ 0) = false := by decide
    rw [this, rnk_zero, rnk_zero]
  · rw [h h0]

theorem one_pos : 0 < one := by decide +kernel

theorem mul_out {a b : Nat} {up : Bool} (ha : W a) (hb : W b) (ra : right a = true) (rb : right b = true) :
    rnd (sgn a != sgn b) (pm a * pm b) false (pe a + pe b) up = dMul a b up := by
  have fa := right_fin ra
  have fb := right_fin rb
  unfold dMul mulR
  rw [ra, rb, if_pos (by decide)]
  have ba := pe_bounds a
  have bb := pe_bounds b
  have h1 : (V (dec a) * V (dec b)).natAbs = mag (a % 2 ^ 63) * mag (b % 2 ^ 63) := by
    rw [V_sgn ha, V_sgn hb, Int.natAbs_mul]
    congr 1
    · split <;> simp
    · split <;> simp
  have h2 : V (dec a) * V (dec b) ≠ 0 → (sgn a != sgn b) = decide (V (dec a) * V (dec b) < 0) := by
    intro h0
    rw [V_sgn ha, V_sgn hb] at h0 ⊢
    generalize mag (a % 2 ^ 63) = x at *
    generalize mag (b % 2 ^ 63) = y at *
    have hx : x ≠ 0 := by intro h; subst h; apply h0; cases sgn a <;> simp
    have hy : y ≠ 0 := by intro h; subst h; apply h0; cases sgn b <;> simp
    have hp : 0 < (x : Int) * y := Int.mul_pos (by omega) (by omega)
    cases sgn a <;> cases sgn b <;> simp only [if_true, Bool.false_eq_true, if_false, Int.neg_mul, Int.mul_neg, Int.neg_neg]
    · symm; simp; omega
    · symm; simp; omega
    · symm; simp; omega
    · symm; simp; omega
  rw [fl_rnk h2, h1]
  obtain ⟨S, hS, eS⟩ := one_pow
  refine rnd_eq (i := (pe a + 1074).toNat + (pe b + 1074).toNat) (j := S) one_pos (by omega) ?_ (by intro h; cases h)
  unfold Is
  rw [if_neg (by decide), mag_pm fa, mag_pm fb, eS, Nat.pow_add]
  clear hS eS
  generalize 2 ^ S = T
  rw [Nat.mul_mul_mul_comm (pm a) (pm b)]

theorem dMul_wrong {a b : Nat} {up : Bool} (h : right a = false ∨ right b = false) : dMul a b up = (0, 13) := by
  unfold dMul
  rcases h with h | h <;> simp [h]

end Go.Dy
