/-
  Plain facts: the long division of math/bits.Div64; quotients by their parts.
-/
import Derived.Test.YtfjomcbbgnaaiaaDyK
namespace Go.Dy

theorem mul_parts (q y : Nat) : q * y = q * (y / 4294967296) * 4294967296 + q * (y % 4294967296) := by
  rw [Nat.mul_assoc, ← Nat.mul_add, Nat.mul_comm (y / 4294967296), Nat.div_add_mod]

/-- One digit of the division, to the base 2^32: the guess is not less than the digit, nor more than it by two. -/
theorem guess {h u y : Nat} (hy : 9223372036854775808 ≤ y) (hy2 : y < 18446744073709551616) (hh : h < y) (hu : u < 4294967296) :
    (h * 4294967296 + u) / y ≤ h / (y / 4294967296) ∧ h / (y / 4294967296) ≤ 4294967297 := by
  have hp : 0 < y / 4294967296 := by omega
  have hyy := Nat.div_add_mod y 4294967296
  have hm := Nat.mod_lt y (show 0 < 4294967296 by omega)
  constructor
  · rw [Nat.le_div_iff_mul_le hp]
    have h1 : (h * 4294967296 + u) / y * y ≤ h * 4294967296 + u := Nat.div_mul_le_self _ _
    generalize (h * 4294967296 + u) / y = q at *
    have h2 : q * y = q * (y / 4294967296) * 4294967296 + q * (y % 4294967296) := mul_parts q y
    generalize q * (y % 4294967296) = z at *
    generalize q * (y / 4294967296) = v at *
    omega
  · have : h / (y / 4294967296) < 4294967298 := by
      rw [Nat.div_lt_iff_lt_mul hp]; omega
    omega

/-- The test: where the guess is too great it says so, and only there. -/
theorem guess_test {h u y Q R : Nat} (hy : 9223372036854775808 ≤ y) (hh : h < y) (hu : u < 4294967296) (hQ : Q * (y / 4294967296) + R = h) :
    ((4294967296 ≤ Q ∨ 4294967296 * R + u < Q * (y % 4294967296)) → (h * 4294967296 + u) / y < Q) ∧
    (¬ (4294967296 ≤ Q ∨ 4294967296 * R + u < Q * (y % 4294967296)) → Q ≤ (h * 4294967296 + u) / y) := by
  have hp : 0 < y := by omega
  have hyy := Nat.div_add_mod y 4294967296
  have h2 : Q * y = Q * (y / 4294967296) * 4294967296 + Q * (y % 4294967296) := mul_parts Q y
  constructor
  · intro ht
    rw [Nat.div_lt_iff_lt_mul hp]
    rcases ht with ht | ht
    · have : 4294967296 * y ≤ Q * y := Nat.mul_le_mul_right _ ht
      omega
    · rw [h2]
      generalize Q * (y % 4294967296) = z at *
      generalize Q * (y / 4294967296) = v at *
      omega
  · intro ht
    rw [Nat.le_div_iff_mul_le hp, h2]
    generalize Q * (y % 4294967296) = z at *
    generalize Q * (y / 4294967296) = v at *
    omega

/-- Where the rest has grown beyond the base the guess is right. -/
theorem guess_stop {h u y Q R : Nat} (hy : 9223372036854775808 ≤ y) (hQ : Q * (y / 4294967296) + R = h) (hR : 4294967296 ≤ R) (hQ2 : Q ≤ 4294967296) :
    Q ≤ (h * 4294967296 + u) / y := by
  have hp : 0 < y := by omega
  have hyy := Nat.div_add_mod y 4294967296
  have hm := Nat.mod_lt y (show 0 < 4294967296 by omega)
  have h2 : Q * y = Q * (y / 4294967296) * 4294967296 + Q * (y % 4294967296) := mul_parts Q y
  have h3 : Q * (y % 4294967296) ≤ 4294967296 * 4294967296 := Nat.mul_le_mul hQ2 (Nat.le_of_lt hm)
  rw [Nat.le_div_iff_mul_le hp, h2]
  generalize Q * (y % 4294967296) = z at *
  generalize Q * (y / 4294967296) = v at *
  omega

/-- The whole division by two digits. -/
theorem two_digits {h l y : Nat} (hy : 0 < y) :
    (h * 18446744073709551616 + l) / y = (h * 4294967296 + l / 4294967296) / y * 4294967296 + ((h * 4294967296 + l / 4294967296) % y * 4294967296 + l % 4294967296) / y ∧
    (h * 18446744073709551616 + l) % y = ((h * 4294967296 + l / 4294967296) % y * 4294967296 + l % 4294967296) % y := by
  have e1 := Nat.div_add_mod l 4294967296
  have e2 := Nat.div_add_mod (h * 4294967296 + l / 4294967296) y
  have e3 : h * 18446744073709551616 + l = y * ((h * 4294967296 + l / 4294967296) / y * 4294967296) + ((h * 4294967296 + l / 4294967296) % y * 4294967296 + l % 4294967296) := by
    rw [← Nat.mul_assoc]
    generalize y * ((h * 4294967296 + l / 4294967296) / y) = A at *
    omega
  rw [e3]
  constructor
  · rw [Nat.mul_add_div hy]
  · rw [Nat.mul_add_mod]

/-- The quotient and the rest of two words by one. -/
def quo64 (h l y : Nat) : Nat := (h * 18446744073709551616 + l) / y
def rem64 (h l y : Nat) : Nat := (h * 18446744073709551616 + l) % y

end Go.Dy
