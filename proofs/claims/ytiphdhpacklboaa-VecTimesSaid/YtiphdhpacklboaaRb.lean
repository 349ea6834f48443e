/- Plain facts: how far a rounded result is from the real one. -/
import Derived.Test.YtiphdhpacklboaaRa
namespace Go.Dy

theorem mag_gap (r : Nat) : 2 ^ 52 * mag (r + 1) ≤ (2 ^ 52 + 1) * mag r + 2 ^ 52 := by
  rw [mag_succ]
  by_cases h : r < 2 ^ 52
  · rw [Nat.div_eq_of_lt h]; simp; omega
  · have h1 := mag_parts (r := r) (by omega)
    have h2 : 2 ^ 52 * 2 ^ (r / 2 ^ 52 - 1) ≤ mag r := by rw [h1]; exact Nat.mul_le_mul_right _ (Nat.le_add_right _ _)
    generalize 2 ^ (r / 2 ^ 52 - 1) = g at *
    omega
theorem V_gap_pos {z : Int} (h : 0 ≤ z) : 4503599627370496 * (V (z + 1) - V z) ≤ V z + 4503599627370496 := by
  have k := mag_gap z.toNat
  unfold V
  rw [if_pos (by omega), if_pos h, show (z + 1).toNat = z.toNat + 1 by omega]
  generalize mag (z.toNat + 1) = a at *
  generalize mag z.toNat = b at *
  omega
theorem V_gap_neg {z : Int} (h : z < 0) : 4503599627370496 * (V (z + 1) - V z) ≤ -V (z + 1) + 4503599627370496 := by
  have := V_gap_pos (z := -(z + 1)) (by omega)
  rw [show -(z + 1) + 1 = -z by omega, V_neg, V_neg] at this
  omega
/-- The step in 1, the least step. -/
def uu : Rat := 1 / 4503599627370496
def ee : Rat := 1 / S1
theorem gap_pos {z : Int} (h : 0 ≤ z) : val (z + 1) - val z ≤ val z * uu + ee := by
  have k := Rat.intCast_le_intCast.2 (V_gap_pos h)
  rw [Rat.intCast_mul, Rat.intCast_sub, Rat.intCast_add, ← val_mul, ← val_mul] at k
  have s := S1_pos
  have e : ee * S1 = 1 := Rat.div_mul_cancel (by grind)
  have k' : (val (z + 1) - val z) * S1 ≤ (val z * uu + ee) * S1 := by
    have u : uu * 4503599627370496 = 1 := by unfold uu; decide +kernel
    have k2 : (4503599627370496 : Rat) * (val (z + 1) * S1 - val z * S1) ≤ val z * S1 + 4503599627370496 := by simpa using k
    have u0 : 0 ≤ uu := by unfold uu; decide +kernel
    have t := Rat.mul_le_mul_of_nonneg_left k2 u0
    rw [← Rat.mul_assoc, u, Rat.one_mul, Rat.mul_add, u] at t
    rw [Rat.add_mul, e]
    grind
  exact Rat.le_of_mul_le_mul_right k' s
theorem gap_neg {z : Int} (h : z < 0) : val (z + 1) - val z ≤ -val (z + 1) * uu + ee := by
  have := gap_pos (z := -(z + 1)) (by omega)
  rw [show -(z + 1) + 1 = -z by omega, val_neg, val_neg] at this
  grind
/-- A number rounded down, up, is no further than that. -/
theorem near_dn {z : Int} {x M : Rat} (h1 : val z ≤ x) (h2 : x < val (z + 1)) (m1 : -M ≤ x) (m2 : x ≤ M) : x - (M * uu + ee) ≤ val z := by
  have u0 : 0 ≤ uu := by unfold uu; decide +kernel
  by_cases h : 0 ≤ z
  · have := gap_pos h
    have := Rat.mul_le_mul_of_nonneg_right (show val z ≤ M by grind) u0
    grind
  · have := gap_neg (z := z) (by omega)
    have := Rat.mul_le_mul_of_nonneg_right (show -val (z + 1) ≤ M by grind) u0
    grind
theorem near_up {z : Int} {x M : Rat} (h1 : x ≤ val z) (h2 : val (z - 1) < x) (m1 : -M ≤ x) (m2 : x ≤ M) : val z ≤ x + (M * uu + ee) := by
  have := near_dn (z := -z) (x := -x) (M := M) (by rw [val_neg]; grind) (by rw [show -z + 1 = -(z - 1) by omega, val_neg]; grind) (by grind) (by grind)
  rw [val_neg] at this
  grind

/-! Bounds and widths -/
/-- An interval's bounds, and how wide it is at most. -/
structure Bd (p : Int × Int) (L H w : Rat) : Prop where
  rk : Rk p
  lo : L ≤ val p.1
  hi : val p.2 ≤ H
  wd : val p.2 - val p.1 ≤ w
def big64 : Int := 5958262307011166208
theorem val_big : val big64 = 2037035976334486086268445688409378161051468393665936250636140449354381299763336706183397376 := by
  have h : V big64 = 2037035976334486086268445688409378161051468393665936250636140449354381299763336706183397376 * (one : Int) := by decide +kernel
  have s := S1_pos
  have n : S1 ≠ 0 := by grind
  unfold val
  rw [h, Rat.intCast_mul]
  show (2037035976334486086268445688409378161051468393665936250636140449354381299763336706183397376 : Int) * S1 / S1 = _
  rw [Rat.mul_div_cancel n]; rfl
theorem ok_val {z : Int} (h1 : -2037035976334486086268445688409378161051468393665936250636140449354381299763336706183397376 ≤ val z) (h2 : val z ≤ 2037035976334486086268445688409378161051468393665936250636140449354381299763336706183397376) : ok z := by
  rw [← val_big] at h1 h2
  rw [← val_neg] at h1
  have a := val_le.1 h1; have b := val_le.1 h2
  have t := top_eq
  exact ⟨by unfold big64 at a; omega, by unfold big64 at b; omega⟩
end Go.Dy
