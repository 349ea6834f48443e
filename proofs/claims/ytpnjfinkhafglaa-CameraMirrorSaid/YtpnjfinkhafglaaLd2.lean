/- Plain facts: a whole number of the other sign by another one; the law CameraMirror (under way). -/
import Derived.Test.YtpnjfinkhafglaaLd1
import Derived.Test.YtpnjfinkhafglaaLc2
namespace Go.Proofs.Ytpnjfinkhafglaa
open Go Go.RowKit
set_option linter.unusedSimpArgs false
set_option linter.unusedVariables false
theorem minus_minus {x : Nat} (h : Dy.W x) (r : Dy.right x = true) : Dy.minus (Dy.minus x) = x := by
  unfold Dy.W at h
  unfold Dy.right at r
  rw [decide_eq_true_eq] at r
  have tp := Dy.top_eq
  unfold Dy.minus
  by_cases h0 : x = 0
  · subst h0; rfl
  · by_cases h1 : x < 2 ^ 63
    · rw [if_neg h0, if_pos h1, if_neg (by omega), if_neg (by omega)]; omega
    · rw [if_neg h0, if_neg h1, if_neg (by omega), if_pos (by omega)]; omega
theorem part_neg {n : Int} {m : Nat} (h1 : n.natAbs ≤ m) (h2 : 1 ≤ m) (h3 : m ≤ 65536) : partF (-n) m = Dy.minus (partF n m) := by
  unfold partF
  rw [Int.natAbs_neg]
  rcases Int.lt_trichotomy n 0 with h | h | h
  · rw [if_neg (by omega), if_pos h, minus_minus (show Dy.W (part0 n.natAbs m) from Dy.dDiv_W _ _ _) (right_part _ _)]
  · subst h
    obtain ⟨z, oz, z0, z1, e, k⟩ := Dy.part_rank (k := 0) (m := m) (by omega) h2 h3
    have e' : part0 0 m = Dy.enc z := e
    have hz : z = 0 := by
      rcases Int.lt_or_le 0 z with h | h
      · have h4 := (k 1).1 (by omega)
        have h5 : Dy.V 0 < Dy.V 1 := Dy.V_lt (by omega)
        rw [Dy.V_zero] at h5
        have h6 := Int.mul_pos h5 (show (0 : Int) < m by omega)
        omega
      · omega
    rw [if_neg (by decide), if_neg (by decide)]
    show part0 0 m = Dy.minus (part0 0 m)
    rw [e', hz]; rfl
  · rw [if_pos (by omega), if_neg (by omega)]
theorem right_partF (n : Int) (m : Nat) : Dy.right (partF n m) = true := by
  unfold partF
  split
  · exact (Dy.minus_dec (show Dy.W (part0 n.natAbs m) from Dy.dDiv_W _ _ _) (right_part _ _)).1
  · exact right_part _ _
/-- What is looked at from turned points. -/
theorem same_neg {x y x' y' : Nat} (mx : Dy.may x = true) (my : Dy.may y = true) (wx : Dy.W x) (wy : Dy.W y) (hx : x' = x ∨ x' = Dy.minus x) (hy : y' = y ∨ y' = Dy.minus y) : Dy.SameHit x y x' y' := by
  have rx := (Dy.may_right mx).1
  have ry := (Dy.may_right my).1
  obtain ⟨ax, bx, _⟩ := Dy.minus_dec wx rx
  obtain ⟨ay, b2, _⟩ := Dy.minus_dec wy ry
  refine Dy.same_sign mx my ?_ ?_ ?_ ?_
  · rcases hx with rfl | rfl <;> assumption
  · rcases hy with rfl | rfl <;> assumption
  · rcases hx with rfl | rfl
    · rfl
    · rw [bx]; omega
  · rcases hy with rfl | rfl
    · rfl
    · rw [b2]; omega
end Go.Proofs.Ytpnjfinkhafglaa
