/- Plain facts for RayTells: squares, digit by digit (base 65536), and their carries. -/
import Derived.Test.YtakdeeknfcifpaaKb
namespace Go.Dy
/-- Carries from the last place to the first one. -/
def carry : List Nat → Nat
  | [] => 0
  | s :: l => s + carry l / 65536
/-- What places are worth, in units of the last one. -/
def worth : List Nat → Nat
  | [] => 0
  | s :: l => s * 65536 ^ l.length + worth l
theorem carry_worth : ∀ (s : Nat) (l : List Nat), carry (s :: l) = worth (s :: l) / 65536 ^ l.length
  | s, [] => by simp [carry, worth]
  | s, t :: l => by
    have h := carry_worth t l
    show s + carry (t :: l) / 65536 = (s * 65536 ^ (t :: l).length + worth (t :: l)) / 65536 ^ (t :: l).length
    have p : 0 < 65536 ^ (t :: l).length := Nat.pow_pos (by decide)
    rw [h, Nat.div_div_eq_div_mul, Nat.add_comm (s * _), Nat.add_mul_div_right _ _ p, Nat.add_comm]
    congr 1
/-- The first place, with all carries, is below 65536 just if all are worth less than one. -/
theorem carry_lt (s : Nat) (l : List Nat) : carry (s :: l) < 65536 ↔ worth (s :: l) < 65536 ^ (l.length + 1) := by
  have p : 0 < 65536 ^ l.length := Nat.pow_pos (by decide)
  rw [carry_worth, Nat.div_lt_iff_lt_mul p, Nat.pow_succ, Nat.mul_comm]
/-- A product of two digits: its high part, a place ahead, and its low part. -/
theorem parts (a k : Nat) : a / 65536 * 65536 ^ (k + 1) + a % 65536 * 65536 ^ k = a * 65536 ^ k := by
  have h := Nat.div_add_mod a 65536
  rw [Nat.pow_succ]
  calc a / 65536 * (65536 ^ k * 65536) + a % 65536 * 65536 ^ k = (65536 * (a / 65536) + a % 65536) * 65536 ^ k := by rw [Nat.add_mul]; congr 1; rw [Nat.mul_comm (65536 ^ k), ← Nat.mul_assoc, Nat.mul_comm (a / 65536)]
    _ = a * 65536 ^ k := by rw [h]
/-- What one place gains all are worth more. -/
theorem worth_set : ∀ (l : List Nat) (p d : Nat), p < l.length → worth (l.set p (l.getD p 0 + d)) = worth l + d * 65536 ^ (l.length - 1 - p)
  | [], p, d, h => by simp at h
  | s :: l, 0, d, _ => by
    show (s + d) * 65536 ^ l.length + worth l = s * 65536 ^ l.length + worth l + d * 65536 ^ ((l.length + 1) - 1 - 0)
    rw [Nat.add_mul, Nat.add_sub_cancel, Nat.sub_zero]; omega
  | s :: l, p + 1, d, h => by
    have h' : p < l.length := by simpa using h
    have ih := worth_set l p d h'
    show s * 65536 ^ (l.set p (l.getD p 0 + d)).length + worth (l.set p (l.getD p 0 + d)) = s * 65536 ^ l.length + worth l + d * 65536 ^ ((l.length + 1) - 1 - (p + 1))
    rw [ih, List.length_set, show l.length + 1 - 1 - (p + 1) = l.length - 1 - p by omega]; omega
/-- A product that is laid into two places: its low part behind, its high part ahead. -/
theorem worth_two {l : List Nat} {p : Nat} (a : Nat) (h : p + 1 < l.length) :
    worth ((l.set (p + 1) (l.getD (p + 1) 0 + a % 65536)).set p ((l.set (p + 1) (l.getD (p + 1) 0 + a % 65536)).getD p 0 + a / 65536)) = worth l + a * 65536 ^ (l.length - 1 - (p + 1)) := by
  rw [worth_set _ p _ (by rw [List.length_set]; omega), worth_set l (p + 1) _ h, List.length_set]
  have e : l.length - 1 - p = (l.length - 1 - (p + 1)) + 1 := by omega
  have := parts a (l.length - 1 - (p + 1))
  rw [e]; omega
/-- Seven digits of a number below 65536^7. -/
def dig (m i : Nat) : Nat := m / 65536 ^ (6 - i) % 65536
theorem digits7 {m : Nat} (h : m < 65536 ^ 7) : dig m 0 * 65536 ^ 6 + dig m 1 * 65536 ^ 5 + dig m 2 * 65536 ^ 4 + dig m 3 * 65536 ^ 3 + dig m 4 * 65536 ^ 2 + dig m 5 * 65536 + dig m 6 = m := by
  unfold dig
  simp only [Nat.sub_zero, Nat.reduceSub, Nat.reducePow] at *
  omega
end Go.Dy
namespace Go.Proofs.Ytakdeeknfcifpaa
end Go.Proofs.Ytakdeeknfcifpaa
