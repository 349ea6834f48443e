/- Plain facts: the number of middles within a circle; the law CameraHits. -/
import Derived.Test.YtpnjfinkhafglaaLd5
namespace Go.Dy
theorem no_circle {m : Nat} {i j : Int} : (2 * i + 1 - m) * (2 * i + 1 - m) + ((m : Int) - 1 - 2 * j) * ((m : Int) - 1 - 2 * j) ≠ m * m := by
  intro h
  have e1 : ((m : Int) - 1 - 2 * j) * ((m : Int) - 1 - 2 * j) = (2 * j + 1 - m) * (2 * j + 1 - m) := by grind
  rw [e1] at h
  obtain ⟨u, hu⟩ : ∃ u : Nat, m = 2 * u ∨ m = 2 * u + 1 := ⟨m / 2, by omega⟩
  rcases hu with hu | hu
  all_goals
    subst hu
    push_cast at h
  · have k1 : (2 * i + 1 - 2 * (u : Int)) * (2 * i + 1 - 2 * u) = 4 * ((i - u) * (i - u) + (i - u)) + 1 := by grind
    have k2 : (2 * j + 1 - 2 * (u : Int)) * (2 * j + 1 - 2 * u) = 4 * ((j - u) * (j - u) + (j - u)) + 1 := by grind
    have k3 : 2 * (u : Int) * (2 * u) = 4 * (u * u) := by grind
    omega
  · have k1 : (2 * i + 1 - (2 * (u : Int) + 1)) * (2 * i + 1 - (2 * u + 1)) = 4 * ((i - u) * (i - u)) := by grind
    have k2 : (2 * j + 1 - (2 * (u : Int) + 1)) * (2 * j + 1 - (2 * u + 1)) = 4 * ((j - u) * (j - u)) := by grind
    have k3 : (2 * (u : Int) + 1) * (2 * u + 1) = 4 * (u * u + u) + 1 := by grind
    omega
end Go.Dy
namespace Go.Proofs.Ytpnjfinkhafglaa
open Go Go.RowKit
set_option linter.unusedSimpArgs false
set_option linter.unusedVariables false
/-- Is a middle within the circle? -/
def circ (s a b : Nat) : Bool := decide ((2 * (a : Int) + 1 - s) * (2 * (a : Int) + 1 - s) + (2 * (b : Int) + 1 - s) * (2 * (b : Int) + 1 - s) < (s : Int) * s)
theorem circ_comm (s a b : Nat) : circ s a b = circ s b a := by unfold circ; rw [Int.add_comm]
theorem seen_circ {s i j : Nat} (hi : i < s) (hj : j < s) (h2 : s ≤ 256) : (lookF s i j).2.1 = circ s i j := by
  have h := Dy.hit_iff (k := 2 * (i : Int) + 1 - s) (l := (s : Int) - 1 - 2 * j) (m := s) (by omega) (by omega) h2 Dy.no_circle
  show Dy.hits _ _ = _
  rw [h]
  unfold circ
  have e : ((s : Int) - 1 - 2 * j) * ((s : Int) - 1 - 2 * j) = (2 * (j : Int) + 1 - s) * (2 * (j : Int) + 1 - s) := by grind
  rw [e]
theorem seen_pxl {s k : Nat} (h1 : k < s * s) (h2 : s ≤ 256) : seenP s (pxl s k) = circ s (k % s) (k / s) := by
  have s0 : 0 < s := by rcases Nat.eq_zero_or_pos s with h | h; · subst h; omega
                        · exact h
  have m1 : k % s < s := Nat.mod_lt _ s0
  have m2 : k / s < s := (Nat.div_lt_iff_lt_mul s0).2 h1
  have e1 : k % s % 256 = k % s := Nat.mod_eq_of_lt (by omega)
  have e2 : k / s % 256 = k / s := Nat.mod_eq_of_lt (by omega)
  unfold seenP pxl
  show (decide (k % s % 256 < s ∧ k / s % 256 < s) && (lookF s ((k % s % 256 : Nat) : Int) ((k / s % 256 : Nat) : Int)).2.1) = _
  rw [e1, e2, decide_eq_true ⟨m1, m2⟩, Bool.true_and, seen_circ m1 m2 h2]
def rowN (s a b : Nat) : Nat := (List.range b).countP (circ s a)
theorem rowN_succ (s a b : Nat) : rowN s a (b + 1) = rowN s a b + (if circ s a b = true then 1 else 0) := by
  unfold rowN; rw [List.range_succ, List.countP_append, List.countP_singleton]
theorem rowN_le (s a b : Nat) : rowN s a b ≤ b := by
  have := List.countP_le_length (p := circ s a) (l := List.range b)
  rw [List.length_range] at this; exact this
def wantN (s : Nat) : Nat → Nat
  | 0 => 0
  | a + 1 => wantN s a + rowN s a s
theorem wantN_le (s : Nat) : ∀ a, wantN s a ≤ a * s
  | 0 => by unfold wantN; omega
  | a + 1 => by
    have h1 := wantN_le s a
    have h2 := rowN_le s a s
    unfold wantN; rw [Nat.add_mul]; omega
theorem count_rows (s : Nat) (s0 : 0 < s) : ∀ r, (List.range (s * r)).countP (fun k => circ s (k % s) (k / s)) = wantN s r
  | 0 => by rw [Nat.mul_zero]; rfl
  | r + 1 => by
    rw [Nat.mul_succ, List.range_add, List.countP_append, count_rows s s0 r, List.countP_map]
    show _ = wantN s r + rowN s r s
    unfold rowN
    congr 1
    refine List.countP_congr fun i hi => ?_
    have hi' := List.mem_range.1 hi
    have e1 : (s * r + i) % s = i := by rw [Nat.mul_add_mod, Nat.mod_eq_of_lt hi']
    have e2 : (s * r + i) / s = r := by rw [Nat.mul_add_div s0, Nat.div_eq_of_lt hi', Nat.add_zero]
    show (circ s ((s * r + i) % s) ((s * r + i) / s) = true) ↔ _
    rw [e1, e2, circ_comm]
theorem hitsN_want {s : Nat} (s0 : 0 < s) (h2 : s ≤ 256) : hitsN s = wantN s s := by
  rw [← count_rows s s0 s]
  unfold hitsN pixN
  rw [List.countP_map]
  refine List.countP_congr fun k hk => ?_
  show (seenP s (pxl s k) = true) ↔ _
  rw [seen_pxl (List.mem_range.1 hk) h2]
theorem cnt_iv {lo hi : Nat} (h : lo ≤ hi) : ∀ n, (List.range n).countP (fun b => decide (lo ≤ b ∧ b < hi)) = min hi n - min lo n
  | 0 => by simp
  | n + 1 => by
    rw [List.range_succ, List.countP_append, cnt_iv h n, List.countP_singleton]
    by_cases c : lo ≤ n ∧ n < hi
    · rw [if_pos (decide_eq_true c)]; omega
    · rw [if_neg (by simpa using c)]; omega
def fastR (s a : Nat) : Nat :=
  let x := (2 * a + 1 - s) + (s - (2 * a + 1))
  let t := Dy.isq (s * s - x * x - 1)
  (s + t + 1) / 2 - (s - t) / 2
def fastW (s : Nat) : Nat → Nat
  | 0 => 0
  | a + 1 => fastW s a + fastR s a
theorem fast_row {s a : Nat} (ha : a < s) : rowN s a s = fastR s a := by
  obtain ⟨x, hx⟩ : ∃ x, (2 * a + 1 - s) + (s - (2 * a + 1)) = x := ⟨_, rfl⟩
  have xs : x < s := by omega
  have xx : x * x < s * s := Nat.mul_lt_mul_of_lt_of_le xs (Nat.le_of_lt xs) (by omega)
  have ex : (2 * (a : Int) + 1 - s) * (2 * (a : Int) + 1 - s) = (x : Int) * x := by
    rcases Int.lt_or_le (2 * (a : Int) + 1 - s) 0 with h | h
    · have e : (2 * (a : Int) + 1 - s) = -(x : Int) := by omega
      rw [e, Int.neg_mul_neg]
    · have e : (2 * (a : Int) + 1 - s) = (x : Int) := by omega
      rw [e]
  obtain ⟨t, ht⟩ : ∃ t, Dy.isq (s * s - x * x - 1) = t := ⟨_, rfl⟩
  have tl : ∀ y : Nat, y ≤ t ↔ y * y ≤ s * s - x * x - 1 := fun y => by rw [← ht]; exact Dy.le_isq
  have ts : t < s := by
    rcases Nat.lt_or_ge t s with h | h
    · exact h
    · have := (tl s).1 h
      have s0 : 0 < s * s := Nat.mul_pos (by omega) (by omega)
      omega
  have P : ∀ b : Nat, circ s a b = decide ((s - t) / 2 ≤ b ∧ b < (s + t + 1) / 2) := fun b => by
    obtain ⟨y, hy⟩ : ∃ y : Nat, (2 * (b : Int) + 1 - s).natAbs = y := ⟨_, rfl⟩
    have ey : (2 * (b : Int) + 1 - s) * (2 * (b : Int) + 1 - s) = ((y * y : Nat) : Int) := by rw [← hy]; exact (Int.natAbs_mul_self (a := _)).symm
    unfold circ
    rw [ex, ey, Bool.eq_iff_iff, decide_eq_true_eq, decide_eq_true_eq, ← Int.natCast_mul, ← Int.natCast_mul]
    have h1 := tl y
    constructor
    · intro h
      have : y ≤ t := h1.2 (by omega)
      omega
    · intro h
      have := h1.1 (by omega)
      omega
  unfold rowN fastR
  rw [hx]
  dsimp only
  rw [ht, show circ s a = (fun b => decide ((s - t) / 2 ≤ b ∧ b < (s + t + 1) / 2)) from funext P, cnt_iv (by omega)]
  omega
theorem fast_want (s : Nat) : ∀ a, a ≤ s → wantN s a = fastW s a
  | 0, _ => rfl
  | a + 1, h => by unfold wantN fastW; rw [fast_want s a (by omega), fast_row (by omega)]
end Go.Proofs.Ytpnjfinkhafglaa
