/- Plain facts for RayTells: both squares, digit by digit, summed up with their carries. -/
import Derived.Test.YtakdeeknfcifpaaMR
namespace Go.Dy
/-- A step of the sum: the low parts, the high parts. -/
def lowS (l : List Nat) (p a b : Nat) : List Nat := l.set (p + 1) (l.getD (p + 1) 0 + a % 65536 + b % 65536)
def highS (l : List Nat) (p a b : Nat) : List Nat := l.set p (l.getD p 0 + a / 65536 + b / 65536)
theorem worth_both {l : List Nat} {p : Nat} (a b : Nat) (h : p + 1 < l.length) :
    worth (highS (lowS l p a b) p a b) = worth l + (a + b) * 65536 ^ (l.length - 1 - (p + 1)) := by
  unfold highS lowS
  rw [Nat.add_assoc, Nat.add_assoc, worth_set _ p _ (by rw [List.length_set]; omega), worth_set l (p + 1) _ h, List.length_set]
  have e : l.length - 1 - p = (l.length - 1 - (p + 1)) + 1 := by omega
  have p1 := parts a (l.length - 1 - (p + 1))
  have p2 := parts b (l.length - 1 - (p + 1))
  rw [e, Nat.add_mul a b, ← p1, ← p2, Nat.add_mul, Nat.add_mul]
  omega
theorem getD_set (l : List Nat) (p q v : Nat) : (l.set p v).getD q 0 = if p = q ∧ p < l.length then v else l.getD q 0 := by
  simp only [List.getD_eq_getElem?_getD, List.getElem?_set]
  by_cases h : p = q
  · subst h
    by_cases h2 : p < l.length
    · simp [h2]
    · simp [h2]
  · simp [h]
/-- What is summed up behind s steps. -/
def partS (D E : Nat → Nat) : Nat → Nat
  | 0 => 0
  | s + 1 => partS D E s + (D (s / 7) * D (s % 7) + E (s / 7) * E (s % 7)) * 65536 ^ (13 - (s / 7 + s % 7))
structure SumInv (D E : Nat → Nat) (s : Nat) (l : List Nat) : Prop where
  len : l.length = 15
  le : ∀ j, l.getD j 0 ≤ s * 131072
  w : worth l = partS D E s
theorem SumInv.zero (D E : Nat → Nat) : SumInv D E 0 (List.replicate 15 0) := by
  refine ⟨rfl, fun j => ?_, rfl⟩
  rw [List.getD_eq_getElem?_getD, List.getElem?_replicate]; split <;> simp
theorem prod_16 {a b : Nat} (ha : a < 65536) (hb : b < 65536) : a * b < 4294967296 := by
  have : a * b ≤ 65535 * 65535 := Nat.mul_le_mul (by omega) (by omega)
  omega
theorem SumInv.step {D E : Nat → Nat} {l : List Nat} {n m : Nat} (h : SumInv D E (7 * n + m) l) (hn : n < 7) (hm : m < 7) (hD : ∀ k, k < 7 → D k < 65536) (hE : ∀ k, k < 7 → E k < 65536) :
    SumInv D E (7 * n + (m + 1)) (highS (lowS l (n + m) (D n * D m) (E n * E m)) (n + m) (D n * D m) (E n * E m)) := by
  have d1 : (7 * n + m) / 7 = n := by omega
  have d2 : (7 * n + m) % 7 = m := by omega
  have hl := h.len
  refine ⟨?_, fun j => ?_, ?_⟩
  · unfold highS lowS; rw [List.length_set, List.length_set, hl]
  · unfold highS lowS
    have b1 := h.le j
    have b2 := h.le (n + m)
    have b3 := h.le (n + m + 1)
    have q1 := prod_16 (hD n hn) (hD m hm)
    have q2 := prod_16 (hE n hn) (hE m hm)
    generalize D n * D m = a at *
    generalize E n * E m = b at *
    have nn : ¬ (n + m + 1 = n + m ∧ n + m + 1 < 15) := by omega
    rw [getD_set, getD_set, getD_set, List.length_set, hl, if_neg nn]
    split
    · omega
    · split
      · clear h hD hE d1 d2 b1; omega
      · exact Nat.le_trans b1 (Nat.mul_le_mul_right _ (by omega))
  · rw [worth_both _ _ (by omega), h.w, ← Nat.add_assoc]
    show _ = partS D E (7 * n + m) + _
    rw [d1, d2, hl]
    have e : 15 - 1 - (n + m + 1) = 13 - (n + m) := by omega
    rw [e]
/-- What seven digits are worth. -/
def digS (D : Nat → Nat) : Nat := D 0 * 65536 ^ 6 + D 1 * 65536 ^ 5 + D 2 * 65536 ^ 4 + D 3 * 65536 ^ 3 + D 4 * 65536 ^ 2 + D 5 * 65536 + D 6
/-- All steps: the squares' sum. -/
theorem partS_all (D E : Nat → Nat) : partS D E 49 = (digS D * digS D + digS E * digS E) * 65536 := by
  simp only [partS, digS, Nat.reduceDiv, Nat.reduceMod, Nat.reduceAdd, Nat.reduceSub]
  generalize D 0 = d0
  generalize D 1 = d1
  generalize D 2 = d2
  generalize D 3 = d3
  generalize D 4 = d4
  generalize D 5 = d5
  generalize D 6 = d6
  generalize E 0 = c0
  generalize E 1 = c1
  generalize E 2 = c2
  generalize E 3 = c3
  generalize E 4 = c4
  generalize E 5 = c5
  generalize E 6 = c6
  generalize 65536 = B
  grind
theorem carry_le {M : Nat} : ∀ l : List Nat, (∀ j, l.getD j 0 ≤ M) → carry l ≤ 2 * M
  | [], _ => Nat.zero_le _
  | s :: l, h => by
    have a := carry_le l (fun j => h (j + 1))
    have b : s ≤ M := h 0
    show s + carry l / 65536 ≤ 2 * M
    omega
theorem carry_drop {l : List Nat} {i : Nat} (h : i < l.length) : carry (l.drop i) = l.getD i 0 + carry (l.drop (i + 1)) / 65536 := by
  rw [List.drop_eq_getElem_cons h]
  show _ + _ = _
  rw [List.getD_eq_getElem?_getD, List.getElem?_eq_getElem h]; rfl
theorem drop_le {l : List Nat} {M : Nat} (h : ∀ j, l.getD j 0 ≤ M) (i : Nat) : carry (l.drop i) ≤ 2 * M := carry_le _ fun j => by
  have := h (i + j)
  rw [List.getD_eq_getElem?_getD] at *
  rw [List.getElem?_drop]; exact this
/-- The carries' loop, at place i. -/
structure CarInv (l0 : List Nat) (i : Nat) (l : List Nat) : Prop where
  len : l.length = 15
  lo : ∀ j, j < i → l.getD j 0 = l0.getD j 0
  at_ : l.getD i 0 = carry (l0.drop i)
theorem CarInv.start {l0 : List Nat} (h : l0.length = 15) : CarInv l0 14 l0 := by
  refine ⟨h, fun _ _ => rfl, ?_⟩
  rw [carry_drop (by omega), List.drop_of_length_le (by omega)]; rfl
theorem CarInv.step {l0 l : List Nat} {i : Nat} (h0 : l0.length = 15) (h : CarInv l0 (i + 1) l) (hi : i < 14) : CarInv l0 i (l.set i (l.getD i 0 + l.getD (i + 1) 0 / 65536)) := by
  have hl := h.len
  refine ⟨by rw [List.length_set, hl], fun j hj => ?_, ?_⟩
  · rw [getD_set, if_neg (by omega)]; exact h.lo j (by omega)
  · rw [getD_set, if_pos (by omega), h.lo i (by omega), h.at_, carry_drop (l := l0) (i := i) (by omega)]
/-- Of two numbers' digits: the sum of the squares is below 1 just if the first place stays below 65536. -/
theorem squares_lt {X Y : Nat} {D E : Nat → Nat} {l0 l : List Nat} (s : SumInv D E 49 l0) (c : CarInv l0 0 l)
    (hA : mag X * 65536 ^ 7 = digS D * one)
    (hB : mag Y * 65536 ^ 7 = digS E * one) :
    decide (l.getD 0 0 < 65536) = decide (mag X * mag X + mag Y * mag Y < one * one) := by
  have hl := s.len
  have e := c.at_
  rw [List.drop_zero] at e
  rw [e, Bool.eq_iff_iff]
  simp only [decide_eq_true_eq]
  obtain ⟨a, t, rfl⟩ : ∃ a t, l0 = a :: t := by
    cases l0 with
    | nil => simp at hl
    | cons a t => exact ⟨a, t, rfl⟩
  have ht : t.length = 14 := by simpa using hl
  rw [carry_lt, s.w, partS_all, ht]
  generalize digS D = P at *
  generalize digS E = Q at *
  have p := one_gt
  generalize mag X = x at *
  generalize mag Y = y at *
  generalize one = O at *
  obtain ⟨K, hK⟩ : ∃ K, K = 65536 ^ 7 := ⟨_, rfl⟩
  have e15 : 65536 ^ (14 + 1) = K * K * 65536 := by rw [hK]
  have k0 : 0 < K := by rw [hK]; decide
  rw [e15]
  rw [← hK] at hA hB
  clear e15 hK
  have e1 : (x * x + y * y) * (K * K) = (P * P + Q * Q) * (O * O) := by
    have a1 : x * x * (K * K) = P * P * (O * O) := by
      rw [Nat.mul_mul_mul_comm, hA, Nat.mul_mul_mul_comm]
    have a2 : y * y * (K * K) = Q * Q * (O * O) := by
      rw [Nat.mul_mul_mul_comm, hB, Nat.mul_mul_mul_comm]
    rw [Nat.add_mul, Nat.add_mul, a1, a2]
  have o0 : 0 < O * O := Nat.mul_pos p p
  have kk : 0 < K * K := Nat.mul_pos k0 k0
  generalize x * x + y * y = S at *
  generalize P * P + Q * Q = T at *
  generalize K * K = k at *
  generalize O * O = o at *
  constructor
  · intro h
    have h1 : T < k := Nat.lt_of_mul_lt_mul_right h
    refine Nat.lt_of_mul_lt_mul_right (a := k) ?_
    rw [e1, Nat.mul_comm o]
    exact Nat.mul_lt_mul_of_pos_right h1 o0
  · intro h
    refine Nat.mul_lt_mul_of_pos_right ?_ (by omega)
    refine Nat.lt_of_mul_lt_mul_right (a := o) ?_
    rw [← e1, Nat.mul_comm k]
    exact Nat.mul_lt_mul_of_pos_right h kk
end Go.Dy
namespace Go.Proofs.Ytakdeeknfcifpaa
end Go.Proofs.Ytakdeeknfcifpaa
