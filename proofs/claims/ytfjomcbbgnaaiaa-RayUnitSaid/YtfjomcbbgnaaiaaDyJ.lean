/-
  Plain facts: sums by their parts; the next one.
-/
import Derived.Test.YtfjomcbbgnaaiaaDyI
namespace Go.Dy

theorem sgn_of {p : Bool} {S : Int} {X : Nat} (hS : S = if p then -(X : Int) else (X : Int)) : S.natAbs = X ∧ (S ≠ 0 → p = decide (S < 0)) := by
  subst hS
  cases p
  · refine ⟨by simp, fun _ => ?_⟩
    symm; rw [decide_eq_false_iff_not]; simp
  · refine ⟨by simp, fun h => ?_⟩
    symm; rw [decide_eq_true_eq]; simp at h ⊢; omega

theorem blen_ge {N : Nat} (h : 4503599627370496 ≤ N) : 53 ≤ blen N := lt_blen.2 h

section
variable {p q : Bool} {m n : Nat} {e f : Int} {up : Bool}

/-- What is given of two numbers, the greater one first. -/
structure Two (m n : Nat) (e f : Int) : Prop where
  hm : m < 2 ^ 53
  hn : n < 2 ^ 53
  he : -1074 ≤ e
  he2 : e ≤ 972
  hf : -1074 ≤ f
  hfe : f ≤ e
  same : f = e → n ≤ m
  norm : -1074 < e → 2 ^ 52 ≤ m

theorem Two.le (h : Two m n e f) : n * 2 ^ (f + 1074).toNat ≤ m * 2 ^ (e + 1074).toNat := by
  obtain ⟨h1, h2, h3, h4, h5, h6, h7, h8⟩ := h
  by_cases hfe : f = e
  · subst hfe; exact Nat.mul_le_mul_right _ (h7 rfl)
  · have a1 := h8 (by omega)
    have e1 : (e + 1074).toNat = 1 + ((e + 1074).toNat - (f + 1074).toNat - 1) + (f + 1074).toNat := by omega
    rw [e1, Nat.pow_add, Nat.pow_add, ← Nat.mul_assoc]
    refine Nat.mul_le_mul_right _ ?_
    have a2 : 1 ≤ 2 ^ ((e + 1074).toNat - (f + 1074).toNat - 1) := Nat.two_pow_pos _
    have a3 : m * (2 ^ 1 * 1) ≤ m * (2 ^ 1 * 2 ^ ((e + 1074).toNat - (f + 1074).toNat - 1)) := Nat.mul_le_mul_left _ (Nat.mul_le_mul_left _ a2)
    omega

/-- The lesser one, by the place of the greater one less 64. -/
def low (n d : Nat) : Nat := n * 2 ^ 64 / 2 ^ d

theorem low_eq (n d : Nat) : n * 2 ^ 64 = low n d * 2 ^ d + n * 2 ^ 64 % 2 ^ d := by
  unfold low; rw [Nat.mul_comm (n * 2 ^ 64 / 2 ^ d)]; exact (Nat.div_add_mod _ _).symm

theorem Two.scaled (h : Two m n e f) : n * 2 ^ (f + 1074).toNat * 2 ^ 64 = low n (e - f).toNat * 2 ^ (e + 1074).toNat + n * 2 ^ 64 % 2 ^ (e - f).toNat * 2 ^ (f + 1074).toNat ∧
    n * 2 ^ 64 % 2 ^ (e - f).toNat * 2 ^ (f + 1074).toNat < 2 ^ (e + 1074).toNat := by
  have h5 := h.hf; have h6 := h.hfe
  have e1 : (e + 1074).toNat = (e - f).toNat + (f + 1074).toNat := by omega
  rw [e1]
  have hx := Nat.mod_lt (n * 2 ^ 64) (Nat.two_pow_pos (e - f).toNat)
  have hl := low_eq n (e - f).toNat
  rw [Nat.mul_right_comm]
  generalize (e - f).toNat = d at *
  generalize (f + 1074).toNat = b at *
  generalize n * 2 ^ 64 % 2 ^ d = x at *
  refine ⟨?_, ?_⟩
  · rw [hl, Nat.add_mul, Nat.pow_add, Nat.mul_assoc]
  · rw [Nat.pow_add]; exact Nat.mul_lt_mul_of_pos_right hx (Nat.two_pow_pos _)

theorem lost_far {n d : Nat} (h : lost (n * 2 ^ 64) d = true) : 64 < d := by
  unfold lost at h
  rw [decide_eq_true_eq] at h
  apply Nat.lt_of_not_le
  intro hd
  apply h
  have : 2 ^ 64 = 2 ^ (64 - d) * 2 ^ d := pow_split hd
  rw [this, ← Nat.mul_assoc]
  exact Nat.mul_mod_left _ _

theorem low_far {n d : Nat} (hn : n < 2 ^ 53) (hd : 64 < d) : low n d < 2 ^ 52 := by
  unfold low
  rw [Nat.div_lt_iff_lt_mul (Nat.two_pow_pos _)]
  have : 2 ^ 65 ≤ 2 ^ d := Nat.pow_le_pow_right (by omega) hd
  have h2 : 2 ^ 52 * 2 ^ 65 ≤ 2 ^ 52 * 2 ^ d := Nat.mul_le_mul_left _ this
  omega

theorem Two.same_out (h : Two m n e f) {S : Int} (hS : S = if p then -((m * 2 ^ (e + 1074).toNat + n * 2 ^ (f + 1074).toNat : Nat) : Int) else ((m * 2 ^ (e + 1074).toNat + n * 2 ^ (f + 1074).toNat : Nat) : Int)) :
    rnd p (m * 2 ^ 64 + low n (e - f).toNat) (lost (n * 2 ^ 64) (e - f).toNat) (e - 64) up = out (fl S 1 up) up := by
  obtain ⟨s1, s2⟩ := h.scaled
  obtain ⟨hl, hs⟩ := sgn_of hS
  rw [fl_rnk hs, hl]
  have h3 := h.he
  refine rnd_eq (i := (e + 1074).toNat) (j := 64) (by omega) (by omega) ?_ ?_
  · unfold Is
    rw [Nat.mul_one, Nat.mul_one, Nat.add_mul, Nat.add_mul, Nat.add_mul, Nat.add_mul, Nat.one_mul, s1]
    obtain ⟨A, hA⟩ : ∃ A, A = m * 2 ^ (e + 1074).toNat * 2 ^ 64 := ⟨_, rfl⟩
    obtain ⟨B, hB⟩ : ∃ B, B = low n (e - f).toNat * 2 ^ (e + 1074).toNat := ⟨_, rfl⟩
    have hx : lost (n * 2 ^ 64) (e - f).toNat = true ↔ 0 < n * 2 ^ 64 % 2 ^ (e - f).toNat * 2 ^ (f + 1074).toNat := by
      unfold lost
      rw [decide_eq_true_eq]
      constructor
      · intro h0; exact Nat.mul_pos (Nat.pos_of_ne_zero h0) (Nat.two_pow_pos _)
      · intro h0 h1; rw [h1, Nat.zero_mul] at h0; omega
    obtain ⟨X, hX⟩ : ∃ X, X = n * 2 ^ 64 % 2 ^ (e - f).toNat * 2 ^ (f + 1074).toNat := ⟨_, rfl⟩
    obtain ⟨Y, hY⟩ : ∃ Y, Y = 2 ^ (e + 1074).toNat := ⟨_, rfl⟩
    rw [← hX] at hx s2
    rw [← hY] at s2
    rw [Nat.mul_right_comm m]
    rw [← hX, ← hB, ← hA, ← hY]
    clear hA hB hX hY s1 hl hS
    split
    · rename_i hlo
      have := hx.1 hlo
      omega
    · rename_i hlo
      have : ¬ 0 < X := fun h0 => hlo (hx.2 h0)
      omega
  · intro hlo
    left
    have hd := lost_far hlo
    have hn1 := h.norm (by have := h.hf; omega)
    have hn2 : 2 ^ 52 * 2 ^ 64 ≤ m * 2 ^ 64 := Nat.mul_le_mul_right _ hn1
    obtain ⟨A, hA⟩ : ∃ A, A = m * 2 ^ 64 := ⟨_, rfl⟩
    rw [← hA] at hn2 ⊢
    clear s1 s2 hl hS hA
    exact blen_ge (by omega)

theorem Two.diff_facts (h : Two m n e f) : low n (e - f).toNat ≤ m * 2 ^ 64 ∧ (lost (n * 2 ^ 64) (e - f).toNat = true → low n (e - f).toNat < m * 2 ^ 64) ∧
    (lost (n * 2 ^ 64) (e - f).toNat = true ↔ 0 < n * 2 ^ 64 % 2 ^ (e - f).toNat * 2 ^ (f + 1074).toNat) := by
  obtain ⟨s1, s2⟩ := h.scaled
  have hle := Nat.mul_le_mul_right (2 ^ 64) h.le
  rw [s1, Nat.mul_right_comm] at hle
  have hx : lost (n * 2 ^ 64) (e - f).toNat = true ↔ 0 < n * 2 ^ 64 % 2 ^ (e - f).toNat * 2 ^ (f + 1074).toNat := by
    unfold lost
    rw [decide_eq_true_eq]
    constructor
    · intro h0; exact Nat.mul_pos (Nat.pos_of_ne_zero h0) (Nat.two_pow_pos _)
    · intro h0 h1; rw [h1, Nat.zero_mul] at h0; omega
  refine ⟨?_, ?_, hx⟩
  · exact Nat.le_of_mul_le_mul_right (Nat.le_trans (Nat.le_add_right _ _) hle) (Nat.two_pow_pos _)
  · intro hlo
    have h0 := hx.1 hlo
    exact Nat.lt_of_mul_lt_mul_right (a := 2 ^ (e + 1074).toNat) (by omega)

theorem Two.diff_out (h : Two m n e f) {S : Int} (hS : S = if p then -((m * 2 ^ (e + 1074).toNat - n * 2 ^ (f + 1074).toNat : Nat) : Int) else ((m * 2 ^ (e + 1074).toNat - n * 2 ^ (f + 1074).toNat : Nat) : Int)) (hlo : lost (n * 2 ^ 64) (e - f).toNat = false) :
    rnd p (m * 2 ^ 64 - low n (e - f).toNat) false (e - 64) up = out (fl S 1 up) up := by
  obtain ⟨s1, s2⟩ := h.scaled
  obtain ⟨d1, d2, d3⟩ := h.diff_facts
  obtain ⟨hl, hs⟩ := sgn_of hS
  rw [fl_rnk hs, hl]
  have h3 := h.he
  have hle := h.le
  refine rnd_eq (i := (e + 1074).toNat) (j := 64) (by omega) (by omega) ?_ (by intro h0; cases h0)
  unfold Is
  rw [if_neg (by decide), Nat.mul_one, Nat.sub_mul, Nat.sub_mul, Nat.mul_right_comm m, s1]
  have : ¬ 0 < n * 2 ^ 64 % 2 ^ (e - f).toNat * 2 ^ (f + 1074).toNat := fun h0 => by
    have := d3.2 h0; rw [hlo] at this; cases this
  omega

theorem Two.less_out (h : Two m n e f) {S : Int} (hS : S = if p then -((m * 2 ^ (e + 1074).toNat - n * 2 ^ (f + 1074).toNat : Nat) : Int) else ((m * 2 ^ (e + 1074).toNat - n * 2 ^ (f + 1074).toNat : Nat) : Int)) (hlo : lost (n * 2 ^ 64) (e - f).toNat = true) :
    rnd p (m * 2 ^ 64 - low n (e - f).toNat - 1) true (e - 64) up = out (fl S 1 up) up := by
  obtain ⟨s1, s2⟩ := h.scaled
  obtain ⟨d1, d2, d3⟩ := h.diff_facts
  obtain ⟨hl, hs⟩ := sgn_of hS
  rw [fl_rnk hs, hl]
  have h3 := h.he
  have hle := h.le
  have hd := lost_far hlo
  have hlt := d2 hlo
  have hpos := d3.1 hlo
  refine rnd_eq (i := (e + 1074).toNat) (j := 64) (by omega) (by omega) ?_ ?_
  · unfold Is
    rw [if_pos rfl]
    have e1 : m * 2 ^ 64 - low n (e - f).toNat - 1 + 1 = m * 2 ^ 64 - low n (e - f).toNat := by omega
    rw [e1, Nat.mul_one, Nat.mul_one, Nat.sub_mul, Nat.sub_mul, Nat.sub_mul, s1, Nat.one_mul, Nat.mul_right_comm m]
    have hlt2 := Nat.mul_lt_mul_of_pos_right hlt (Nat.two_pow_pos (e + 1074).toNat)
    have hlt3 : (low n (e - f).toNat + 1) * 2 ^ (e + 1074).toNat ≤ m * 2 ^ 64 * 2 ^ (e + 1074).toNat := Nat.mul_le_mul_right _ hlt
    rw [Nat.succ_mul] at hlt3
    rw [Nat.mul_right_comm m] at hlt2 hlt3
    obtain ⟨A, hA⟩ : ∃ A, A = m * 2 ^ (e + 1074).toNat * 2 ^ 64 := ⟨_, rfl⟩
    obtain ⟨B, hB⟩ : ∃ B, B = low n (e - f).toNat * 2 ^ (e + 1074).toNat := ⟨_, rfl⟩
    obtain ⟨X, hX⟩ : ∃ X, X = n * 2 ^ 64 % 2 ^ (e - f).toNat * 2 ^ (f + 1074).toNat := ⟨_, rfl⟩
    obtain ⟨Y, hY⟩ : ∃ Y, Y = 2 ^ (e + 1074).toNat := ⟨_, rfl⟩
    rw [← hX, ← hY] at s2
    rw [← hX] at hpos
    rw [← hB, ← hA] at hlt2 hlt3
    rw [← hY] at hlt3
    rw [← hX, ← hB, ← hA, ← hY]
    clear hA hB hX hY s1 hl hS e1 hlt d1 d2 d3 hle
    omega
  · intro _
    left
    have hn1 := h.norm (by have := h.hf; omega)
    have hn2 : 2 ^ 52 * 2 ^ 64 ≤ m * 2 ^ 64 := Nat.mul_le_mul_right _ hn1
    have hlf := low_far h.hn hd
    obtain ⟨A, hA⟩ : ∃ A, A = m * 2 ^ 64 := ⟨_, rfl⟩
    obtain ⟨B, hB⟩ : ∃ B, B = low n (e - f).toNat := ⟨_, rfl⟩
    rw [← hA] at hn2 ⊢
    rw [← hB] at hlf ⊢
    clear s1 s2 hl hS hA hB hlt hpos d1 d2 d3 hle
    exact blen_ge (by omega)
end

/-- A sum, by the parts. -/
theorem add_sum {a b : Nat} (ha : W a) (hb : W b) (ra : right a = true) (rb : right b = true) :
    V (dec a) = (if sgn a then -((pm a * 2 ^ (pe a + 1074).toNat : Nat) : Int) else ((pm a * 2 ^ (pe a + 1074).toNat : Nat) : Int)) ∧
    V (dec b) = (if sgn b then -((pm b * 2 ^ (pe b + 1074).toNat : Nat) : Int) else ((pm b * 2 ^ (pe b + 1074).toNat : Nat) : Int)) := by
  rw [V_sgn ha, V_sgn hb, mag_pm (right_fin ra), mag_pm (right_fin rb)]
  exact ⟨rfl, rfl⟩

/-- Which one is greater, as dir.Add asks it. -/
def swapped (m n : Nat) (e f : Int) : Prop := e < f ∨ f = e ∧ m < n

theorem two_of {a b : Nat} (h : ¬ swapped (pm a) (pm b) (pe a) (pe b)) : Two (pm a) (pm b) (pe a) (pe b) := by
  have := pe_bounds a; have := pe_bounds b
  unfold swapped at h
  exact ⟨pm_lt a, pm_lt b, by omega, by omega, by omega, by omega, by omega, pm_norm⟩
theorem two_of' {a b : Nat} (h : swapped (pm a) (pm b) (pe a) (pe b)) : Two (pm b) (pm a) (pe b) (pe a) := by
  have := pe_bounds a; have := pe_bounds b
  unfold swapped at h
  exact ⟨pm_lt b, pm_lt a, by omega, by omega, by omega, by omega, by omega, pm_norm⟩

theorem dAdd_right {a b : Nat} {up : Bool} (ra : right a = true) (rb : right b = true) : dAdd a b up = out (fl (V (dec a) + V (dec b)) 1 up) up := by
  unfold dAdd addR; rw [ra, rb, if_pos (by decide)]
theorem dAdd_wrong {a b : Nat} {up : Bool} (h : right a = false ∨ right b = false) : dAdd a b up = (0, 13) := by
  unfold dAdd
  rcases h with h | h <;> simp [h]

/-- The three ways of dir.Add: of one sign; of two, with more, and without. -/
structure Sum (p q : Bool) (m n : Nat) (e f : Int) (up : Bool) (r : Nat × Int) : Prop where
  two : Two m n e f
  same : p = q → rnd p (m * 2 ^ 64 + low n (e - f).toNat) (lost (n * 2 ^ 64) (e - f).toNat) (e - 64) up = r
  less : p ≠ q → lost (n * 2 ^ 64) (e - f).toNat = true → rnd p (m * 2 ^ 64 - low n (e - f).toNat - 1) true (e - 64) up = r
  diff : p ≠ q → lost (n * 2 ^ 64) (e - f).toNat = false → rnd p (m * 2 ^ 64 - low n (e - f).toNat) false (e - 64) up = r

theorem sum_of {p q : Bool} {m n : Nat} {e f : Int} {up : Bool} {x y : Int} (h : Two m n e f)
    (hx : x = if p then -((m * 2 ^ (e + 1074).toNat : Nat) : Int) else ((m * 2 ^ (e + 1074).toNat : Nat) : Int))
    (hy : y = if q then -((n * 2 ^ (f + 1074).toNat : Nat) : Int) else ((n * 2 ^ (f + 1074).toNat : Nat) : Int)) :
    Sum p q m n e f up (out (fl (x + y) 1 up) up) := by
  have hle := h.le
  refine ⟨h, ?_, ?_, ?_⟩
  · intro hpq; subst hpq
    refine h.same_out ?_
    rw [hx, hy]; split <;> omega
  · intro hpq hlo
    refine h.less_out ?_ hlo
    have hc : (p = true ∧ q = false) ∨ (p = false ∧ q = true) := by cases p <;> cases q <;> simp at hpq ⊢
    rcases hc with ⟨rfl, rfl⟩ | ⟨rfl, rfl⟩
    · rw [hx, hy, if_pos rfl, if_neg (by decide), if_pos rfl]; omega
    · rw [hx, hy, if_neg (by decide), if_pos rfl, if_neg (by decide)]; omega
  · intro hpq hlo
    refine h.diff_out ?_ hlo
    have hc : (p = true ∧ q = false) ∨ (p = false ∧ q = true) := by cases p <;> cases q <;> simp at hpq ⊢
    rcases hc with ⟨rfl, rfl⟩ | ⟨rfl, rfl⟩
    · rw [hx, hy, if_pos rfl, if_neg (by decide), if_pos rfl]; omega
    · rw [hx, hy, if_neg (by decide), if_pos rfl, if_neg (by decide)]; omega

theorem sum_straight {a b : Nat} {up : Bool} (ha : W a) (hb : W b) (ra : right a = true) (rb : right b = true) (h : ¬ swapped (pm a) (pm b) (pe a) (pe b)) :
    Sum (sgn a) (sgn b) (pm a) (pm b) (pe a) (pe b) up (dAdd a b up) := by
  obtain ⟨h1, h2⟩ := add_sum ha hb ra rb
  rw [dAdd_right ra rb]
  exact sum_of (two_of h) h1 h2
theorem sum_swapped {a b : Nat} {up : Bool} (ha : W a) (hb : W b) (ra : right a = true) (rb : right b = true) (h : swapped (pm a) (pm b) (pe a) (pe b)) :
    Sum (sgn b) (sgn a) (pm b) (pm a) (pe b) (pe a) up (dAdd a b up) := by
  obtain ⟨h1, h2⟩ := add_sum ha hb ra rb
  rw [dAdd_right ra rb, Int.add_comm]
  exact sum_of (two_of' h) h2 h1

theorem W_flip {b : Nat} (h : W b) : W (flip b) := by
  unfold flip W
  exact Nat.xor_lt_two_pow h.lt (by omega)
theorem minus_flip {b : Nat} (_h : W b) (_r : right b = true) (h0 : b ≠ 0) : minus b = flip b := by
  unfold minus
  rw [if_neg h0]
  by_cases h1 : b < 2 ^ 63
  · rw [if_pos h1, flip_low h1]; omega
  · rw [if_neg h1]
    have := flip_high (r := b - 2 ^ 63) (by have := _h.lt; omega)
    have e : 2 ^ 63 + (b - 2 ^ 63) = b := by omega
    rw [e] at this
    exact this.symm
theorem fne_zero {b : Nat} (h : W b) (r : right b = true) (h0 : b ≠ 0) : fne b 0 = true := by
  rw [fne_eq, feq_zero h.lt]
  unfold right at r
  rw [decide_eq_true_eq] at r
  have := h.lt
  simp
  omega

end Go.Dy
