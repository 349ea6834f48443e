/- Plain facts: values of ranks as rational numbers; an interval that a calculator answers has the result of the numbers that the given ones have. Plain facts: how far a rounded result is from the real one. Plain facts: bounds and widths of what a calculator answers. Plain facts: sequences of rational numbers in place of real ones; roots. Plain facts: sequences that come together and are bounded. -/
import Derived.Test.YtikiegcncliocaaGreatC0
/-! Plain facts: values of ranks as rational numbers; an interval that a calculator answers has the result of the numbers that the given ones have. -/
namespace Go.Dy

theorem res_eq {z y : Int} {p : Int × Int} (h : Got (cRes 0 z y) p) (hzy : z ≤ y) : p = (z, y) := by
  obtain ⟨_, h1, h2⟩ := res_err (congrArg (·.2) h.1)
  exact h.uniq (got_ok hzy ⟨h1, by omega⟩ ⟨by omega, h2⟩)

/-- Units in 1. -/
def S1 : Rat := ((one : Nat) : Rat)
theorem S1_pos : 0 < S1 := Rat.natCast_pos.2 one_pos
/-- A rank's value. -/
def val (z : Int) : Rat := ((V z : Int) : Rat) / S1
theorem val_mul (z : Int) : val z * S1 = ((V z : Int) : Rat) := by
  unfold val; exact Rat.div_mul_cancel (by have := S1_pos; grind)
theorem val_le {y z : Int} : val y ≤ val z ↔ y ≤ z := by
  have s := S1_pos
  rw [← V_le_iff, ← Rat.intCast_le_intCast, ← val_mul, ← val_mul]
  constructor
  · intro h; exact Rat.mul_le_mul_of_nonneg_right h (by grind)
  · intro h; exact Rat.le_of_mul_le_mul_right h s
theorem val_lt {y z : Int} : val y < val z ↔ y < z := by
  have := @val_le z y
  constructor
  · intro h; have h' : ¬ z ≤ y := fun k => by have := this.2 k; grind
    omega
  · intro h; have h' : ¬ val z ≤ val y := fun k => by have := this.1 k; omega
    grind
theorem val_zero : val 0 = 0 := by unfold val; rw [V_zero]; have := S1_pos; grind
theorem val_neg (z : Int) : val (-z) = -val z := by
  have s := S1_pos
  have h : val (-z) * S1 = -val z * S1 := by
    rw [val_mul, V_neg]
    have := val_mul z
    grind
  have n : S1 ≠ 0 := by grind
  rw [← Rat.mul_div_cancel (a := val (-z)) n, h, Rat.mul_div_cancel n]
/-- An interval has a number. -/
structure Has (p : Int × Int) (x : Rat) : Prop where
  lo : val p.1 ≤ x
  hi : x ≤ val p.2
theorem Has.pt (z : Int) : Has (z, z) (val z) := ⟨Rat.le_refl, Rat.le_refl⟩
theorem Has.le {p : Int × Int} {x : Rat} (h : Has p x) : p.1 ≤ p.2 := val_le.1 (by have := h.lo; have := h.hi; grind)

/-! Rounding -/
theorem sum_dn (N : Int) : ((V (fl N 1 false) : Int) : Rat) ≤ ((N : Int) : Rat) := by
  have := (fl_down (z := fl N 1 false) (num := N) (den := 1) (by decide)).1 (Int.le_refl _)
  rw [Rat.intCast_le_intCast]; simpa using this
theorem sum_up' (N : Int) : ((N : Int) : Rat) ≤ ((V (fl N 1 true) : Int) : Rat) := by
  have := (fl_up (z := fl N 1 true) (num := N) (den := 1) (by decide)).1 (Int.le_refl _)
  rw [Rat.intCast_le_intCast]; simpa using this
theorem val_of_le {z : Int} {x : Rat} (h : ((V z : Int) : Rat) ≤ x * S1) : val z ≤ x := by
  rw [← val_mul] at h; exact Rat.le_of_mul_le_mul_right h S1_pos
theorem val_of_ge {z : Int} {x : Rat} (h : x * S1 ≤ ((V z : Int) : Rat)) : x ≤ val z := by
  rw [← val_mul] at h; exact Rat.le_of_mul_le_mul_right h S1_pos
theorem add_dn (a b : Int) : val (fl (V a + V b) 1 false) ≤ val a + val b := val_of_le (by
  have := sum_dn (V a + V b)
  rw [Rat.intCast_add] at this
  have := val_mul a; have := val_mul b; grind)
theorem add_up' (a b : Int) : val a + val b ≤ val (fl (V a + V b) 1 true) := val_of_ge (by
  have := sum_up' (V a + V b)
  rw [Rat.intCast_add] at this
  have := val_mul a; have := val_mul b; grind)
theorem mul_dn (a b : Int) : val (mulR a b false) ≤ val a * val b := by
  have h := (fl_down (z := mulR a b false) (num := V a * V b) (den := one) one_pos).1 (Int.le_refl _)
  have h' : ((V (mulR a b false) : Int) : Rat) * S1 ≤ ((V a : Int) : Rat) * ((V b : Int) : Rat) := by
    have := Rat.intCast_le_intCast.2 h
    rw [Rat.intCast_mul, Rat.intCast_mul] at this
    exact this
  rw [← val_mul, ← val_mul, ← val_mul] at h'
  have s := S1_pos
  have k : (val (mulR a b false)) * (S1 * S1) ≤ (val a * val b) * (S1 * S1) := by grind
  exact Rat.le_of_mul_le_mul_right k (Rat.mul_pos s s)
theorem mul_up (a b : Int) : val a * val b ≤ val (mulR a b true) := by
  have h := (fl_up (z := mulR a b true) (num := V a * V b) (den := one) one_pos).1 (Int.le_refl _)
  have h' : ((V a : Int) : Rat) * ((V b : Int) : Rat) ≤ ((V (mulR a b true) : Int) : Rat) * S1 := by
    have := Rat.intCast_le_intCast.2 h
    rw [Rat.intCast_mul, Rat.intCast_mul] at this
    exact this
  rw [← val_mul, ← val_mul, ← val_mul] at h'
  have s := S1_pos
  have k : (val a * val b) * (S1 * S1) ≤ (val (mulR a b true)) * (S1 * S1) := by grind
  exact Rat.le_of_mul_le_mul_right k (Rat.mul_pos s s)
theorem sc_le {x y z : Rat} (h : x * S1 * (y * S1) ≤ z * S1 * S1) : x * y ≤ z := by
  have s := S1_pos
  have k : (x * y) * (S1 * S1) ≤ z * (S1 * S1) := by grind
  exact Rat.le_of_mul_le_mul_right k (Rat.mul_pos s s)
theorem sc_ge {x y z : Rat} (h : z * S1 * S1 ≤ x * S1 * (y * S1)) : z ≤ x * y := by
  have s := S1_pos
  have k : z * (S1 * S1) ≤ (x * y) * (S1 * S1) := by grind
  exact Rat.le_of_mul_le_mul_right k (Rat.mul_pos s s)
theorem val_pos {z : Int} (h : 0 < z) : 0 < val z := by rw [← val_zero]; exact val_lt.2 h
theorem div_dn {a b : Int} (hb : 0 < b) : val (divR a b false) * val b ≤ val a := by
  rw [divR_pos hb]
  have vb := V_pos.2 hb
  have hd : 0 < (V b).toNat := by omega
  have h := (fl_down (z := fl (V a * one) (V b).toNat false) (num := V a * one) (den := (V b).toNat) hd).1 (Int.le_refl _)
  rw [show (((V b).toNat : Nat) : Int) = V b by omega] at h
  have h' := Rat.intCast_le_intCast.2 h
  rw [Rat.intCast_mul, Rat.intCast_mul, ← val_mul, ← val_mul, ← val_mul] at h'
  exact sc_le h'
theorem div_up {a b : Int} (hb : 0 < b) : val a ≤ val (divR a b true) * val b := by
  rw [divR_pos hb]
  have vb := V_pos.2 hb
  have hd : 0 < (V b).toNat := by omega
  have h := (fl_up (z := fl (V a * one) (V b).toNat true) (num := V a * one) (den := (V b).toNat) hd).1 (Int.le_refl _)
  rw [show (((V b).toNat : Nat) : Int) = V b by omega] at h
  have h' := Rat.intCast_le_intCast.2 h
  rw [Rat.intCast_mul, Rat.intCast_mul, ← val_mul, ← val_mul, ← val_mul] at h'
  exact sc_ge h'
theorem root_dn {a : Int} (ha : 0 ≤ a) : 0 ≤ val (sqz a false) ∧ val (sqz a false) * val (sqz a false) ≤ val a := by
  refine ⟨by rw [← val_zero]; exact val_le.2 (sqz_nonneg a false), ?_⟩
  have h := (sqz_down ha (sqz_nonneg a false)).1 (Int.le_refl _)
  have h' := Rat.intCast_le_intCast.2 h
  rw [Rat.intCast_mul, Rat.intCast_mul, ← val_mul, ← val_mul] at h'
  exact sc_le h'
theorem root_up {a : Int} (ha : 0 ≤ a) : 0 ≤ val (sqz a true) ∧ val a ≤ val (sqz a true) * val (sqz a true) := by
  refine ⟨by rw [← val_zero]; exact val_le.2 (sqz_nonneg a true), ?_⟩
  have h := (sqz_up ha (sqz_nonneg a true)).1 (Int.le_refl _)
  have h' := Rat.intCast_le_intCast.2 h
  rw [Rat.intCast_mul, Rat.intCast_mul, ← val_mul, ← val_mul] at h'
  exact sc_ge h'

/-! Operations -/
section
variable {p q s : Int × Int} {x y : Rat}
theorem has_add (hp : Rk p) (hq : Rk q) (h : Got (cAdd 0 (E p) (E q)) s) (a : Has p x) (b : Has q y) : Has s (x + y) := by
  rw [cAdd_E hp hq] at h
  have l1 := add_dn p.1 q.1; have l2 := add_up' p.2 q.2
  have a1 := a.lo; have a2 := a.hi; have b1 := b.lo; have b2 := b.hi
  have := res_eq h (val_le.1 (by grind))
  subst this
  exact ⟨by grind, by grind⟩
theorem got_nz (hp : Rk p) (hq : Rk q) (h : Got (cDiv 0 (E p) (E q)) s) : nz0 q := by
  by_cases h0 : nz0 q
  · exact h0
  · rw [cDiv_zero hp hq h0] at h; exact absurd h.e0 (by decide)
theorem le_quo {x a b : Rat} (hb : 0 < b) (h : x * b ≤ a) : x ≤ a / b := by
  have := Rat.div_lt_iff (a := a) (b := b) (c := x) hb
  by_cases c : a / b < x
  · have := this.1 c; grind
  · grind
theorem quo_le {x a b : Rat} (hb : 0 < b) (h : a ≤ x * b) : a / b ≤ x := by
  have := Rat.lt_div_iff (a := x) (b := a) (c := b) hb
  by_cases c : x < a / b
  · have := this.1 c; grind
  · grind
theorem quo_dn {a b : Int} (hb : b ≠ 0) : val (divR a b false) ≤ val a / val b := by
  by_cases h : 0 < b
  · exact le_quo (val_pos h) (div_dn h)
  · have hn : 0 < -b := by omega
    have := le_quo (val_pos hn) (div_dn (a := -a) hn)
    rw [divR_neg hb, val_neg, val_neg] at this
    have n : val b ≠ 0 := by have := val_pos hn; rw [val_neg] at this; grind
    grind
theorem quo_up {a b : Int} (hb : b ≠ 0) : val a / val b ≤ val (divR a b true) := by
  by_cases h : 0 < b
  · exact quo_le (val_pos h) (div_up h)
  · have hn : 0 < -b := by omega
    have := quo_le (val_pos hn) (div_up (a := -a) hn)
    rw [divR_neg hb, val_neg, val_neg] at this
    have n : val b ≠ 0 := by have := val_pos hn; rw [val_neg] at this; grind
    grind
/-- A quotient of what lies between, the divisor above 0. -/
theorem div_between {a b c d x y : Rat} (h1 : a ≤ x) (h2 : x ≤ b) (h0 : 0 < c) (h3 : c ≤ y) (h4 : y ≤ d) : (a / d ≤ x / y ∨ a / c ≤ x / y) ∧ (x / y ≤ b / d ∨ x / y ≤ b / c) := by
  have hy : 0 < y := by grind
  have hd : 0 < d := by grind
  -- in the numerator
  have m : ∀ {u v w : Rat}, u ≤ v → 0 < w → u / w ≤ v / w := fun {u v w} h k => le_quo k (by rw [Rat.div_mul_cancel (by grind)]; exact h)
  -- in the divisor
  have n : ∀ {u v w : Rat}, 0 ≤ u → 0 < v → v ≤ w → u / w ≤ u / v := fun {u v w} hu hv k => by
    have hw : 0 < w := by grind
    refine quo_le hw ?_
    have q0 : 0 ≤ u / v := le_quo hv (by grind)
    have := Rat.mul_le_mul_of_nonneg_left k q0
    rw [Rat.div_mul_cancel (by grind)] at this
    exact this
  have n' : ∀ {u v w : Rat}, u ≤ 0 → 0 < v → v ≤ w → u / v ≤ u / w := fun {u v w} hu hv k => by
    have := n (u := -u) (by grind) hv k
    have hw : 0 < w := by grind
    grind
  constructor
  · by_cases hx : 0 ≤ x
    · left; have := n hx hy h4; have := m h1 hd; grind
    · right; have := n' (show x ≤ 0 by grind) h0 h3; have := m h1 h0; grind
  · by_cases hx : 0 ≤ x
    · right; have := n hx h0 h3; have := m h2 h0; grind
    · left; have := n' (show x ≤ 0 by grind) hy h4; have := m h2 hd; grind
theorem has_div (hp : Rk p) (hq : Rk q) (h : Got (cDiv 0 (E p) (E q)) s) (a : Has p x) (b : Has q y) : Has s (x / y) := by
  have h0 := got_nz hp hq h
  rw [cDiv_E hp hq h0] at h
  have := res_eq h (lo4_hi4_div hp.le hq.le h0)
  subst this
  have z1 : q.1 ≠ 0 := by have := hq.le; rcases h0 with h | h <;> omega
  have z2 : q.2 ≠ 0 := by have := hq.le; rcases h0 with h | h <;> omega
  -- of ends
  have k : ((val p.1 / val q.1 ≤ x / y ∨ val p.1 / val q.2 ≤ x / y) ∨ (val p.2 / val q.1 ≤ x / y ∨ val p.2 / val q.2 ≤ x / y)) ∧ ((x / y ≤ val p.1 / val q.1 ∨ x / y ≤ val p.1 / val q.2) ∨ (x / y ≤ val p.2 / val q.1 ∨ x / y ≤ val p.2 / val q.2)) := by
    rcases h0 with h0 | h0
    · obtain ⟨k1, k2⟩ := div_between a.lo a.hi (val_pos h0) b.lo b.hi
      exact ⟨.inl k1.symm, .inr k2.symm⟩
    · have c0 : 0 < -val q.2 := by have := val_pos (z := -q.2) (by omega); rw [val_neg] at this; exact this
      have b1 := b.lo; have b2 := b.hi
      obtain ⟨k1, k2⟩ := div_between (a := -val p.2) (b := -val p.1) (x := -x) (c := -val q.2) (d := -val q.1) (y := -y) (by have := a.hi; grind) (by have := a.lo; grind) c0 (by grind) (by grind)
      have e : ∀ {u v : Rat}, v < 0 → -u / -v = u / v := fun {u v} h => by grind
      have n2 : val q.2 < 0 := by grind
      have n1 : val q.1 < 0 := by grind
      have ny : y < 0 := by grind
      rw [e n1, e n2, e ny] at k1 k2
      exact ⟨.inr k1, .inl k2⟩
  constructor
  · have q1 := quo_dn (a := p.1) z1; have q2 := quo_dn (a := p.1) z2; have q3 := quo_dn (a := p.2) z1; have q4 := quo_dn (a := p.2) z2
    have g : ∀ {z : Int}, lo4 divR p q ≤ z → val (lo4 divR p q) ≤ val z := fun h => val_le.2 h
    have g1 := g (lo4_le (r := divR) (p := p) (q := q) (.inl (Int.le_refl _)))
    have g2 := g (lo4_le (r := divR) (p := p) (q := q) (.inr (.inl (Int.le_refl _))))
    have g3 := g (lo4_le (r := divR) (p := p) (q := q) (.inr (.inr (.inl (Int.le_refl _)))))
    have g4 := g (lo4_le (r := divR) (p := p) (q := q) (.inr (.inr (.inr (Int.le_refl _)))))
    dsimp only
    rcases k.1 with (k | k) | k | k
    · exact Rat.le_trans g1 (Rat.le_trans q1 k)
    · exact Rat.le_trans g2 (Rat.le_trans q2 k)
    · exact Rat.le_trans g3 (Rat.le_trans q3 k)
    · exact Rat.le_trans g4 (Rat.le_trans q4 k)
  · have q1 := quo_up (a := p.1) z1; have q2 := quo_up (a := p.1) z2; have q3 := quo_up (a := p.2) z1; have q4 := quo_up (a := p.2) z2
    have g1 : val (divR p.1 q.1 true) ≤ val (hi4 divR p q) := val_le.2 (by unfold hi4; omega)
    have g2 : val (divR p.1 q.2 true) ≤ val (hi4 divR p q) := val_le.2 (by unfold hi4; omega)
    have g3 : val (divR p.2 q.1 true) ≤ val (hi4 divR p q) := val_le.2 (by unfold hi4; omega)
    have g4 : val (divR p.2 q.2 true) ≤ val (hi4 divR p q) := val_le.2 (by unfold hi4; omega)
    dsimp only
    rcases k.2 with (k | k) | k | k
    · exact Rat.le_trans k (Rat.le_trans q1 g1)
    · exact Rat.le_trans k (Rat.le_trans q2 g2)
    · exact Rat.le_trans k (Rat.le_trans q3 g3)
    · exact Rat.le_trans k (Rat.le_trans q4 g4)
/-- A square. -/
theorem has_sqr (hp : Rk p) (h : Got (cSqr 0 (E p)) s) (a : Has p x) : Has s (x * x) := by
  rw [cSqr_E hp] at h
  obtain ⟨b, b0⟩ := hp.bare
  have := res_eq h (Int.le_trans (mulR_le _ _) (sq_mono b0 b.le))
  subst this
  -- the number without its sign
  have k : ∃ y, 0 ≤ y ∧ y * y = x * x ∧ Has (rBare p) y := by
    have a1 := a.lo; have a2 := a.hi
    unfold rBare
    by_cases c1 : 0 ≤ p.1
    · rw [if_pos c1]
      exact ⟨x, by have := val_le.2 c1; rw [val_zero] at this; grind, rfl, a⟩
    · rw [if_neg c1]
      by_cases c2 : p.2 ≤ 0
      · rw [if_pos c2]
        refine ⟨-x, by have := val_le.2 c2; rw [val_zero] at this; grind, by grind, ?_⟩
        unfold rTurned
        constructor
        · dsimp only; rw [val_neg]; grind
        · dsimp only; rw [val_neg]; grind
      · rw [if_neg c2]
        have m1 : val p.2 ≤ val (max p.2 (-p.1)) := val_le.2 (by omega)
        have m2 : val (-p.1) ≤ val (max p.2 (-p.1)) := val_le.2 (by omega)
        rw [val_neg] at m2
        by_cases hx : 0 ≤ x
        · exact ⟨x, hx, rfl, by dsimp only; rw [val_zero]; exact hx, by dsimp only; grind⟩
        · exact ⟨-x, by grind, by grind, by dsimp only; rw [val_zero]; grind, by dsimp only; grind⟩
  obtain ⟨y, y0, e, k⟩ := k
  rw [← e]
  have k1 := k.lo; have k2 := k.hi
  have l0 : 0 ≤ val (rBare p).1 := by rw [← val_zero]; exact val_le.2 b0
  constructor
  · have := mul_dn (rBare p).1 (rBare p).1
    have := Rat.mul_le_mul_of_nonneg_left k1 l0
    have := Rat.mul_le_mul_of_nonneg_right k1 y0
    dsimp only; grind
  · have := mul_up (rBare p).2 (rBare p).2
    have := Rat.mul_le_mul_of_nonneg_left k2 y0
    have := Rat.mul_le_mul_of_nonneg_right k2 (show 0 ≤ val (rBare p).2 by grind)
    dsimp only; grind
end
end Go.Dy
/-! Plain facts: how far a rounded result is from the real one. -/
namespace Go.Dy

theorem mag_gap (r : Nat) : 2 ^ 52 * mag (r + 1) ≤ (2 ^ 52 + 1) * mag r + 2 ^ 52 := by
  rw [mag_succ]
  by_cases h : r < 2 ^ 52
  · rw [Nat.div_eq_of_lt h]; simp; omega
  · have h1 := mag_parts (r := r) (by omega)
    have h2 : 2 ^ 52 * 2 ^ (r / 2 ^ 52 - 1) ≤ mag r := by rw [h1]; exact Nat.mul_le_mul_right _ (Nat.le_add_right _ _)
    generalize 2 ^ (r / 2 ^ 52 - 1) = g at *
    omega
theorem V_gap_pos {z : Int} (h : 0 ≤ z) : 4503599627370496 * (V (z + 1) - V z) ≤ V z + 4503599627370496 := by
  have k := mag_gap z.toNat
  unfold V
  rw [if_pos (by omega), if_pos h, show (z + 1).toNat = z.toNat + 1 by omega]
  generalize mag (z.toNat + 1) = a at *
  generalize mag z.toNat = b at *
  omega
/-- The step in 1, the least step. -/
def uu : Rat := 1 / 4503599627370496
def ee : Rat := 1 / S1
theorem gap_pos {z : Int} (h : 0 ≤ z) : val (z + 1) - val z ≤ val z * uu + ee := by
  have k := Rat.intCast_le_intCast.2 (V_gap_pos h)
  rw [Rat.intCast_mul, Rat.intCast_sub, Rat.intCast_add, ← val_mul, ← val_mul] at k
  have s := S1_pos
  have e : ee * S1 = 1 := Rat.div_mul_cancel (by grind)
  have k' : (val (z + 1) - val z) * S1 ≤ (val z * uu + ee) * S1 := by
    have u : uu * 4503599627370496 = 1 := by unfold uu; decide +kernel
    have k2 : (4503599627370496 : Rat) * (val (z + 1) * S1 - val z * S1) ≤ val z * S1 + 4503599627370496 := by simpa using k
    have u0 : 0 ≤ uu := by unfold uu; decide +kernel
    have t := Rat.mul_le_mul_of_nonneg_left k2 u0
    rw [← Rat.mul_assoc, u, Rat.one_mul, Rat.mul_add, u] at t
    rw [Rat.add_mul, e]
    grind
  exact Rat.le_of_mul_le_mul_right k' s
theorem gap_neg {z : Int} (h : z < 0) : val (z + 1) - val z ≤ -val (z + 1) * uu + ee := by
  have := gap_pos (z := -(z + 1)) (by omega)
  rw [show -(z + 1) + 1 = -z by omega, val_neg, val_neg] at this
  grind
/-- A number rounded down, up, is no further than that. -/
theorem near_dn {z : Int} {x M : Rat} (h1 : val z ≤ x) (h2 : x < val (z + 1)) (m1 : -M ≤ x) (m2 : x ≤ M) : x - (M * uu + ee) ≤ val z := by
  have u0 : 0 ≤ uu := by unfold uu; decide +kernel
  by_cases h : 0 ≤ z
  · have := gap_pos h
    have := Rat.mul_le_mul_of_nonneg_right (show val z ≤ M by grind) u0
    grind
  · have := gap_neg (z := z) (by omega)
    have := Rat.mul_le_mul_of_nonneg_right (show -val (z + 1) ≤ M by grind) u0
    grind
theorem near_up {z : Int} {x M : Rat} (h1 : x ≤ val z) (h2 : val (z - 1) < x) (m1 : -M ≤ x) (m2 : x ≤ M) : val z ≤ x + (M * uu + ee) := by
  have := near_dn (z := -z) (x := -x) (M := M) (by rw [val_neg]; grind) (by rw [show -z + 1 = -(z - 1) by omega, val_neg]; grind) (by grind) (by grind)
  rw [val_neg] at this
  grind

/-- An interval's bounds, and how wide it is at most. -/
structure Bd (p : Int × Int) (L H w : Rat) : Prop where
  rk : Rk p
  lo : L ≤ val p.1
  hi : val p.2 ≤ H
  wd : val p.2 - val p.1 ≤ w
def big64 : Int := 4895412794951729152
theorem val_big : val big64 = 18446744073709551616 := by
  have h : V big64 = 18446744073709551616 * (one : Int) := by decide +kernel
  have s := S1_pos
  have n : S1 ≠ 0 := by grind
  unfold val
  rw [h, Rat.intCast_mul]
  show (18446744073709551616 : Int) * S1 / S1 = _
  rw [Rat.mul_div_cancel n]; rfl
theorem ok_val {z : Int} (h1 : -18446744073709551616 ≤ val z) (h2 : val z ≤ 18446744073709551616) : ok z := by
  rw [← val_big] at h1 h2
  rw [← val_neg] at h1
  have a := val_le.1 h1; have b := val_le.1 h2
  have t := top_eq
  exact ⟨by unfold big64 at a; omega, by unfold big64 at b; omega⟩
end Go.Dy
/-! Plain facts: bounds and widths of what a calculator answers. -/
namespace Go.Dy

/-- How far a rounded result is, of numbers up to M. -/
def rr (M : Rat) : Rat := M / 4503599627370496 + 1 / 1606938044258990275541962092341162602522202993782792835301376
theorem S1_big : (1606938044258990275541962092341162602522202993782792835301376 : Rat) ≤ S1 := by
  have h : (1606938044258990275541962092341162602522202993782792835301376 : Nat) ≤ one := by decide +kernel
  have := Rat.intCast_le_intCast.2 (Int.ofNat_le.2 h)
  exact this
theorem ee_le : ee ≤ 1 / 1606938044258990275541962092341162602522202993782792835301376 := by
  unfold ee
  have s := S1_pos; have b := S1_big
  have p : (0 : Rat) < 1606938044258990275541962092341162602522202993782792835301376 := by decide +kernel
  refine quo_le s ?_
  rw [Rat.div_def, Rat.one_mul]
  have i0 : (0 : Rat) ≤ (1606938044258990275541962092341162602522202993782792835301376 : Rat)⁻¹ := by decide +kernel
  have := Rat.mul_le_mul_of_nonneg_left b i0
  have e : (1606938044258990275541962092341162602522202993782792835301376 : Rat)⁻¹ * 1606938044258990275541962092341162602522202993782792835301376 = 1 := by decide +kernel
  grind
theorem rr_ge (M : Rat) : M * uu + ee ≤ rr M := by
  have := ee_le
  unfold rr
  have e : M / 4503599627370496 = M * uu := by unfold uu; grind
  rw [e]; grind
theorem S1_int : (((one : Nat) : Int) : Rat) = S1 := rfl

theorem fl_dn {num : Int} {den : Nat} {X : Rat} (hd : 0 < den) (hX : X * S1 * (((den : Nat) : Int) : Rat) = ((num : Int) : Rat)) : val (fl num den false) ≤ X ∧ X < val (fl num den false + 1) := by
  have s := S1_pos
  have d : (0 : Rat) < (((den : Nat) : Int) : Rat) := by
    have := Rat.intCast_lt_intCast.2 (Int.ofNat_lt.2 hd); simpa using this
  have sd := Rat.mul_pos s d
  constructor
  · have h := (fl_down (z := fl num den false) (num := num) hd).1 (Int.le_refl _)
    have h := Rat.intCast_le_intCast.2 h
    rw [Rat.intCast_mul, ← val_mul, ← hX] at h
    exact Rat.le_of_mul_le_mul_right (by grind) sd
  · have h : ¬ (V (fl num den false + 1) * (den : Int) ≤ num) := fun k => by
      have := (fl_down (z := fl num den false + 1) (num := num) hd).2 k; omega
    have h := Rat.intCast_lt_intCast.2 (show num < V (fl num den false + 1) * (den : Int) by omega)
    rw [Rat.intCast_mul, ← val_mul, ← hX] at h
    by_cases c : X < val (fl num den false + 1)
    · exact c
    · have := Rat.mul_le_mul_of_nonneg_right (show val (fl num den false + 1) ≤ X by grind) (show 0 ≤ S1 * (((den : Nat) : Int) : Rat) by grind)
      grind
theorem fl_upw {num : Int} {den : Nat} {X : Rat} (hd : 0 < den) (hX : X * S1 * (((den : Nat) : Int) : Rat) = ((num : Int) : Rat)) : X ≤ val (fl num den true) ∧ val (fl num den true - 1) < X := by
  obtain ⟨a, b⟩ := fl_dn (num := -num) (X := -X) hd (by rw [Rat.intCast_neg, ← hX]; grind)
  have e : fl (-num) den false = -fl num den true := fl_neg num den false
  rw [e] at a b
  rw [show -fl num den true + 1 = -(fl num den true - 1) by omega, val_neg] at b
  rw [val_neg] at a
  exact ⟨by grind, by grind⟩
theorem fl_far_dn {num : Int} {den : Nat} {X M : Rat} (hd : 0 < den) (hX : X * S1 * (((den : Nat) : Int) : Rat) = ((num : Int) : Rat)) (m1 : -M ≤ X) (m2 : X ≤ M) : val (fl num den false) ≤ X ∧ X - rr M ≤ val (fl num den false) := by
  obtain ⟨a, b⟩ := fl_dn hd hX
  have := near_dn a b m1 m2
  have := rr_ge M
  exact ⟨a, by grind⟩
theorem fl_far_up {num : Int} {den : Nat} {X M : Rat} (hd : 0 < den) (hX : X * S1 * (((den : Nat) : Int) : Rat) = ((num : Int) : Rat)) (m1 : -M ≤ X) (m2 : X ≤ M) : X ≤ val (fl num den true) ∧ val (fl num den true) ≤ X + rr M := by
  obtain ⟨a, b⟩ := fl_upw hd hX
  have := near_up a b m1 m2
  have := rr_ge M
  exact ⟨a, by grind⟩
theorem sum_X (a b : Int) : (val a + val b) * S1 * ((((1 : Nat) : Int)) : Rat) = ((V a + V b : Int) : Rat) := by
  rw [Rat.intCast_add, ← val_mul, ← val_mul]; simp; grind
theorem mul_X (a b : Int) : (val a * val b) * S1 * ((((one : Nat) : Int)) : Rat) = ((V a * V b : Int) : Rat) := by
  rw [Rat.intCast_mul, ← val_mul, ← val_mul, S1_int]; grind
theorem quo_X {a b : Int} (hb : 0 < b) : (val a / val b) * S1 * ((((V b).toNat : Nat) : Int) : Rat) = ((V a * one : Int) : Rat) := by
  have vb := V_pos.2 hb
  have n : val b ≠ 0 := by have := val_pos hb; grind
  rw [show (((V b).toNat : Nat) : Int) = V b by omega, Rat.intCast_mul, ← val_mul, ← val_mul, S1_int]
  have : val a / val b * val b = val a := Rat.div_mul_cancel n
  grind
theorem S1_ne : S1 ≠ 0 := by have := S1_pos; grind

/-! Operations -/
theorem Bd.pt {z : Int} {L H : Rat} (hz : ok z) (h1 : L ≤ val z) (h2 : val z ≤ H) : Bd (z, z) L H 0 := ⟨⟨hz, hz, Int.le_refl _⟩, h1, h2, by grind⟩
theorem Bd.mono {p : Int × Int} {L H w L' H' w' : Rat} (h : Bd p L H w) (c : L' ≤ L ∧ H ≤ H' ∧ w ≤ w') : Bd p L' H' w' := by
  obtain ⟨rk, lo, hi, wd⟩ := h
  exact ⟨rk, by grind, by grind, by grind⟩
theorem Bd.has {p : Int × Int} {L H w x : Rat} (h : Bd p L H w) (a : Has p x) : L ≤ x ∧ x ≤ H := by
  have := h.lo; have := h.hi; have := a.lo; have := a.hi
  exact ⟨by grind, by grind⟩
theorem Bd.le {p : Int × Int} {L H w : Rat} (h : Bd p L H w) : val p.1 ≤ val p.2 := val_le.2 h.rk.le
/-- What a calculator answers, of two ends. -/
theorem got_ends {z y : Int} {A B W : Rat} (h1 : A ≤ val z) (h2 : val y ≤ B) (hzy : val z ≤ val y) (hw : val y - val z ≤ W) (a : -18446744073709551616 ≤ A) (b : B ≤ 18446744073709551616) : ∃ s, Got (cRes 0 z y) s ∧ Bd s A B W := by
  have oz : ok z := ok_val (by grind) (by grind)
  have oy : ok y := ok_val (by grind) (by grind)
  have le := val_le.1 hzy
  exact ⟨(z, y), got_ok le oz oy, ⟨oz, oy, le⟩, h1, h2, hw⟩
section
variable {p q : Int × Int} {L H w L' H' w' : Rat}
theorem bd_add (M A B W : Rat) (hp : Bd p L H w) (hq : Bd q L' H' w') (c : -M ≤ L + L' ∧ H + H' ≤ M ∧ A ≤ L + L' - rr M ∧ H + H' + rr M ≤ B ∧ w + w' + 2 * rr M ≤ W ∧ -18446744073709551616 ≤ A ∧ B ≤ 18446744073709551616) : ∃ s, Got (cAdd 0 (E p) (E q)) s ∧ Bd s A B W := by
  obtain ⟨c1, c2, c3, c4, c5, c6, c7⟩ := c
  have p1 := hp.lo; have p2 := hp.hi; have p3 := hp.wd; have p4 := hp.le
  have q1 := hq.lo; have q2 := hq.hi; have q3 := hq.wd; have q4 := hq.le
  obtain ⟨a1, a2⟩ := fl_far_dn (M := M) (by decide) (sum_X p.1 q.1) (by grind) (by grind)
  obtain ⟨b1, b2⟩ := fl_far_up (M := M) (by decide) (sum_X p.2 q.2) (by grind) (by grind)
  rw [cAdd_E hp.rk hq.rk]
  exact got_ends (by grind) (by grind) (by grind) (by grind) c6 c7
theorem lo4_is (r : Int → Int → Bool → Int) (p q : Int × Int) : ∃ x y, (x = p.1 ∨ x = p.2) ∧ (y = q.1 ∨ y = q.2) ∧ lo4 r p q = r x y false := by
  have h : lo4 r p q = r p.1 q.1 false ∨ lo4 r p q = r p.1 q.2 false ∨ lo4 r p q = r p.2 q.1 false ∨ lo4 r p q = r p.2 q.2 false := by unfold lo4; omega
  rcases h with h | h | h | h
  · exact ⟨_, _, .inl rfl, .inl rfl, h⟩
  · exact ⟨_, _, .inl rfl, .inr rfl, h⟩
  · exact ⟨_, _, .inr rfl, .inl rfl, h⟩
  · exact ⟨_, _, .inr rfl, .inr rfl, h⟩
theorem hi4_is (r : Int → Int → Bool → Int) (p q : Int × Int) : ∃ x y, (x = p.1 ∨ x = p.2) ∧ (y = q.1 ∨ y = q.2) ∧ hi4 r p q = r x y true := by
  have h : hi4 r p q = r p.1 q.1 true ∨ hi4 r p q = r p.1 q.2 true ∨ hi4 r p q = r p.2 q.1 true ∨ hi4 r p q = r p.2 q.2 true := by unfold hi4; omega
  rcases h with h | h | h | h
  · exact ⟨_, _, .inl rfl, .inl rfl, h⟩
  · exact ⟨_, _, .inl rfl, .inr rfl, h⟩
  · exact ⟨_, _, .inr rfl, .inl rfl, h⟩
  · exact ⟨_, _, .inr rfl, .inr rfl, h⟩
theorem Bd.end {x : Int} (h : Bd p L H w) (hx : x = p.1 ∨ x = p.2) : L ≤ val x ∧ val x ≤ H := by
  have := h.lo; have := h.hi; have := h.le
  rcases hx with rfl | rfl <;> exact ⟨by grind, by grind⟩
theorem Bd.ends {x y : Int} (h : Bd p L H w) (hx : x = p.1 ∨ x = p.2) (hy : y = p.1 ∨ y = p.2) : val x - val y ≤ w ∧ val y - val x ≤ w := by
  have := h.le; have := h.wd
  rcases hx with rfl | rfl <;> rcases hy with rfl | rfl <;> exact ⟨by grind, by grind⟩
theorem mul_abs_le {x y m w : Rat} (h1 : -m ≤ x) (h2 : x ≤ m) (h3 : -w ≤ y) (h4 : y ≤ w) : x * y ≤ m * w := by
  have m0 : 0 ≤ m := by grind
  have w0 : 0 ≤ w := by grind
  by_cases hy : 0 ≤ y
  · have := Rat.mul_le_mul_of_nonneg_right h2 hy
    have := Rat.mul_le_mul_of_nonneg_left h4 m0
    grind
  · have := Rat.mul_le_mul_of_nonneg_right (show -x ≤ m by grind) (show 0 ≤ -y by grind)
    have := Rat.mul_le_mul_of_nonneg_left (show -y ≤ w by grind) m0
    grind
theorem bd_div (M A B W Q1 Q2 W0 : Rat) (hp : Bd p L H w) (hq : Bd q L' H' w') (c : 0 < L' ∧ (Q1 * L' ≤ L ∧ Q1 * H' ≤ L) ∧ (H ≤ Q2 * L' ∧ H ≤ Q2 * H') ∧ -M ≤ Q1 ∧ Q2 ≤ M ∧ (A ≤ Q1 - rr M ∨ A ≤ 0 ∧ 0 ≤ L) ∧ Q2 + rr M ≤ B ∧ w + M * w' ≤ W0 * L' ∧ W0 + 2 * rr M ≤ W ∧ 0 ≤ W0 ∧ -18446744073709551616 ≤ A ∧ B ≤ 18446744073709551616) : ∃ s, Got (cDiv 0 (E p) (E q)) s ∧ Bd s A B W := by
  obtain ⟨l0, ⟨c1, c2⟩, ⟨c3, c4⟩, m1, m2, c5, c6, c7, c8, c9, c10, c11⟩ := c
  have p1 := hp.lo; have p2 := hp.hi; have p3 := hp.wd; have p4 := hp.le
  have q1 := hq.lo; have q2 := hq.hi; have q3 := hq.wd; have q4 := hq.le
  have z1 : 0 < q.1 := val_lt.1 (by rw [val_zero]; grind)
  have n0 : nz0 q := .inl z1
  have zp : ∀ {y : Int}, (y = q.1 ∨ y = q.2) → 0 < y := fun h => by have := hq.rk.le; rcases h with rfl | rfl <;> omega
  rw [cDiv_E hp.rk hq.rk n0]
  have hle := val_le.2 (lo4_hi4_div hp.rk.le hq.rk.le n0)
  obtain ⟨x, y, hx, hy, e⟩ := lo4_is divR p q
  obtain ⟨u, v, hu, hv, f⟩ := hi4_is divR p q
  rw [e, f] at hle ⊢
  -- a quotient lies within
  have qin : ∀ {x y : Rat}, L ≤ x → x ≤ H → L' ≤ y → y ≤ H' → Q1 ≤ x / y ∧ x / y ≤ Q2 := fun {x y} h1 h2 h3 h4 => by
    have y0 : 0 < y := by grind
    constructor
    · refine le_quo y0 ?_
      by_cases s : 0 ≤ Q1
      · have := Rat.mul_le_mul_of_nonneg_left h4 s; grind
      · have := Rat.mul_le_mul_of_nonneg_left h3 (show 0 ≤ -Q1 by grind); grind
    · refine quo_le y0 ?_
      by_cases s : 0 ≤ Q2
      · have := Rat.mul_le_mul_of_nonneg_left h3 s; grind
      · have := Rat.mul_le_mul_of_nonneg_left h4 (show 0 ≤ -Q2 by grind); grind
  obtain ⟨x1, x2⟩ := hp.end hx; obtain ⟨y1, y2⟩ := hq.end hy
  obtain ⟨u1, u2⟩ := hp.end hu; obtain ⟨v1, v2⟩ := hq.end hv
  obtain ⟨k1, k2⟩ := qin x1 x2 y1 y2
  obtain ⟨k3, k4⟩ := qin u1 u2 v1 v2
  have py := zp hy; have pv := zp hv
  have ey : divR x y false = fl (V x * one) (V y).toNat false := divR_pos py
  have ev : divR u v true = fl (V u * one) (V v).toNat true := divR_pos pv
  have dy : 0 < (V y).toNat := by have := V_pos.2 py; omega
  have dv : 0 < (V v).toNat := by have := V_pos.2 pv; omega
  obtain ⟨a1, a2⟩ := fl_far_dn (M := M) dy (quo_X (a := x) py) (by grind) (by grind)
  obtain ⟨b1, b2⟩ := fl_far_up (M := M) dv (quo_X (a := u) pv) (by grind) (by grind)
  rw [← ey] at a1 a2; rw [← ev] at b1 b2
  obtain ⟨w1, w2⟩ := hp.ends hu hx
  obtain ⟨w3, w4⟩ := hq.ends hv hy
  have t1 := mul_abs_le (x := val u / val v) (y := val y - val v) (m := M) (w := w') (by grind) (by grind) (by grind) (by grind)
  have vv : val u / val v * val v = val u := Rat.div_mul_cancel (by grind)
  have yy : val x / val y * val y = val x := Rat.div_mul_cancel (by grind)
  have t2 : val u / val v - val x / val y ≤ W0 := by
    have y0 : 0 < val y := by grind
    have g := Rat.mul_le_mul_of_nonneg_left y1 c9
    exact Rat.le_of_mul_le_mul_right (by grind) y0
  have hA : A ≤ val (divR x y false) := by
    rcases c5 with c5 | ⟨c5, l1⟩
    · grind
    · have : 0 ≤ divR x y false := by
        rw [ey]
        have i1 : 0 ≤ x := val_le.1 (by rw [val_zero]; grind)
        exact fl_nonneg dy (Int.mul_nonneg (V_nonneg.2 i1) (by have := one_pos; omega))
      have := val_le.2 this; rw [val_zero] at this; grind
  exact got_ends hA (by grind) hle (by grind) c10 c11
theorem Bd.bare (hp : Bd p L H w) : ∃ a b, rBare p = (a, b) ∧ 0 ≤ val a ∧ val a ≤ val b ∧ (0 ≤ L → L ≤ val a) ∧ (val b ≤ H ∨ val b ≤ -L) ∧ val b - val a ≤ w ∧ ok a ∧ ok b := by
  obtain ⟨r, r0⟩ := hp.rk.bare
  have p1 := hp.lo; have p2 := hp.hi; have p3 := hp.wd; have p4 := hp.le
  have l0 := val_le.2 r0; rw [val_zero] at l0
  refine ⟨(rBare p).1, (rBare p).2, rfl, l0, val_le.2 r.le, ?_, ?_, ?_, r.lo, r.hi⟩
  · intro hl
    have : 0 ≤ p.1 := val_le.1 (by rw [val_zero]; grind)
    unfold rBare; rw [if_pos this]; exact p1
  · unfold rBare
    split
    · left; exact p2
    · split
      · right; show val (-p.1) ≤ _; rw [val_neg]; grind
      · show val (max p.2 (-p.1)) ≤ _ ∨ _
        by_cases c : p.2 ≤ -p.1
        · right; rw [show max p.2 (-p.1) = -p.1 by omega, val_neg]; grind
        · left; rw [show max p.2 (-p.1) = p.2 by omega]; exact p2
  · unfold rBare
    split
    · exact p3
    · split
      · show val (-p.1) - val (-p.2) ≤ _; rw [val_neg, val_neg]; grind
      · rename_i c1 c2
        have h1 : val p.1 ≤ 0 := by rw [← val_zero]; exact val_le.2 (by omega)
        have h2 : 0 ≤ val p.2 := by rw [← val_zero]; exact val_le.2 (by omega)
        show val (max p.2 (-p.1)) - val 0 ≤ _
        rw [val_zero]
        by_cases c : p.2 ≤ -p.1
        · rw [show max p.2 (-p.1) = -p.1 by omega, val_neg]; grind
        · rw [show max p.2 (-p.1) = p.2 by omega]; grind
theorem bd_sqr (M A B W m : Rat) (hp : Bd p L H w) (c : -m ≤ L ∧ H ≤ m ∧ m * m ≤ M ∧ (A ≤ L * L - rr M ∧ 0 ≤ L ∨ A ≤ 0) ∧ m * m + rr M ≤ B ∧ 2 * m * w + 2 * rr M ≤ W ∧ -18446744073709551616 ≤ A ∧ B ≤ 18446744073709551616) : ∃ s, Got (cSqr 0 (E p)) s ∧ Bd s A B W := by
  obtain ⟨c1, c2, c3, c4, c5, c6, c7, c8⟩ := c
  rw [cSqr_E hp.rk]
  obtain ⟨a, b, e, a0, ab, al, bh, wd, oa, ob⟩ := hp.bare
  rw [e]
  have bm : val b ≤ m := by rcases bh with h | h <;> grind
  have s1 := Rat.mul_le_mul_of_nonneg_left bm (show 0 ≤ m by grind)
  have s2 := Rat.mul_le_mul_of_nonneg_right bm (show 0 ≤ val b by grind)
  have s3 := Rat.mul_le_mul_of_nonneg_left ab a0
  have s4 := Rat.mul_le_mul_of_nonneg_right ab (show 0 ≤ val b by grind)
  have s5 := Rat.mul_nonneg a0 a0
  obtain ⟨a1, a2⟩ := fl_far_dn (M := M) one_pos (mul_X a a) (by grind) (by grind)
  obtain ⟨b1, b2⟩ := fl_far_up (M := M) one_pos (mul_X b b) (by grind) (by grind)
  have hA : A ≤ val (mulR a a false) := by
    rcases c4 with ⟨c4, l1⟩ | c4
    · have l2 := al l1
      have := Rat.mul_le_mul_of_nonneg_left l2 l1
      have := Rat.mul_le_mul_of_nonneg_right l2 a0
      unfold mulR; grind
    · have : 0 ≤ mulR a a false := by
        have i1 : 0 ≤ a := val_le.1 (by rw [val_zero]; grind)
        exact fl_nonneg one_pos (Int.mul_nonneg (V_nonneg.2 i1) (V_nonneg.2 i1))
      have := val_le.2 this; rw [val_zero] at this; grind
  have t := mul_abs_le (x := val b + val a) (y := val b - val a) (m := 2 * m) (w := w) (by grind) (by grind) (by grind) wd
  refine got_ends hA (by unfold mulR; grind) (by unfold mulR; grind) ?_ c7 c8
  unfold mulR; grind
/-- Of squares. -/
theorem sq_le_sq {u v : Rat} (_hu : 0 ≤ u) (hv : 0 ≤ v) (k : u * u ≤ v * v) : u ≤ v := by
  by_cases c : u ≤ v
  · exact c
  · have c' : v < u := by grind
    have := Rat.mul_lt_mul_of_pos_left c' (show 0 < u by grind)
    have := Rat.mul_le_mul_of_nonneg_right (show v ≤ u by grind) hv
    grind
theorem root_next {a : Int} (ha : 0 ≤ a) : val a < val (sqz a false + 1) * val (sqz a false + 1) := by
  have h0 := sqz_nonneg a false
  have h : ¬ (V (sqz a false + 1) * V (sqz a false + 1) ≤ V a * one) := fun k => by
    have := (sqz_down ha (y := sqz a false + 1) (by omega)).2 k; omega
  have h := Rat.intCast_lt_intCast.2 (show V a * one < V (sqz a false + 1) * V (sqz a false + 1) by omega)
  rw [Rat.intCast_mul, Rat.intCast_mul, ← val_mul, ← val_mul, S1_int] at h
  have s := S1_pos
  by_cases c : val a < val (sqz a false + 1) * val (sqz a false + 1)
  · exact c
  · have := Rat.mul_le_mul_of_nonneg_right (show val (sqz a false + 1) * val (sqz a false + 1) ≤ val a by grind) (show 0 ≤ S1 * S1 by have := Rat.mul_pos s s; grind)
    grind
theorem root_prev {a : Int} (ha : 0 ≤ a) (h1 : 0 < sqz a true) : val (sqz a true - 1) * val (sqz a true - 1) < val a := by
  have h : ¬ (V a * one ≤ V (sqz a true - 1) * V (sqz a true - 1)) := fun k => by
    have := (sqz_up ha (y := sqz a true - 1) (by omega)).2 k; omega
  have h := Rat.intCast_lt_intCast.2 (show V (sqz a true - 1) * V (sqz a true - 1) < V a * one by omega)
  rw [Rat.intCast_mul, Rat.intCast_mul, ← val_mul, ← val_mul, S1_int] at h
  have s := S1_pos
  by_cases c : val (sqz a true - 1) * val (sqz a true - 1) < val a
  · exact c
  · have := Rat.mul_le_mul_of_nonneg_right (show val a ≤ val (sqz a true - 1) * val (sqz a true - 1) by grind) (show 0 ≤ S1 * S1 by have := Rat.mul_pos s s; grind)
    grind
/-- A root: r a lower bound of it above 0, h an upper one. -/
theorem bd_sqrt (A B W r h W0 : Rat) (hp : Bd p L H w) (c : 0 < r ∧ r * r ≤ L ∧ 0 ≤ h ∧ H ≤ h * h ∧ A ≤ r - rr h ∧ h + rr h ≤ B ∧ w ≤ W0 * (2 * r) ∧ 0 ≤ W0 ∧ W0 + 2 * rr h ≤ W ∧ -18446744073709551616 ≤ A ∧ B ≤ 18446744073709551616) : ∃ s, Got (cSqrt 0 (E p)) s ∧ Bd s A B W := by
  obtain ⟨c0, c1, ch, c2, c3, c4, c5, c6, c7, c8, c9⟩ := c
  have p1 := hp.lo; have p2 := hp.hi; have p3 := hp.wd; have p4 := hp.le
  have rr0 := Rat.mul_pos c0 c0
  have z1 : 0 < p.1 := val_lt.1 (by rw [val_zero]; grind)
  have z2 : 0 < p.2 := by have := hp.rk.le; omega
  rw [cSqrt_E hp.rk (by omega)]
  obtain ⟨a0, a1⟩ := root_dn (a := p.1) (by omega)
  obtain ⟨b0, b1⟩ := root_up (a := p.2) (by omega)
  have an := root_next (a := p.1) (by omega)
  have bpos : 0 < sqz p.2 true := val_lt.1 (by
    rw [val_zero]
    by_cases c : 0 < val (sqz p.2 true)
    · exact c
    · have e : val (sqz p.2 true) = 0 := by grind
      rw [e] at b1; grind)
  have bp := root_prev (a := p.2) (by omega) bpos
  have v0 : 0 ≤ val (sqz p.1 false + 1) := by rw [← val_zero]; exact val_le.2 (by have := sqz_nonneg p.1 false; omega)
  have u0 : 0 ≤ val (sqz p.2 true - 1) := by rw [← val_zero]; exact val_le.2 (by omega)
  have g1 := gap_pos (z := sqz p.1 false) (sqz_nonneg _ _)
  have g2 := gap_pos (z := sqz p.2 true - 1) (by omega)
  rw [show sqz p.2 true - 1 + 1 = sqz p.2 true by omega] at g2
  -- upper bounds
  have uh : val (sqz p.2 true - 1) ≤ h := sq_le_sq u0 ch (by grind)
  have lh : val (sqz p.1 false) ≤ h := sq_le_sq a0 ch (by grind)
  have uu0 : 0 ≤ uu := by unfold uu; decide +kernel
  have k1 := Rat.mul_le_mul_of_nonneg_right uh uu0
  have k2 := Rat.mul_le_mul_of_nonneg_right lh uu0
  have kr := rr_ge h
  -- the lower one
  have rv : r ≤ val (sqz p.1 false + 1) := sq_le_sq (by grind) v0 (by grind)
  -- between the neighbours
  have d : val (sqz p.2 true - 1) - val (sqz p.1 false + 1) ≤ W0 := by
    by_cases c : val (sqz p.2 true - 1) ≤ val (sqz p.1 false + 1)
    · grind
    · have t : (val (sqz p.2 true - 1) - val (sqz p.1 false + 1)) * (2 * r) ≤ (val (sqz p.2 true - 1) - val (sqz p.1 false + 1)) * (val (sqz p.2 true - 1) + val (sqz p.1 false + 1)) := Rat.mul_le_mul_of_nonneg_left (by grind) (by grind)
      exact Rat.le_of_mul_le_mul_right (c := 2 * r) (by grind) (by grind)
  have hle := val_le.2 (Int.le_trans (sqz_mono (up := false) (by omega) hp.rk.le) (sqz_le_up p.2))
  exact got_ends (by grind) (by grind) hle (by grind) c8 c9
theorem val_max (u v : Int) : val (max u v) = max (val u) (val v) := by
  have := @val_le u v; have := @val_le v u
  grind
theorem val_min (u v : Int) : val (min u v) = min (val u) (val v) := by
  have := @val_le u v; have := @val_le v u
  grind
end
end Go.Dy
namespace Go.Dy
theorem val_q {z num : Int} {den : Nat} (hd : den ≠ 0) (h : V z * (den : Int) = num * one) : val z = ((num : Int) : Rat) / (((den : Nat) : Int) : Rat) := by
  have s := S1_pos
  have k : ((V z * (den : Int) : Int) : Rat) = ((num * (one : Int) : Int) : Rat) := by rw [h]
  rw [Rat.intCast_mul, Rat.intCast_mul, ← val_mul, S1_int] at k
  have d : ((((den : Nat) : Int)) : Rat) ≠ 0 := by
    intro c
    have : ((den : Nat) : Int) = 0 := Rat.intCast_inj.1 (by rw [c]; rfl)
    omega
  have e : (val z * ((((den : Nat) : Int)) : Rat)) * S1 = ((num : Int) : Rat) * S1 := by grind
  have e' : val z * ((((den : Nat) : Int)) : Rat) = ((num : Int) : Rat) := by
    have := Rat.mul_div_cancel (a := val z * ((((den : Nat) : Int)) : Rat)) S1_ne
    rw [← this, e, Rat.mul_div_cancel S1_ne]
  rw [← e', Rat.mul_div_cancel d]
/-- Of a number within two whole ones. -/
theorem bd_in {z x y nx ny : Int} {dx dy : Nat} (hx : x ≤ z) (hy : z ≤ y) (oz : ok z) (c : dx ≠ 0 ∧ dy ≠ 0 ∧ V x * (dx : Int) = nx * one ∧ V y * (dy : Int) = ny * one) : Bd (z, z) (((nx : Int) : Rat) / (((dx : Nat) : Int) : Rat)) (((ny : Int) : Rat) / (((dy : Nat) : Int) : Rat)) 0 := by
  rw [← val_q c.1 c.2.2.1, ← val_q c.2.1 c.2.2.2]
  exact Bd.pt oz (val_le.2 hx) (val_le.2 hy)
end Go.Dy
/-! Plain facts: sequences of rational numbers in place of real ones; roots. -/
namespace Go.Dy

/-- Two sequences come together. -/
def Near (x y : Nat → Rat) : Prop := ∀ e : Rat, 0 < e → ∃ N : Nat, ∀ n, N ≤ n → -e ≤ x n - y n ∧ x n - y n ≤ e
/-- An interval has each number of a sequence. -/
def HasS (p : Int × Int) (x : Nat → Rat) : Prop := ∀ n, Has p (x n)
def Bnd (x : Nat → Rat) : Prop := ∃ M : Rat, 0 < M ∧ ∀ n, -M ≤ x n ∧ x n ≤ M
section
variable {x y z x' y' : Nat → Rat}
theorem Near.refl (x : Nat → Rat) : Near x x := fun e he => ⟨0, fun n _ => ⟨by grind, by grind⟩⟩
theorem Near.symm (h : Near x y) : Near y x := fun e he => by
  obtain ⟨N, k⟩ := h e he
  exact ⟨N, fun n hn => by have := k n hn; exact ⟨by grind, by grind⟩⟩
theorem Near.trans (h : Near x y) (k : Near y z) : Near x z := fun e he => by
  obtain ⟨N, a⟩ := h (e / 2) (by grind)
  obtain ⟨M, b⟩ := k (e / 2) (by grind)
  exact ⟨N + M, fun n hn => by have := a n (by omega); have := b n (by omega); exact ⟨by grind, by grind⟩⟩
/-- A sequence that is nearly not above another one. -/
def NLe (x y : Nat → Rat) : Prop := ∀ e : Rat, 0 < e → ∃ N : Nat, ∀ n, N ≤ n → x n - y n ≤ e
theorem NLe.trans (h : NLe x y) (k : NLe y z) : NLe x z := fun e he => by
  obtain ⟨N, a⟩ := h (e / 2) (by grind)
  obtain ⟨M, b⟩ := k (e / 2) (by grind)
  exact ⟨N + M, fun n hn => by have := a n (by omega); have := b n (by omega); grind⟩
end
theorem HasS.bnd {p : Int × Int} {x : Nat → Rat} (h : HasS p x) : Bnd x := by
  refine ⟨max (max (-val p.1) (val p.2)) 1, by grind, fun n => ?_⟩
  have := (h n).lo; have := (h n).hi
  exact ⟨by grind, by grind⟩
/-! Roots -/
theorem nat_le {m n : Nat} (h : m ≤ n) : ((m : Nat) : Rat) ≤ ((n : Nat) : Rat) := Rat.intCast_le_intCast.2 (Int.ofNat_le.2 h)
theorem nat_nonneg (n : Nat) : (0 : Rat) ≤ ((n : Nat) : Rat) := nat_le (Nat.zero_le n)
theorem arch {e : Rat} (he : 0 < e) : ∃ N : Nat, 1 ≤ e * ((N : Nat) : Rat) := by
  have i : 0 < 1 / e := by rw [Rat.div_def, Rat.one_mul]; exact Rat.inv_pos.2 he
  have c := Rat.le_ceil (x := 1 / e)
  have c0 : (0 : Int) < (1 / e).ceil := Rat.lt_ceil_iff.2 i
  refine ⟨(1 / e).ceil.toNat, ?_⟩
  have k : (((1 / e).ceil.toNat : Nat) : Rat) = (((1 / e).ceil : Int) : Rat) := congrArg (fun x : Int => (x : Rat)) (show (((1 / e).ceil.toNat : Nat) : Int) = (1 / e).ceil by omega)
  rw [k]
  have m := Rat.mul_le_mul_of_nonneg_left c (show 0 ≤ e by grind)
  have o : 1 / e * e = 1 := Rat.div_mul_cancel (by grind)
  grind
theorem two_pow (k : Nat) : ((k : Nat) : Rat) + 1 ≤ (2 : Rat) ^ k := by
  induction k with
  | zero => simp; decide +kernel
  | succ k ih =>
    rw [Rat.pow_succ]
    have e : ((k + 1 : Nat) : Rat) = ((k : Nat) : Rat) + 1 := by simp
    have : (0 : Rat) ≤ ((k : Nat) : Rat) := by
      exact nat_nonneg k
    rw [e]; grind
theorem bisect {x lo hi : Rat} (_h0 : 0 ≤ lo) (h1 : lo * lo ≤ x) (h2 : x ≤ hi * hi) (h3 : lo ≤ hi) (k : Nat) :
    ∃ a b : Rat, lo ≤ a ∧ b ≤ hi ∧ a ≤ b ∧ a * a ≤ x ∧ x ≤ b * b ∧ (b - a) * (2 : Rat) ^ k = hi - lo := by
  induction k with
  | zero => exact ⟨lo, hi, by grind, by grind, h3, h1, h2, by rw [Rat.pow_zero]; grind⟩
  | succ k ih =>
    obtain ⟨a, b, e1, e2, e3, e4, e5, e6⟩ := ih
    by_cases c : (a + b) / 2 * ((a + b) / 2) ≤ x
    · exact ⟨(a + b) / 2, b, by grind, e2, by grind, c, e5, by rw [Rat.pow_succ, ← e6]; grind⟩
    · exact ⟨a, (a + b) / 2, e1, by grind, by grind, e4, by grind, by rw [Rat.pow_succ, ← e6]; grind⟩
/-- A root but for so little, from below and from above. -/
theorem root_near {x lo hi e : Rat} (h0 : 0 ≤ lo) (h1 : lo * lo ≤ x) (h2 : x ≤ hi * hi) (h3 : lo ≤ hi) (he : 0 < e) :
    ∃ a b : Rat, lo ≤ a ∧ b ≤ hi ∧ a ≤ b ∧ a * a ≤ x ∧ x ≤ b * b ∧ b * b - a * a ≤ e := by
  have C0 : 0 ≤ (hi - lo) * (2 * hi) := Rat.mul_nonneg (by grind) (by grind)
  have C1 : 0 < (hi - lo) * (2 * hi) + 1 := by grind
  have q : 0 < e / ((hi - lo) * (2 * hi) + 1) := by rw [Rat.div_def]; exact Rat.mul_pos he (Rat.inv_pos.2 C1)
  obtain ⟨k, hk⟩ := arch q
  obtain ⟨a, b, e1, e2, e3, e4, e5, e6⟩ := bisect h0 h1 h2 h3 k
  refine ⟨a, b, e1, e2, e3, e4, e5, ?_⟩
  have p := two_pow k
  have kp : (0 : Rat) ≤ ((k : Nat) : Rat) := by
    exact nat_nonneg k
  generalize (2 : Rat) ^ k = P at *
  generalize ((k : Nat) : Rat) = K at *
  have P0 : 0 < P := by grind
  have eq : e / ((hi - lo) * (2 * hi) + 1) * ((hi - lo) * (2 * hi) + 1) = e := Rat.div_mul_cancel (by grind)
  -- C <= e * K <= e * P
  have s1 := Rat.mul_le_mul_of_nonneg_right hk (show 0 ≤ (hi - lo) * (2 * hi) + 1 by grind)
  have s2 := Rat.mul_le_mul_of_nonneg_left (show K ≤ P by grind) (show 0 ≤ e by grind)
  have s3 : (hi - lo) * (2 * hi) ≤ e * P := by
    have r1 : e / ((hi - lo) * (2 * hi) + 1) * K * ((hi - lo) * (2 * hi) + 1) = e * K := by rw [← eq]; grind
    grind
  have s4 : (b - a) * (b + a) * P = (hi - lo) * (b + a) := by rw [← e6]; grind
  have s5 := Rat.mul_le_mul_of_nonneg_left (show b + a ≤ 2 * hi by grind) (show 0 ≤ hi - lo by grind)
  have : (b * b - a * a) * P ≤ e * P := by grind
  exact Rat.le_of_mul_le_mul_right this P0
theorem inv_small {e : Rat} (he : 0 < e) : ∃ N : Nat, ∀ n, N ≤ n → 1 / (((n : Nat) : Rat) + 1) ≤ e := by
  obtain ⟨N, h⟩ := arch he
  refine ⟨N, fun n hn => ?_⟩
  have c : ((N : Nat) : Rat) ≤ ((n : Nat) : Rat) := by
    exact nat_le hn
  have kp : (0 : Rat) ≤ ((N : Nat) : Rat) := by
    exact nat_nonneg N
  have := Rat.mul_le_mul_of_nonneg_left c (show 0 ≤ e by grind)
  exact quo_le (by grind) (by grind)
theorem inv_pos' (n : Nat) : (0 : Rat) < 1 / (((n : Nat) : Rat) + 1) := by
  have kp : (0 : Rat) ≤ ((n : Nat) : Rat) := by
    exact nat_nonneg n
  rw [Rat.div_def, Rat.one_mul]; exact Rat.inv_pos.2 (by grind)
/-- The root of an interval has roots, from below and from above. -/
theorem root_seq {p s : Int × Int} {x : Nat → Rat} (hp : Rk p) (h : Got (cSqrt 0 (E p)) s) (a : HasS p x) :
    ∃ r t : Nat → Rat, (∀ n, 0 ≤ r n ∧ r n ≤ t n ∧ r n * r n ≤ x n ∧ x n ≤ t n * t n) ∧ HasS s r ∧ HasS s t ∧ Near (fun n => r n * r n) x ∧ Near (fun n => t n * t n) x := by
  have h0 : 0 ≤ p.1 := by
    by_cases c : 0 ≤ p.1
    · exact c
    · rw [cSqrt_neg hp (by omega)] at h; exact absurd h.e0 (by decide)
  have hl := hp.le
  have := h.uniq (got_sqrt hp h0)
  subst this
  obtain ⟨r0, r1⟩ := root_dn h0
  obtain ⟨t0, t1⟩ := root_up (a := p.2) (by omega)
  have le := val_le.2 (Int.le_trans (sqz_mono (up := false) h0 hl) (sqz_le_up p.2))
  have k : ∀ n : Nat, ∃ ab : Rat × Rat, val (sqz p.1 false) ≤ ab.1 ∧ ab.2 ≤ val (sqz p.2 true) ∧ ab.1 ≤ ab.2 ∧ ab.1 * ab.1 ≤ x n ∧ x n ≤ ab.2 * ab.2 ∧ ab.2 * ab.2 - ab.1 * ab.1 ≤ 1 / (((n : Nat) : Rat) + 1) := fun n => by
    have a1 := (a n).lo; have a2 := (a n).hi
    obtain ⟨u, v, k⟩ := root_near (x := x n) r0 (by grind) (by grind) le (inv_pos' n)
    exact ⟨(u, v), k⟩
  refine ⟨fun n => (Classical.choose (k n)).1, fun n => (Classical.choose (k n)).2, fun n => ?_, fun n => ?_, fun n => ?_, fun e he => ?_, fun e he => ?_⟩
  · have := Classical.choose_spec (k n); exact ⟨by grind, by grind, by grind, by grind⟩
  · have := Classical.choose_spec (k n); exact ⟨by dsimp only; grind, by dsimp only; grind⟩
  · have := Classical.choose_spec (k n); exact ⟨by dsimp only; grind, by dsimp only; grind⟩
  · obtain ⟨N, hN⟩ := inv_small he
    refine ⟨N, fun n hn => ?_⟩
    have := Classical.choose_spec (k n); have := hN n hn
    exact ⟨by grind, by grind⟩
  · obtain ⟨N, hN⟩ := inv_small he
    refine ⟨N, fun n hn => ?_⟩
    have := Classical.choose_spec (k n); have := hN n hn
    exact ⟨by grind, by grind⟩
end Go.Dy
/-! Plain facts: sequences that come together and are bounded. -/
namespace Go.Dy
structure Nr (x y : Nat → Rat) : Prop where
  n : Near x y
  bx : Bnd x
  by' : Bnd y
section
variable {x y z x' y' : Nat → Rat}
theorem Nr.symm (h : Nr x y) : Nr y x := ⟨h.n.symm, h.by', h.bx⟩
theorem Nr.trans (h : Nr x y) (k : Nr y z) : Nr x z := ⟨h.n.trans k.n, h.bx, k.by'⟩
end
theorem HasS.nr {p : Int × Int} {x y : Nat → Rat} (h : HasS p x) (n : Near x y) (b : Bnd y) : Nr x y := ⟨n, h.bnd, b⟩
end Go.Dy
namespace Go.Dy
section
variable {p q : Int × Int} {L H w : Rat}
end
end Go.Dy
