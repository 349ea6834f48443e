/- Plain facts: values of ranks as rational numbers; an interval that a calculator answers has the result of the numbers that the given ones have. -/
import Derived.Test.YtiphdhpacklboaaCa
namespace Go.Dy

theorem res_eq {z y : Int} {p : Int × Int} (h : Got (cRes 0 z y) p) (hzy : z ≤ y) : p = (z, y) := by
  obtain ⟨_, h1, h2⟩ := res_err (congrArg (·.2) h.1)
  exact h.uniq (got_ok hzy ⟨h1, by omega⟩ ⟨by omega, h2⟩)

/-- Units in 1. -/
def S1 : Rat := ((one : Nat) : Rat)
theorem S1_pos : 0 < S1 := Rat.natCast_pos.2 one_pos
/-- A rank's value. -/
def val (z : Int) : Rat := ((V z : Int) : Rat) / S1
theorem val_mul (z : Int) : val z * S1 = ((V z : Int) : Rat) := by
  unfold val; exact Rat.div_mul_cancel (by have := S1_pos; grind)
theorem val_le {y z : Int} : val y ≤ val z ↔ y ≤ z := by
  have s := S1_pos
  rw [← V_le_iff, ← Rat.intCast_le_intCast, ← val_mul, ← val_mul]
  constructor
  · intro h; exact Rat.mul_le_mul_of_nonneg_right h (by grind)
  · intro h; exact Rat.le_of_mul_le_mul_right h s
theorem val_lt {y z : Int} : val y < val z ↔ y < z := by
  have := @val_le z y
  constructor
  · intro h; have h' : ¬ z ≤ y := fun k => by have := this.2 k; grind
    omega
  · intro h; have h' : ¬ val z ≤ val y := fun k => by have := this.1 k; omega
    grind
theorem val_zero : val 0 = 0 := by unfold val; rw [V_zero]; have := S1_pos; grind
theorem val_neg (z : Int) : val (-z) = -val z := by
  have s := S1_pos
  have h : val (-z) * S1 = -val z * S1 := by
    rw [val_mul, V_neg]
    have := val_mul z
    grind
  have n : S1 ≠ 0 := by grind
  rw [← Rat.mul_div_cancel (a := val (-z)) n, h, Rat.mul_div_cancel n]
/-- An interval has a number. -/
structure Has (p : Int × Int) (x : Rat) : Prop where
  lo : val p.1 ≤ x
  hi : x ≤ val p.2
theorem Has.pt (z : Int) : Has (z, z) (val z) := ⟨Rat.le_refl, Rat.le_refl⟩
theorem Has.le {p : Int × Int} {x : Rat} (h : Has p x) : p.1 ≤ p.2 := val_le.1 (by have := h.lo; have := h.hi; grind)

/-! Rounding -/
theorem sum_dn (N : Int) : ((V (fl N 1 false) : Int) : Rat) ≤ ((N : Int) : Rat) := by
  have := (fl_down (z := fl N 1 false) (num := N) (den := 1) (by decide)).1 (Int.le_refl _)
  rw [Rat.intCast_le_intCast]; simpa using this
theorem sum_up' (N : Int) : ((N : Int) : Rat) ≤ ((V (fl N 1 true) : Int) : Rat) := by
  have := (fl_up (z := fl N 1 true) (num := N) (den := 1) (by decide)).1 (Int.le_refl _)
  rw [Rat.intCast_le_intCast]; simpa using this
theorem val_of_le {z : Int} {x : Rat} (h : ((V z : Int) : Rat) ≤ x * S1) : val z ≤ x := by
  rw [← val_mul] at h; exact Rat.le_of_mul_le_mul_right h S1_pos
theorem val_of_ge {z : Int} {x : Rat} (h : x * S1 ≤ ((V z : Int) : Rat)) : x ≤ val z := by
  rw [← val_mul] at h; exact Rat.le_of_mul_le_mul_right h S1_pos
theorem add_dn (a b : Int) : val (fl (V a + V b) 1 false) ≤ val a + val b := val_of_le (by
  have := sum_dn (V a + V b)
  rw [Rat.intCast_add] at this
  have := val_mul a; have := val_mul b; grind)
theorem add_up' (a b : Int) : val a + val b ≤ val (fl (V a + V b) 1 true) := val_of_ge (by
  have := sum_up' (V a + V b)
  rw [Rat.intCast_add] at this
  have := val_mul a; have := val_mul b; grind)
theorem sub_dn (a b : Int) : val (fl (V a - V b) 1 false) ≤ val a - val b := val_of_le (by
  have := sum_dn (V a - V b)
  rw [Rat.intCast_sub] at this
  have := val_mul a; have := val_mul b; grind)
theorem sub_up' (a b : Int) : val a - val b ≤ val (fl (V a - V b) 1 true) := val_of_ge (by
  have := sum_up' (V a - V b)
  rw [Rat.intCast_sub] at this
  have := val_mul a; have := val_mul b; grind)
theorem mul_dn (a b : Int) : val (mulR a b false) ≤ val a * val b := by
  have h := (fl_down (z := mulR a b false) (num := V a * V b) (den := one) one_pos).1 (Int.le_refl _)
  have h' : ((V (mulR a b false) : Int) : Rat) * S1 ≤ ((V a : Int) : Rat) * ((V b : Int) : Rat) := by
    have := Rat.intCast_le_intCast.2 h
    rw [Rat.intCast_mul, Rat.intCast_mul] at this
    exact this
  rw [← val_mul, ← val_mul, ← val_mul] at h'
  have s := S1_pos
  have k : (val (mulR a b false)) * (S1 * S1) ≤ (val a * val b) * (S1 * S1) := by grind
  exact Rat.le_of_mul_le_mul_right k (Rat.mul_pos s s)
theorem mul_up (a b : Int) : val a * val b ≤ val (mulR a b true) := by
  have h := (fl_up (z := mulR a b true) (num := V a * V b) (den := one) one_pos).1 (Int.le_refl _)
  have h' : ((V a : Int) : Rat) * ((V b : Int) : Rat) ≤ ((V (mulR a b true) : Int) : Rat) * S1 := by
    have := Rat.intCast_le_intCast.2 h
    rw [Rat.intCast_mul, Rat.intCast_mul] at this
    exact this
  rw [← val_mul, ← val_mul, ← val_mul] at h'
  have s := S1_pos
  have k : (val a * val b) * (S1 * S1) ≤ (val (mulR a b true)) * (S1 * S1) := by grind
  exact Rat.le_of_mul_le_mul_right k (Rat.mul_pos s s)
theorem sc_le {x y z : Rat} (h : x * S1 * (y * S1) ≤ z * S1 * S1) : x * y ≤ z := by
  have s := S1_pos
  have k : (x * y) * (S1 * S1) ≤ z * (S1 * S1) := by grind
  exact Rat.le_of_mul_le_mul_right k (Rat.mul_pos s s)
theorem sc_ge {x y z : Rat} (h : z * S1 * S1 ≤ x * S1 * (y * S1)) : z ≤ x * y := by
  have s := S1_pos
  have k : z * (S1 * S1) ≤ (x * y) * (S1 * S1) := by grind
  exact Rat.le_of_mul_le_mul_right k (Rat.mul_pos s s)
theorem V_pos' {z : Int} (h : 0 < z) : (0 : Rat) < ((V z : Int) : Rat) := by
  have := V_pos.2 h
  have := Rat.intCast_lt_intCast.2 this
  simpa using this
theorem val_pos {z : Int} (h : 0 < z) : 0 < val z := by rw [← val_zero]; exact val_lt.2 h
theorem div_dn {a b : Int} (hb : 0 < b) : val (divR a b false) * val b ≤ val a := by
  rw [divR_pos hb]
  have vb := V_pos.2 hb
  have hd : 0 < (V b).toNat := by omega
  have h := (fl_down (z := fl (V a * one) (V b).toNat false) (num := V a * one) (den := (V b).toNat) hd).1 (Int.le_refl _)
  rw [show (((V b).toNat : Nat) : Int) = V b by omega] at h
  have h' := Rat.intCast_le_intCast.2 h
  rw [Rat.intCast_mul, Rat.intCast_mul, ← val_mul, ← val_mul, ← val_mul] at h'
  exact sc_le h'
theorem div_up {a b : Int} (hb : 0 < b) : val a ≤ val (divR a b true) * val b := by
  rw [divR_pos hb]
  have vb := V_pos.2 hb
  have hd : 0 < (V b).toNat := by omega
  have h := (fl_up (z := fl (V a * one) (V b).toNat true) (num := V a * one) (den := (V b).toNat) hd).1 (Int.le_refl _)
  rw [show (((V b).toNat : Nat) : Int) = V b by omega] at h
  have h' := Rat.intCast_le_intCast.2 h
  rw [Rat.intCast_mul, Rat.intCast_mul, ← val_mul, ← val_mul, ← val_mul] at h'
  exact sc_ge h'
theorem root_dn {a : Int} (ha : 0 ≤ a) : 0 ≤ val (sqz a false) ∧ val (sqz a false) * val (sqz a false) ≤ val a := by
  refine ⟨by rw [← val_zero]; exact val_le.2 (sqz_nonneg a false), ?_⟩
  have h := (sqz_down ha (sqz_nonneg a false)).1 (Int.le_refl _)
  have h' := Rat.intCast_le_intCast.2 h
  rw [Rat.intCast_mul, Rat.intCast_mul, ← val_mul, ← val_mul] at h'
  exact sc_le h'
theorem root_up {a : Int} (ha : 0 ≤ a) : 0 ≤ val (sqz a true) ∧ val a ≤ val (sqz a true) * val (sqz a true) := by
  refine ⟨by rw [← val_zero]; exact val_le.2 (sqz_nonneg a true), ?_⟩
  have h := (sqz_up ha (sqz_nonneg a true)).1 (Int.le_refl _)
  have h' := Rat.intCast_le_intCast.2 h
  rw [Rat.intCast_mul, Rat.intCast_mul, ← val_mul, ← val_mul] at h'
  exact sc_ge h'

/-! Operations -/
section
variable {p q s : Int × Int} {x y : Rat}
theorem has_add (hp : Rk p) (hq : Rk q) (h : Got (cAdd 0 (E p) (E q)) s) (a : Has p x) (b : Has q y) : Has s (x + y) := by
  rw [cAdd_E hp hq] at h
  have l1 := add_dn p.1 q.1; have l2 := add_up' p.2 q.2
  have a1 := a.lo; have a2 := a.hi; have b1 := b.lo; have b2 := b.hi
  have := res_eq h (val_le.1 (by grind))
  subst this
  exact ⟨by grind, by grind⟩
theorem has_sub (hp : Rk p) (hq : Rk q) (h : Got (cSub 0 (E p) (E q)) s) (a : Has p x) (b : Has q y) : Has s (x - y) := by
  rw [cSub_E hp hq] at h
  have l1 := sub_dn p.1 q.2; have l2 := sub_up' p.2 q.1
  have a1 := a.lo; have a2 := a.hi; have b1 := b.lo; have b2 := b.hi
  have := res_eq h (val_le.1 (by grind))
  subst this
  exact ⟨by grind, by grind⟩
/-- A product of what lies between lies between the ends' products. -/
theorem mul_between {a b c d x y : Rat} (h1 : a ≤ x) (h2 : x ≤ b) (h3 : c ≤ y) (h4 : y ≤ d) : (a * c ≤ x * y ∨ a * d ≤ x * y ∨ b * c ≤ x * y ∨ b * d ≤ x * y) ∧ (x * y ≤ a * c ∨ x * y ≤ a * d ∨ x * y ≤ b * c ∨ x * y ≤ b * d) := by
  -- of y, each end
  have m : ∀ {u v w : Rat}, u ≤ v → 0 ≤ w → u * w ≤ v * w := fun h k => Rat.mul_le_mul_of_nonneg_right h k
  have n : ∀ {u v w : Rat}, u ≤ v → w ≤ 0 → v * w ≤ u * w := fun {u v w} h k => by
    have := m h (show 0 ≤ -w by grind); grind
  have m' : ∀ {u v w : Rat}, u ≤ v → 0 ≤ w → w * u ≤ w * v := fun h k => Rat.mul_le_mul_of_nonneg_left h k
  have n' : ∀ {u v w : Rat}, u ≤ v → w ≤ 0 → w * v ≤ w * u := fun {u v w} h k => by
    have := m' h (show 0 ≤ -w by grind); grind
  by_cases hy : 0 ≤ y
  · have e1 := m h1 hy; have e2 := m h2 hy
    constructor
    · by_cases ha : 0 ≤ a
      · have := m' h3 ha; left; grind
      · have := n' h4 (show a ≤ 0 by grind); right; left; grind
    · by_cases hb : 0 ≤ b
      · have := m' h4 hb; right; right; right; grind
      · have := n' h3 (show b ≤ 0 by grind); right; right; left; grind
  · have e1 := n h1 (show y ≤ 0 by grind); have e2 := n h2 (show y ≤ 0 by grind)
    constructor
    · by_cases hb : 0 ≤ b
      · have := m' h3 hb; right; right; left; grind
      · have := n' h4 (show b ≤ 0 by grind); right; right; right; grind
    · by_cases ha : 0 ≤ a
      · have := m' h4 ha; right; left; grind
      · have := n' h3 (show a ≤ 0 by grind); left; grind
theorem has_mul (hp : Rk p) (hq : Rk q) (h : Got (cMul 0 (E p) (E q)) s) (a : Has p x) (b : Has q y) : Has s (x * y) := by
  rw [cMul_E hp hq] at h
  have := res_eq h (lo4_hi4 hp.le hq.le)
  subst this
  obtain ⟨k1, k2⟩ := mul_between a.lo a.hi b.lo b.hi
  constructor
  · have := mul_dn p.1 q.1; have := mul_dn p.1 q.2; have := mul_dn p.2 q.1; have := mul_dn p.2 q.2
    have g : ∀ {z : Int}, lo4 mulR p q ≤ z → val (lo4 mulR p q) ≤ val z := fun h => val_le.2 h
    have g1 := g (lo4_le (r := mulR) (p := p) (q := q) (.inl (Int.le_refl _)))
    have g2 := g (lo4_le (r := mulR) (p := p) (q := q) (.inr (.inl (Int.le_refl _))))
    have g3 := g (lo4_le (r := mulR) (p := p) (q := q) (.inr (.inr (.inl (Int.le_refl _)))))
    have g4 := g (lo4_le (r := mulR) (p := p) (q := q) (.inr (.inr (.inr (Int.le_refl _)))))
    dsimp only
    rcases k1 with k | k | k | k <;> grind
  · have := mul_up p.1 q.1; have := mul_up p.1 q.2; have := mul_up p.2 q.1; have := mul_up p.2 q.2
    have g1 : val (mulR p.1 q.1 true) ≤ val (hi4 mulR p q) := val_le.2 (by unfold hi4; omega)
    have g2 : val (mulR p.1 q.2 true) ≤ val (hi4 mulR p q) := val_le.2 (by unfold hi4; omega)
    have g3 : val (mulR p.2 q.1 true) ≤ val (hi4 mulR p q) := val_le.2 (by unfold hi4; omega)
    have g4 : val (mulR p.2 q.2 true) ≤ val (hi4 mulR p q) := val_le.2 (by unfold hi4; omega)
    dsimp only
    rcases k2 with k | k | k | k <;> grind
theorem got_nz (hp : Rk p) (hq : Rk q) (h : Got (cDiv 0 (E p) (E q)) s) : nz0 q := by
  by_cases h0 : nz0 q
  · exact h0
  · rw [cDiv_zero hp hq h0] at h; exact absurd h.e0 (by decide)
theorem le_quo {x a b : Rat} (hb : 0 < b) (h : x * b ≤ a) : x ≤ a / b := by
  have := Rat.div_lt_iff (a := a) (b := b) (c := x) hb
  by_cases c : a / b < x
  · have := this.1 c; grind
  · grind
theorem quo_le {x a b : Rat} (hb : 0 < b) (h : a ≤ x * b) : a / b ≤ x := by
  have := Rat.lt_div_iff (a := x) (b := a) (c := b) hb
  by_cases c : x < a / b
  · have := this.1 c; grind
  · grind
theorem quo_dn {a b : Int} (hb : b ≠ 0) : val (divR a b false) ≤ val a / val b := by
  by_cases h : 0 < b
  · exact le_quo (val_pos h) (div_dn h)
  · have hn : 0 < -b := by omega
    have := le_quo (val_pos hn) (div_dn (a := -a) hn)
    rw [divR_neg hb, val_neg, val_neg] at this
    have n : val b ≠ 0 := by have := val_pos hn; rw [val_neg] at this; grind
    grind
theorem quo_up {a b : Int} (hb : b ≠ 0) : val a / val b ≤ val (divR a b true) := by
  by_cases h : 0 < b
  · exact quo_le (val_pos h) (div_up h)
  · have hn : 0 < -b := by omega
    have := quo_le (val_pos hn) (div_up (a := -a) hn)
    rw [divR_neg hb, val_neg, val_neg] at this
    have n : val b ≠ 0 := by have := val_pos hn; rw [val_neg] at this; grind
    grind
/-- A quotient of what lies between, the divisor above 0. -/
theorem div_between {a b c d x y : Rat} (h1 : a ≤ x) (h2 : x ≤ b) (h0 : 0 < c) (h3 : c ≤ y) (h4 : y ≤ d) : (a / d ≤ x / y ∨ a / c ≤ x / y) ∧ (x / y ≤ b / d ∨ x / y ≤ b / c) := by
  have hy : 0 < y := by grind
  have hd : 0 < d := by grind
  -- in the numerator
  have m : ∀ {u v w : Rat}, u ≤ v → 0 < w → u / w ≤ v / w := fun {u v w} h k => le_quo k (by rw [Rat.div_mul_cancel (by grind)]; exact h)
  -- in the divisor
  have n : ∀ {u v w : Rat}, 0 ≤ u → 0 < v → v ≤ w → u / w ≤ u / v := fun {u v w} hu hv k => by
    have hw : 0 < w := by grind
    refine quo_le hw ?_
    have q0 : 0 ≤ u / v := le_quo hv (by grind)
    have := Rat.mul_le_mul_of_nonneg_left k q0
    rw [Rat.div_mul_cancel (by grind)] at this
    exact this
  have n' : ∀ {u v w : Rat}, u ≤ 0 → 0 < v → v ≤ w → u / v ≤ u / w := fun {u v w} hu hv k => by
    have := n (u := -u) (by grind) hv k
    have hw : 0 < w := by grind
    grind
  constructor
  · by_cases hx : 0 ≤ x
    · left; have := n hx hy h4; have := m h1 hd; grind
    · right; have := n' (show x ≤ 0 by grind) h0 h3; have := m h1 h0; grind
  · by_cases hx : 0 ≤ x
    · right; have := n hx h0 h3; have := m h2 h0; grind
    · left; have := n' (show x ≤ 0 by grind) hy h4; have := m h2 hd; grind
theorem has_div (hp : Rk p) (hq : Rk q) (h : Got (cDiv 0 (E p) (E q)) s) (a : Has p x) (b : Has q y) : Has s (x / y) := by
  have h0 := got_nz hp hq h
  rw [cDiv_E hp hq h0] at h
  have := res_eq h (lo4_hi4_div hp.le hq.le h0)
  subst this
  have z1 : q.1 ≠ 0 := by have := hq.le; rcases h0 with h | h <;> omega
  have z2 : q.2 ≠ 0 := by have := hq.le; rcases h0 with h | h <;> omega
  -- of ends
  have k : ((val p.1 / val q.1 ≤ x / y ∨ val p.1 / val q.2 ≤ x / y) ∨ (val p.2 / val q.1 ≤ x / y ∨ val p.2 / val q.2 ≤ x / y)) ∧ ((x / y ≤ val p.1 / val q.1 ∨ x / y ≤ val p.1 / val q.2) ∨ (x / y ≤ val p.2 / val q.1 ∨ x / y ≤ val p.2 / val q.2)) := by
    rcases h0 with h0 | h0
    · obtain ⟨k1, k2⟩ := div_between a.lo a.hi (val_pos h0) b.lo b.hi
      exact ⟨.inl k1.symm, .inr k2.symm⟩
    · have c0 : 0 < -val q.2 := by have := val_pos (z := -q.2) (by omega); rw [val_neg] at this; exact this
      have b1 := b.lo; have b2 := b.hi
      obtain ⟨k1, k2⟩ := div_between (a := -val p.2) (b := -val p.1) (x := -x) (c := -val q.2) (d := -val q.1) (y := -y) (by have := a.hi; grind) (by have := a.lo; grind) c0 (by grind) (by grind)
      have e : ∀ {u v : Rat}, v < 0 → -u / -v = u / v := fun {u v} h => by grind
      have n2 : val q.2 < 0 := by grind
      have n1 : val q.1 < 0 := by grind
      have ny : y < 0 := by grind
      rw [e n1, e n2, e ny] at k1 k2
      exact ⟨.inr k1, .inl k2⟩
  constructor
  · have q1 := quo_dn (a := p.1) z1; have q2 := quo_dn (a := p.1) z2; have q3 := quo_dn (a := p.2) z1; have q4 := quo_dn (a := p.2) z2
    have g : ∀ {z : Int}, lo4 divR p q ≤ z → val (lo4 divR p q) ≤ val z := fun h => val_le.2 h
    have g1 := g (lo4_le (r := divR) (p := p) (q := q) (.inl (Int.le_refl _)))
    have g2 := g (lo4_le (r := divR) (p := p) (q := q) (.inr (.inl (Int.le_refl _))))
    have g3 := g (lo4_le (r := divR) (p := p) (q := q) (.inr (.inr (.inl (Int.le_refl _)))))
    have g4 := g (lo4_le (r := divR) (p := p) (q := q) (.inr (.inr (.inr (Int.le_refl _)))))
    dsimp only
    rcases k.1 with (k | k) | k | k
    · exact Rat.le_trans g1 (Rat.le_trans q1 k)
    · exact Rat.le_trans g2 (Rat.le_trans q2 k)
    · exact Rat.le_trans g3 (Rat.le_trans q3 k)
    · exact Rat.le_trans g4 (Rat.le_trans q4 k)
  · have q1 := quo_up (a := p.1) z1; have q2 := quo_up (a := p.1) z2; have q3 := quo_up (a := p.2) z1; have q4 := quo_up (a := p.2) z2
    have g1 : val (divR p.1 q.1 true) ≤ val (hi4 divR p q) := val_le.2 (by unfold hi4; omega)
    have g2 : val (divR p.1 q.2 true) ≤ val (hi4 divR p q) := val_le.2 (by unfold hi4; omega)
    have g3 : val (divR p.2 q.1 true) ≤ val (hi4 divR p q) := val_le.2 (by unfold hi4; omega)
    have g4 : val (divR p.2 q.2 true) ≤ val (hi4 divR p q) := val_le.2 (by unfold hi4; omega)
    dsimp only
    rcases k.2 with (k | k) | k | k
    · exact Rat.le_trans k (Rat.le_trans q1 g1)
    · exact Rat.le_trans k (Rat.le_trans q2 g2)
    · exact Rat.le_trans k (Rat.le_trans q3 g3)
    · exact Rat.le_trans k (Rat.le_trans q4 g4)
/-- A square. -/
theorem has_sqr (hp : Rk p) (h : Got (cSqr 0 (E p)) s) (a : Has p x) : Has s (x * x) := by
  rw [cSqr_E hp] at h
  obtain ⟨b, b0⟩ := hp.bare
  have := res_eq h (Int.le_trans (mulR_le _ _) (sq_mono b0 b.le))
  subst this
  -- the number without its sign
  have k : ∃ y, 0 ≤ y ∧ y * y = x * x ∧ Has (rBare p) y := by
    have a1 := a.lo; have a2 := a.hi
    unfold rBare
    by_cases c1 : 0 ≤ p.1
    · rw [if_pos c1]
      exact ⟨x, by have := val_le.2 c1; rw [val_zero] at this; grind, rfl, a⟩
    · rw [if_neg c1]
      by_cases c2 : p.2 ≤ 0
      · rw [if_pos c2]
        refine ⟨-x, by have := val_le.2 c2; rw [val_zero] at this; grind, by grind, ?_⟩
        unfold rTurned
        constructor
        · dsimp only; rw [val_neg]; grind
        · dsimp only; rw [val_neg]; grind
      · rw [if_neg c2]
        have m1 : val p.2 ≤ val (max p.2 (-p.1)) := val_le.2 (by omega)
        have m2 : val (-p.1) ≤ val (max p.2 (-p.1)) := val_le.2 (by omega)
        rw [val_neg] at m2
        by_cases hx : 0 ≤ x
        · exact ⟨x, hx, rfl, by dsimp only; rw [val_zero]; exact hx, by dsimp only; grind⟩
        · exact ⟨-x, by grind, by grind, by dsimp only; rw [val_zero]; grind, by dsimp only; grind⟩
  obtain ⟨y, y0, e, k⟩ := k
  rw [← e]
  have k1 := k.lo; have k2 := k.hi
  have l0 : 0 ≤ val (rBare p).1 := by rw [← val_zero]; exact val_le.2 b0
  constructor
  · have := mul_dn (rBare p).1 (rBare p).1
    have := Rat.mul_le_mul_of_nonneg_left k1 l0
    have := Rat.mul_le_mul_of_nonneg_right k1 y0
    dsimp only; grind
  · have := mul_up (rBare p).2 (rBare p).2
    have := Rat.mul_le_mul_of_nonneg_left k2 y0
    have := Rat.mul_le_mul_of_nonneg_right k2 (show 0 ≤ val (rBare p).2 by grind)
    dsimp only; grind
/-- A root: of a number that is a square. -/
theorem has_sqrt (hp : Rk p) (h : Got (cSqrt 0 (E p)) s) (a : Has p (x * x)) (x0 : 0 ≤ x) : Has s x := by
  have h0 : 0 ≤ p.1 := by
    by_cases c : 0 ≤ p.1
    · exact c
    · rw [cSqrt_neg hp (by omega)] at h; exact absurd h.e0 (by decide)
  have hl := hp.le
  have := h.uniq (got_sqrt hp h0)
  subst this
  obtain ⟨r0, r1⟩ := root_dn h0
  obtain ⟨t0, t1⟩ := root_up (a := p.2) (by omega)
  have a1 := a.lo; have a2 := a.hi
  -- of squares
  have sq : ∀ {u v : Rat}, 0 ≤ u → 0 ≤ v → u * u ≤ v * v → u ≤ v := fun {u v} hu hv k => by
    by_cases c : u ≤ v
    · exact c
    · have c' : v < u := by grind
      have := Rat.mul_lt_mul_of_pos_left c' (show 0 < u by grind)
      have := Rat.mul_le_mul_of_nonneg_right (show v ≤ u by grind) hv
      grind
  exact ⟨sq r0 x0 (by dsimp only; grind), sq x0 t0 (by dsimp only; grind)⟩
/-- The greater one. -/
theorem has_max (a : Has p x) (b : Has q y) : Has (rMax p q) (max x y) := by
  have a1 := a.lo; have a2 := a.hi; have b1 := b.lo; have b2 := b.hi
  have e : ∀ u v : Int, val (max u v) = max (val u) (val v) := fun u v => by
    have := @val_le u v; have := @val_le v u
    grind
  unfold rMax
  constructor
  · dsimp only; rw [e]; grind
  · dsimp only; rw [e]; grind
end
end Go.Dy
