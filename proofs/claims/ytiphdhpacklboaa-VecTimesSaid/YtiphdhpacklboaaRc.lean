/- Plain facts: bounds and widths of what a calculator answers. -/
import Derived.Test.YtiphdhpacklboaaRb
namespace Go.Dy

/-- How far a rounded result is, of numbers up to M. -/
def rr (M : Rat) : Rat := M / 4503599627370496 + 1 / 10715086071862673209484250490600018105614048117055336074437503883703510511249361224931983788156958581275946729175531468251871452856923140435984577574698574803934567774824230985421074605062371141877954182153046474983581941267398767559165543946077062914571196477686542167660429831652624386837205668069376
theorem S1_big : (10715086071862673209484250490600018105614048117055336074437503883703510511249361224931983788156958581275946729175531468251871452856923140435984577574698574803934567774824230985421074605062371141877954182153046474983581941267398767559165543946077062914571196477686542167660429831652624386837205668069376 : Rat) ≤ S1 := by
  have h : (10715086071862673209484250490600018105614048117055336074437503883703510511249361224931983788156958581275946729175531468251871452856923140435984577574698574803934567774824230985421074605062371141877954182153046474983581941267398767559165543946077062914571196477686542167660429831652624386837205668069376 : Nat) ≤ one := by decide +kernel
  have := Rat.intCast_le_intCast.2 (Int.ofNat_le.2 h)
  exact this
theorem ee_le : ee ≤ 1 / 10715086071862673209484250490600018105614048117055336074437503883703510511249361224931983788156958581275946729175531468251871452856923140435984577574698574803934567774824230985421074605062371141877954182153046474983581941267398767559165543946077062914571196477686542167660429831652624386837205668069376 := by
  unfold ee
  have s := S1_pos; have b := S1_big
  have p : (0 : Rat) < 10715086071862673209484250490600018105614048117055336074437503883703510511249361224931983788156958581275946729175531468251871452856923140435984577574698574803934567774824230985421074605062371141877954182153046474983581941267398767559165543946077062914571196477686542167660429831652624386837205668069376 := by decide +kernel
  refine quo_le s ?_
  rw [Rat.div_def, Rat.one_mul]
  have i0 : (0 : Rat) ≤ (10715086071862673209484250490600018105614048117055336074437503883703510511249361224931983788156958581275946729175531468251871452856923140435984577574698574803934567774824230985421074605062371141877954182153046474983581941267398767559165543946077062914571196477686542167660429831652624386837205668069376 : Rat)⁻¹ := by decide +kernel
  have := Rat.mul_le_mul_of_nonneg_left b i0
  have e : (10715086071862673209484250490600018105614048117055336074437503883703510511249361224931983788156958581275946729175531468251871452856923140435984577574698574803934567774824230985421074605062371141877954182153046474983581941267398767559165543946077062914571196477686542167660429831652624386837205668069376 : Rat)⁻¹ * 10715086071862673209484250490600018105614048117055336074437503883703510511249361224931983788156958581275946729175531468251871452856923140435984577574698574803934567774824230985421074605062371141877954182153046474983581941267398767559165543946077062914571196477686542167660429831652624386837205668069376 = 1 := by decide +kernel
  grind
theorem rr_ge (M : Rat) : M * uu + ee ≤ rr M := by
  have := ee_le
  unfold rr
  have e : M / 4503599627370496 = M * uu := by unfold uu; grind
  rw [e]; grind
theorem S1_int : (((one : Nat) : Int) : Rat) = S1 := rfl

theorem fl_dn {num : Int} {den : Nat} {X : Rat} (hd : 0 < den) (hX : X * S1 * (((den : Nat) : Int) : Rat) = ((num : Int) : Rat)) : val (fl num den false) ≤ X ∧ X < val (fl num den false + 1) := by
  have s := S1_pos
  have d : (0 : Rat) < (((den : Nat) : Int) : Rat) := by
    have := Rat.intCast_lt_intCast.2 (Int.ofNat_lt.2 hd); simpa using this
  have sd := Rat.mul_pos s d
  constructor
  · have h := (fl_down (z := fl num den false) (num := num) hd).1 (Int.le_refl _)
    have h := Rat.intCast_le_intCast.2 h
    rw [Rat.intCast_mul, ← val_mul, ← hX] at h
    exact Rat.le_of_mul_le_mul_right (by grind) sd
  · have h : ¬ (V (fl num den false + 1) * (den : Int) ≤ num) := fun k => by
      have := (fl_down (z := fl num den false + 1) (num := num) hd).2 k; omega
    have h := Rat.intCast_lt_intCast.2 (show num < V (fl num den false + 1) * (den : Int) by omega)
    rw [Rat.intCast_mul, ← val_mul, ← hX] at h
    by_cases c : X < val (fl num den false + 1)
    · exact c
    · have := Rat.mul_le_mul_of_nonneg_right (show val (fl num den false + 1) ≤ X by grind) (show 0 ≤ S1 * (((den : Nat) : Int) : Rat) by grind)
      grind
theorem fl_upw {num : Int} {den : Nat} {X : Rat} (hd : 0 < den) (hX : X * S1 * (((den : Nat) : Int) : Rat) = ((num : Int) : Rat)) : X ≤ val (fl num den true) ∧ val (fl num den true - 1) < X := by
  obtain ⟨a, b⟩ := fl_dn (num := -num) (X := -X) hd (by rw [Rat.intCast_neg, ← hX]; grind)
  have e : fl (-num) den false = -fl num den true := fl_neg num den false
  rw [e] at a b
  rw [show -fl num den true + 1 = -(fl num den true - 1) by omega, val_neg] at b
  rw [val_neg] at a
  exact ⟨by grind, by grind⟩
theorem fl_far_dn {num : Int} {den : Nat} {X M : Rat} (hd : 0 < den) (hX : X * S1 * (((den : Nat) : Int) : Rat) = ((num : Int) : Rat)) (m1 : -M ≤ X) (m2 : X ≤ M) : val (fl num den false) ≤ X ∧ X - rr M ≤ val (fl num den false) := by
  obtain ⟨a, b⟩ := fl_dn hd hX
  have := near_dn a b m1 m2
  have := rr_ge M
  exact ⟨a, by grind⟩
theorem fl_far_up {num : Int} {den : Nat} {X M : Rat} (hd : 0 < den) (hX : X * S1 * (((den : Nat) : Int) : Rat) = ((num : Int) : Rat)) (m1 : -M ≤ X) (m2 : X ≤ M) : X ≤ val (fl num den true) ∧ val (fl num den true) ≤ X + rr M := by
  obtain ⟨a, b⟩ := fl_upw hd hX
  have := near_up a b m1 m2
  have := rr_ge M
  exact ⟨a, by grind⟩
theorem sum_X (a b : Int) : (val a + val b) * S1 * ((((1 : Nat) : Int)) : Rat) = ((V a + V b : Int) : Rat) := by
  rw [Rat.intCast_add, ← val_mul, ← val_mul]; simp; grind
theorem dif_X (a b : Int) : (val a - val b) * S1 * ((((1 : Nat) : Int)) : Rat) = ((V a - V b : Int) : Rat) := by
  rw [Rat.intCast_sub, ← val_mul, ← val_mul]; simp; grind
theorem mul_X (a b : Int) : (val a * val b) * S1 * ((((one : Nat) : Int)) : Rat) = ((V a * V b : Int) : Rat) := by
  rw [Rat.intCast_mul, ← val_mul, ← val_mul, S1_int]; grind
theorem quo_X {a b : Int} (hb : 0 < b) : (val a / val b) * S1 * ((((V b).toNat : Nat) : Int) : Rat) = ((V a * one : Int) : Rat) := by
  have vb := V_pos.2 hb
  have n : val b ≠ 0 := by have := val_pos hb; grind
  rw [show (((V b).toNat : Nat) : Int) = V b by omega, Rat.intCast_mul, ← val_mul, ← val_mul, S1_int]
  have : val a / val b * val b = val a := Rat.div_mul_cancel n
  grind
theorem S1_ne : S1 ≠ 0 := by have := S1_pos; grind

/-! Operations -/
theorem Bd.pt {z : Int} {L H : Rat} (hz : ok z) (h1 : L ≤ val z) (h2 : val z ≤ H) : Bd (z, z) L H 0 := ⟨⟨hz, hz, Int.le_refl _⟩, h1, h2, by grind⟩
theorem Bd.mono {p : Int × Int} {L H w L' H' w' : Rat} (h : Bd p L H w) (c : L' ≤ L ∧ H ≤ H' ∧ w ≤ w') : Bd p L' H' w' := by
  obtain ⟨rk, lo, hi, wd⟩ := h
  exact ⟨rk, by grind, by grind, by grind⟩
theorem Bd.has {p : Int × Int} {L H w x : Rat} (h : Bd p L H w) (a : Has p x) : L ≤ x ∧ x ≤ H := by
  have := h.lo; have := h.hi; have := a.lo; have := a.hi
  exact ⟨by grind, by grind⟩
theorem Bd.le {p : Int × Int} {L H w : Rat} (h : Bd p L H w) : val p.1 ≤ val p.2 := val_le.2 h.rk.le
/-- What a calculator answers, of two ends. -/
theorem got_ends {z y : Int} {A B W : Rat} (h1 : A ≤ val z) (h2 : val y ≤ B) (hzy : val z ≤ val y) (hw : val y - val z ≤ W) (a : -2037035976334486086268445688409378161051468393665936250636140449354381299763336706183397376 ≤ A) (b : B ≤ 2037035976334486086268445688409378161051468393665936250636140449354381299763336706183397376) : ∃ s, Got (cRes 0 z y) s ∧ Bd s A B W := by
  have oz : ok z := ok_val (by grind) (by grind)
  have oy : ok y := ok_val (by grind) (by grind)
  have le := val_le.1 hzy
  exact ⟨(z, y), got_ok le oz oy, ⟨oz, oy, le⟩, h1, h2, hw⟩
section
variable {p q : Int × Int} {L H w L' H' w' : Rat}
theorem bd_add (M A B W : Rat) (hp : Bd p L H w) (hq : Bd q L' H' w') (c : -M ≤ L + L' ∧ H + H' ≤ M ∧ A ≤ L + L' - rr M ∧ H + H' + rr M ≤ B ∧ w + w' + 2 * rr M ≤ W ∧ -2037035976334486086268445688409378161051468393665936250636140449354381299763336706183397376 ≤ A ∧ B ≤ 2037035976334486086268445688409378161051468393665936250636140449354381299763336706183397376) : ∃ s, Got (cAdd 0 (E p) (E q)) s ∧ Bd s A B W := by
  obtain ⟨c1, c2, c3, c4, c5, c6, c7⟩ := c
  have p1 := hp.lo; have p2 := hp.hi; have p3 := hp.wd; have p4 := hp.le
  have q1 := hq.lo; have q2 := hq.hi; have q3 := hq.wd; have q4 := hq.le
  obtain ⟨a1, a2⟩ := fl_far_dn (M := M) (by decide) (sum_X p.1 q.1) (by grind) (by grind)
  obtain ⟨b1, b2⟩ := fl_far_up (M := M) (by decide) (sum_X p.2 q.2) (by grind) (by grind)
  rw [cAdd_E hp.rk hq.rk]
  exact got_ends (by grind) (by grind) (by grind) (by grind) c6 c7
theorem bd_sub (M A B W : Rat) (hp : Bd p L H w) (hq : Bd q L' H' w') (c : -M ≤ L - H' ∧ H - L' ≤ M ∧ A ≤ L - H' - rr M ∧ H - L' + rr M ≤ B ∧ w + w' + 2 * rr M ≤ W ∧ -2037035976334486086268445688409378161051468393665936250636140449354381299763336706183397376 ≤ A ∧ B ≤ 2037035976334486086268445688409378161051468393665936250636140449354381299763336706183397376) : ∃ s, Got (cSub 0 (E p) (E q)) s ∧ Bd s A B W := by
  obtain ⟨c1, c2, c3, c4, c5, c6, c7⟩ := c
  have p1 := hp.lo; have p2 := hp.hi; have p3 := hp.wd; have p4 := hp.le
  have q1 := hq.lo; have q2 := hq.hi; have q3 := hq.wd; have q4 := hq.le
  obtain ⟨a1, a2⟩ := fl_far_dn (M := M) (by decide) (dif_X p.1 q.2) (by grind) (by grind)
  obtain ⟨b1, b2⟩ := fl_far_up (M := M) (by decide) (dif_X p.2 q.1) (by grind) (by grind)
  rw [cSub_E hp.rk hq.rk]
  exact got_ends (by grind) (by grind) (by grind) (by grind) c6 c7
theorem lo4_is (r : Int → Int → Bool → Int) (p q : Int × Int) : ∃ x y, (x = p.1 ∨ x = p.2) ∧ (y = q.1 ∨ y = q.2) ∧ lo4 r p q = r x y false := by
  have h : lo4 r p q = r p.1 q.1 false ∨ lo4 r p q = r p.1 q.2 false ∨ lo4 r p q = r p.2 q.1 false ∨ lo4 r p q = r p.2 q.2 false := by unfold lo4; omega
  rcases h with h | h | h | h
  · exact ⟨_, _, .inl rfl, .inl rfl, h⟩
  · exact ⟨_, _, .inl rfl, .inr rfl, h⟩
  · exact ⟨_, _, .inr rfl, .inl rfl, h⟩
  · exact ⟨_, _, .inr rfl, .inr rfl, h⟩
theorem hi4_is (r : Int → Int → Bool → Int) (p q : Int × Int) : ∃ x y, (x = p.1 ∨ x = p.2) ∧ (y = q.1 ∨ y = q.2) ∧ hi4 r p q = r x y true := by
  have h : hi4 r p q = r p.1 q.1 true ∨ hi4 r p q = r p.1 q.2 true ∨ hi4 r p q = r p.2 q.1 true ∨ hi4 r p q = r p.2 q.2 true := by unfold hi4; omega
  rcases h with h | h | h | h
  · exact ⟨_, _, .inl rfl, .inl rfl, h⟩
  · exact ⟨_, _, .inl rfl, .inr rfl, h⟩
  · exact ⟨_, _, .inr rfl, .inl rfl, h⟩
  · exact ⟨_, _, .inr rfl, .inr rfl, h⟩
theorem Bd.end {x : Int} (h : Bd p L H w) (hx : x = p.1 ∨ x = p.2) : L ≤ val x ∧ val x ≤ H := by
  have := h.lo; have := h.hi; have := h.le
  rcases hx with rfl | rfl <;> exact ⟨by grind, by grind⟩
theorem Bd.ends {x y : Int} (h : Bd p L H w) (hx : x = p.1 ∨ x = p.2) (hy : y = p.1 ∨ y = p.2) : val x - val y ≤ w ∧ val y - val x ≤ w := by
  have := h.le; have := h.wd
  rcases hx with rfl | rfl <;> rcases hy with rfl | rfl <;> exact ⟨by grind, by grind⟩
/-- A product of what lies within bounds. -/
theorem prod_in {a b A0 B0 : Rat} (h1 : L ≤ a) (h2 : a ≤ H) (h3 : L' ≤ b) (h4 : b ≤ H') (c1 : A0 ≤ L * L' ∧ A0 ≤ L * H' ∧ A0 ≤ H * L' ∧ A0 ≤ H * H') (c2 : L * L' ≤ B0 ∧ L * H' ≤ B0 ∧ H * L' ≤ B0 ∧ H * H' ≤ B0) : A0 ≤ a * b ∧ a * b ≤ B0 := by
  obtain ⟨k1, k2⟩ := mul_between h1 h2 h3 h4
  obtain ⟨c11, c12, c13, c14⟩ := c1
  obtain ⟨c21, c22, c23, c24⟩ := c2
  constructor
  · rcases k1 with k | k | k | k <;> exact Rat.le_trans (by assumption) k
  · rcases k2 with k | k | k | k <;> exact Rat.le_trans k (by assumption)
theorem mul_abs_le {x y m w : Rat} (h1 : -m ≤ x) (h2 : x ≤ m) (h3 : -w ≤ y) (h4 : y ≤ w) : x * y ≤ m * w := by
  have m0 : 0 ≤ m := by grind
  have w0 : 0 ≤ w := by grind
  by_cases hy : 0 ≤ y
  · have := Rat.mul_le_mul_of_nonneg_right h2 hy
    have := Rat.mul_le_mul_of_nonneg_left h4 m0
    grind
  · have := Rat.mul_le_mul_of_nonneg_right (show -x ≤ m by grind) (show 0 ≤ -y by grind)
    have := Rat.mul_le_mul_of_nonneg_left (show -y ≤ w by grind) m0
    grind
theorem bd_mul (M A B W A0 B0 m1 m2 : Rat) (hp : Bd p L H w) (hq : Bd q L' H' w') (c : ((A0 ≤ L * L' ∧ A0 ≤ L * H' ∧ A0 ≤ H * L' ∧ A0 ≤ H * H') ∧ (L * L' ≤ B0 ∧ L * H' ≤ B0 ∧ H * L' ≤ B0 ∧ H * H' ≤ B0)) ∧ (-m1 ≤ L ∧ H ≤ m1 ∧ -m2 ≤ L' ∧ H' ≤ m2) ∧ -M ≤ A0 ∧ B0 ≤ M ∧ (A ≤ A0 - rr M ∨ A ≤ 0 ∧ 0 ≤ L ∧ 0 ≤ L') ∧ B0 + rr M ≤ B ∧ m1 * w' + m2 * w + 2 * rr M ≤ W ∧ -2037035976334486086268445688409378161051468393665936250636140449354381299763336706183397376 ≤ A ∧ B ≤ 2037035976334486086268445688409378161051468393665936250636140449354381299763336706183397376) : ∃ s, Got (cMul 0 (E p) (E q)) s ∧ Bd s A B W := by
  obtain ⟨⟨c1, c2⟩, ⟨d1, d2, d3, d4⟩, c3, c4, c5, c6, c7, c8, c9⟩ := c
  have p1 := hp.lo; have p2 := hp.hi; have p3 := hp.wd; have p4 := hp.le
  have q1 := hq.lo; have q2 := hq.hi; have q3 := hq.wd; have q4 := hq.le
  rw [cMul_E hp.rk hq.rk]
  have hle := val_le.2 (lo4_hi4 hp.rk.le hq.rk.le)
  obtain ⟨x, y, hx, hy, e⟩ := lo4_is mulR p q
  obtain ⟨u, v, hu, hv, f⟩ := hi4_is mulR p q
  rw [e, f] at hle ⊢
  obtain ⟨x1, x2⟩ := hp.end hx; obtain ⟨y1, y2⟩ := hq.end hy
  obtain ⟨u1, u2⟩ := hp.end hu; obtain ⟨v1, v2⟩ := hq.end hv
  obtain ⟨k1, k2⟩ := prod_in x1 x2 y1 y2 c1 c2
  obtain ⟨k3, k4⟩ := prod_in u1 u2 v1 v2 c1 c2
  obtain ⟨a1, a2⟩ := fl_far_dn (M := M) one_pos (mul_X x y) (by grind) (by grind)
  obtain ⟨b1, b2⟩ := fl_far_up (M := M) one_pos (mul_X u v) (by grind) (by grind)
  obtain ⟨w1, w2⟩ := hp.ends hu hx
  obtain ⟨w3, w4⟩ := hq.ends hv hy
  have t1 := mul_abs_le (x := val u) (y := val v - val y) (m := m1) (w := w') (by grind) (by grind) (by grind) (by grind)
  have t2 := mul_abs_le (x := val y) (y := val u - val x) (m := m2) (w := w) (by grind) (by grind) (by grind) (by grind)
  have hA : A ≤ val (mulR x y false) := by
    rcases c5 with c5 | ⟨c5, l1, l2⟩
    · unfold mulR; grind
    · have : 0 ≤ mulR x y false := by
        have i1 : 0 ≤ x := val_le.1 (by rw [val_zero]; grind)
        have i2 : 0 ≤ y := val_le.1 (by rw [val_zero]; grind)
        exact fl_nonneg one_pos (Int.mul_nonneg (V_nonneg.2 i1) (V_nonneg.2 i2))
      have := val_le.2 this; rw [val_zero] at this; grind
  refine got_ends hA (by unfold mulR; grind) hle ?_ c8 c9
  unfold mulR; grind
theorem bd_div (M A B W Q1 Q2 W0 : Rat) (hp : Bd p L H w) (hq : Bd q L' H' w') (c : 0 < L' ∧ (Q1 * L' ≤ L ∧ Q1 * H' ≤ L) ∧ (H ≤ Q2 * L' ∧ H ≤ Q2 * H') ∧ -M ≤ Q1 ∧ Q2 ≤ M ∧ (A ≤ Q1 - rr M ∨ A ≤ 0 ∧ 0 ≤ L) ∧ Q2 + rr M ≤ B ∧ w + M * w' ≤ W0 * L' ∧ W0 + 2 * rr M ≤ W ∧ 0 ≤ W0 ∧ -2037035976334486086268445688409378161051468393665936250636140449354381299763336706183397376 ≤ A ∧ B ≤ 2037035976334486086268445688409378161051468393665936250636140449354381299763336706183397376) : ∃ s, Got (cDiv 0 (E p) (E q)) s ∧ Bd s A B W := by
  obtain ⟨l0, ⟨c1, c2⟩, ⟨c3, c4⟩, m1, m2, c5, c6, c7, c8, c9, c10, c11⟩ := c
  have p1 := hp.lo; have p2 := hp.hi; have p3 := hp.wd; have p4 := hp.le
  have q1 := hq.lo; have q2 := hq.hi; have q3 := hq.wd; have q4 := hq.le
  have z1 : 0 < q.1 := val_lt.1 (by rw [val_zero]; grind)
  have n0 : nz0 q := .inl z1
  have zp : ∀ {y : Int}, (y = q.1 ∨ y = q.2) → 0 < y := fun h => by have := hq.rk.le; rcases h with rfl | rfl <;> omega
  rw [cDiv_E hp.rk hq.rk n0]
  have hle := val_le.2 (lo4_hi4_div hp.rk.le hq.rk.le n0)
  obtain ⟨x, y, hx, hy, e⟩ := lo4_is divR p q
  obtain ⟨u, v, hu, hv, f⟩ := hi4_is divR p q
  rw [e, f] at hle ⊢
  -- a quotient lies within
  have qin : ∀ {x y : Rat}, L ≤ x → x ≤ H → L' ≤ y → y ≤ H' → Q1 ≤ x / y ∧ x / y ≤ Q2 := fun {x y} h1 h2 h3 h4 => by
    have y0 : 0 < y := by grind
    constructor
    · refine le_quo y0 ?_
      by_cases s : 0 ≤ Q1
      · have := Rat.mul_le_mul_of_nonneg_left h4 s; grind
      · have := Rat.mul_le_mul_of_nonneg_left h3 (show 0 ≤ -Q1 by grind); grind
    · refine quo_le y0 ?_
      by_cases s : 0 ≤ Q2
      · have := Rat.mul_le_mul_of_nonneg_left h3 s; grind
      · have := Rat.mul_le_mul_of_nonneg_left h4 (show 0 ≤ -Q2 by grind); grind
  obtain ⟨x1, x2⟩ := hp.end hx; obtain ⟨y1, y2⟩ := hq.end hy
  obtain ⟨u1, u2⟩ := hp.end hu; obtain ⟨v1, v2⟩ := hq.end hv
  obtain ⟨k1, k2⟩ := qin x1 x2 y1 y2
  obtain ⟨k3, k4⟩ := qin u1 u2 v1 v2
  have py := zp hy; have pv := zp hv
  have ey : divR x y false = fl (V x * one) (V y).toNat false := divR_pos py
  have ev : divR u v true = fl (V u * one) (V v).toNat true := divR_pos pv
  have dy : 0 < (V y).toNat := by have := V_pos.2 py; omega
  have dv : 0 < (V v).toNat := by have := V_pos.2 pv; omega
  obtain ⟨a1, a2⟩ := fl_far_dn (M := M) dy (quo_X (a := x) py) (by grind) (by grind)
  obtain ⟨b1, b2⟩ := fl_far_up (M := M) dv (quo_X (a := u) pv) (by grind) (by grind)
  rw [← ey] at a1 a2; rw [← ev] at b1 b2
  obtain ⟨w1, w2⟩ := hp.ends hu hx
  obtain ⟨w3, w4⟩ := hq.ends hv hy
  have t1 := mul_abs_le (x := val u / val v) (y := val y - val v) (m := M) (w := w') (by grind) (by grind) (by grind) (by grind)
  have vv : val u / val v * val v = val u := Rat.div_mul_cancel (by grind)
  have yy : val x / val y * val y = val x := Rat.div_mul_cancel (by grind)
  have t2 : val u / val v - val x / val y ≤ W0 := by
    have y0 : 0 < val y := by grind
    have g := Rat.mul_le_mul_of_nonneg_left y1 c9
    exact Rat.le_of_mul_le_mul_right (by grind) y0
  have hA : A ≤ val (divR x y false) := by
    rcases c5 with c5 | ⟨c5, l1⟩
    · grind
    · have : 0 ≤ divR x y false := by
        rw [ey]
        have i1 : 0 ≤ x := val_le.1 (by rw [val_zero]; grind)
        exact fl_nonneg dy (Int.mul_nonneg (V_nonneg.2 i1) (by have := one_pos; omega))
      have := val_le.2 this; rw [val_zero] at this; grind
  exact got_ends hA (by grind) hle (by grind) c10 c11
theorem Bd.bare (hp : Bd p L H w) : ∃ a b, rBare p = (a, b) ∧ 0 ≤ val a ∧ val a ≤ val b ∧ (0 ≤ L → L ≤ val a) ∧ (val b ≤ H ∨ val b ≤ -L) ∧ val b - val a ≤ w ∧ ok a ∧ ok b := by
  obtain ⟨r, r0⟩ := hp.rk.bare
  have p1 := hp.lo; have p2 := hp.hi; have p3 := hp.wd; have p4 := hp.le
  have l0 := val_le.2 r0; rw [val_zero] at l0
  refine ⟨(rBare p).1, (rBare p).2, rfl, l0, val_le.2 r.le, ?_, ?_, ?_, r.lo, r.hi⟩
  · intro hl
    have : 0 ≤ p.1 := val_le.1 (by rw [val_zero]; grind)
    unfold rBare; rw [if_pos this]; exact p1
  · unfold rBare
    split
    · left; exact p2
    · split
      · right; show val (-p.1) ≤ _; rw [val_neg]; grind
      · show val (max p.2 (-p.1)) ≤ _ ∨ _
        by_cases c : p.2 ≤ -p.1
        · right; rw [show max p.2 (-p.1) = -p.1 by omega, val_neg]; grind
        · left; rw [show max p.2 (-p.1) = p.2 by omega]; exact p2
  · unfold rBare
    split
    · exact p3
    · split
      · show val (-p.1) - val (-p.2) ≤ _; rw [val_neg, val_neg]; grind
      · rename_i c1 c2
        have h1 : val p.1 ≤ 0 := by rw [← val_zero]; exact val_le.2 (by omega)
        have h2 : 0 ≤ val p.2 := by rw [← val_zero]; exact val_le.2 (by omega)
        show val (max p.2 (-p.1)) - val 0 ≤ _
        rw [val_zero]
        by_cases c : p.2 ≤ -p.1
        · rw [show max p.2 (-p.1) = -p.1 by omega, val_neg]; grind
        · rw [show max p.2 (-p.1) = p.2 by omega]; grind
theorem bd_sqr (M A B W m : Rat) (hp : Bd p L H w) (c : -m ≤ L ∧ H ≤ m ∧ m * m ≤ M ∧ (A ≤ L * L - rr M ∧ 0 ≤ L ∨ A ≤ 0) ∧ m * m + rr M ≤ B ∧ 2 * m * w + 2 * rr M ≤ W ∧ -2037035976334486086268445688409378161051468393665936250636140449354381299763336706183397376 ≤ A ∧ B ≤ 2037035976334486086268445688409378161051468393665936250636140449354381299763336706183397376) : ∃ s, Got (cSqr 0 (E p)) s ∧ Bd s A B W := by
  obtain ⟨c1, c2, c3, c4, c5, c6, c7, c8⟩ := c
  rw [cSqr_E hp.rk]
  obtain ⟨a, b, e, a0, ab, al, bh, wd, oa, ob⟩ := hp.bare
  rw [e]
  have bm : val b ≤ m := by rcases bh with h | h <;> grind
  have s1 := Rat.mul_le_mul_of_nonneg_left bm (show 0 ≤ m by grind)
  have s2 := Rat.mul_le_mul_of_nonneg_right bm (show 0 ≤ val b by grind)
  have s3 := Rat.mul_le_mul_of_nonneg_left ab a0
  have s4 := Rat.mul_le_mul_of_nonneg_right ab (show 0 ≤ val b by grind)
  have s5 := Rat.mul_nonneg a0 a0
  obtain ⟨a1, a2⟩ := fl_far_dn (M := M) one_pos (mul_X a a) (by grind) (by grind)
  obtain ⟨b1, b2⟩ := fl_far_up (M := M) one_pos (mul_X b b) (by grind) (by grind)
  have hA : A ≤ val (mulR a a false) := by
    rcases c4 with ⟨c4, l1⟩ | c4
    · have l2 := al l1
      have := Rat.mul_le_mul_of_nonneg_left l2 l1
      have := Rat.mul_le_mul_of_nonneg_right l2 a0
      unfold mulR; grind
    · have : 0 ≤ mulR a a false := by
        have i1 : 0 ≤ a := val_le.1 (by rw [val_zero]; grind)
        exact fl_nonneg one_pos (Int.mul_nonneg (V_nonneg.2 i1) (V_nonneg.2 i1))
      have := val_le.2 this; rw [val_zero] at this; grind
  have t := mul_abs_le (x := val b + val a) (y := val b - val a) (m := 2 * m) (w := w) (by grind) (by grind) (by grind) wd
  refine got_ends hA (by unfold mulR; grind) (by unfold mulR; grind) ?_ c7 c8
  unfold mulR; grind
/-- Of squares. -/
theorem sq_le_sq {u v : Rat} (_hu : 0 ≤ u) (hv : 0 ≤ v) (k : u * u ≤ v * v) : u ≤ v := by
  by_cases c : u ≤ v
  · exact c
  · have c' : v < u := by grind
    have := Rat.mul_lt_mul_of_pos_left c' (show 0 < u by grind)
    have := Rat.mul_le_mul_of_nonneg_right (show v ≤ u by grind) hv
    grind
theorem root_next {a : Int} (ha : 0 ≤ a) : val a < val (sqz a false + 1) * val (sqz a false + 1) := by
  have h0 := sqz_nonneg a false
  have h : ¬ (V (sqz a false + 1) * V (sqz a false + 1) ≤ V a * one) := fun k => by
    have := (sqz_down ha (y := sqz a false + 1) (by omega)).2 k; omega
  have h := Rat.intCast_lt_intCast.2 (show V a * one < V (sqz a false + 1) * V (sqz a false + 1) by omega)
  rw [Rat.intCast_mul, Rat.intCast_mul, ← val_mul, ← val_mul, S1_int] at h
  have s := S1_pos
  by_cases c : val a < val (sqz a false + 1) * val (sqz a false + 1)
  · exact c
  · have := Rat.mul_le_mul_of_nonneg_right (show val (sqz a false + 1) * val (sqz a false + 1) ≤ val a by grind) (show 0 ≤ S1 * S1 by have := Rat.mul_pos s s; grind)
    grind
theorem root_prev {a : Int} (ha : 0 ≤ a) (h1 : 0 < sqz a true) : val (sqz a true - 1) * val (sqz a true - 1) < val a := by
  have h : ¬ (V a * one ≤ V (sqz a true - 1) * V (sqz a true - 1)) := fun k => by
    have := (sqz_up ha (y := sqz a true - 1) (by omega)).2 k; omega
  have h := Rat.intCast_lt_intCast.2 (show V (sqz a true - 1) * V (sqz a true - 1) < V a * one by omega)
  rw [Rat.intCast_mul, Rat.intCast_mul, ← val_mul, ← val_mul, S1_int] at h
  have s := S1_pos
  by_cases c : val (sqz a true - 1) * val (sqz a true - 1) < val a
  · exact c
  · have := Rat.mul_le_mul_of_nonneg_right (show val a ≤ val (sqz a true - 1) * val (sqz a true - 1) by grind) (show 0 ≤ S1 * S1 by have := Rat.mul_pos s s; grind)
    grind
/-- A root: r a lower bound of it above 0, h an upper one. -/
theorem bd_sqrt (A B W r h W0 : Rat) (hp : Bd p L H w) (c : 0 < r ∧ r * r ≤ L ∧ 0 ≤ h ∧ H ≤ h * h ∧ A ≤ r - rr h ∧ h + rr h ≤ B ∧ w ≤ W0 * (2 * r) ∧ 0 ≤ W0 ∧ W0 + 2 * rr h ≤ W ∧ -2037035976334486086268445688409378161051468393665936250636140449354381299763336706183397376 ≤ A ∧ B ≤ 2037035976334486086268445688409378161051468393665936250636140449354381299763336706183397376) : ∃ s, Got (cSqrt 0 (E p)) s ∧ Bd s A B W := by
  obtain ⟨c0, c1, ch, c2, c3, c4, c5, c6, c7, c8, c9⟩ := c
  have p1 := hp.lo; have p2 := hp.hi; have p3 := hp.wd; have p4 := hp.le
  have rr0 := Rat.mul_pos c0 c0
  have z1 : 0 < p.1 := val_lt.1 (by rw [val_zero]; grind)
  have z2 : 0 < p.2 := by have := hp.rk.le; omega
  rw [cSqrt_E hp.rk (by omega)]
  obtain ⟨a0, a1⟩ := root_dn (a := p.1) (by omega)
  obtain ⟨b0, b1⟩ := root_up (a := p.2) (by omega)
  have an := root_next (a := p.1) (by omega)
  have bpos : 0 < sqz p.2 true := val_lt.1 (by
    rw [val_zero]
    by_cases c : 0 < val (sqz p.2 true)
    · exact c
    · have e : val (sqz p.2 true) = 0 := by grind
      rw [e] at b1; grind)
  have bp := root_prev (a := p.2) (by omega) bpos
  have v0 : 0 ≤ val (sqz p.1 false + 1) := by rw [← val_zero]; exact val_le.2 (by have := sqz_nonneg p.1 false; omega)
  have u0 : 0 ≤ val (sqz p.2 true - 1) := by rw [← val_zero]; exact val_le.2 (by omega)
  have g1 := gap_pos (z := sqz p.1 false) (sqz_nonneg _ _)
  have g2 := gap_pos (z := sqz p.2 true - 1) (by omega)
  rw [show sqz p.2 true - 1 + 1 = sqz p.2 true by omega] at g2
  -- upper bounds
  have uh : val (sqz p.2 true - 1) ≤ h := sq_le_sq u0 ch (by grind)
  have lh : val (sqz p.1 false) ≤ h := sq_le_sq a0 ch (by grind)
  have uu0 : 0 ≤ uu := by unfold uu; decide +kernel
  have k1 := Rat.mul_le_mul_of_nonneg_right uh uu0
  have k2 := Rat.mul_le_mul_of_nonneg_right lh uu0
  have kr := rr_ge h
  -- the lower one
  have rv : r ≤ val (sqz p.1 false + 1) := sq_le_sq (by grind) v0 (by grind)
  -- between the neighbours
  have d : val (sqz p.2 true - 1) - val (sqz p.1 false + 1) ≤ W0 := by
    by_cases c : val (sqz p.2 true - 1) ≤ val (sqz p.1 false + 1)
    · grind
    · have t : (val (sqz p.2 true - 1) - val (sqz p.1 false + 1)) * (2 * r) ≤ (val (sqz p.2 true - 1) - val (sqz p.1 false + 1)) * (val (sqz p.2 true - 1) + val (sqz p.1 false + 1)) := Rat.mul_le_mul_of_nonneg_left (by grind) (by grind)
      exact Rat.le_of_mul_le_mul_right (c := 2 * r) (by grind) (by grind)
  have hle := val_le.2 (Int.le_trans (sqz_mono (up := false) (by omega) hp.rk.le) (sqz_le_up p.2))
  exact got_ends (by grind) (by grind) hle (by grind) c8 c9
theorem val_max (u v : Int) : val (max u v) = max (val u) (val v) := by
  have := @val_le u v; have := @val_le v u
  grind
theorem val_min (u v : Int) : val (min u v) = min (val u) (val v) := by
  have := @val_le u v; have := @val_le v u
  grind
theorem bd_max (A B W : Rat) (hp : Bd p L H w) (hq : Bd q L' H' w') (c : (A ≤ L ∨ A ≤ L') ∧ H ≤ B ∧ H' ≤ B ∧ w ≤ W ∧ w' ≤ W) : Got (cMax 0 (E p) (E q)) (rMax p q) ∧ Bd (rMax p q) A B W := by
  obtain ⟨c1, c2, c3, c4, c5⟩ := c
  have p1 := hp.lo; have p2 := hp.hi; have p3 := hp.wd; have p4 := hp.le
  have q1 := hq.lo; have q2 := hq.hi; have q3 := hq.wd; have q4 := hq.le
  have g := got_max hp.rk hq.rk
  refine ⟨g, g.rk, ?_, ?_, ?_⟩
  · show A ≤ val (max p.1 q.1); rw [val_max]; rcases c1 with c1 | c1 <;> grind
  · show val (max p.2 q.2) ≤ B; rw [val_max]; grind
  · show val (max p.2 q.2) - val (max p.1 q.1) ≤ W; rw [val_max, val_max]; grind
/-- Kept within two numbers. -/
def rClip (x y : Int) (p : Int × Int) : Int × Int := (min (max p.1 x) y, min (max p.2 x) y)
theorem clip_R {x y : Int} {l h : Nat} (hp : Rk p) (hx : ok x) (hy : ok y) (hl : l = enc x) (hh : h = enc y) : clip l h (E p) = E (rClip x y p) ∧ Rk (rClip x y p) := by
  subst hl hh; exact clip_E hp hx hy
theorem bd_clip {x y : Int} {l h : Nat} (A B : Rat) (hx : ok x) (hy : ok y) (hl : l = enc x) (hh : h = enc y) (hp : Bd p L H w) (c1 : A ≤ L ∨ A ≤ val x) (c1' : A ≤ val y) (c2 : H ≤ B ∨ val y ≤ B) (c2' : val x ≤ B) (xy : x ≤ y) : clip l h (E p) = E (rClip x y p) ∧ Bd (rClip x y p) A B w := by
  obtain ⟨e, r⟩ := clip_R hp.rk hx hy hl hh
  have p1 := hp.lo; have p2 := hp.hi; have p3 := hp.wd; have p4 := hp.le
  have xy' := val_le.2 xy
  refine ⟨e, r, ?_, ?_, ?_⟩
  · show A ≤ val (min (max p.1 x) y); rw [val_min, val_max]; rcases c1 with c1 | c1 <;> grind
  · show val (min (max p.2 x) y) ≤ B; rw [val_min, val_max]; rcases c2 with c2 | c2 <;> grind
  · show val (min (max p.2 x) y) - val (min (max p.1 x) y) ≤ w; rw [val_min, val_max, val_min, val_max]; grind
theorem has_clip {x y : Int} {t : Rat} (h : Has p t) (h1 : val x ≤ t) (h2 : t ≤ val y) : Has (rClip x y p) t := by
  have a := h.lo; have b := h.hi
  constructor
  · show val (min (max p.1 x) y) ≤ t; rw [val_min, val_max]; grind
  · show t ≤ val (min (max p.2 x) y); rw [val_min, val_max]; grind
end
end Go.Dy
namespace Go.Dy
theorem val_q {z num : Int} {den : Nat} (hd : den ≠ 0) (h : V z * (den : Int) = num * one) : val z = ((num : Int) : Rat) / (((den : Nat) : Int) : Rat) := by
  have s := S1_pos
  have k : ((V z * (den : Int) : Int) : Rat) = ((num * (one : Int) : Int) : Rat) := by rw [h]
  rw [Rat.intCast_mul, Rat.intCast_mul, ← val_mul, S1_int] at k
  have d : ((((den : Nat) : Int)) : Rat) ≠ 0 := by
    intro c
    have : ((den : Nat) : Int) = 0 := Rat.intCast_inj.1 (by rw [c]; rfl)
    omega
  have e : (val z * ((((den : Nat) : Int)) : Rat)) * S1 = ((num : Int) : Rat) * S1 := by grind
  have e' : val z * ((((den : Nat) : Int)) : Rat) = ((num : Int) : Rat) := by
    have := Rat.mul_div_cancel (a := val z * ((((den : Nat) : Int)) : Rat)) S1_ne
    rw [← this, e, Rat.mul_div_cancel S1_ne]
  rw [← e', Rat.mul_div_cancel d]
theorem bd_num {x : Nat} {z num : Int} {den : Nat} (hz : ok z) (hx : x = enc z) (hd : den ≠ 0) (h : V z * (den : Int) = num * one) : Got (cNum 0 x) (z, z) ∧ Bd (z, z) (((num : Int) : Rat) / (((den : Nat) : Int) : Rat)) (((num : Int) : Rat) / (((den : Nat) : Int) : Rat)) 0 ∧ Has (z, z) (((num : Int) : Rat) / (((den : Nat) : Int) : Rat)) := by
  subst hx
  have e := val_q hd h
  refine ⟨got_num hz, ?_, ?_⟩
  · exact Bd.pt hz (by rw [e]; exact Rat.le_refl) (by rw [e]; exact Rat.le_refl)
  · rw [← e]; exact Has.pt z
theorem bd_clipq {x y nx ny : Int} {dx dy l h : Nat} {p : Int × Int} {L H w : Rat} (A B : Rat) (hx : ok x) (hy : ok y) (hl : l = enc x) (hh : h = enc y) (hp : Bd p L H w) (c : dx ≠ 0 ∧ dy ≠ 0 ∧ V x * (dx : Int) = nx * one ∧ V y * (dy : Int) = ny * one) (k : (A ≤ L ∨ A ≤ ((nx : Int) : Rat) / (((dx : Nat) : Int) : Rat)) ∧ A ≤ ((ny : Int) : Rat) / (((dy : Nat) : Int) : Rat) ∧ (H ≤ B ∨ ((ny : Int) : Rat) / (((dy : Nat) : Int) : Rat) ≤ B) ∧ ((nx : Int) : Rat) / (((dx : Nat) : Int) : Rat) ≤ B) (xy : x ≤ y) : clip l h (E p) = E (rClip x y p) ∧ Bd (rClip x y p) A B w := by
  rw [← val_q c.1 c.2.2.1, ← val_q c.2.1 c.2.2.2] at k
  exact bd_clip A B hx hy hl hh hp k.1 k.2.1 k.2.2.1 k.2.2.2 xy
theorem has_clipq {x y nx ny : Int} {dx dy : Nat} {p : Int × Int} {t a b : Rat} (h : Has p t) (c : dx ≠ 0 ∧ dy ≠ 0 ∧ V x * (dx : Int) = nx * one ∧ V y * (dy : Int) = ny * one) (k : ((nx : Int) : Rat) / (((dx : Nat) : Int) : Rat) = a ∧ ((ny : Int) : Rat) / (((dy : Nat) : Int) : Rat) = b) : Has (rClip x y p) (min (max t a) b) := by
  rw [← val_q c.1 c.2.2.1, ← val_q c.2.1 c.2.2.2] at k
  obtain ⟨rfl, rfl⟩ := k
  have a := h.lo; have b := h.hi
  constructor
  · show val (min (max p.1 x) y) ≤ _; rw [val_min, val_max]; grind
  · show _ ≤ val (min (max p.2 x) y); rw [val_min, val_max]; grind
/-- Pi's interval, and a number of it. -/
def piP : Int × Int := (4614256656552045848, 4614256656552045849)
def piQ : Rat := 7074237752028440 / 2251799813685248
theorem bd_pi : Bd piP (7074237752028440 / 2251799813685248) (7074237752028441 / 2251799813685248) (1 / 2251799813685248) ∧ E piP = (4614256656552045848, 4614256656552045849) ∧ Has piP piQ := by
  have e1 : val piP.1 = _ := val_q (z := 4614256656552045848) (num := 7074237752028440) (den := 2251799813685248) (by decide) (by decide +kernel)
  have e2 : val piP.2 = _ := val_q (z := 4614256656552045849) (num := 7074237752028441) (den := 2251799813685248) (by decide) (by decide +kernel)
  have o : Rk piP := ⟨ok_B (by decide) (by decide), ok_B (by decide) (by decide), by decide⟩
  refine ⟨⟨o, ?_, ?_, ?_⟩, by decide, ?_, ?_⟩
  · rw [e1]; decide +kernel
  · rw [e2]; decide +kernel
  · rw [e1, e2]; decide +kernel
  · rw [e1]; decide +kernel
  · rw [e2]; decide +kernel
/-- Of a number within two whole ones. -/
theorem bd_in {z x y nx ny : Int} {dx dy : Nat} (hx : x ≤ z) (hy : z ≤ y) (oz : ok z) (c : dx ≠ 0 ∧ dy ≠ 0 ∧ V x * (dx : Int) = nx * one ∧ V y * (dy : Int) = ny * one) : Bd (z, z) (((nx : Int) : Rat) / (((dx : Nat) : Int) : Rat)) (((ny : Int) : Rat) / (((dy : Nat) : Int) : Rat)) 0 := by
  rw [← val_q c.1 c.2.2.1, ← val_q c.2.1 c.2.2.2]
  exact Bd.pt oz (val_le.2 hx) (val_le.2 hy)
end Go.Dy
