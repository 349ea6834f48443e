/- Plain facts: bounds and widths of a calculator's answers, as multiples of a number. -/
import Derived.Test.YtiphdhpacklboaaRi
namespace Go.Dy
/-- How far a rounded number lies off, as a multiple. -/
def rs (M : Rat) : Rat := M / 4503599627370496 + 1 / 5260135901548373507240989882880128665550339802823173859498280903068732154297080822113666536277588451226982968856178217713019432250183803863127814770651880849955223671128444598191663757884322717271293251735781376
/-- A number of which others are multiples. -/
structure Sc (S : Rat) : Prop where
  lo : 1 / 1606938044258990275541962092341162602522202993782792835301376 ≤ S
  hi : S ≤ 1606938044258990275541962092341162602522202993782792835301376
theorem Sc.pos {S : Rat} (h : Sc S) : 0 ≤ S := by have := h.lo; grind
theorem rr_s {S : Rat} (h : Sc S) (M : Rat) : rr (M * S) ≤ rs M * S := by
  have l := h.lo
  unfold rr rs
  have k := Rat.mul_le_mul_of_nonneg_left l (show (0 : Rat) ≤ 1 / 5260135901548373507240989882880128665550339802823173859498280903068732154297080822113666536277588451226982968856178217713019432250183803863127814770651880849955223671128444598191663757884322717271293251735781376 by decide +kernel)
  have n : (1 : Rat) / 10715086071862673209484250490600018105614048117055336074437503883703510511249361224931983788156958581275946729175531468251871452856923140435984577574698574803934567774824230985421074605062371141877954182153046474983581941267398767559165543946077062914571196477686542167660429831652624386837205668069376 ≤ 1 / 5260135901548373507240989882880128665550339802823173859498280903068732154297080822113666536277588451226982968856178217713019432250183803863127814770651880849955223671128444598191663757884322717271293251735781376 * (1 / 32768) := by decide +kernel
  grind
theorem sm_le {S a b : Rat} (h : Sc S) (k : a ≤ b) : a * S ≤ b * S := Rat.mul_le_mul_of_nonneg_right k h.pos
theorem sc_lo {S A : Rat} (h : Sc S) (k : -1048576 ≤ A) : -2037035976334486086268445688409378161051468393665936250636140449354381299763336706183397376 ≤ A * S := by
  have a := sm_le h k; have := h.hi; grind
theorem sc_hi {S A : Rat} (h : Sc S) (k : A ≤ 1048576) : A * S ≤ 2037035976334486086268445688409378161051468393665936250636140449354381299763336706183397376 := by
  have a := sm_le h k; have := h.hi; grind
section
variable {p q : Int × Int} {L H w L' H' w' : Rat} {S S' : Rat}
theorem bs_one (h : Bd p L H w) : Bd p (L * 1) (H * 1) (w * 1) := by rw [Rat.mul_one, Rat.mul_one, Rat.mul_one]; exact h
theorem bs_mono {A B W : Rat} (hS : Sc S) (h : Bd p (L * S) (H * S) (w * S)) (c : A ≤ L ∧ H ≤ B ∧ w ≤ W) : Bd p (A * S) (B * S) (W * S) :=
  h.mono ⟨sm_le hS c.1, sm_le hS c.2.1, sm_le hS c.2.2⟩
/-- Bounds out of a number that is known. -/
theorem bs_re {x lo hi A B : Rat} (hS : Sc S) (h : Bd p (L * S) (H * S) (w * S)) (a : Has p x) (k1 : lo * S ≤ x) (k2 : x ≤ hi * S) (c : A ≤ lo - w ∧ hi + w ≤ B) : Bd p (A * S) (B * S) (w * S) := by
  have c1 := sm_le hS c.1; have c2 := sm_le hS c.2
  have l := a.lo; have u := a.hi; have wd := h.wd
  exact ⟨h.rk, by grind, by grind, wd⟩
theorem bd_re {x A B : Rat} (h : Bd p L H w) (a : Has p x) (c : A ≤ x - w ∧ x + w ≤ B) : Bd p A B w := by
  have l := a.lo; have u := a.hi; have wd := h.wd
  exact ⟨h.rk, by grind, by grind, wd⟩
theorem bs_add (M A B W : Rat) (hS : Sc S) (hp : Bd p (L * S) (H * S) (w * S)) (hq : Bd q (L' * S) (H' * S) (w' * S)) (c : -M ≤ L + L' ∧ H + H' ≤ M ∧ A ≤ L + L' - rs M ∧ H + H' + rs M ≤ B ∧ w + w' + 2 * rs M ≤ W ∧ -1048576 ≤ A ∧ B ≤ 1048576) : ∃ s, Got (cAdd 0 (E p) (E q)) s ∧ Bd s (A * S) (B * S) (W * S) := by
  obtain ⟨c1, c2, c3, c4, c5, c6, c7⟩ := c
  have r := rr_s hS M
  have k1 := sm_le hS c1; have k2 := sm_le hS c2; have k3 := sm_le hS c3; have k4 := sm_le hS c4; have k5 := sm_le hS c5
  exact bd_add (M * S) _ _ _ hp hq ⟨by grind, by grind, by grind, by grind, by grind, sc_lo hS c6, sc_hi hS c7⟩
theorem bs_sub (M A B W : Rat) (hS : Sc S) (hp : Bd p (L * S) (H * S) (w * S)) (hq : Bd q (L' * S) (H' * S) (w' * S)) (c : -M ≤ L - H' ∧ H - L' ≤ M ∧ A ≤ L - H' - rs M ∧ H - L' + rs M ≤ B ∧ w + w' + 2 * rs M ≤ W ∧ -1048576 ≤ A ∧ B ≤ 1048576) : ∃ s, Got (cSub 0 (E p) (E q)) s ∧ Bd s (A * S) (B * S) (W * S) := by
  obtain ⟨c1, c2, c3, c4, c5, c6, c7⟩ := c
  have r := rr_s hS M
  have k1 := sm_le hS c1; have k2 := sm_le hS c2; have k3 := sm_le hS c3; have k4 := sm_le hS c4; have k5 := sm_le hS c5
  exact bd_sub (M * S) _ _ _ hp hq ⟨by grind, by grind, by grind, by grind, by grind, sc_lo hS c6, sc_hi hS c7⟩
theorem bs_mul {R : Rat} (M A B W A0 B0 m1 m2 : Rat) (hR : Sc R) (e : S * S' = R) (s0 : 0 ≤ S) (s1 : 0 ≤ S') (hp : Bd p (L * S) (H * S) (w * S)) (hq : Bd q (L' * S') (H' * S') (w' * S')) (c : ((A0 ≤ L * L' ∧ A0 ≤ L * H' ∧ A0 ≤ H * L' ∧ A0 ≤ H * H') ∧ (L * L' ≤ B0 ∧ L * H' ≤ B0 ∧ H * L' ≤ B0 ∧ H * H' ≤ B0)) ∧ (-m1 ≤ L ∧ H ≤ m1 ∧ -m2 ≤ L' ∧ H' ≤ m2) ∧ -M ≤ A0 ∧ B0 ≤ M ∧ (A ≤ A0 - rs M ∨ A ≤ 0 ∧ 0 ≤ L ∧ 0 ≤ L') ∧ B0 + rs M ≤ B ∧ m1 * w' + m2 * w + 2 * rs M ≤ W ∧ -1048576 ≤ A ∧ B ≤ 1048576) : ∃ s, Got (cMul 0 (E p) (E q)) s ∧ Bd s (A * R) (B * R) (W * R) := by
  obtain ⟨⟨⟨a1, a2, a3, a4⟩, b1, b2, b3, b4⟩, ⟨d1, d2, d3, d4⟩, c3, c4, c5, c6, c7, c8, c9⟩ := c
  have r := rr_s hR M
  have P : ∀ x y : Rat, x * S * (y * S') = x * y * R := fun x y => by rw [← e]; grind
  have k5 : A * R ≤ A0 * R - rr (M * R) ∨ A * R ≤ 0 ∧ 0 ≤ L * S ∧ 0 ≤ L' * S' := by
    rcases c5 with c5 | ⟨x, y, z⟩
    · left; have := sm_le hR c5; grind
    · right; have := sm_le hR x; exact ⟨by grind, Rat.mul_nonneg y s0, Rat.mul_nonneg z s1⟩
  have k6 := sm_le hR c6; have k7 := sm_le hR c7
  have k3 := sm_le hR c3; have k4 := sm_le hR c4
  have f1 := Rat.mul_le_mul_of_nonneg_right d1 s0; have f2 := Rat.mul_le_mul_of_nonneg_right d2 s0; have f3 := Rat.mul_le_mul_of_nonneg_right d3 s1; have f4 := Rat.mul_le_mul_of_nonneg_right d4 s1
  refine bd_mul (M * R) _ _ _ (A0 * R) (B0 * R) (m1 * S) (m2 * S') hp hq ⟨⟨⟨?_, ?_, ?_, ?_⟩, ?_, ?_, ?_, ?_⟩, ⟨by grind, by grind, by grind, by grind⟩, by grind, by grind, k5, by grind, ?_, sc_lo hR c8, sc_hi hR c9⟩
  · rw [P]; exact sm_le hR a1
  · rw [P]; exact sm_le hR a2
  · rw [P]; exact sm_le hR a3
  · rw [P]; exact sm_le hR a4
  · rw [P]; exact sm_le hR b1
  · rw [P]; exact sm_le hR b2
  · rw [P]; exact sm_le hR b3
  · rw [P]; exact sm_le hR b4
  · have e1 : m1 * S * (w' * S') = m1 * w' * R := P _ _
    have e2 : m2 * S' * (w * S) = m2 * w * R := by rw [← e]; grind
    rw [e1, e2]; grind
theorem bs_sqr {R : Rat} (M A B W m : Rat) (hR : Sc R) (e : S * S = R) (s0 : 0 ≤ S) (hp : Bd p (L * S) (H * S) (w * S)) (c : -m ≤ L ∧ H ≤ m ∧ m * m ≤ M ∧ A ≤ 0 ∧ m * m + rs M ≤ B ∧ 2 * m * w + 2 * rs M ≤ W ∧ -1048576 ≤ A ∧ B ≤ 1048576) : ∃ s, Got (cSqr 0 (E p)) s ∧ Bd s (A * R) (B * R) (W * R) := by
  obtain ⟨c1, c2, c3, c4, c5, c6, c7, c8⟩ := c
  have r := rr_s hR M
  have P : ∀ x y : Rat, x * S * (y * S) = x * y * R := fun x y => by rw [← e]; grind
  have k3 := sm_le hR c3; have k4 := sm_le hR c4; have k5 := sm_le hR c5; have k6 := sm_le hR c6
  have f1 := Rat.mul_le_mul_of_nonneg_right c1 s0; have f2 := Rat.mul_le_mul_of_nonneg_right c2 s0
  refine bd_sqr (M * R) _ _ _ (m * S) hp ⟨by grind, by grind, ?_, .inr (by grind), ?_, ?_, sc_lo hR c7, sc_hi hR c8⟩
  · rw [P]; exact k3
  · rw [P]; grind
  · have : 2 * (m * S) * (w * S) = 2 * m * w * R := by rw [← e]; grind
    rw [this]; grind
theorem bs_sqrt {R : Rat} (A B W r h W0 : Rat) (hS : Sc S) (hR : Sc R) (e : S * S = R) (hp : Bd p (L * R) (H * R) (w * R)) (c : 0 < r ∧ r * r ≤ L ∧ 0 ≤ h ∧ H ≤ h * h ∧ A ≤ r - rs h ∧ h + rs h ≤ B ∧ w ≤ W0 * (2 * r) ∧ 0 ≤ W0 ∧ W0 + 2 * rs h ≤ W ∧ -1048576 ≤ A ∧ B ≤ 1048576) : ∃ s, Got (cSqrt 0 (E p)) s ∧ Bd s (A * S) (B * S) (W * S) := by
  obtain ⟨c0, c1, ch, c2, c3, c4, c5, c6, c7, c8, c9⟩ := c
  have rh := rr_s hS h
  have s0 := hS.pos
  have sp : 0 < S := by have := hS.lo; grind
  have P : ∀ x y : Rat, x * S * (y * S) = x * y * R := fun x y => by rw [← e]; grind
  have k3 := sm_le hS c3; have k4 := sm_le hS c4; have k7 := sm_le hS c7
  refine bd_sqrt _ _ _ (r * S) (h * S) (W0 * S) hp ⟨Rat.mul_pos c0 sp, ?_, Rat.mul_nonneg ch s0, ?_, by grind, by grind, ?_, Rat.mul_nonneg c6 s0, by grind, sc_lo hS c8, sc_hi hS c9⟩
  · rw [P]; exact sm_le hR c1
  · rw [P]; exact sm_le hR c2
  · have : W0 * S * (2 * (r * S)) = W0 * (2 * r) * R := by rw [← e]; grind
    rw [this]; exact sm_le hR c5
theorem bs_div (M A B W Q1 Q2 W0 : Rat) (hS : Sc S) (hp : Bd p (L * S) (H * S) (w * S)) (hq : Bd q (L' * S) (H' * S) (w' * S)) (c : 0 < L' ∧ (Q1 * L' ≤ L ∧ Q1 * H' ≤ L) ∧ (H ≤ Q2 * L' ∧ H ≤ Q2 * H') ∧ -M ≤ Q1 ∧ Q2 ≤ M ∧ (A ≤ Q1 - rr M ∨ A ≤ 0 ∧ 0 ≤ L) ∧ Q2 + rr M ≤ B ∧ w + M * w' ≤ W0 * L' ∧ W0 + 2 * rr M ≤ W ∧ 0 ≤ W0 ∧ -2037035976334486086268445688409378161051468393665936250636140449354381299763336706183397376 ≤ A ∧ B ≤ 2037035976334486086268445688409378161051468393665936250636140449354381299763336706183397376) : ∃ s, Got (cDiv 0 (E p) (E q)) s ∧ Bd s A B W := by
  obtain ⟨l0, ⟨c1, c2⟩, ⟨c3, c4⟩, m1, m2, c5, c6, c7, c8⟩ := c
  have s0 := hS.pos
  have sp : 0 < S := by have := hS.lo; grind
  have k1 := sm_le hS c1; have k2 := sm_le hS c2; have k3 := sm_le hS c3; have k4 := sm_le hS c4; have k7 := sm_le hS c7
  have k5 : A ≤ Q1 - rr M ∨ A ≤ 0 ∧ 0 ≤ L * S := by
    rcases c5 with c5 | ⟨x, y⟩
    · exact .inl c5
    · exact .inr ⟨x, Rat.mul_nonneg y s0⟩
  exact bd_div M _ _ _ Q1 Q2 W0 hp hq ⟨Rat.mul_pos l0 sp, ⟨by grind, by grind⟩, ⟨by grind, by grind⟩, m1, m2, k5, c6, by grind, c8⟩
theorem bs_max (A B W : Rat) (hS : Sc S) (hp : Bd p (L * S) (H * S) (w * S)) (hq : Bd q (L' * S) (H' * S) (w' * S)) (c : (A ≤ L ∨ A ≤ L') ∧ H ≤ B ∧ H' ≤ B ∧ w ≤ W ∧ w' ≤ W) : Got (cMax 0 (E p) (E q)) (rMax p q) ∧ Bd (rMax p q) (A * S) (B * S) (W * S) := by
  obtain ⟨c1, c2, c3, c4, c5⟩ := c
  exact bd_max _ _ _ hp hq ⟨by rcases c1 with h | h; exact .inl (sm_le hS h); exact .inr (sm_le hS h), sm_le hS c2, sm_le hS c3, sm_le hS c4, sm_le hS c5⟩
/-- Of a lesser number. -/
theorem bs_up (hS : Sc S) (c : 0 ≤ L ∧ 0 ≤ H ∧ 0 ≤ w) (le : S ≤ S') (h : Bd p (L * S) (H * S) (w * S)) : Bd p (0 * S') (H * S') (w * S') := by
  have := hS.pos
  refine h.mono ⟨?_, Rat.mul_le_mul_of_nonneg_left le c.2.1, Rat.mul_le_mul_of_nonneg_left le c.2.2⟩
  have := Rat.mul_nonneg c.1 hS.pos; grind
end
end Go.Dy
