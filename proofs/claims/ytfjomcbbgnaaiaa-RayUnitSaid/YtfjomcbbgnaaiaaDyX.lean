/- Plain facts: which points are within the ball, as ray.Inside tests it. -/
import Derived.Test.YtfjomcbbgnaaiaaDyW
namespace Go.Dy

theorem W_one : W 4607182418800017408 := by unfold W; omega
theorem right_one : right 4607182418800017408 = true := by decide +kernel
theorem dec_one : dec 4607182418800017408 = 4607182418800017408 := by decide +kernel
theorem W_half : W 4602678819172646912 := by unfold W; omega
theorem right_half : right 4602678819172646912 = true := by decide +kernel
theorem dec_half : dec 4602678819172646912 = 4602678819172646912 := by decide +kernel

theorem may_le {x : Nat} (hx : W x) (r : right x = true) : (flt (abs x) 4607182418800017408 || feq (abs x) 4607182418800017408) = may x := by
  rw [fle_dec (W_abs x) W_one (right_abs r) right_one, dec_abs hx r, dec_one]
  unfold may
  rw [r, Bool.true_and, Bool.eq_iff_iff]
  simp only [decide_eq_true_eq]; omega
theorem may_wrong {x : Nat} (r : right x = false) : may x = false := by unfold may; rw [r]; rfl
theorem may_right {x : Nat} (h : may x = true) : right x = true ∧ (dec x).natAbs ≤ 4607182418800017408 := by
  unfold may at h
  rw [Bool.and_eq_true, decide_eq_true_eq] at h; exact h

theorem V_sq_abs (z : Int) : V z * V z = V (z.natAbs : Int) * V (z.natAbs : Int) := by
  rcases Int.natAbs_eq z with h | h
  · rw [← h]
  · rw [h, V_neg, Int.natAbs_neg, Int.natAbs_natCast]; rw [Int.neg_mul_neg]

/-- The greater and the lesser one, as bits from 0 to one. -/
structure Pt (x y X Y : Nat) : Prop where
  le : Y ≤ X
  one : X ≤ 4607182418800017408
  sum : V (dec x) * V (dec x) + V (dec y) * V (dec y) = ((mag X * mag X + mag Y * mag Y : Nat) : Int)

theorem dec_small {b : Nat} (h : b ≤ 4607182418800017408) : dec b = (b : Int) ∧ W b ∧ right b = true := by
  refine ⟨?_, ?_, ?_⟩
  · unfold dec; rw [if_pos (by omega)]
  · unfold W; omega
  · unfold right; rw [decide_eq_true_eq, top_eq]; omega

theorem abs_small {x : Nat} (hx : W x) (h : may x = true) : abs x ≤ 4607182418800017408 ∧ ((abs x : Nat) : Int) = ((dec x).natAbs : Int) := by
  obtain ⟨r, h1⟩ := may_right h
  have e := dec_abs hx r
  have hx' := hx.lt
  have ra := right_abs r
  unfold right at ra; rw [decide_eq_true_eq, top_eq] at ra
  have l : abs x < 2 ^ 63 := by unfold abs; omega
  have d : dec (abs x) = ((abs x : Nat) : Int) := by unfold dec; rw [if_pos l]
  rw [d] at e
  omega

theorem pt_of {x y : Nat} (hx : W x) (hy : W y) (mx : may x = true) (my : may y = true) : Pt x y (dmax (abs x) (abs y)) (dmin (abs x) (abs y)) := by
  obtain ⟨lx, ex⟩ := abs_small hx mx
  obtain ⟨ly, ey⟩ := abs_small hy my
  have sx : V (dec x) * V (dec x) = ((mag (abs x) * mag (abs x) : Nat) : Int) := by
    rw [V_sq_abs, ← ex, V_nat, Int.natCast_mul]
  have sy : V (dec y) * V (dec y) = ((mag (abs y) * mag (abs y) : Nat) : Int) := by
    rw [V_sq_abs, ← ey, V_nat, Int.natCast_mul]
  have dx := (dec_small lx).1
  have dy := (dec_small ly).1
  unfold dmax dmin
  rw [dx, dy]
  by_cases h : abs y < abs x
  · rw [if_neg (by omega), if_pos (by omega)]
    exact ⟨by omega, lx, by rw [sx, sy, Int.natCast_add]⟩
  · rw [if_neg (show ¬ ((abs y : Int) < (abs x : Int)) by omega)]
    by_cases h2 : abs x < abs y
    · rw [if_pos (by omega)]
      exact ⟨by omega, ly, by rw [sx, sy, Int.natCast_add, Int.add_comm]⟩
    · rw [if_neg (by omega)]
      exact ⟨by omega, lx, by
        have : abs x = abs y := by omega
        rw [sx, sy, Int.natCast_add, this]⟩

theorem inB_nat {x y X Y : Nat} (h : Pt x y X Y) : inB x y = decide (mag X * mag X + mag Y * mag Y < one * one) := by
  unfold inB
  rw [h.sum, Bool.eq_iff_iff]
  simp only [decide_eq_true_eq]
  have : ((one : Int) * (one : Int)) = ((one * one : Nat) : Int) := (Int.natCast_mul _ _).symm
  rw [this]; omega

theorem mag_one : mag 4607182418800017408 = one := by decide +kernel
theorem mag_half : 2 * mag 4602678819172646912 = one := by decide +kernel

theorem in_one {x y Y : Nat} (h : Pt x y 4607182418800017408 Y) : inB x y = false := by
  rw [inB_nat h, mag_one]; exact decide_eq_false (by omega)
theorem in_low {x y X Y : Nat} (h : Pt x y X Y) (hX : X < 4602678819172646912) : inB x y = true := by
  rw [inB_nat h]
  refine decide_eq_true ?_
  have h1 : mag X < mag 4602678819172646912 := mag_lt hX
  have h2 : mag Y ≤ mag X := mag_le_iff.2 h.le
  have h3 := mag_half
  generalize mag 4602678819172646912 = m at *
  generalize mag X = a at *
  generalize mag Y = b at *
  have e : one * one = 4 * (m * m) := by rw [← h3]; rw [Nat.mul_mul_mul_comm]
  rw [e]
  have p1 : a * a ≤ m * m := Nat.mul_le_mul (by omega) (by omega)
  have p2 : b * b ≤ a * a := Nat.mul_le_mul h2 h2
  have p3 : 0 < m * m := Nat.mul_pos (by omega) (by omega)
  omega

/-- In the middle: what the program compares. -/
theorem in_mid {x y X Y : Nat} (h : Pt x y X Y) (h1 : ¬ X < 4602678819172646912) (h2 : X ≠ 4607182418800017408) :
    ∃ k : Nat, frE Y = -(k : Int) ∧ k ≤ 1073 ∧ decide (n53 (frF Y) * n53 (frF Y) / 2 ^ (2 * k) < 2 ^ 106 - n53 X * n53 X) = inB x y := by
  have ho := h.one
  have hl := h.le
  obtain ⟨k, e1, e2, e3⟩ := frexp_spec (b := Y) (by omega)
  refine ⟨k, e1, e2, ?_⟩
  rw [inB_nat h, n53_frF (by rw [top_eq]; omega), Bool.eq_iff_iff]
  simp only [decide_eq_true_eq]
  exact inside_core (by omega) (by omega) e3

theorem up53_ok {b : Nat} (h : b < 4607182418800017408) : W (frF b) ∧ (frF b = 0 ∨ 4602678819172646912 ≤ frF b ∧ frF b < 4607182418800017408) := by
  rcases frF_cases (b := b) (by rw [top_eq]; omega) with ⟨e, _⟩ | ⟨_, e1, e2, _⟩
  · rw [e]; exact ⟨W_zero, Or.inl rfl⟩
  · exact ⟨by unfold W; omega, Or.inr ⟨e1, e2⟩⟩
theorem n53_sq (b : Nat) : n53 b * n53 b ≤ 2 ^ 106 := by
  have := n53_lt b
  have : n53 b * n53 b ≤ 2 ^ 53 * 2 ^ 53 := Nat.mul_le_mul (by omega) (by omega)
  omega
theorem W_n53 (b : Nat) : W (n53 b) := by have := n53_lt b; unfold W; omega
end Go.Dy
