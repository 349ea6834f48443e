/- Plain facts: the law RayNear. -/
import Derived.Test.YtfjomcbbgnaaiaaDc
namespace Go.Dy

theorem near_lt {p q D C o vx : Int} (h1 : 0 ≤ p) (h2 : p < q) (h3 : q * q ≤ D * o) (h4 : D + C ≤ o) (ho : 0 < o) (h5 : vx ≤ C * o) : vx + p * p < o * o := by
  have t1 := Int.mul_le_mul_of_nonneg_left (Int.le_of_lt h2) h1
  have t2 := Int.mul_lt_mul_of_pos_right h2 (show 0 < q by omega)
  have t3 : (D + C) * o ≤ o * o := Int.mul_le_mul_of_nonneg_right h4 (by omega)
  rw [Int.add_mul] at t3
  omega
theorem near_ge {A B o U vx : Int} (h1 : A * o ≤ vx) (h2 : B * o ≤ U * U) (h3 : o ≤ A + B) (ho : 0 < o) : ¬ (vx + U * U < o * o) := by
  have t3 : o * o ≤ (A + B) * o := Int.mul_le_mul_of_nonneg_right h3 (by omega)
  rw [Int.add_mul] at t3
  omega

/-- RayNear's numbers. -/
structure Near (x a b u c d l n : Nat) : Prop where
  ea : dMul x x false = (a, 0)
  eb : dSub o1 a true = (b, 0)
  eu : dSqrt b true = (u, 0)
  ec : dMul x x true = (c, 0)
  ed : dSub o1 c false = (d, 0)
  d0 : flt d 0 = false
  el : dSqrt d false = (l, 0)
  wa : W a
  wb : W b
  wu : W u
  wc : W c
  wd : W d
  wl : W l
  ru : right u = true
  mn : dmin o1 u = u
  iu : dIn x u = (false, 0)
  en : dNext l false = (n, 0)
  wn : W n
  inn : flt n 0 = true ∨ flt n 0 = false ∧ dIn x n = (true, 0)

theorem near_of {x : Nat} (mx : may x = true) : ∃ a b u c d l n : Nat, Near x a b u c d l n := by
  obtain ⟨rx, hm⟩ := may_right mx
  have hp := one_pos'
  obtain ⟨C, c0, c1, ec, fc⟩ := sq_up mx
  have vx : V (dec x) * V (dec x) ≤ (one : Int) * one := by
    rw [V_sq_abs]
    have h1 := V_le_iff.2 (show ((dec x).natAbs : Int) ≤ I1 by unfold I1; omega)
    rw [V_one] at h1
    have h0 : 0 ≤ V ((dec x).natAbs : Int) := V_nonneg.2 (by omega)
    exact Int.mul_le_mul h1 h1 h0 (by omega)
  have vx0 : 0 ≤ V (dec x) * V (dec x) := by
    rw [V_sq_abs]; exact Int.mul_nonneg (V_nonneg.2 (by omega)) (V_nonneg.2 (by omega))
  obtain ⟨A, hA⟩ : ∃ A, A = fl (V (dec x) * V (dec x)) one false := ⟨_, rfl⟩
  have a0 : 0 ≤ A := by rw [hA]; exact fl_nonneg one_pos vx0
  have aC : A ≤ C := by rw [hA, fc]; exact fl_le_up one_pos
  have hA2 : V A * one ≤ V (dec x) * V (dec x) := (fl_down one_pos).1 (by rw [hA]; exact Int.le_refl _)
  have hC2 : V (dec x) * V (dec x) ≤ V C * one := (fl_up one_pos).1 (by rw [fc]; exact Int.le_refl _)
  have small : ∀ {z : Int}, 0 ≤ z → z ≤ I1 → ok z := fun {z} h1 h2 => ok_of (by unfold I1 at *; omega) (by omega)
  have oA : ok A := small a0 (by omega)
  have oC : ok C := small c0 c1
  have vA0 := V_nonneg.2 a0
  have vC := V_le_iff.2 c1
  rw [V_one] at vC
  have vC0 := V_nonneg.2 c0
  have vA := V_le_iff.2 aC
  obtain ⟨B, hB⟩ : ∃ B, B = fl ((one : Int) - V A) 1 true := ⟨_, rfl⟩
  have b0 : 0 ≤ B := by rw [hB]; exact fl_nonneg (by omega) (by omega)
  have b1 : B ≤ I1 := by rw [hB, fl_up (by omega), V_one]; omega
  have hB2 : (one : Int) - V A ≤ V B * (1 : Nat) := (fl_up (by omega)).1 (by rw [hB]; exact Int.le_refl _)
  obtain ⟨D, hD⟩ : ∃ D, D = fl ((one : Int) - V C) 1 false := ⟨_, rfl⟩
  have d0 : 0 ≤ D := by rw [hD]; exact fl_nonneg (by omega) (by omega)
  have d1 : D ≤ I1 := by
    rw [hD]; refine Int.le_trans (fl_le_up (by omega)) ?_
    rw [fl_up (by omega), V_one]; omega
  have hD2 : V D * (1 : Nat) ≤ (one : Int) - V C := (fl_down (by omega)).1 (by rw [hD]; exact Int.le_refl _)
  have oB : ok B := small b0 b1
  have oD : ok D := small d0 d1
  have vB := V_le_iff.2 b1
  rw [V_one] at vB
  have vB0 := V_nonneg.2 b0
  have oU : ok (sqz B true) := sqz_ok b0 oB
  have u0 := sqz_nonneg B true
  have u1 : sqz B true ≤ I1 := by
    rw [sqz_up b0 (by unfold I1; omega), V_one]
    exact Int.mul_le_mul_of_nonneg_right vB (by omega)
  have hU2 : V B * one ≤ V (sqz B true) * V (sqz B true) := (sqz_up b0 u0).1 (Int.le_refl _)
  have oL : ok (sqz D false) := sqz_ok d0 oD
  have l0 := sqz_nonneg D false
  have hL2 : V (sqz D false) * V (sqz D false) ≤ V D * one := (sqz_down d0 l0).1 (Int.le_refl _)
  have vD := V_le_iff.2 d1
  rw [V_one] at vD
  have vD0 := V_nonneg.2 d0
  have l1 : sqz D false ≤ I1 := by
    refine Int.le_trans (sqz_le_up D) ?_
    rw [sqz_up d0 (by unfold I1; omega), V_one]
    exact Int.mul_le_mul_of_nonneg_right vD (by omega)
  have oN : ok (sqz D false - 1) := ok_of (by unfold I1 at *; omega) (by unfold I1 at *; omega)
  have e1 : o1 = enc I1 := by decide
  have may_enc : ∀ {z : Int}, 0 ≤ z → z ≤ I1 → ok z → may (enc z) = true := by
    intro z h0 h1 oz
    unfold may
    rw [right_enc oz, dec_enc oz, Bool.true_and]
    unfold I1 at h1
    exact decide_eq_true (by omega)
  refine ⟨enc A, enc B, enc (sqz B true), enc C, enc D, enc (sqz D false), enc (sqz D false - 1), ?_, ?_, ?_, ec, ?_, ?_, ?_, W_enc oA, W_enc oB, W_enc oU, W_enc oC, W_enc oD, W_enc oL, right_enc oU, ?_, ?_, ?_, W_enc oN, ?_⟩
  · rw [dMul_out rx rx, ← hA, out_mid oA]
  · rw [e1, dSub_enc ok_I1 oA, V_one, ← hB, out_mid oB]
  · exact dSqrt_enc oB b0
  · rw [e1, dSub_enc ok_I1 oC, V_one, ← hD, out_mid oD]
  · rw [flt_dec (W_enc oD) W_zero (right_enc oD) right_zero, dec_enc oD, dec_zero]; exact decide_eq_false (by omega)
  · exact dSqrt_enc oD d0
  · unfold dmin
    rw [dec_enc oU, dec_o1]
    by_cases h : sqz B true < I1
    · rw [if_pos h]
    · rw [if_neg h, e1]
      have : sqz B true = I1 := by omega
      rw [this]
  · rw [dIn_may mx (may_enc u0 u1 oU)]
    unfold inB
    rw [dec_enc oU, decide_eq_false (near_ge hA2 hU2 (by omega) hp)]
  · rw [dNext_down (right_enc oL), dec_enc oL, out_mid oN]
  · rw [flt_dec (W_enc oN) W_zero (right_enc oN) right_zero, dec_enc oN, dec_zero]
    by_cases h : sqz D false - 1 < 0
    · exact Or.inl (decide_eq_true h)
    · refine Or.inr ⟨decide_eq_false h, ?_⟩
      rw [dIn_may mx (may_enc (by omega) (by omega) oN)]
      unfold inB
      have v1 := V_nonneg.2 (show 0 ≤ sqz D false - 1 by omega)
      have v2 := V_lt (show sqz D false - 1 < sqz D false by omega)
      rw [dec_enc oN, decide_eq_true (near_lt v1 v2 hL2 (by omega) hp hC2)]
end Go.Dy
