/- Plain facts: operations on ranks; the laws DirParts and DirGrows. -/
import Derived.Test.YtfjomcbbgnaaiaaDyS
namespace Go.Dy

theorem fle_dec {a b : Nat} (ha : W a) (hb : W b) (ra : right a = true) (rb : right b = true) : (flt a b || feq a b) = decide (dec a ≤ dec b) := by
  rw [flt_dec ha hb ra rb, feq_dec ha hb ra rb, Bool.eq_iff_iff]
  simp only [Bool.or_eq_true, decide_eq_true_eq]; omega
theorem fge_dec {a b : Nat} (ha : W a) (hb : W b) (ra : right a = true) (rb : right b = true) : (fgt a b || feq a b) = decide (dec b ≤ dec a) := by
  rw [fgt_dec ha hb ra rb, feq_dec ha hb ra rb, Bool.eq_iff_iff]
  simp only [Bool.or_eq_true, decide_eq_true_eq]; omega

theorem fle_enc {y z : Int} (hy : ok y) (hz : ok z) : (flt (enc y) (enc z) || feq (enc y) (enc z)) = decide (y ≤ z) := by
  rw [fle_dec (W_enc hy) (W_enc hz) (right_enc hy) (right_enc hz), dec_enc hy, dec_enc hz]
theorem fge_enc {y z : Int} (hy : ok y) (hz : ok z) : (fgt (enc y) (enc z) || feq (enc y) (enc z)) = decide (z ≤ y) := by
  rw [fge_dec (W_enc hy) (W_enc hz) (right_enc hy) (right_enc hz), dec_enc hy, dec_enc hz]

theorem dMul_enc {y z : Int} {up : Bool} (hy : ok y) (hz : ok z) : dMul (enc y) (enc z) up = out (fl (V y * V z) one up) up := by
  unfold dMul mulR; rw [right_enc hy, right_enc hz, dec_enc hy, dec_enc hz]; rfl
theorem enc_eq_zero {z : Int} (h : ok z) : enc z = 0 ↔ z = 0 := by
  unfold ok at h; rw [top_eq] at h
  unfold enc; split <;> omega
theorem dDiv_enc {y z : Int} {up : Bool} (hy : ok y) (hz : ok z) (h0 : 0 < z) : dDiv (enc y) (enc z) up = out (fl (V y * one) (V z).natAbs up) up := by
  unfold dDiv divR
  rw [right_enc hy, right_enc hz, if_neg (by decide), if_neg (by rw [enc_eq_zero hz]; omega), dec_enc hy, dec_enc hz, if_neg (by omega)]
theorem dAdd_enc {y z : Int} {up : Bool} (hy : ok y) (hz : ok z) : dAdd (enc y) (enc z) up = out (fl (V y + V z) 1 up) up := by
  rw [dAdd_out (right_enc hy) (right_enc hz), dec_enc hy, dec_enc hz]
theorem dSub_enc {y z : Int} {up : Bool} (hy : ok y) (hz : ok z) : dSub (enc y) (enc z) up = out (fl (V y - V z) 1 up) up := by
  rw [dSub_out (W_enc hz) (right_enc hy) (right_enc hz), dec_enc hy, dec_enc hz]

/-- Down of what is not below 0: a number, and no error. -/
theorem out_low {z : Int} (h : 0 ≤ z) : ∃ y, ok y ∧ out z false = (enc y, 0) ∧ y ≤ z ∧ 0 ≤ y ∧ (y = z ∨ y = (top : Int) - 1) := by
  by_cases h1 : (top : Int) ≤ z
  · refine ⟨(top : Int) - 1, by unfold ok; rw [top_eq]; omega, ?_, by omega, by rw [top_eq]; omega, Or.inr rfl⟩
    unfold out; rw [if_pos h1, if_neg (by decide)]
  · have o : ok z := by unfold ok; rw [top_eq] at *; omega
    exact ⟨z, o, out_mid o, Int.le_refl _, h, Or.inl rfl⟩

theorem one_pos' : (0 : Int) < (one : Int) := by have := one_pos; omega

theorem Vabs {z : Int} (h : 0 < z) : ((V z).natAbs : Int) = V z := by
  have := V_pos.2 h; omega

theorem fl_nonneg {num : Int} {den : Nat} {up : Bool} (hd : 0 < den) (h : 0 ≤ num) : 0 ≤ fl num den up := by
  have h1 : 0 ≤ fl num den false := (fl_down hd).2 (by rw [V_zero]; omega)
  cases up
  · exact h1
  · exact Int.le_trans h1 (fl_le_up hd)

/-- What the law asks of the two numbers: above 0. -/
theorem pos_of {a : Nat} (ha : W a) (ra : right a = true) (h : (flt a 0 || feq a 0) = false) : ∃ A : Int, 0 < A ∧ ok A ∧ a = enc A := by
  rw [fle_dec ha W_zero ra right_zero, dec_zero, decide_eq_false_iff_not] at h
  exact ⟨dec a, by omega, ok_dec ha ra, (enc_of_dec ha ra).symm⟩

theorem max_enc : (9218868437227405311 : Nat) = enc ((top : Int) - 1) := by rw [top_eq]; decide
theorem ok_max : ok ((top : Int) - 1) := by unfold ok; rw [top_eq]; omega

/-- One half of DirParts: f down is the greatest one whose g is not above, as both say the same of V. -/
theorem part_below {A num : Int} {den : Nat} (hA : ok A) (hd : 0 < den) (h : num ≤ V A * den) :
    ∃ x, ok x ∧ out (fl num den true) true = (enc x, 0) ∧ x ≤ A := out_up_le hA ((fl_up hd).2 h)
theorem part_above {A num : Int} {den : Nat} (hA : ok A) (hd : 0 < den) (h : V A * den < num) :
    out (fl num den true) true = (0, 10) ∨ ∃ x, ok x ∧ out (fl num den true) true = (enc x, 0) ∧ A < x := by
  refine out_up_lt hA ?_
  have : ¬ (fl num den true ≤ A) := by rw [fl_up hd]; omega
  omega

/-- A result of the law, as it tests it. -/
def Below1 (r : Nat × Int) (a : Nat) : Prop := ∃ x, r = (x, 0) ∧ fgt x a = false ∧ (flt x a || feq x a) = true
def Above1 (r : Nat × Int) (a : Nat) : Prop := r = (0, 10) ∨ ∃ y, r = (y, 0) ∧ (flt y a || feq y a) = false ∧ fgt y a = true

theorem below1 {A x : Int} (hA : ok A) (hx : ok x) (h : x ≤ A) : Below1 (enc x, 0) (enc A) :=
  ⟨enc x, rfl, by rw [fgt_enc hx hA]; exact decide_eq_false (by omega), by rw [fle_enc hx hA]; exact decide_eq_true h⟩
theorem above1 {A x : Int} (hA : ok A) (hx : ok x) (h : A < x) : Above1 (enc x, 0) (enc A) :=
  Or.inr ⟨enc x, rfl, by rw [fle_enc hx hA]; exact decide_eq_false (by omega), by rw [fgt_enc hx hA]; exact decide_eq_true h⟩

theorem below_of {A num : Int} {den : Nat} (hA : ok A) (hd : 0 < den) (h : num ≤ V A * den) : Below1 (out (fl num den true) true) (enc A) := by
  obtain ⟨x, hx, e, h1⟩ := part_below hA hd h
  rw [e]; exact below1 hA hx h1
theorem above_of {A num : Int} {den : Nat} (hA : ok A) (hd : 0 < den) (h : V A * den < num) : Above1 (out (fl num den true) true) (enc A) := by
  rcases part_above hA hd h with e | ⟨x, hx, e, h1⟩
  · exact Or.inl e
  · rw [e]; exact above1 hA hx h1

/-- The law's first half: a quotient, times the divisor. -/
theorem quo_part {a b : Nat} (ha : W a) (hb : W b) (ra : right a = true) (rb : right b = true) (pa : (flt a 0 || feq a 0) = false) (pb : (flt b 0 || feq b 0) = false) :
    ∃ q, dDiv a b false = (q, 0) ∧ W q ∧ (flt q 9218868437227405311 = false ∨
      flt q 9218868437227405311 = true ∧ ∃ n, dNext q true = (n, 0) ∧ W n ∧ Below1 (dMul q b true) a ∧ Above1 (dMul n b true) a) := by
  obtain ⟨A, hA, oA, rfl⟩ := pos_of ha ra pa
  obtain ⟨B, hB, oB, rfl⟩ := pos_of hb rb pb
  rw [dDiv_enc oA oB hB]
  have hd : 0 < (V B).natAbs := by have := V_pos.2 hB; omega
  have hn : 0 ≤ V A * one := Int.mul_nonneg (V_nonneg.2 (by omega)) (by have := one_pos'; omega)
  obtain ⟨q, oq, e, h1, h2, h3⟩ := out_low (fl_nonneg (up := false) hd hn)
  rw [e]
  refine ⟨enc q, rfl, W_enc oq, ?_⟩
  rw [max_enc, flt_enc oq ok_max]
  by_cases hm : q < (top : Int) - 1
  · refine Or.inr ⟨decide_eq_true hm, ?_⟩
    have hq : q = fl (V A * one) (V B).natAbs false := by rcases h3 with h3 | h3 <;> omega
    have oq1 : ok (q + 1) := by unfold ok at *; omega
    refine ⟨enc (q + 1), by rw [dNext_enc oq, out_mid oq1], W_enc oq1, ?_, ?_⟩
    · rw [dMul_enc oq oB]
      refine below_of oA one_pos ?_
      have := (@fl_down q (V A * one) (V B).natAbs hd).1 h1
      rw [Vabs hB] at this; exact this
    · rw [dMul_enc oq1 oB]
      refine above_of oA one_pos ?_
      have : ¬ (V (q + 1) * ((V B).natAbs : Int) ≤ V A * one) := by
        rw [← fl_down hd, ← hq]; omega
      rw [Vabs hB] at this; omega
  · exact Or.inl (decide_eq_false hm)

/-- The law's second half: a product, by the factor. -/
theorem mul_part {a b : Nat} (ha : W a) (hb : W b) (ra : right a = true) (rb : right b = true) (pa : (flt a 0 || feq a 0) = false) (pb : (flt b 0 || feq b 0) = false) :
    ∃ p, dMul a b false = (p, 0) ∧ W p ∧ (feq p 9218868437227405311 = true ∨
      feq p 9218868437227405311 = false ∧ ∃ n, dNext p true = (n, 0) ∧ W n ∧ Below1 (dDiv p b true) a ∧ Above1 (dDiv n b true) a) := by
  obtain ⟨A, hA, oA, rfl⟩ := pos_of ha ra pa
  obtain ⟨B, hB, oB, rfl⟩ := pos_of hb rb pb
  rw [dMul_enc oA oB]
  have hd : 0 < (V B).natAbs := by have := V_pos.2 hB; omega
  have hn : 0 ≤ V A * V B := Int.mul_nonneg (V_nonneg.2 (by omega)) (V_nonneg.2 (by omega))
  obtain ⟨p, op, e, h1, h2, h3⟩ := out_low (fl_nonneg (up := false) one_pos hn)
  rw [e]
  refine ⟨enc p, rfl, W_enc op, ?_⟩
  rw [max_enc, feq_enc op ok_max]
  by_cases hm : p = (top : Int) - 1
  · exact Or.inl (decide_eq_true hm)
  · refine Or.inr ⟨decide_eq_false hm, ?_⟩
    have hq : p = fl (V A * V B) one false := by rcases h3 with h3 | h3 <;> omega
    have op1 : ok (p + 1) := by unfold ok at *; omega
    refine ⟨enc (p + 1), by rw [dNext_enc op, out_mid op1], W_enc op1, ?_, ?_⟩
    · rw [dDiv_enc op oB hB]
      refine below_of oA hd ?_
      rw [Vabs hB]
      exact (@fl_down p (V A * V B) one one_pos).1 h1
    · rw [dDiv_enc op1 oB hB]
      refine above_of oA hd ?_
      rw [Vabs hB]
      have : ¬ (V (p + 1) * (one : Int) ≤ V A * V B) := by
        rw [← fl_down one_pos, ← hq]; omega
      omega
end Go.Dy
