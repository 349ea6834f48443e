/- Plain facts: the laws of package dir, the points within the ball, sums to the nearest number, the law RayUnit. -/
import Derived.Test.YtinhbebjlbnejaaDoorKa
import Derived.Laws.FloatArith
/- Plain facts: the law DirSums. -/
namespace Go.Dy

theorem ok_dec {a : Nat} (ha : W a) (r : right a = true) : ok (dec a) := (enc_dec ha.lt r).2

theorem minus_dec {a : Nat} (ha : W a) (r : right a = true) : right (minus a) = true ∧ dec (minus a) = -dec a ∧ W (minus a) := by
  have r' := r
  unfold right at r; rw [decide_eq_true_eq, top_eq] at r
  have hl := ha.lt
  refine ⟨?_, ?_, ?_⟩
  · unfold right; rw [decide_eq_true_eq, top_eq]; unfold minus; split
    · omega
    · split <;> omega
  · unfold dec minus; split
    · rename_i h; subst h; decide
    · split
      · rw [if_neg (by omega)]; omega
      · rw [if_pos (by omega)]; omega
  · unfold W minus; split
    · omega
    · split <;> omega

theorem dAdd_out {a b : Nat} {up : Bool} (ra : right a = true) (rb : right b = true) : dAdd a b up = out (fl (V (dec a) + V (dec b)) 1 up) up := by
  unfold dAdd addR; rw [ra, rb]; rfl

theorem dSub_out {a b : Nat} {up : Bool} (hb : W b) (ra : right a = true) (rb : right b = true) : dSub a b up = out (fl (V (dec a) - V (dec b)) 1 up) up := by
  obtain ⟨h1, h2, _⟩ := minus_dec hb rb
  unfold dSub
  rw [rb, if_pos rfl, dAdd_out ra h1, h2, V_neg, Int.sub_eq_add_neg]

/-- What a result without error is: a number, the rank itself or what is the last one on its side. -/
theorem out_down {z : Int} (h : (out z false).2 = 0) : ∃ y, ok y ∧ out z false = (enc y, 0) ∧ y ≤ z ∧ (y = z ∨ y = (top : Int) - 1) := by
  unfold out at h ⊢
  by_cases h1 : (top : Int) ≤ z
  · rw [if_pos h1, if_neg (by decide)]
    exact ⟨(top : Int) - 1, by unfold ok; rw [top_eq]; omega, rfl, by omega, Or.inr rfl⟩
  · rw [if_neg h1] at h ⊢
    by_cases h2 : z ≤ -(top : Int)
    · rw [if_pos h2, if_neg (by decide)] at h; exact absurd h (by decide)
    · rw [if_neg h2]
      exact ⟨z, by unfold ok; omega, rfl, Int.le_refl _, Or.inl rfl⟩

theorem out_up_le {z b : Int} (hb : ok b) (h : z ≤ b) : ∃ y, ok y ∧ out z true = (enc y, 0) ∧ y ≤ b := by
  unfold ok at hb
  unfold out
  rw [if_neg (by omega)]
  by_cases h2 : z ≤ -(top : Int)
  · rw [if_pos h2, if_pos rfl]
    exact ⟨1 - (top : Int), by unfold ok; rw [top_eq]; omega, rfl, by omega⟩
  · rw [if_neg h2]
    exact ⟨z, by unfold ok; omega, rfl, h⟩

theorem out_up_lt {z b : Int} (hb : ok b) (h : b < z) : out z true = (0, 10) ∨ ∃ y, ok y ∧ out z true = (enc y, 0) ∧ b < y := by
  unfold ok at hb
  unfold out
  by_cases h1 : (top : Int) ≤ z
  · rw [if_pos h1, if_pos rfl]; exact Or.inl rfl
  · rw [if_neg h1, if_neg (by omega)]
    exact Or.inr ⟨z, by unfold ok; omega, rfl, h⟩

theorem W_enc {z : Int} (h : ok z) : W (enc z) := enc_lt h

theorem fgt_right {a : Nat} {y : Int} (hy : ok y) (ha : W a) (ra : right a = true) : fgt (enc y) a = decide (dec a < y) := by
  rw [fgt_dec (W_enc hy) ha (right_enc hy) ra, dec_enc hy]

theorem dNext_enc {z : Int} (h : ok z) : dNext (enc z) true = out (z + 1) true := by
  unfold dNext; rw [right_enc h, if_pos rfl, if_pos rfl, dec_enc h]

theorem dAdd_err {a b : Nat} {up : Bool} (h : (dAdd a b up).2 = 0) : right a = true ∧ right b = true := by
  unfold dAdd at h
  cases ra : right a
  · rw [ra] at h; simp at h
  · cases rb : right b
    · rw [ra, rb] at h; simp at h
    · exact ⟨rfl, rfl⟩

theorem out_W (z : Int) (up : Bool) : W (out z up).1 := by
  have t1 : W (enc ((top : Int) - 1)) := W_enc (by unfold ok; rw [top_eq]; omega)
  have t2 : W (enc (1 - (top : Int))) := W_enc (by unfold ok; rw [top_eq]; omega)
  unfold out
  split
  · split
    · exact W_zero
    · exact t1
  · split
    · split
      · exact t2
      · exact W_zero
    · exact W_enc (by unfold ok; omega)
theorem dAdd_W (a b : Nat) (up : Bool) : W (dAdd a b up).1 := by
  unfold dAdd; split
  · exact out_W _ _
  · exact W_zero
theorem dMul_W (a b : Nat) (up : Bool) : W (dMul a b up).1 := by
  unfold dMul; split
  · exact out_W _ _
  · exact W_zero
theorem dSub_W (a b : Nat) (up : Bool) : W (dSub a b up).1 := by
  unfold dSub; split
  · exact dAdd_W _ _ _
  · exact W_zero
theorem dNext_W (a : Nat) (up : Bool) : W (dNext a up).1 := by
  unfold dNext; split
  · exact out_W _ _
  · exact W_zero
theorem dDiv_W (a b : Nat) (up : Bool) : W (dDiv a b up).1 := by
  unfold dDiv; split
  · exact W_zero
  · split
    · exact W_zero
    · exact out_W _ _
theorem dSqrt_W (a : Nat) (up : Bool) : W (dSqrt a up).1 := by
  unfold dSqrt; split
  · exact W_zero
  · split
    · exact W_zero
    · split
      · exact W_zero
      · exact out_W _ _

/-- DirSums: down of a sum, taken away one of both, is not above the other one; the next one is. -/
theorem sums {a b : Nat} (ha : W a) (hb : W b) (h : (dAdd a b false).2 = 0) :
    ((dSub (dAdd a b false).1 a true).2 = 0 ∧ fgt (dSub (dAdd a b false).1 a true).1 b = false) ∧
    ((dNext (dAdd a b false).1 true).2 = 0 →
      (dSub (dNext (dAdd a b false).1 true).1 a true).2 = 10 ∨
      (dSub (dNext (dAdd a b false).1 true).1 a true).2 = 0 ∧ fgt (dSub (dNext (dAdd a b false).1 true).1 a true).1 b = true) := by
  obtain ⟨ra, rb⟩ := dAdd_err h
  rw [dAdd_out ra rb] at h ⊢
  obtain ⟨y, oy, e, h1, h2⟩ := out_down h
  rw [e]
  dsimp only
  have hz := (@fl_down y (V (dec a) + V (dec b)) 1 (by omega)).1 h1
  rw [dSub_out ha (right_enc oy) ra, dec_enc oy]
  refine ⟨?_, ?_⟩
  · obtain ⟨u, ou, e2, h3⟩ := out_up_le (z := fl (V y - V (dec a)) 1 true) (ok_dec hb rb) ((fl_up (by omega)).2 (by omega))
    rw [e2]
    refine ⟨rfl, ?_⟩
    rw [fgt_right ou hb rb]; exact decide_eq_false (by omega)
  · rw [dNext_enc oy]
    intro hn
    have hy1 : y + 1 < top := by
      have : ¬ ((top : Int) ≤ y + 1) := by
        intro h4
        rw [out_top h4, if_pos rfl] at hn
        exact absurd hn (by decide)
      omega
    have oy1 : ok (y + 1) := by unfold ok at oy ⊢; omega
    have hyz : y = fl (V (dec a) + V (dec b)) 1 false := by
      rcases h2 with h2 | h2
      · exact h2
      · omega
    have hv : ¬ (V (y + 1) * (1 : Nat) ≤ V (dec a) + V (dec b)) := by
      rw [← @fl_down (y + 1) (V (dec a) + V (dec b)) 1 (by omega), ← hyz]; omega
    rw [out_mid oy1]
    dsimp only
    rw [dSub_out ha (right_enc oy1) ra, dec_enc oy1]
    have hlt : dec b < fl (V (y + 1) - V (dec a)) 1 true := by
      have : ¬ (fl (V (y + 1) - V (dec a)) 1 true ≤ dec b) := by
        rw [fl_up (by omega)]; omega
      omega
    rcases out_up_lt (ok_dec hb rb) hlt with e3 | ⟨u, ou, e3, h5⟩
    · rw [e3]; exact Or.inl rfl
    · rw [e3]
      refine Or.inr ⟨rfl, ?_⟩
      rw [fgt_right ou hb rb]; exact decide_eq_true h5
end Go.Dy

/- Plain facts: the law DirNext. -/
namespace Go.Dy

theorem wrong_next {x : Nat} {up : Bool} (h : right x = false) : dNext x up = (0, 13) := dNext_wrong h
theorem wrong_add {x y : Nat} {up : Bool} (h : right x = false) : dAdd x y up = (0, 13) := by unfold dAdd; rw [h]; rfl
theorem wrong_sqrt {x : Nat} {up : Bool} (h : right x = false) : dSqrt x up = (0, 13) := by unfold dSqrt; rw [h]; rfl
theorem wrong_div {x y : Nat} {up : Bool} (h : right x = false) : dDiv y x up = (0, 13) := by
  unfold dDiv; rw [h, Bool.and_false]; rfl

theorem enc_of_dec {x : Nat} (hx : W x) (r : right x = true) : enc (dec x) = x := (enc_dec hx.lt r).1

theorem dNext_up {x : Nat} (r : right x = true) : dNext x true = out (dec x + 1) true := by
  unfold dNext; rw [r, if_pos rfl, if_pos rfl]
theorem dNext_down {x : Nat} (r : right x = true) : dNext x false = out (dec x - 1) false := by
  unfold dNext; rw [r, if_pos rfl, if_neg (by decide)]

theorem feq_max {x : Nat} (hx : W x) (r : right x = true) (h : dec x = (top : Int) - 1) : feq x 9218868437227405311 = true := by
  have e : x = 9218868437227405311 := by
    rw [← enc_of_dec hx r, h, top_eq]; decide
  rw [e]; decide +kernel

theorem half1 : dDiv 1 4611686018427387904 false = (0, 0) ∧ dDiv 1 4611686018427387904 true = (1, 0) := by decide +kernel

/-- There is no next one up: it is the greatest. -/
theorem next_no {x : Nat} (hx : W x) (r : right x = true) (h : (dNext x true).2 ≠ 0) : feq x 9218868437227405311 = true := by
  rw [dNext_up r] at h
  have hz := ok_dec hx r
  refine feq_max hx r ?_
  unfold ok at hz
  unfold out at h
  by_cases h1 : (top : Int) ≤ dec x + 1
  · omega
  · rw [if_neg h1, if_neg (by omega)] at h; exact absurd rfl h

theorem next_yes {x : Nat} (hx : W x) (r : right x = true) (h : (dNext x true).2 = 0) :
    ∃ n, dNext x true = (n, 0) ∧ W n ∧ right n = true ∧ dNext n false = (x, 0) ∧ (flt n x || feq n x) = false ∧
      (∃ a, dAdd x 1 false = (a, 0) ∧ flt a x = false ∧ W a) ∧ (∃ b, dAdd x 1 true = (b, 0) ∧ fgt b n = false ∧ W b) := by
  have hz := ok_dec hx r
  rw [dNext_up r] at h ⊢
  have h1 : ¬ ((top : Int) ≤ dec x + 1) := by
    intro h1
    rw [out_top h1, if_pos rfl] at h
    exact absurd h (by decide)
  have oy : ok (dec x + 1) := by unfold ok at hz ⊢; omega
  have hxe := enc_of_dec hx r
  refine ⟨enc (dec x + 1), out_mid oy, W_enc oy, right_enc oy, ?_, ?_, ?_, ?_⟩
  · rw [dNext_down (right_enc oy), dec_enc oy]
    have e : dec x + 1 - 1 = dec x := by omega
    rw [e, out_mid hz, hxe]
  · rw [flt_dec (W_enc oy) hx (right_enc oy) r, feq_dec (W_enc oy) hx (right_enc oy) r, dec_enc oy, Bool.or_eq_false_iff]
    exact ⟨decide_eq_false (by omega), decide_eq_false (by omega)⟩
  · have r1 : right 1 = true := by decide
    have v1 : V (dec 1) = 1 := by decide
    rw [dAdd_out r r1, v1]
    have k1 := (@fl_down (dec x) (V (dec x) + 1) 1 (by omega)).2 (by omega)
    have k2 : fl (V (dec x) + 1) 1 false ≤ dec x + 1 := by
      refine Int.le_trans (fl_le_up (by omega)) ((fl_up (by omega)).2 ?_)
      have := @V_lt (dec x) (dec x + 1) (by omega)
      omega
    have ok1 : ok (fl (V (dec x) + 1) 1 false) := by unfold ok at hz oy ⊢; omega
    refine ⟨_, out_mid ok1, ?_, W_enc ok1⟩
    rw [flt_dec (W_enc ok1) hx (right_enc ok1) r, dec_enc ok1]; exact decide_eq_false (by omega)
  · have r1 : right 1 = true := by decide
    have v1 : V (dec 1) = 1 := by decide
    rw [dAdd_out r r1, v1]
    have k2 : fl (V (dec x) + 1) 1 true ≤ dec x + 1 := by
      refine (fl_up (by omega)).2 ?_
      have := @V_lt (dec x) (dec x + 1) (by omega)
      omega
    have k1 : dec x ≤ fl (V (dec x) + 1) 1 true := by
      refine Int.le_trans ((@fl_down (dec x) (V (dec x) + 1) 1 (by omega)).2 (by omega)) (fl_le_up (by omega))
    have ok1 : ok (fl (V (dec x) + 1) 1 true) := by unfold ok at hz oy ⊢; omega
    refine ⟨_, out_mid ok1, ?_, W_enc ok1⟩
    rw [fgt_dec (W_enc ok1) (W_enc oy) (right_enc ok1) (right_enc oy), dec_enc ok1, dec_enc oy]; exact decide_eq_false (by omega)
end Go.Dy

/- Plain facts: operations on ranks; the laws DirParts and DirGrows. -/
namespace Go.Dy

theorem fle_dec {a b : Nat} (ha : W a) (hb : W b) (ra : right a = true) (rb : right b = true) : (flt a b || feq a b) = decide (dec a ≤ dec b) := by
  rw [flt_dec ha hb ra rb, feq_dec ha hb ra rb, Bool.eq_iff_iff]
  simp only [Bool.or_eq_true, decide_eq_true_eq]; omega
theorem fge_dec {a b : Nat} (ha : W a) (hb : W b) (ra : right a = true) (rb : right b = true) : (fgt a b || feq a b) = decide (dec b ≤ dec a) := by
  rw [fgt_dec ha hb ra rb, feq_dec ha hb ra rb, Bool.eq_iff_iff]
  simp only [Bool.or_eq_true, decide_eq_true_eq]; omega

theorem fle_enc {y z : Int} (hy : ok y) (hz : ok z) : (flt (enc y) (enc z) || feq (enc y) (enc z)) = decide (y ≤ z) := by
  rw [fle_dec (W_enc hy) (W_enc hz) (right_enc hy) (right_enc hz), dec_enc hy, dec_enc hz]
theorem fge_enc {y z : Int} (hy : ok y) (hz : ok z) : (fgt (enc y) (enc z) || feq (enc y) (enc z)) = decide (z ≤ y) := by
  rw [fge_dec (W_enc hy) (W_enc hz) (right_enc hy) (right_enc hz), dec_enc hy, dec_enc hz]

theorem dMul_enc {y z : Int} {up : Bool} (hy : ok y) (hz : ok z) : dMul (enc y) (enc z) up = out (fl (V y * V z) one up) up := by
  unfold dMul mulR; rw [right_enc hy, right_enc hz, dec_enc hy, dec_enc hz]; rfl
theorem enc_eq_zero {z : Int} (h : ok z) : enc z = 0 ↔ z = 0 := by
  unfold ok at h; rw [top_eq] at h
  unfold enc; split <;> omega
theorem dDiv_enc {y z : Int} {up : Bool} (hy : ok y) (hz : ok z) (h0 : 0 < z) : dDiv (enc y) (enc z) up = out (fl (V y * one) (V z).natAbs up) up := by
  unfold dDiv divR
  rw [right_enc hy, right_enc hz, if_neg (by decide), if_neg (by rw [enc_eq_zero hz]; omega), dec_enc hy, dec_enc hz, if_neg (by omega)]
theorem dAdd_enc {y z : Int} {up : Bool} (hy : ok y) (hz : ok z) : dAdd (enc y) (enc z) up = out (fl (V y + V z) 1 up) up := by
  rw [dAdd_out (right_enc hy) (right_enc hz), dec_enc hy, dec_enc hz]
theorem dSub_enc {y z : Int} {up : Bool} (hy : ok y) (hz : ok z) : dSub (enc y) (enc z) up = out (fl (V y - V z) 1 up) up := by
  rw [dSub_out (W_enc hz) (right_enc hy) (right_enc hz), dec_enc hy, dec_enc hz]

/-- Down of what is not below 0: a number, and no error. -/
theorem out_low {z : Int} (h : 0 ≤ z) : ∃ y, ok y ∧ out z false = (enc y, 0) ∧ y ≤ z ∧ 0 ≤ y ∧ (y = z ∨ y = (top : Int) - 1) := by
  by_cases h1 : (top : Int) ≤ z
  · refine ⟨(top : Int) - 1, by unfold ok; rw [top_eq]; omega, ?_, by omega, by rw [top_eq]; omega, Or.inr rfl⟩
    unfold out; rw [if_pos h1, if_neg (by decide)]
  · have o : ok z := by unfold ok; rw [top_eq] at *; omega
    exact ⟨z, o, out_mid o, Int.le_refl _, h, Or.inl rfl⟩

theorem one_pos' : (0 : Int) < (one : Int) := by have := one_pos; omega

theorem Vabs {z : Int} (h : 0 < z) : ((V z).natAbs : Int) = V z := by
  have := V_pos.2 h; omega

theorem fl_nonneg {num : Int} {den : Nat} {up : Bool} (hd : 0 < den) (h : 0 ≤ num) : 0 ≤ fl num den up := by
  have h1 : 0 ≤ fl num den false := (fl_down hd).2 (by rw [V_zero]; omega)
  cases up
  · exact h1
  · exact Int.le_trans h1 (fl_le_up hd)

/-- What the law asks of the two numbers: above 0. -/
theorem pos_of {a : Nat} (ha : W a) (ra : right a = true) (h : (flt a 0 || feq a 0) = false) : ∃ A : Int, 0 < A ∧ ok A ∧ a = enc A := by
  rw [fle_dec ha W_zero ra right_zero, dec_zero, decide_eq_false_iff_not] at h
  exact ⟨dec a, by omega, ok_dec ha ra, (enc_of_dec ha ra).symm⟩

theorem max_enc : (9218868437227405311 : Nat) = enc ((top : Int) - 1) := by rw [top_eq]; decide
theorem ok_max : ok ((top : Int) - 1) := by unfold ok; rw [top_eq]; omega

/-- One half of DirParts: f down is the greatest one whose g is not above, as both say the same of V. -/
theorem part_below {A num : Int} {den : Nat} (hA : ok A) (hd : 0 < den) (h : num ≤ V A * den) :
    ∃ x, ok x ∧ out (fl num den true) true = (enc x, 0) ∧ x ≤ A := out_up_le hA ((fl_up hd).2 h)
theorem part_above {A num : Int} {den : Nat} (hA : ok A) (hd : 0 < den) (h : V A * den < num) :
    out (fl num den true) true = (0, 10) ∨ ∃ x, ok x ∧ out (fl num den true) true = (enc x, 0) ∧ A < x := by
  refine out_up_lt hA ?_
  have : ¬ (fl num den true ≤ A) := by rw [fl_up hd]; omega
  omega

/-- A result of the law, as it tests it. -/
def Below1 (r : Nat × Int) (a : Nat) : Prop := ∃ x, r = (x, 0) ∧ fgt x a = false ∧ (flt x a || feq x a) = true
def Above1 (r : Nat × Int) (a : Nat) : Prop := r = (0, 10) ∨ ∃ y, r = (y, 0) ∧ (flt y a || feq y a) = false ∧ fgt y a = true

theorem below1 {A x : Int} (hA : ok A) (hx : ok x) (h : x ≤ A) : Below1 (enc x, 0) (enc A) :=
  ⟨enc x, rfl, by rw [fgt_enc hx hA]; exact decide_eq_false (by omega), by rw [fle_enc hx hA]; exact decide_eq_true h⟩
theorem above1 {A x : Int} (hA : ok A) (hx : ok x) (h : A < x) : Above1 (enc x, 0) (enc A) :=
  Or.inr ⟨enc x, rfl, by rw [fle_enc hx hA]; exact decide_eq_false (by omega), by rw [fgt_enc hx hA]; exact decide_eq_true h⟩

theorem below_of {A num : Int} {den : Nat} (hA : ok A) (hd : 0 < den) (h : num ≤ V A * den) : Below1 (out (fl num den true) true) (enc A) := by
  obtain ⟨x, hx, e, h1⟩ := part_below hA hd h
  rw [e]; exact below1 hA hx h1
theorem above_of {A num : Int} {den : Nat} (hA : ok A) (hd : 0 < den) (h : V A * den < num) : Above1 (out (fl num den true) true) (enc A) := by
  rcases part_above hA hd h with e | ⟨x, hx, e, h1⟩
  · exact Or.inl e
  · rw [e]; exact above1 hA hx h1

/-- The law's first half: a quotient, times the divisor. -/
theorem quo_part {a b : Nat} (ha : W a) (hb : W b) (ra : right a = true) (rb : right b = true) (pa : (flt a 0 || feq a 0) = false) (pb : (flt b 0 || feq b 0) = false) :
    ∃ q, dDiv a b false = (q, 0) ∧ W q ∧ (flt q 9218868437227405311 = false ∨
      flt q 9218868437227405311 = true ∧ ∃ n, dNext q true = (n, 0) ∧ W n ∧ Below1 (dMul q b true) a ∧ Above1 (dMul n b true) a) := by
  obtain ⟨A, hA, oA, rfl⟩ := pos_of ha ra pa
  obtain ⟨B, hB, oB, rfl⟩ := pos_of hb rb pb
  rw [dDiv_enc oA oB hB]
  have hd : 0 < (V B).natAbs := by have := V_pos.2 hB; omega
  have hn : 0 ≤ V A * one := Int.mul_nonneg (V_nonneg.2 (by omega)) (by have := one_pos'; omega)
  obtain ⟨q, oq, e, h1, h2, h3⟩ := out_low (fl_nonneg (up := false) hd hn)
  rw [e]
  refine ⟨enc q, rfl, W_enc oq, ?_⟩
  rw [max_enc, flt_enc oq ok_max]
  by_cases hm : q < (top : Int) - 1
  · refine Or.inr ⟨decide_eq_true hm, ?_⟩
    have hq : q = fl (V A * one) (V B).natAbs false := by rcases h3 with h3 | h3 <;> omega
    have oq1 : ok (q + 1) := by unfold ok at *; omega
    refine ⟨enc (q + 1), by rw [dNext_enc oq, out_mid oq1], W_enc oq1, ?_, ?_⟩
    · rw [dMul_enc oq oB]
      refine below_of oA one_pos ?_
      have := (@fl_down q (V A * one) (V B).natAbs hd).1 h1
      rw [Vabs hB] at this; exact this
    · rw [dMul_enc oq1 oB]
      refine above_of oA one_pos ?_
      have : ¬ (V (q + 1) * ((V B).natAbs : Int) ≤ V A * one) := by
        rw [← fl_down hd, ← hq]; omega
      rw [Vabs hB] at this; omega
  · exact Or.inl (decide_eq_false hm)

/-- The law's second half: a product, by the factor. -/
theorem mul_part {a b : Nat} (ha : W a) (hb : W b) (ra : right a = true) (rb : right b = true) (pa : (flt a 0 || feq a 0) = false) (pb : (flt b 0 || feq b 0) = false) :
    ∃ p, dMul a b false = (p, 0) ∧ W p ∧ (feq p 9218868437227405311 = true ∨
      feq p 9218868437227405311 = false ∧ ∃ n, dNext p true = (n, 0) ∧ W n ∧ Below1 (dDiv p b true) a ∧ Above1 (dDiv n b true) a) := by
  obtain ⟨A, hA, oA, rfl⟩ := pos_of ha ra pa
  obtain ⟨B, hB, oB, rfl⟩ := pos_of hb rb pb
  rw [dMul_enc oA oB]
  have hd : 0 < (V B).natAbs := by have := V_pos.2 hB; omega
  have hn : 0 ≤ V A * V B := Int.mul_nonneg (V_nonneg.2 (by omega)) (V_nonneg.2 (by omega))
  obtain ⟨p, op, e, h1, h2, h3⟩ := out_low (fl_nonneg (up := false) one_pos hn)
  rw [e]
  refine ⟨enc p, rfl, W_enc op, ?_⟩
  rw [max_enc, feq_enc op ok_max]
  by_cases hm : p = (top : Int) - 1
  · exact Or.inl (decide_eq_true hm)
  · refine Or.inr ⟨decide_eq_false hm, ?_⟩
    have hq : p = fl (V A * V B) one false := by rcases h3 with h3 | h3 <;> omega
    have op1 : ok (p + 1) := by unfold ok at *; omega
    refine ⟨enc (p + 1), by rw [dNext_enc op, out_mid op1], W_enc op1, ?_, ?_⟩
    · rw [dDiv_enc op oB hB]
      refine below_of oA hd ?_
      rw [Vabs hB]
      exact (@fl_down p (V A * V B) one one_pos).1 h1
    · rw [dDiv_enc op1 oB hB]
      refine above_of oA hd ?_
      rw [Vabs hB]
      have : ¬ (V (p + 1) * (one : Int) ≤ V A * V B) := by
        rw [← fl_down one_pos, ← hq]; omega
      omega
end Go.Dy

/- Plain facts: roots as ranks; the law DirGrows. -/
namespace Go.Dy

/-- The rank of one. -/
def I1 : Int := 4607182418800017408
theorem V_one : V I1 = (one : Int) := by decide +kernel
theorem I1_eq : I1 = 4607182418800017408 := rfl

/-- A root's rank, of a rank from 0 on. -/
def sqz (z : Int) (up : Bool) : Int := sqR (mag z.toNat) up

theorem sqR_down {N : Nat} (r : Nat) : (r : Int) ≤ sqR N false ↔ mag r * mag r ≤ N * one := by
  unfold sqR rnk
  have e : (false == false) = true := rfl
  simp only [e, if_true, Bool.false_eq_true, if_false]
  rw [Int.ofNat_le, le_rdn, le_isq]
theorem sqR_up {N : Nat} (r : Nat) : sqR N true ≤ (r : Int) ↔ N * one ≤ mag r * mag r := by
  unfold sqR rnk
  have e : (true == false) = false := rfl
  simp only [e, Bool.false_eq_true, if_false]
  rw [Int.ofNat_le, rup_le]
  have h1 := (isq_spec (N * one)).1
  have h2 := @le_isq (mag r) (N * one)
  by_cases hs : isq (N * one) * isq (N * one) = N * one
  · rw [if_neg (by simp [hs])]
    rw [← sq_le, hs]
  · rw [if_pos (by simpa using hs)]
    constructor
    · intro h
      have : ¬ (mag r ≤ isq (N * one)) := by omega
      rw [h2] at this; omega
    · intro h
      by_cases h3 : mag r ≤ isq (N * one)
      · exfalso
        have h4 := h2.1 h3
        have h5 : mag r * mag r = N * one := by omega
        have h6 : isq (N * one) = mag r := isq_unique (by omega) (by
          have : mag r * mag r < (mag r + 1) * (mag r + 1) := sq_lt.2 (by omega)
          omega)
        rw [h6] at hs; exact hs h5
      · omega

theorem V_toNat {z : Int} (h : 0 ≤ z) : V z = (mag z.toNat : Int) := by
  have e : z = (z.toNat : Int) := by omega
  have := V_nat z.toNat
  rw [← e] at this; exact this

theorem sqz_down {y z : Int} (hz : 0 ≤ z) (hy : 0 ≤ y) : y ≤ sqz z false ↔ V y * V y ≤ V z * one := by
  have e : y = (y.toNat : Int) := by omega
  have h := sqR_down (N := mag z.toNat) y.toNat
  rw [← e] at h
  unfold sqz
  rw [h, V_toNat hz, V_toNat hy]
  constructor
  · intro h; exact_mod_cast h
  · intro h; exact_mod_cast h
theorem sqz_up {y z : Int} (hz : 0 ≤ z) (hy : 0 ≤ y) : sqz z true ≤ y ↔ V z * one ≤ V y * V y := by
  have e : y = (y.toNat : Int) := by omega
  have h := sqR_up (N := mag z.toNat) y.toNat
  rw [← e] at h
  unfold sqz
  rw [h, V_toNat hz, V_toNat hy]
  constructor
  · intro h; exact_mod_cast h
  · intro h; exact_mod_cast h

theorem sqz_nonneg (z : Int) (up : Bool) : 0 ≤ sqz z up := by
  unfold sqz sqR rnk
  simp only [Bool.false_eq_true, if_false]
  omega
theorem sqz_le_up (z : Int) : sqz z false ≤ sqz z true := by
  unfold sqz sqR rnk
  have e1 : (true == false) = false := rfl
  have e2 : (false == false) = true := rfl
  simp only [e1, e2, if_true, Bool.false_eq_true, if_false]
  unfold rup; split <;> omega
theorem sqz_up_le (z : Int) : sqz z true ≤ sqz z false + 1 := by
  unfold sqz sqR rnk
  have e1 : (true == false) = false := rfl
  have e2 : (false == false) = true := rfl
  simp only [e1, e2, if_true, Bool.false_eq_true, if_false]
  unfold rup; split <;> omega

theorem ok_I1 : ok I1 := by unfold ok I1; rw [top_eq]; omega

theorem sqz_ok {z : Int} {up : Bool} (h0 : 0 ≤ z) (h : ok z) : ok (sqz z up) := by
  have h1 := sqz_nonneg z up
  have h2 : sqz z up ≤ sqz z true := by
    cases up
    · exact sqz_le_up z
    · exact Int.le_refl _
  have hp := one_pos'
  have h3 : sqz z true ≤ z ∨ sqz z true ≤ I1 := by
    by_cases hz : I1 ≤ z
    · refine Or.inl ((sqz_up h0 h0).2 ?_)
      have a := V_le_iff.2 hz
      rw [V_one] at a
      exact Int.mul_le_mul_of_nonneg_left a (V_nonneg.2 h0)
    · refine Or.inr ((sqz_up h0 (by unfold I1; omega)).2 ?_)
      have a := V_le_iff.2 (Int.le_of_lt (Int.not_le.1 hz))
      rw [V_one] at a ⊢
      exact Int.mul_le_mul_of_nonneg_right a (by omega)
  have h4 := ok_I1
  unfold ok at h h4 ⊢
  omega

theorem sqz_mono {y z : Int} {up : Bool} (hy : 0 ≤ y) (h : y ≤ z) : sqz y up ≤ sqz z up := by
  have hz : 0 ≤ z := by omega
  have hv := V_le_iff.2 h
  have hp := one_pos'
  have hm : V y * one ≤ V z * one := Int.mul_le_mul_of_nonneg_right hv (by omega)
  cases up
  · exact (sqz_down hz (sqz_nonneg _ _)).2 (Int.le_trans ((sqz_down hy (sqz_nonneg _ _)).1 (Int.le_refl _)) hm)
  · exact (sqz_up hy (sqz_nonneg _ _)).2 (Int.le_trans hm ((sqz_up hz (sqz_nonneg _ _)).1 (Int.le_refl _)))

theorem enc_ge {z : Int} (h : ok z) : 2 ^ 63 ≤ enc z ↔ z < 0 := by
  unfold ok at h; rw [top_eq] at h
  unfold enc; split <;> omega
theorem enc_nonneg {z : Int} (h : 0 ≤ z) : enc z = z.toNat := by unfold enc; rw [if_pos h]

theorem sqz_zero (up : Bool) : sqz 0 up = 0 := by cases up <;> decide +kernel

theorem dSqrt_enc {z : Int} {up : Bool} (h : ok z) (h0 : 0 ≤ z) : dSqrt (enc z) up = (enc (sqz z up), 0) := by
  unfold dSqrt
  rw [right_enc h, if_neg (by decide), if_neg (by rw [enc_ge h]; omega)]
  by_cases hz : z = 0
  · subst hz; rw [if_pos (by decide), sqz_zero]; rfl
  · rw [if_neg (by rw [enc_eq_zero h]; exact hz), ← out_mid (up := up) (sqz_ok h0 h), enc_nonneg h0]; rfl
theorem dSqrt_neg {z : Int} {up : Bool} (h : ok z) (h0 : z < 0) : dSqrt (enc z) up = (0, 12) := by
  unfold dSqrt
  rw [right_enc h, if_neg (by decide), if_pos ((enc_ge h).2 h0)]

theorem fl_mono {num num' : Int} {den : Nat} {up : Bool} (hd : 0 < den) (h : num ≤ num') : fl num den up ≤ fl num' den up := by
  cases up
  · exact (fl_down hd).2 (Int.le_trans ((fl_down hd).1 (Int.le_refl _)) h)
  · exact (fl_up hd).2 (Int.le_trans h ((fl_up hd).1 (Int.le_refl _)))

/-- An answer without error is a number: the rank, kept within the greatest ones. -/
theorem out_ok {z : Int} {up : Bool} (h : (out z up).2 = 0) : ∃ y, ok y ∧ out z up = (enc y, 0) ∧ y = max (min z ((top : Int) - 1)) (1 - (top : Int)) := by
  have tp := top_eq
  unfold out at h ⊢
  by_cases h1 : (top : Int) ≤ z
  · rw [if_pos h1] at h ⊢
    cases up
    · exact ⟨(top : Int) - 1, ok_max, rfl, by omega⟩
    · rw [if_pos rfl] at h; exact absurd h (by decide)
  · rw [if_neg h1] at h ⊢
    by_cases h2 : z ≤ -(top : Int)
    · rw [if_pos h2] at h ⊢
      cases up
      · rw [if_neg (by decide)] at h; exact absurd h (by decide)
      · exact ⟨1 - (top : Int), by unfold ok; omega, rfl, by omega⟩
    · rw [if_neg h2]; exact ⟨z, by unfold ok; omega, rfl, by omega⟩

theorem out_mono {y z : Int} {up : Bool} (h : y ≤ z) (h1 : (out y up).2 = 0) (h2 : (out z up).2 = 0) : fgt (out y up).1 (out z up).1 = false := by
  obtain ⟨u, ou, e1, hu⟩ := out_ok h1
  obtain ⟨v, ov, e2, hv⟩ := out_ok h2
  rw [e1, e2]; dsimp only
  rw [fgt_enc ou ov]; exact decide_eq_false (by omega)

/-- min and max of two numbers. -/
def dmin (a b : Nat) : Nat := if dec b < dec a then b else a
def dmax (a b : Nat) : Nat := if dec a < dec b then b else a

theorem dmin_right {a b : Nat} (ra : right a = true) (rb : right b = true) : right (dmin a b) = true := by unfold dmin; split <;> assumption
theorem dmax_right {a b : Nat} (ra : right a = true) (rb : right b = true) : right (dmax a b) = true := by unfold dmax; split <;> assumption
theorem dmin_W {a b : Nat} (ha : W a) (hb : W b) : W (dmin a b) := by unfold dmin; split <;> assumption
theorem dmax_W {a b : Nat} (ha : W a) (hb : W b) : W (dmax a b) := by unfold dmax; split <;> assumption
theorem dec_dmin (a b : Nat) : dec (dmin a b) = min (dec a) (dec b) := by unfold dmin; split <;> omega
theorem dec_dmax (a b : Nat) : dec (dmax a b) = max (dec a) (dec b) := by unfold dmax; split <;> omega

theorem right_abs {c : Nat} (h : right c = true) : right (abs c) = true := by
  unfold right at h ⊢; rw [decide_eq_true_eq] at h ⊢; rw [top_eq] at *; unfold abs; omega
theorem W_abs (c : Nat) : W (abs c) := by unfold W abs; omega
theorem dec_abs {c : Nat} (hc : W c) (h : right c = true) : dec (abs c) = ((dec c).natAbs : Int) := by
  have := hc.lt
  unfold right at h; rw [decide_eq_true_eq, top_eq] at h
  unfold dec abs; rw [if_pos (by omega)]; split <;> omega

/-- Two answers, of a lesser and of a greater operand, as the law tests them. -/
def Grow (r s : Nat × Int) : Prop := (∃ x y, r = (x, 0) ∧ s = (y, 0) ∧ fgt x y = false) ∨ (∃ x e, r = (x, e) ∧ (e == 0) = false) ∨ (∃ x y e, r = (x, 0) ∧ s = (y, e) ∧ (e == 0) = false)

theorem grow_of {r s : Nat × Int} (h : r.2 = 0 → s.2 = 0 → fgt r.1 s.1 = false) : Grow r s := by
  obtain ⟨x, e⟩ := r
  obtain ⟨y, f⟩ := s
  by_cases he : e = 0
  · by_cases hf : f = 0
    · subst he hf; exact Or.inl ⟨x, y, rfl, rfl, h rfl rfl⟩
    · subst he; exact Or.inr (Or.inr ⟨x, y, f, rfl, rfl, by simpa using hf⟩)
  · exact Or.inr (Or.inl ⟨x, e, rfl, by simpa using he⟩)

theorem grow_add {a b c : Nat} {up : Bool} (ra : right a = true) (rb : right b = true) (rc : right c = true) (h : dec a ≤ dec b) : Grow (dAdd a c up) (dAdd b c up) := by
  rw [dAdd_out ra rc, dAdd_out rb rc]
  have := V_le_iff.2 h
  exact grow_of (out_mono (fl_mono (by omega) (by omega)))

theorem dMul_out {a b : Nat} {up : Bool} (ra : right a = true) (rb : right b = true) : dMul a b up = out (fl (V (dec a) * V (dec b)) one up) up := by
  unfold dMul mulR; rw [ra, rb]; rfl

theorem grow_mul {a b c : Nat} {up : Bool} (hc : W c) (ra : right a = true) (rb : right b = true) (rc : right c = true) (h : dec a ≤ dec b) : Grow (dMul a (abs c) up) (dMul b (abs c) up) := by
  rw [dMul_out ra (right_abs rc), dMul_out rb (right_abs rc)]
  refine grow_of (out_mono (fl_mono one_pos ?_))
  exact Int.mul_le_mul_of_nonneg_right (V_le_iff.2 h) (V_nonneg.2 (by rw [dec_abs hc rc]; omega))

theorem grow_sqrt {a b : Nat} {up : Bool} (ha : W a) (hb : W b) (ra : right a = true) (rb : right b = true) (h : dec a ≤ dec b) :
    (∃ x y, dSqrt a up = (x, 0) ∧ dSqrt b up = (y, 0) ∧ (flt x y || feq x y) = true) ∨ (∃ x e, dSqrt a up = (x, e) ∧ (e != 0) = true) := by
  have oa := ok_dec ha ra
  have ob := ok_dec hb rb
  by_cases h0 : dec a < 0
  · have := dSqrt_neg (up := up) oa h0
    rw [enc_of_dec ha ra] at this
    exact Or.inr ⟨_, _, this, rfl⟩
  · have e1 := dSqrt_enc (up := up) oa (by omega)
    have e2 := dSqrt_enc (up := up) ob (by omega)
    rw [enc_of_dec ha ra] at e1
    rw [enc_of_dec hb rb] at e2
    refine Or.inl ⟨_, _, e1, e2, ?_⟩
    rw [fle_enc (sqz_ok (by omega) oa) (sqz_ok (by omega) ob)]
    exact decide_eq_true (sqz_mono (by omega) h)
end Go.Dy

/- Plain facts: the parts of a number (Frexp), and which points are within the ball. -/
namespace Go.Dy

/-- What math.Frexp gives: the fraction's bits, and the exponent. -/
def frF (b : Nat) : Nat := if b % 2 ^ 63 = 0 then b else built b (-1)
def frE (b : Nat) : Int := if b % 2 ^ 63 = 0 then 0 else lexp b 0 + 1
/-- The fraction, times 2^53. -/
def frN (b : Nat) : Nat := if b = 0 then 0 else 2 ^ 52 + norm1 b % 2 ^ 52
/-- A number from 1/2 to 1, or 0, times 2^53: the bits. -/
def up53 (b : Nat) : Nat := if b = 0 then 0 else 1075 * 2 ^ 52 + b % 2 ^ 52

theorem mag_at (k f : Nat) (hf : f < 2 ^ 52) : mag ((k + 1) * 2 ^ 52 + f) = (2 ^ 52 + f) * 2 ^ k := by
  have : (k + 1) * 2 ^ 52 + f = k * 2 ^ 52 + (2 ^ 52 + f) := by omega
  rw [this, mag_form k f hf]

theorem nr_zero (r : Nat) : nr (mag r) 0 = r := by
  have h := nr_exact (r := r) (n := mag r) (j := 0) (by rw [Nat.pow_zero, Nat.mul_one])
  exact h

theorem ldx_half {f : Nat} (hf : f < 2 ^ 52) : ldx (1022 * 2 ^ 52 + f) 53 = 1075 * 2 ^ 52 + f := by
  unfold ldx
  have e1 : (1022 * 2 ^ 52 + f) % 2 ^ 63 = 1022 * 2 ^ 52 + f := by omega
  have e2 : sgn (1022 * 2 ^ 52 + f) = false := by unfold sgn; rw [decide_eq_false_iff_not]; omega
  rw [e1, e2, if_pos (by rw [top_eq]; omega)]
  obtain ⟨S, hS, eS⟩ : ∃ S : Nat, S = 1021 ∧ (1022 : Nat) = S + 1 := ⟨1021, rfl, rfl⟩
  have m1 : mag (1022 * 2 ^ 52 + f) * 2 ^ 53 = mag (1075 * 2 ^ 52 + f) := by
    have e3 : (1075 : Nat) = S + 53 + 1 := by omega
    rw [eS, e3, mag_at _ _ hf, mag_at _ _ hf, Nat.pow_add, Nat.mul_assoc]
  have t1 : (53 : Int).toNat = 53 := rfl
  have t2 : (-(53 : Int)).toNat = 0 := rfl
  rw [t1, t2, m1, nr_zero, Nat.min_eq_left (by rw [top_eq]; omega)]
  rfl
theorem ldx_zero53 : ldx 0 53 = 0 := by decide +kernel

/-- The rank of a half. -/
def Ih : Int := 4602678819172646912

theorem ldx_up53 {b : Nat} (h : b = 0 ∨ 4602678819172646912 ≤ b ∧ b < 4607182418800017408) : ldx b 53 = up53 b := by
  rcases h with rfl | ⟨h1, h2⟩
  · exact ldx_zero53
  · obtain ⟨f, hf, rfl⟩ : ∃ f, f < 2 ^ 52 ∧ b = 1022 * 2 ^ 52 + f := ⟨b - 1022 * 2 ^ 52, by omega, by omega⟩
    rw [ldx_half hf]; unfold up53
    rw [if_neg (by omega)]; omega

/-- The whole number that 'up53' is. -/
def n53 (b : Nat) : Nat := if b = 0 then 0 else 2 ^ 52 + b % 2 ^ 52
theorem n53_lt (b : Nat) : n53 b < 2 ^ 53 := by unfold n53; split <;> omega

theorem frF_cases {b : Nat} (hf : b < top) : frF b = 0 ∧ b = 0 ∨ b ≠ 0 ∧ 4602678819172646912 ≤ frF b ∧ frF b < 4607182418800017408 ∧ frF b % 2 ^ 52 = norm1 b % 2 ^ 52 := by
  rw [top_eq] at hf
  unfold frF
  by_cases h0 : b = 0
  · exact Or.inl ⟨by rw [h0]; rfl, h0⟩
  · refine Or.inr ⟨h0, ?_⟩
    rw [if_neg (by omega)]
    have hs : sgn b = false := by unfold sgn; rw [decide_eq_false_iff_not]; omega
    unfold built word
    rw [hs]
    have e : (-1 + 1023 : Int).toNat = 1022 := rfl
    rw [e, if_neg (by decide)]
    generalize norm1 b = N
    omega

theorem n53_frF {b : Nat} (hf : b < top) : n53 (frF b) = frN b := by
  rcases frF_cases hf with ⟨h, h0⟩ | ⟨h0, h1, h2, h3⟩
  · unfold n53 frN; rw [h, h0, if_pos rfl, if_pos rfl]
  · unfold n53 frN; rw [if_neg (by omega), if_neg h0, h3]

/-- A number below one, of its fraction and exponent. -/
theorem frexp_spec {b : Nat} (h : b < 4607182418800017408) : ∃ k : Nat, frE b = -(k : Int) ∧ k ≤ 1073 ∧ mag b * 2 ^ k = frN b * big := by
  by_cases h0 : b = 0
  · subst h0
    refine ⟨0, by decide, by omega, ?_⟩
    unfold frN; rw [if_pos rfl, Nat.zero_mul, mag_zero, Nat.zero_mul]
  · have hm : b % 2 ^ 63 = b := by omega
    have hs : sgn b = false := by unfold sgn; rw [decide_eq_false_iff_not]; omega
    obtain ⟨N, e1, hN1, hN2, hN3, hN4⟩ := norm_spec (b := b) (by omega) (by rw [hm, top_eq]; omega) (by omega)
    rw [hm] at hN3 hN4
    rw [hs] at e1
    have e1 : norm1 b = N := e1
    have mb : mag b < mag 4607182418800017408 := mag_lt h
    have m1 : mag 4607182418800017408 = one := by decide +kernel
    have h1' : one = 2 ^ 53 * big := by decide +kernel
    obtain ⟨S, hS, eS⟩ : ∃ S, S = 1021 ∧ big = 2 ^ S := ⟨1021, rfl, big_eq⟩
    rw [m1, h1', eS, ← Nat.pow_add] at mb
    have mp := mag_parts hN1
    -- both ways alike: k2 is 52 or 0
    obtain ⟨k2, hk2, hk3, hk4⟩ : ∃ k2 : Nat, norm2 b = -(k2 : Int) ∧ mag b * 2 ^ k2 = mag N ∧ k2 ≤ 52 := by
      by_cases hl : abs b < 2 ^ 52
      · refine ⟨52, ?_, (hN3 hl).symm, Nat.le_refl _⟩
        unfold norm2; rw [if_pos hl]; rfl
      · refine ⟨0, ?_, ?_, by omega⟩
        · unfold norm2; rw [if_neg hl]; rfl
        · rw [hN4 hl, Nat.pow_zero, Nat.mul_one]
    have hq : N / 2 ^ 52 % 2048 = N / 2 ^ 52 := by rw [top_eq] at hN2; omega
    obtain ⟨q, hq2⟩ : ∃ q, N / 2 ^ 52 = q + 1 := ⟨N / 2 ^ 52 - 1, by omega⟩
    have hF : frN b = 2 ^ 52 + N % 2 ^ 52 := by unfold frN; rw [if_neg h0, e1]
    have hE : frE b = -(k2 : Int) + q + 1 - 1022 := by
      unfold frE lexp; rw [if_neg (by omega), hk2, e1, hq, hq2]; omega
    have hmq : mag b * 2 ^ k2 = frN b * 2 ^ q := by
      rw [hk3, mp, hq2, hF]; rfl
    have hle : q ≤ 1021 + k2 := by
      by_cases hc : q ≤ 1021 + k2
      · exact hc
      · exfalso
        have a1 : 2 ^ 52 * 2 ^ (1022 + k2) ≤ frN b * 2 ^ q := Nat.mul_le_mul (by rw [hF]; omega) (Nat.pow_le_pow_right (by omega) (by omega))
        have a2 : mag b * 2 ^ k2 < 2 ^ (53 + S) * 2 ^ k2 := Nat.mul_lt_mul_of_pos_right mb (Nat.two_pow_pos _)
        rw [← hmq, ← Nat.pow_add] at a1
        rw [← Nat.pow_add] at a2
        have : 52 + (1022 + k2) = 53 + S + k2 := by omega
        rw [this] at a1
        exact absurd (Nat.lt_of_le_of_lt a1 a2) (Nat.lt_irrefl _)
    refine ⟨1021 + k2 - q, by rw [hE]; omega, by omega, ?_⟩
    refine Nat.eq_of_mul_eq_mul_right (Nat.two_pow_pos q) ?_
    rw [Nat.mul_assoc, ← Nat.pow_add]
    have e5 : 1021 + k2 - q + q = k2 + S := by omega
    rw [e5, Nat.pow_add, ← Nat.mul_assoc, hmq, eS, Nat.mul_right_comm]

/-- Within the ball: by the whole numbers that the program works out. -/
theorem inside_core {X Y k : Nat} (h1 : 4602678819172646912 ≤ X) (h2 : X < 4607182418800017408) (hk : mag Y * 2 ^ k = frN Y * big) :
    (frN Y * frN Y / 2 ^ (2 * k) < 2 ^ 106 - n53 X * n53 X) ↔ mag X * mag X + mag Y * mag Y < one * one := by
  have hX : mag X = n53 X * big := by
    obtain ⟨f, hf, rfl⟩ : ∃ f, f < 2 ^ 52 ∧ X = 1022 * 2 ^ 52 + f := ⟨X - 1022 * 2 ^ 52, by omega, by omega⟩
    obtain ⟨S, hS, eS, eB⟩ : ∃ S : Nat, S = 1021 ∧ (1022 : Nat) = S + 1 ∧ big = 2 ^ S := ⟨1021, rfl, rfl, big_eq⟩
    have e1 : (1022 * 2 ^ 52 + f) % 2 ^ 52 = f := by omega
    unfold n53
    rw [if_neg (by omega), e1, eS, mag_at _ _ hf, eB]
  have h1' : one = 2 ^ 53 * big := by decide +kernel
  have hB : 0 < big := by decide +kernel
  have hK : 0 < 2 ^ k := Nat.two_pow_pos _
  have hn := n53_lt X
  rw [hX, h1']
  generalize n53 X = n at *
  generalize frN Y = F at *
  generalize mag Y = y at *
  generalize big = B at *
  have eK : 2 ^ (2 * k) = 2 ^ k * 2 ^ k := by rw [Nat.two_mul, Nat.pow_add]
  rw [eK]
  generalize 2 ^ k = K at *
  have hn2 : n * n < 2 ^ 106 := by
    have : n * n ≤ (2 ^ 53 - 1) * (2 ^ 53 - 1) := Nat.mul_le_mul (by omega) (by omega)
    omega
  obtain ⟨L, hL⟩ : ∃ L, 2 ^ 106 = n * n + L := ⟨2 ^ 106 - n * n, by omega⟩
  have e1 : 2 ^ 106 - n * n = L := by omega
  rw [e1, Nat.div_lt_iff_lt_mul (Nat.mul_pos hK hK)]
  have e2 : 2 ^ 53 * B * (2 ^ 53 * B) = n * B * (n * B) + L * (B * B) := by
    have : 2 ^ 53 * B * (2 ^ 53 * B) = 2 ^ 106 * (B * B) := by
      rw [Nat.mul_mul_mul_comm]
    rw [this, hL, Nat.add_mul, Nat.mul_mul_mul_comm n B n B]
  rw [e2]
  have e3 : (n * B * (n * B) + y * y < n * B * (n * B) + L * (B * B)) ↔ y * y < L * (B * B) := by omega
  rw [e3]
  have e4 : y * y < L * (B * B) ↔ y * y * (K * K) < L * (B * B) * (K * K) := (Nat.mul_lt_mul_right (Nat.mul_pos hK hK)).symm
  rw [e4]
  have e5 : y * y * (K * K) = F * F * (B * B) := by
    rw [Nat.mul_mul_mul_comm, hk, Nat.mul_mul_mul_comm]
  rw [e5, Nat.mul_right_comm L, Nat.mul_lt_mul_right (Nat.mul_pos hB hB)]

/-- May a number be one of a point: is it from -1 to 1? -/
def may (x : Nat) : Bool := right x && decide ((dec x).natAbs ≤ 4607182418800017408)
/-- Is a point within the ball? -/
def inB (x y : Nat) : Bool := decide (V (dec x) * V (dec x) + V (dec y) * V (dec y) < one * one)
/-- ray.Inside. -/
def dIn (x y : Nat) : Bool × Int := if may x && may y then (inB x y, 0) else (false, 2)
end Go.Dy

/- Plain facts: a float64 made a whole number. -/
namespace Go.Dy
open Ieee

theorem cut_none (neg : Bool) (n : Nat) : Toward.zero.cut neg n 0 = n := by
  unfold Toward.cut
  simp

/-- A number from 2^52 on below 2^53: its bits are read as that whole number. -/
theorem read_whole {f : Nat} (hf : f < 2 ^ 52) : double.read (1075 * 2 ^ 52 + f) = .number false (2 ^ 52 + f) 0 := by
  unfold Format.read
  rw [sgn_eq (by omega), d_signWeight, d_binade, d_infRung, d_leastPlace]
  have e1 : (1075 * 2 ^ 52 + f) % 2 ^ 63 = 1075 * 2 ^ 52 + f := by omega
  have e2 : sgn (1075 * 2 ^ 52 + f) = false := by unfold sgn; rw [decide_eq_false_iff_not]; omega
  dsimp only
  rw [e1, e2, if_neg (by omega), if_pos (by rw [top_eq]; omega)]
  have e3 : (1075 * 2 ^ 52 + f) % 2 ^ 52 = f := by omega
  have e4 : (1075 * 2 ^ 52 + f) / 2 ^ 52 = 1075 := by omega
  rw [e3, e4]
  rfl

theorem toInt_up53 (b : Nat) : floatToIntVal .f64 (up53 b) .u64 = some ((n53 b : Nat) : Int) := by
  unfold up53 n53
  by_cases h : b = 0
  · rw [if_pos h, if_pos h]; decide +kernel
  · rw [if_neg h, if_neg h]
    have hf : b % 2 ^ 52 < 2 ^ 52 := by omega
    have e := read_whole hf
    generalize b % 2 ^ 52 = f at *
    unfold floatToIntVal
    have e' : FloatKind.f64.decode (1075 * 2 ^ 52 + f) = .number false (2 ^ 52 + f) 0 := e
    rw [e']
    have e5 : Datum.toInt .zero (.number false (2 ^ 52 + f) 0) = some ((2 ^ 52 + f : Nat) : Int) := by
      unfold Datum.toInt Datum.integral
      have z1 : (2 ^ 52 + f) <<< (0 : Int).toNat = 2 ^ 52 + f := by simp
      have z2 : (-(0 : Int)).toNat = 0 := rfl
      simp only [z1, z2, cut_none, signed_eq]
      simp
    rw [e5]
    have k1 : IntKind.u64.min = 0 := rfl
    have k2 : IntKind.u64.max = 18446744073709551615 := rfl
    simp only [k1, k2]
    rw [if_pos (by omega)]
end Go.Dy

/- Plain facts: which points are within the ball, as ray.Inside tests it. -/
namespace Go.Dy

theorem W_one : W 4607182418800017408 := by unfold W; omega
theorem right_one : right 4607182418800017408 = true := by decide +kernel
theorem dec_one : dec 4607182418800017408 = 4607182418800017408 := by decide +kernel
theorem W_half : W 4602678819172646912 := by unfold W; omega
theorem right_half : right 4602678819172646912 = true := by decide +kernel
theorem dec_half : dec 4602678819172646912 = 4602678819172646912 := by decide +kernel

theorem may_le {x : Nat} (hx : W x) (r : right x = true) : (flt (abs x) 4607182418800017408 || feq (abs x) 4607182418800017408) = may x := by
  rw [fle_dec (W_abs x) W_one (right_abs r) right_one, dec_abs hx r, dec_one]
  unfold may
  rw [r, Bool.true_and, Bool.eq_iff_iff]
  simp only [decide_eq_true_eq]; omega
theorem may_wrong {x : Nat} (r : right x = false) : may x = false := by unfold may; rw [r]; rfl
theorem may_right {x : Nat} (h : may x = true) : right x = true ∧ (dec x).natAbs ≤ 4607182418800017408 := by
  unfold may at h
  rw [Bool.and_eq_true, decide_eq_true_eq] at h; exact h

theorem V_sq_abs (z : Int) : V z * V z = V (z.natAbs : Int) * V (z.natAbs : Int) := by
  rcases Int.natAbs_eq z with h | h
  · rw [← h]
  · rw [h, V_neg, Int.natAbs_neg, Int.natAbs_natCast]; rw [Int.neg_mul_neg]

/-- The greater and the lesser one, as bits from 0 to one. -/
structure Pt (x y X Y : Nat) : Prop where
  le : Y ≤ X
  one : X ≤ 4607182418800017408
  sum : V (dec x) * V (dec x) + V (dec y) * V (dec y) = ((mag X * mag X + mag Y * mag Y : Nat) : Int)

theorem dec_small {b : Nat} (h : b ≤ 4607182418800017408) : dec b = (b : Int) ∧ W b ∧ right b = true := by
  refine ⟨?_, ?_, ?_⟩
  · unfold dec; rw [if_pos (by omega)]
  · unfold W; omega
  · unfold right; rw [decide_eq_true_eq, top_eq]; omega

theorem abs_small {x : Nat} (hx : W x) (h : may x = true) : abs x ≤ 4607182418800017408 ∧ ((abs x : Nat) : Int) = ((dec x).natAbs : Int) := by
  obtain ⟨r, h1⟩ := may_right h
  have e := dec_abs hx r
  have hx' := hx.lt
  have ra := right_abs r
  unfold right at ra; rw [decide_eq_true_eq, top_eq] at ra
  have l : abs x < 2 ^ 63 := by unfold abs; omega
  have d : dec (abs x) = ((abs x : Nat) : Int) := by unfold dec; rw [if_pos l]
  rw [d] at e
  omega

theorem pt_of {x y : Nat} (hx : W x) (hy : W y) (mx : may x = true) (my : may y = true) : Pt x y (dmax (abs x) (abs y)) (dmin (abs x) (abs y)) := by
  obtain ⟨lx, ex⟩ := abs_small hx mx
  obtain ⟨ly, ey⟩ := abs_small hy my
  have sx : V (dec x) * V (dec x) = ((mag (abs x) * mag (abs x) : Nat) : Int) := by
    rw [V_sq_abs, ← ex, V_nat, Int.natCast_mul]
  have sy : V (dec y) * V (dec y) = ((mag (abs y) * mag (abs y) : Nat) : Int) := by
    rw [V_sq_abs, ← ey, V_nat, Int.natCast_mul]
  have dx := (dec_small lx).1
  have dy := (dec_small ly).1
  unfold dmax dmin
  rw [dx, dy]
  by_cases h : abs y < abs x
  · rw [if_neg (by omega), if_pos (by omega)]
    exact ⟨by omega, lx, by rw [sx, sy, Int.natCast_add]⟩
  · rw [if_neg (show ¬ ((abs y : Int) < (abs x : Int)) by omega)]
    by_cases h2 : abs x < abs y
    · rw [if_pos (by omega)]
      exact ⟨by omega, ly, by rw [sx, sy, Int.natCast_add, Int.add_comm]⟩
    · rw [if_neg (by omega)]
      exact ⟨by omega, lx, by
        have : abs x = abs y := by omega
        rw [sx, sy, Int.natCast_add, this]⟩

theorem inB_nat {x y X Y : Nat} (h : Pt x y X Y) : inB x y = decide (mag X * mag X + mag Y * mag Y < one * one) := by
  unfold inB
  rw [h.sum, Bool.eq_iff_iff]
  simp only [decide_eq_true_eq]
  have : ((one : Int) * (one : Int)) = ((one * one : Nat) : Int) := (Int.natCast_mul _ _).symm
  rw [this]; omega

theorem mag_one : mag 4607182418800017408 = one := by decide +kernel
theorem mag_half : 2 * mag 4602678819172646912 = one := by decide +kernel

theorem in_one {x y Y : Nat} (h : Pt x y 4607182418800017408 Y) : inB x y = false := by
  rw [inB_nat h, mag_one]; exact decide_eq_false (by omega)
theorem in_low {x y X Y : Nat} (h : Pt x y X Y) (hX : X < 4602678819172646912) : inB x y = true := by
  rw [inB_nat h]
  refine decide_eq_true ?_
  have h1 : mag X < mag 4602678819172646912 := mag_lt hX
  have h2 : mag Y ≤ mag X := mag_le_iff.2 h.le
  have h3 := mag_half
  generalize mag 4602678819172646912 = m at *
  generalize mag X = a at *
  generalize mag Y = b at *
  have e : one * one = 4 * (m * m) := by rw [← h3]; rw [Nat.mul_mul_mul_comm]
  rw [e]
  have p1 : a * a ≤ m * m := Nat.mul_le_mul (by omega) (by omega)
  have p2 : b * b ≤ a * a := Nat.mul_le_mul h2 h2
  have p3 : 0 < m * m := Nat.mul_pos (by omega) (by omega)
  omega

/-- In the middle: what the program compares. -/
theorem in_mid {x y X Y : Nat} (h : Pt x y X Y) (h1 : ¬ X < 4602678819172646912) (h2 : X ≠ 4607182418800017408) :
    ∃ k : Nat, frE Y = -(k : Int) ∧ k ≤ 1073 ∧ decide (n53 (frF Y) * n53 (frF Y) / 2 ^ (2 * k) < 2 ^ 106 - n53 X * n53 X) = inB x y := by
  have ho := h.one
  have hl := h.le
  obtain ⟨k, e1, e2, e3⟩ := frexp_spec (b := Y) (by omega)
  refine ⟨k, e1, e2, ?_⟩
  rw [inB_nat h, n53_frF (by rw [top_eq]; omega), Bool.eq_iff_iff]
  simp only [decide_eq_true_eq]
  exact inside_core (by omega) (by omega) e3

theorem up53_ok {b : Nat} (h : b < 4607182418800017408) : W (frF b) ∧ (frF b = 0 ∨ 4602678819172646912 ≤ frF b ∧ frF b < 4607182418800017408) := by
  rcases frF_cases (b := b) (by rw [top_eq]; omega) with ⟨e, _⟩ | ⟨_, e1, e2, _⟩
  · rw [e]; exact ⟨W_zero, Or.inl rfl⟩
  · exact ⟨by unfold W; omega, Or.inr ⟨e1, e2⟩⟩
theorem n53_sq (b : Nat) : n53 b * n53 b ≤ 2 ^ 106 := by
  have := n53_lt b
  have : n53 b * n53 b ≤ 2 ^ 53 * 2 ^ 53 := Nat.mul_le_mul (by omega) (by omega)
  omega
theorem W_n53 (b : Nat) : W (n53 b) := by have := n53_lt b; unfold W; omega
end Go.Dy

/- Plain facts: sums and differences to the nearest number. -/
namespace Go.Dy
open Ieee

/-- The rank nearest to s units. -/
def nz (s : Int) : Int := if s < 0 then -((nr s.natAbs 0 : Nat) : Int) else ((nr s.natAbs 0 : Nat) : Int)

theorem le_nr0 {r n : Nat} (h : mag r ≤ n) : r ≤ nr n 0 := le_nr (by rw [Nat.pow_zero, Nat.mul_one]; exact h)
theorem nr0_le {r n : Nat} (h : n ≤ mag r) : nr n 0 ≤ r := nr_le (by rw [Nat.pow_zero, Nat.mul_one]; exact h)

theorem V_cases (z : Int) : (∃ r : Nat, z = (r : Int) ∧ V z = (mag r : Int)) ∨ (∃ r : Nat, 0 < r ∧ z = -(r : Int) ∧ V z = -(mag r : Int) ∧ 0 < mag r) := by
  by_cases h : 0 ≤ z
  · exact Or.inl ⟨z.toNat, by omega, V_toNat h⟩
  · refine Or.inr ⟨(-z).toNat, by omega, by omega, ?_, ?_⟩
    · have e : z = -((-z).toNat : Int) := by omega
      have := V_ofNat_neg (-z).toNat
      rw [← e] at this; exact this
    · have := @mag_lt 0 (-z).toNat (by omega)
      rw [mag_zero] at this; exact this

theorem le_nz {z s : Int} (h : V z ≤ s) : z ≤ nz s := by
  unfold nz
  rcases V_cases z with ⟨r, rfl, e⟩ | ⟨r, h0, rfl, e, hm⟩
  · rw [e] at h
    rw [if_neg (by omega)]
    have := @le_nr0 r s.natAbs (by omega)
    omega
  · rw [e] at h
    by_cases hs : s < 0
    · rw [if_pos hs]
      have := @nr0_le r s.natAbs (by omega)
      omega
    · rw [if_neg hs]; omega
theorem nz_le {z s : Int} (h : s ≤ V z) : nz s ≤ z := by
  unfold nz
  rcases V_cases z with ⟨r, rfl, e⟩ | ⟨r, h0, rfl, e, hm⟩
  · rw [e] at h
    by_cases hs : s < 0
    · rw [if_pos hs]; omega
    · rw [if_neg hs]
      have := @nr0_le r s.natAbs (by omega)
      omega
  · rw [e] at h
    rw [if_pos (by omega)]
    have := @le_nr0 r s.natAbs (by omega)
    omega

/-- The bits of a nearest rank: what is beyond all is infinite. -/
def nrst (z : Int) : Nat := if (top : Int) ≤ z then top else if z ≤ -(top : Int) then 2 ^ 63 + top else enc z
theorem nrst_ok {z : Int} (h : ok z) : nrst z = enc z := by
  unfold ok at h; unfold nrst; rw [if_neg (by omega), if_neg (by omega)]

theorem word_nrst (S : Int) : word (decide (S < 0)) (min (nr S.natAbs 0) top) = nrst (nz S) := by
  have tp := top_eq
  unfold nz nrst word enc
  by_cases h : S < 0
  · have h1 : 1 ≤ nr S.natAbs 0 := le_nr0 (by rw [mag_low (by omega)]; omega)
    rw [decide_eq_true h, if_pos rfl, if_pos h]
    rw [if_neg (by omega)]
    by_cases h2 : top ≤ nr S.natAbs 0
    · rw [Nat.min_eq_right h2, if_pos (by omega)]
    · rw [Nat.min_eq_left (by omega), if_neg (by omega), if_neg (by omega)]; omega
  · rw [decide_eq_false h, if_neg (by decide), if_neg h]
    by_cases h2 : top ≤ nr S.natAbs 0
    · rw [Nat.min_eq_right h2, if_pos (by omega)]
    · rw [Nat.min_eq_left (by omega), if_neg (by omega), if_neg (by omega), if_pos (by omega)]; omega

theorem sum_near {s t : Bool} {m n e f : Nat} {S : Int} (hS : S = (if s then -((m * 2 ^ e : Nat) : Int) else ((m * 2 ^ e : Nat) : Int)) + (if t then -((n * 2 ^ f : Nat) : Int) else ((n * 2 ^ f : Nat) : Int)))
    (h0 : S = 0 → (s && t) = false) :
    ((Datum.sum (.number s m (-1074 + (e : Int))) (.number t n (-1074 + (f : Int)))).map double.write) = some (nrst (nz S)) := by
  unfold Datum.sum
  dsimp only
  have k1 : (-1074 + (e : Int) - min (-1074 + (e : Int)) (-1074 + (f : Int))).toNat = e - min e f := by omega
  have k2 : (-1074 + (f : Int) - min (-1074 + (e : Int)) (-1074 + (f : Int))).toNat = f - min e f := by omega
  have k3 : min (-1074 + (e : Int)) (-1074 + (f : Int)) = -1074 + ((min e f : Nat) : Int) := by omega
  rw [k1, k2, k3]
  obtain ⟨g, hg⟩ : ∃ g, min e f = g := ⟨_, rfl⟩
  rw [hg]
  have p1 : 2 ^ e = 2 ^ (e - g) * 2 ^ g := by rw [← Nat.pow_add]; congr 1; omega
  have p2 : 2 ^ f = 2 ^ (f - g) * 2 ^ g := by rw [← Nat.pow_add]; congr 1; omega
  have hT : S = (signed s m (e - g) + signed t n (f - g)) * ((2 ^ g : Nat) : Int) := by
    rw [hS, signed_eq, signed_eq, p1, p2, ← Nat.mul_assoc, ← Nat.mul_assoc, Int.natCast_mul (m * 2 ^ (e - g)), Int.natCast_mul (n * 2 ^ (f - g))]
    generalize ((m * 2 ^ (e - g) : Nat) : Int) = a
    generalize ((n * 2 ^ (f - g) : Nat) : Int) = b
    generalize ((2 ^ g : Nat) : Int) = c
    cases s <;> cases t <;> simp [Int.add_mul, Int.neg_mul]
  have hg0 : 0 < 2 ^ g := Nat.two_pow_pos _
  generalize signed s m (e - g) + signed t n (f - g) = T at *
  have hTS : T = 0 ↔ S = 0 := by
    rw [hT, Int.mul_eq_zero]
    constructor
    · intro h; exact Or.inl h
    · intro h; rcases h with h | h
      · exact h
      · omega
  have hneg : T < 0 ↔ S < 0 := by
    rw [hT]
    constructor
    · intro h; exact Int.mul_neg_of_neg_of_pos h (by omega)
    · intro h
      by_cases h1 : T < 0
      · exact h1
      · have := Int.mul_nonneg (a := T) (b := ((2 ^ g : Nat) : Int)) (by omega) (by omega)
        omega
  have hsg : (if T = 0 then (s && t) else decide (T < 0)) = decide (S < 0) := by
    by_cases h : T = 0
    · rw [if_pos h, h0 (hTS.1 h)]; exact (decide_eq_false (by omega)).symm
    · rw [if_neg h, Bool.eq_iff_iff]; simp only [decide_eq_true_eq]; exact hneg
  simp only [Option.map, Format.write, hsg]
  rw [nearest_units (e := g) (j := 0) (n := S.natAbs) _ (by omega) (by rw [hT, Int.natAbs_mul, Int.natAbs_natCast]), word_nrst]

theorem sgn_dec {x : Nat} (hx : W x) (r : right x = true) : sgn x = true ↔ dec x < 0 := by
  unfold sgn; rw [decide_eq_true_eq]; exact (dec_neg hx r).symm

/-- x + y, the nearest one. -/
theorem add_near {x y : Nat} (hx : W x) (hy : W y) (rx : right x = true) (ry : right y = true) : double.add x y = some (nrst (nz (V (dec x) + V (dec y)))) := by
  obtain ⟨m, e, r1, m1⟩ := read_num hx.lt (right_fin rx)
  obtain ⟨n, f, r2, m2⟩ := read_num hy.lt (right_fin ry)
  unfold Format.add
  rw [r1, r2]
  refine sum_near ?_ ?_
  · rw [V_dec hx.lt, V_dec hy.lt, m1, m2]
  · intro h
    cases h1 : sgn x
    · rfl
    · cases h2 : sgn y
      · rfl
      · exfalso
        have a := V_lt ((sgn_dec hx rx).1 h1)
        have b := V_lt ((sgn_dec hy ry).1 h2)
        rw [V_zero] at a b; omega

/-- x - y, the nearest one. -/
theorem sub_near {x y : Nat} (hx : W x) (hy : W y) (rx : right x = true) (ry : right y = true) : double.sub x y = some (nrst (nz (V (dec x) - V (dec y)))) := by
  obtain ⟨m, e, r1, m1⟩ := read_num hx.lt (right_fin rx)
  obtain ⟨n, f, r2, m2⟩ := read_num hy.lt (right_fin ry)
  unfold Format.sub
  rw [r1, r2]
  have op : (Datum.number (sgn y) n (-1074 + (f : Int))).opposite = .number (!sgn y) n (-1074 + (f : Int)) := rfl
  rw [op]
  refine sum_near ?_ ?_
  · rw [V_dec hx.lt, V_dec hy.lt, m1, m2]
    cases sgn y <;> simp [Int.sub_eq_add_neg]
  · intro h
    cases h1 : sgn x
    · rfl
    · cases h2 : sgn y
      · exfalso
        have a := V_lt ((sgn_dec hx rx).1 h1)
        have b : ¬ dec y < 0 := by rw [← sgn_dec hy ry, h2]; decide
        have c := V_nonneg.2 (Int.not_lt.1 b)
        rw [V_zero] at a; omega
      · rfl

theorem mag_step {r : Nat} (h : r < 4607182418800017408) : mag (r + 1) ≤ mag r + big := by
  rw [mag_succ]
  obtain ⟨S, hS, eS⟩ : ∃ S, S = 1021 ∧ big = 2 ^ S := ⟨1021, rfl, big_eq⟩
  rw [eS]
  have : 2 ^ (r / 2 ^ 52 - 1) ≤ 2 ^ S := Nat.pow_le_pow_right (by omega) (by omega)
  omega

/-- From one number to the next one, within 1: no more than 2^-53. -/
theorem V_step {z : Int} (h1 : -I1 ≤ z) (h2 : z < I1) : V (z + 1) ≤ V z + big := by
  unfold I1 at h1 h2
  by_cases h : 0 ≤ z
  · obtain ⟨r, rfl⟩ := Int.eq_ofNat_of_zero_le h
    have e : ((r : Int) + 1) = ((r + 1 : Nat) : Int) := rfl
    rw [e, V_nat, V_nat]
    have := @mag_step r (by omega)
    omega
  · obtain ⟨r, hr⟩ : ∃ r : Nat, z = -((r + 1 : Nat) : Int) := ⟨(-z).toNat - 1, by omega⟩
    have e : z + 1 = -(r : Int) := by omega
    rw [e, hr, V_ofNat_neg, V_ofNat_neg]
    have := @mag_step r (by omega)
    omega
end Go.Dy

/- Plain facts: ray.Hit; the law RayUnit. -/
namespace Go.Dy

def o1 : Nat := 4607182418800017408
/-- ray.Hit's numbers: x^2 + y^2, up; 1 less that, down. -/
def far (x y : Nat) : Nat := (dAdd (dMul x x true).1 (dMul y y true).1 true).1
def lft (x y : Nat) : Nat := (dSub o1 (far x y) false).1
/-- Does a point hit? -/
def hits (x y : Nat) : Bool := (dIn x y).1 && !(flt (lft x y) 0 || feq (lft x y) 0)
def hX (x y : Nat) : Nat := if hits x y then (dSqrt (far x y) false).1 else 0
def hZ (x y : Nat) : Nat := if hits x y then (dSqrt (lft x y) false).1 else 0

theorem W_o1 : W o1 := W_one
theorem right_o1 : right o1 = true := right_one
theorem dec_o1 : dec o1 = I1 := dec_one
theorem V_o1 : V (dec o1) = (one : Int) := by rw [dec_o1, V_one]

theorem far_W (x y : Nat) : W (far x y) := dAdd_W _ _ _
theorem lft_W (x y : Nat) : W (lft x y) := dSub_W _ _ _
theorem hX_W (x y : Nat) : W (hX x y) := by unfold hX; split; exact dSqrt_W _ _; exact W_zero
theorem hZ_W (x y : Nat) : W (hZ x y) := by unfold hZ; split; exact dSqrt_W _ _; exact W_zero

/-- The square of a number within 1, up: a rank from 0 to 1. -/
theorem sq_up {x : Nat} (m : may x = true) : ∃ C : Int, 0 ≤ C ∧ C ≤ I1 ∧ dMul x x true = (enc C, 0) ∧ C = fl (V (dec x) * V (dec x)) one true := by
  obtain ⟨r, h⟩ := may_right m
  refine ⟨fl (V (dec x) * V (dec x)) one true, ?_, ?_, ?_, rfl⟩
  · refine fl_nonneg one_pos ?_
    rw [V_sq_abs]; exact Int.mul_nonneg (V_nonneg.2 (by omega)) (V_nonneg.2 (by omega))
  · rw [fl_up one_pos, V_one, V_sq_abs]
    have : V ((dec x).natAbs : Int) ≤ V I1 := V_le_iff.2 (by unfold I1; omega)
    rw [V_one] at this
    have h0 : 0 ≤ V ((dec x).natAbs : Int) := V_nonneg.2 (by omega)
    exact Int.mul_le_mul this this h0 (by have := one_pos'; omega)
  · rw [dMul_out r r]
    refine out_mid ?_
    have h1 : 0 ≤ fl (V (dec x) * V (dec x)) one true := fl_nonneg one_pos (by rw [V_sq_abs]; exact Int.mul_nonneg (V_nonneg.2 (by omega)) (V_nonneg.2 (by omega)))
    have h2 : fl (V (dec x) * V (dec x)) one true ≤ I1 := by
      rw [fl_up one_pos, V_one, V_sq_abs]
      have : V ((dec x).natAbs : Int) ≤ V I1 := V_le_iff.2 (by unfold I1; omega)
      rw [V_one] at this
      have h0 : 0 ≤ V ((dec x).natAbs : Int) := V_nonneg.2 (by omega)
      exact Int.mul_le_mul this this h0 (by have := one_pos'; omega)
    unfold ok I1 at *; rw [top_eq]; omega

theorem I2_eq : V (I1 + 2 ^ 52) = 2 * (one : Int) := by decide +kernel
theorem ok_of {z : Int} (h0 : -(I1 + 2 ^ 52) ≤ z) (h1 : z ≤ I1 + 2 ^ 52) : ok z := by unfold ok I1 at *; rw [top_eq]; omega

/-- All numbers of a point within the square, by ranks. -/
structure Pnt (x y : Nat) (C D F : Int) : Prop where
  c0 : 0 ≤ C
  c1 : C ≤ I1
  d0 : 0 ≤ D
  d1 : D ≤ I1
  f0 : 0 ≤ F
  f1 : F ≤ I1 + 2 ^ 52
  ec : dMul x x true = (enc C, 0)
  ed : dMul y y true = (enc D, 0)
  ef : far x y = enc F
  fc : C = fl (V (dec x) * V (dec x)) one true
  fd : D = fl (V (dec y) * V (dec y)) one true
  ff : F = fl (V C + V D) 1 true
  el : lft x y = enc (fl ((one : Int) - V F) 1 false)
  okl : ok (fl ((one : Int) - V F) 1 false)

theorem pnt_of {x y : Nat} (mx : may x = true) (my : may y = true) : ∃ C D F : Int, Pnt x y C D F := by
  obtain ⟨C, c0, c1, ec, fc⟩ := sq_up mx
  obtain ⟨D, d0, d1, ed, fd⟩ := sq_up my
  have oC : ok C := ok_of (by unfold I1; omega) (by omega)
  have oD : ok D := ok_of (by unfold I1; omega) (by omega)
  have vC := V_le_iff.2 c1
  have vD := V_le_iff.2 d1
  have vC0 := V_nonneg.2 c0
  have vD0 := V_nonneg.2 d0
  rw [V_one] at vC vD
  have f0 : 0 ≤ fl (V C + V D) 1 true := fl_nonneg (by omega) (by omega)
  have f1 : fl (V C + V D) 1 true ≤ I1 + 2 ^ 52 := by
    rw [fl_up (by omega), I2_eq]; omega
  have ef : far x y = enc (fl (V C + V D) 1 true) := by
    unfold far; rw [ec, ed]; dsimp only
    rw [dAdd_enc oC oD, out_mid (ok_of (by unfold I1; omega) f1)]
  generalize hF : fl (V C + V D) 1 true = F at *
  have oF : ok F := ok_of (by unfold I1; omega) f1
  have vF := V_le_iff.2 f1
  rw [I2_eq] at vF
  have vF0 := V_nonneg.2 f0
  have okl : ok (fl ((one : Int) - V F) 1 false) := by
    refine ok_of ?_ ?_
    · rw [fl_down (by omega), V_neg, I2_eq]; omega
    · have : fl ((one : Int) - V F) 1 false ≤ I1 := by
        refine Int.le_trans (fl_le_up (by omega)) ?_
        rw [fl_up (by omega), V_one]; omega
      omega
  refine ⟨C, D, F, c0, c1, d0, d1, f0, f1, ec, ed, ef, fc, fd, hF.symm, ?_, okl⟩
  unfold lft
  rw [ef]
  have e1 : o1 = enc I1 := by decide
  rw [e1, dSub_enc ok_I1 oF, V_one, out_mid okl]

/-- A point that hits: both roots. -/
structure Hit (x y : Nat) (F L X Z : Int) : Prop where
  f0 : 0 ≤ F
  f1 : F < I1
  l0 : 0 < L
  l1 : L ≤ I1
  eL : L = fl ((one : Int) - V F) 1 false
  ef : far x y = enc F
  el : lft x y = enc L
  eX : hX x y = enc X
  eZ : hZ x y = enc Z
  x0 : X = sqz F false
  z0 : Z = sqz L false
  sx : dSqrt (far x y) false = (enc X, 0)
  sz : dSqrt (lft x y) false = (enc Z, 0)

theorem hits_may {x y : Nat} (h : hits x y = true) : may x = true ∧ may y = true ∧ inB x y = true ∧ (flt (lft x y) 0 || feq (lft x y) 0) = false := by
  unfold hits at h
  rw [Bool.and_eq_true] at h
  obtain ⟨h1, h2⟩ := h
  unfold dIn at h1
  by_cases hm : (may x && may y) = true
  · rw [if_pos hm] at h1
    rw [Bool.and_eq_true] at hm
    exact ⟨hm.1, hm.2, h1, by simpa using h2⟩
  · rw [if_neg hm] at h1; cases h1

theorem lft_pos {x y : Nat} {L : Int} (oL : ok L) (e : lft x y = enc L) : (flt (lft x y) 0 || feq (lft x y) 0) = decide (L ≤ 0) := by
  rw [e, fle_dec (W_enc oL) W_zero (right_enc oL) right_zero, dec_enc oL, dec_zero]

theorem hit_of {x y : Nat} {C D F : Int} (P : Pnt x y C D F) (h : hits x y = true) : ∃ L X Z : Int, Hit x y F L X Z := by
  obtain ⟨mx, my, hin, hl⟩ := hits_may h
  have f1 := P.f1
  have f0 := P.f0
  have oF : ok F := ok_of (by unfold I1; omega) f1
  have okl := P.okl
  have el := P.el
  have l0 : 0 < fl ((one : Int) - V F) 1 false := by
    rw [lft_pos okl el, decide_eq_false_iff_not] at hl; omega
  have l1 : fl ((one : Int) - V F) 1 false ≤ I1 := by
    refine Int.le_trans (fl_le_up (by omega)) ?_
    rw [fl_up (by omega), V_one]
    have := V_nonneg.2 f0; omega
  have f2 : F < I1 := by
    have : (1 : Int) ≤ fl ((one : Int) - V F) 1 false := l0
    rw [fl_down (by omega)] at this
    have v1 : V 1 = 1 := by decide
    rw [v1] at this
    by_cases h : F < I1
    · exact h
    · have := V_le_iff.2 (Int.not_lt.1 h)
      rw [V_one] at this; omega
  have sx := dSqrt_enc (up := false) oF f0
  have sz := dSqrt_enc (up := false) okl (by omega)
  rw [← P.ef] at sx
  rw [← el] at sz
  refine ⟨_, _, _, f0, f2, l0, l1, rfl, P.ef, el, ?_, ?_, rfl, rfl, sx, sz⟩
  · unfold hX; rw [h, if_pos rfl, sx]
  · unfold hZ; rw [h, if_pos rfl, sz]

/-- A root's square, up: it is not above the number, and not below by more than 2^-52. -/
theorem root_square {F X A : Int} (f0 : 0 ≤ F) (f1 : F ≤ I1) (hX : X = sqz F false) (hA : A = fl (V X * V X) one true) :
    0 ≤ X ∧ X ≤ I1 ∧ 0 ≤ A ∧ A ≤ F ∧ V F ≤ V A + 2 * (big : Int) ∧ (0 < F → 0 < X) := by
  have x0 : 0 ≤ X := by rw [hX]; exact sqz_nonneg _ _
  have hsq : V X * V X ≤ V F * one := (sqz_down f0 x0).1 (by omega)
  have vF := V_le_iff.2 f1
  have vF0 := V_nonneg.2 f0
  rw [V_one] at vF
  have hp := one_pos'
  have x1 : X ≤ I1 := by
    rw [hX]
    have h1 : sqz F false ≤ sqz F true := sqz_le_up F
    have h2 : sqz F true ≤ I1 := by
      rw [sqz_up f0 (by unfold I1; omega), V_one]
      exact Int.mul_le_mul_of_nonneg_right vF (by omega)
    omega
  have a0 : 0 ≤ A := by
    rw [hA]; exact fl_nonneg one_pos (Int.mul_nonneg (V_nonneg.2 x0) (V_nonneg.2 x0))
  have aF : A ≤ F := by rw [hA]; exact (fl_up one_pos).2 hsq
  have vX0 := V_nonneg.2 x0
  have vX := V_le_iff.2 x1
  rw [V_one] at vX
  have hb : 0 < (big : Int) := by decide +kernel
  have key : V F ≤ V A + 2 * (big : Int) := by
    have hAV : V X * V X ≤ V A * one := (fl_up (z := A) one_pos).1 (by omega)
    by_cases hx : X = I1
    · -- then F is one, and so is A
      rw [hx, V_one] at hAV
      have := Int.le_of_mul_le_mul_right hAV hp
      omega
    · have hs := V_step (z := X) (by unfold I1; omega) (by omega)
      have hlt : ¬ (V (X + 1) * V (X + 1) ≤ V F * one) := by
        rw [← sqz_down f0 (by omega), ← hX]; omega
      have vX1 : V (X + 1) ≤ one := by
        have := V_le_iff.2 (show X + 1 ≤ I1 by omega)
        rw [V_one] at this; exact this
      have vlt := V_lt (show X < X + 1 by omega)
      generalize V (X + 1) = p at *
      generalize V X = q at *
      have e : p * p = q * q + (p - q) * (p + q) := by
        rw [Int.sub_mul, Int.mul_add, Int.mul_add, Int.mul_comm q p]; omega
      have e2 : (p - q) * (p + q) ≤ big * (2 * one) := Int.mul_le_mul (by omega) (by omega) (by omega) (by omega)
      have e3 : V F * one < (V A + 2 * (big : Int)) * one := by
        rw [Int.add_mul]
        have : (big : Int) * (2 * (one : Int)) = 2 * (big : Int) * one := by rw [← Int.mul_assoc, Int.mul_comm (big : Int) 2]
        omega
      exact Int.le_of_lt (Int.lt_of_mul_lt_mul_right e3 (by omega))
  refine ⟨x0, x1, a0, aF, key, ?_⟩
  intro hF
  have v1 : V 1 = 1 := by decide
  have : (1 : Int) ≤ X := by
    rw [hX, sqz_down f0 (by omega), v1]
    have h2 : (1 : Int) ≤ V F := by
      have := V_le_iff.2 (show (1 : Int) ≤ F by omega)
      rw [v1] at this; exact this
    have h3 : 1 * 1 ≤ V F * one := Int.mul_le_mul h2 (by omega) (by omega) (by omega)
    exact h3
  omega

/-- The rank of 2^-50. -/
def E50 : Int := 4382002437431492608
theorem V_E50 : V E50 = 8 * (big : Int) := by decide +kernel
theorem V_I8 : V (I1 - 8) = (one : Int) - 8 * (big : Int) := by decide +kernel
theorem one_big : (one : Int) = 9007199254740992 * (big : Int) := by decide +kernel
theorem big_pos : 0 < (big : Int) := by decide +kernel

theorem near_small {s : Int} (h1 : -(8 * (big : Int)) ≤ s) (h2 : s ≤ 8 * (big : Int)) : -E50 ≤ nz s ∧ nz s ≤ E50 := by
  refine ⟨le_nz ?_, nz_le ?_⟩
  · rw [V_neg, V_E50]; exact h1
  · rw [V_E50]; exact h2

/-- Within 1, what is nearest is no further than 2^-53. -/
theorem near_err {s : Int} (h1 : -(one : Int) ≤ s) (h2 : s ≤ one) : V (nz s) ≤ s + big ∧ s ≤ V (nz s) + big ∧ -I1 ≤ nz s ∧ nz s ≤ I1 := by
  have a1 : -I1 ≤ nz s := le_nz (by rw [V_neg, V_one]; exact h1)
  have a2 : nz s ≤ I1 := nz_le (by rw [V_one]; exact h2)
  have bp := big_pos
  refine ⟨?_, ?_, a1, a2⟩
  · by_cases hc : V (nz s) ≤ s
    · omega
    · have h3 : ¬ nz s ≤ nz s - 1 := by omega
      have h4 : ¬ s ≤ V (nz s - 1) := fun h => h3 (nz_le h)
      have h5 : -I1 ≤ nz s - 1 := by
        by_cases e : nz s = -I1
        · rw [e, V_neg, V_one] at hc; omega
        · omega
      have := V_step h5 (by omega)
      have e6 : nz s - 1 + 1 = nz s := by omega
      rw [e6] at this; omega
  · by_cases hc : s ≤ V (nz s)
    · omega
    · have h3 : ¬ nz s + 1 ≤ nz s := by omega
      have h4 : ¬ V (nz s + 1) ≤ s := fun h => h3 (le_nz h)
      have h5 : nz s < I1 := by
        by_cases e : nz s = I1
        · rw [e, V_one] at hc; omega
        · omega
      have := V_step a1 h5
      omega

/-- RayUnit's two sums: both squares are 1, and the first one x^2 and y^2, but for 2^-50. -/
theorem unit_sums {x y : Nat} {C D F L X Z A B : Int} (P : Pnt x y C D F) (H : Hit x y F L X Z) (hA : A = fl (V X * V X) one true) (hB : B = fl (V Z * V Z) one true) :
    (I1 - 8 ≤ nz (V A + V B) ∧ nz (V A + V B) ≤ I1 ∧ -E50 ≤ nz (V (nz (V A + V B)) - one) ∧ nz (V (nz (V A + V B)) - one) ≤ E50) ∧
    (-I1 ≤ nz (V A - V C) ∧ nz (V A - V C) ≤ I1 ∧ -E50 ≤ nz (V (nz (V A - V C)) - V D) ∧ nz (V (nz (V A - V C)) - V D) ≤ E50) := by
  have bp := big_pos
  have ob := one_big
  obtain ⟨x0, x1, a0, aF, ka, _⟩ := root_square H.f0 (Int.le_of_lt H.f1) H.x0 hA
  obtain ⟨z0, z1, b0, bL, kb, _⟩ := root_square (Int.le_of_lt H.l0) H.l1 H.z0 hB
  have vA := V_le_iff.2 aF
  have vB := V_le_iff.2 bL
  have vA0 := V_nonneg.2 a0
  have vB0 := V_nonneg.2 b0
  have f0 := H.f0
  have f1 := H.f1
  have hL1 : V L ≤ one - V F := by
    have := (@fl_down L ((one : Int) - V F) 1 (by omega)).1 (by rw [H.eL]; exact Int.le_refl _)
    omega
  have hL2 : (one : Int) - V F ≤ V L + big := by
    by_cases e : L = I1
    · have := V_nonneg.2 f0
      rw [e, V_one]; omega
    · have hs := V_step (z := L) (by have := H.l0; unfold I1; omega) (by have := H.l1; omega)
      have : ¬ (V (L + 1) * (1 : Nat) ≤ (one : Int) - V F) := by
        rw [← fl_down (by omega), ← H.eL]; omega
      omega
  have hF : V F ≤ V C + V D + big ∧ V C + V D ≤ V F := by
    have h1 : V C + V D ≤ V F * (1 : Nat) := (fl_up (z := F) (by omega)).1 (by rw [← P.ff]; exact Int.le_refl _)
    refine ⟨?_, by omega⟩
    by_cases e : F = 0
    · have := V_nonneg.2 P.c0; have := V_nonneg.2 P.d0
      rw [e, V_zero]; omega
    · have hs := V_step (z := F - 1) (by unfold I1; omega) (by omega)
      have e6 : F - 1 + 1 = F := by omega
      rw [e6] at hs
      have : ¬ (V C + V D ≤ V (F - 1) * (1 : Nat)) := by
        rw [← fl_up (by omega), ← P.ff]; omega
      omega
  obtain ⟨hF1, hF2⟩ := hF
  have vC0 := V_nonneg.2 P.c0
  have vD0 := V_nonneg.2 P.d0
  have vF := V_le_iff.2 (Int.le_of_lt f1)
  rw [V_one] at vF
  have s1 : I1 - 8 ≤ nz (V A + V B) := le_nz (by rw [V_I8]; omega)
  have s2 : nz (V A + V B) ≤ I1 := nz_le (by rw [V_one]; omega)
  have v1 := V_le_iff.2 s1
  have v2 := V_le_iff.2 s2
  rw [V_I8] at v1
  rw [V_one] at v2
  obtain ⟨t1, t2, t3, t4⟩ := near_err (s := V A - V C) (by omega) (by omega)
  exact ⟨⟨s1, s2, near_small (by omega) (by omega)⟩, t3, t4, near_small (by omega) (by omega)⟩
end Go.Dy

/- Plain facts: the law RayUnit, as the program tests it. -/
namespace Go.Dy

theorem o1_enc : o1 = enc I1 := by decide
theorem m1_enc : (13830554455654793216 : Nat) = enc (-I1) := by decide
theorem ok_m1 : ok (-I1) := by unfold ok I1; rw [top_eq]; omega
theorem e50_enc : (4382002437431492608 : Nat) = enc E50 := by decide
theorem ok_e50 : ok E50 := by unfold ok E50; rw [top_eq]; omega

theorem may_high {x : Nat} (hx : W x) (r : right x = true) : (flt x 4607182418800017408 || feq x 4607182418800017408) = decide (dec x ≤ I1) := by
  rw [fle_dec hx W_one r right_one, dec_one]; rfl
theorem may_low {x : Nat} (hx : W x) (r : right x = true) : (fgt x 13830554455654793216 || feq x 13830554455654793216) = decide (-I1 ≤ dec x) := by
  rw [m1_enc, fge_dec hx (W_enc ok_m1) r (right_enc ok_m1), dec_enc ok_m1]
theorem may_both {x : Nat} (r : right x = true) : may x = (decide (-I1 ≤ dec x) && decide (dec x ≤ I1)) := by
  unfold may I1
  rw [r, Bool.true_and, Bool.eq_iff_iff]
  simp only [Bool.and_eq_true, decide_eq_true_eq]; omega

theorem add_enc {y z : Int} (hy : ok y) (hz : ok z) (h : ok (nz (V y + V z))) : Ieee.double.add (enc y) (enc z) = some (enc (nz (V y + V z))) := by
  rw [add_near (W_enc hy) (W_enc hz) (right_enc hy) (right_enc hz), dec_enc hy, dec_enc hz, nrst_ok h]
theorem sub_enc {y z : Int} (hy : ok y) (hz : ok z) (h : ok (nz (V y - V z))) : Ieee.double.sub (enc y) (enc z) = some (enc (nz (V y - V z))) := by
  rw [sub_near (W_enc hy) (W_enc hz) (right_enc hy) (right_enc hz), dec_enc hy, dec_enc hz, nrst_ok h]

theorem abs_le {z e : Int} (hz : ok z) (he : ok e) (h1 : -e ≤ z) (h2 : z ≤ e) : (flt (abs (enc z)) (enc e) || feq (abs (enc z)) (enc e)) = true := by
  rw [fle_dec (W_abs _) (W_enc he) (right_abs (right_enc hz)) (right_enc he), dec_abs (W_enc hz) (right_enc hz), dec_enc hz, dec_enc he]
  exact decide_eq_true (by omega)

/-- RayUnit, of a point that hits. -/
structure Unit25 (x y X Z a b c d s1 s2 s3 s4 : Nat) : Prop where
  eX : hX x y = X
  eZ : hZ x y = Z
  wX : W X
  wZ : W Z
  x0 : (fgt X 0 || feq X 0) = true
  x1 : (flt X 4607182418800017408 || feq X 4607182418800017408) = true
  z0 : fgt Z 0 = true
  z1 : (flt Z 4607182418800017408 || feq Z 4607182418800017408) = true
  ma : dMul X X true = (a, 0)
  mb : dMul Z Z true = (b, 0)
  mc : dMul x x true = (c, 0)
  md : dMul y y true = (d, 0)
  p1 : Ieee.double.add a b = some s1
  p2 : Ieee.double.sub s1 4607182418800017408 = some s2
  p3 : Ieee.double.sub a c = some s3
  p4 : Ieee.double.sub s3 d = some s4
  w2 : W s2
  w4 : W s4
  t2 : (flt (abs s2) 4382002437431492608 || feq (abs s2) 4382002437431492608) = true
  t4 : (flt (abs s4) 4382002437431492608 || feq (abs s4) 4382002437431492608) = true

theorem unit_of {x y : Nat} (h : hits x y = true) : ∃ X Z a b c d s1 s2 s3 s4 : Nat, Unit25 x y X Z a b c d s1 s2 s3 s4 := by
  obtain ⟨mx, my, _, _⟩ := hits_may h
  obtain ⟨C, D, F, P⟩ := pnt_of mx my
  obtain ⟨L, X, Z, H⟩ := hit_of P h
  obtain ⟨⟨q1, q2, q3, q4⟩, q5, q6, q7, q8⟩ := unit_sums P H rfl rfl
  obtain ⟨x0, x1, a0, aF, _, _⟩ := root_square H.f0 (Int.le_of_lt H.f1) H.x0 rfl
  obtain ⟨z0, z1, b0, bL, _, zp⟩ := root_square (Int.le_of_lt H.l0) H.l1 H.z0 rfl
  have zp := zp H.l0
  have f1 := H.f1
  have l1 := H.l1
  have small : ∀ {z : Int}, -I1 ≤ z → z ≤ I1 → ok z := fun {z} h1 h2 => ok_of (by unfold I1 at *; omega) (by omega)
  have i0 : (0 : Int) < I1 := by unfold I1; omega
  have oX : ok X := small (by omega) x1
  have oZ : ok Z := small (by omega) z1
  have oA := small (z := fl (V X * V X) one true) (by omega) (by omega)
  have oB := small (z := fl (V Z * V Z) one true) (by omega) (by omega)
  have oC : ok C := small (by have := P.c0; omega) P.c1
  have oD : ok D := small (by have := P.d0; omega) P.d1
  have E1 : E50 ≤ I1 := by unfold E50 I1; omega
  have e8 : (8 : Int) ≤ I1 := by unfold I1; omega
  have oS1 := small (z := nz (V (fl (V X * V X) one true) + V (fl (V Z * V Z) one true))) (by omega) q2
  have oS2 := small (by omega : -I1 ≤ nz (V (nz (V (fl (V X * V X) one true) + V (fl (V Z * V Z) one true))) - one)) (by omega)
  have oS3 := small q5 q6
  have oS4 := small (by omega : -I1 ≤ nz (V (nz (V (fl (V X * V X) one true) - V C)) - V D)) (by omega)
  have hz : (0 : Nat) = enc 0 := by decide
  have ok0 : ok 0 := small (by omega) (by omega)
  refine ⟨enc X, enc Z, _, _, _, _, _, _, _, _, H.eX, H.eZ, W_enc oX, W_enc oZ, ?_, ?_, ?_, ?_, ?_, ?_, P.ec, P.ed, add_enc oA oB oS1, ?_, sub_enc oA oC oS3, sub_enc oS3 oD oS4, W_enc oS2, W_enc oS4, ?_, ?_⟩
  · rw [hz, fge_enc oX ok0]; exact decide_eq_true x0
  · rw [show (4607182418800017408 : Nat) = enc I1 from o1_enc, fle_enc oX ok_I1]; exact decide_eq_true x1
  · rw [hz, fgt_enc oZ ok0]; exact decide_eq_true zp
  · rw [show (4607182418800017408 : Nat) = enc I1 from o1_enc, fle_enc oZ ok_I1]; exact decide_eq_true z1
  · rw [dMul_enc oX oX, out_mid oA]
  · rw [dMul_enc oZ oZ, out_mid oB]
  · rw [show (4607182418800017408 : Nat) = enc I1 from o1_enc]
    have := sub_enc oS1 ok_I1 (by rw [V_one]; exact oS2)
    rw [V_one] at this; exact this
  · rw [e50_enc]; exact abs_le oS2 ok_e50 q3 q4
  · rw [e50_enc]; exact abs_le oS4 ok_e50 q7 q8

theorem dIn_may {x y : Nat} (mx : may x = true) (my : may y = true) : dIn x y = (inB x y, 0) := by unfold dIn; rw [mx, my]; rfl
theorem dIn_wrong {x y : Nat} (h : may x = false ∨ may x = true ∧ may y = false) : dIn x y = (false, 2) := by
  unfold dIn
  rcases h with h | ⟨h, h'⟩
  · rw [h]; rfl
  · rw [h, h']; rfl
theorem hits_wrong {x y : Nat} (h : (dIn x y).1 = false) : hits x y = false := by unfold hits; rw [h]; rfl
theorem hX_no {x y : Nat} (h : hits x y = false) : hX x y = 0 := by unfold hX; rw [h]; rfl
theorem hZ_no {x y : Nat} (h : hits x y = false) : hZ x y = 0 := by unfold hZ; rw [h]; rfl
end Go.Dy

