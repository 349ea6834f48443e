/- Plain facts: the law DirNext. -/
import Derived.Test.YtfjomcbbgnaaiaaDyR
namespace Go.Dy

theorem wrong_next {x : Nat} {up : Bool} (h : right x = false) : dNext x up = (0, 13) := dNext_wrong h
theorem wrong_add {x y : Nat} {up : Bool} (h : right x = false) : dAdd x y up = (0, 13) := by unfold dAdd; rw [h]; rfl
theorem wrong_sqrt {x : Nat} {up : Bool} (h : right x = false) : dSqrt x up = (0, 13) := by unfold dSqrt; rw [h]; rfl
theorem wrong_div {x y : Nat} {up : Bool} (h : right x = false) : dDiv y x up = (0, 13) := by
  unfold dDiv; rw [h, Bool.and_false]; rfl

theorem enc_of_dec {x : Nat} (hx : W x) (r : right x = true) : enc (dec x) = x := (enc_dec hx.lt r).1

theorem dNext_up {x : Nat} (r : right x = true) : dNext x true = out (dec x + 1) true := by
  unfold dNext; rw [r, if_pos rfl, if_pos rfl]
theorem dNext_down {x : Nat} (r : right x = true) : dNext x false = out (dec x - 1) false := by
  unfold dNext; rw [r, if_pos rfl, if_neg (by decide)]

theorem feq_max {x : Nat} (hx : W x) (r : right x = true) (h : dec x = (top : Int) - 1) : feq x 9218868437227405311 = true := by
  have e : x = 9218868437227405311 := by
    rw [← enc_of_dec hx r, h, top_eq]; decide
  rw [e]; decide +kernel

theorem half1 : dDiv 1 4611686018427387904 false = (0, 0) ∧ dDiv 1 4611686018427387904 true = (1, 0) := by decide +kernel

/-- There is no next one up: it is the greatest. -/
theorem next_no {x : Nat} (hx : W x) (r : right x = true) (h : (dNext x true).2 ≠ 0) : feq x 9218868437227405311 = true := by
  rw [dNext_up r] at h
  have hz := ok_dec hx r
  refine feq_max hx r ?_
  unfold ok at hz
  unfold out at h
  by_cases h1 : (top : Int) ≤ dec x + 1
  · omega
  · rw [if_neg h1, if_neg (by omega)] at h; exact absurd rfl h

theorem next_yes {x : Nat} (hx : W x) (r : right x = true) (h : (dNext x true).2 = 0) :
    ∃ n, dNext x true = (n, 0) ∧ W n ∧ right n = true ∧ dNext n false = (x, 0) ∧ (flt n x || feq n x) = false ∧
      (∃ a, dAdd x 1 false = (a, 0) ∧ flt a x = false ∧ W a) ∧ (∃ b, dAdd x 1 true = (b, 0) ∧ fgt b n = false ∧ W b) := by
  have hz := ok_dec hx r
  rw [dNext_up r] at h ⊢
  have h1 : ¬ ((top : Int) ≤ dec x + 1) := by
    intro h1
    rw [out_top h1, if_pos rfl] at h
    exact absurd h (by decide)
  have oy : ok (dec x + 1) := by unfold ok at hz ⊢; omega
  have hxe := enc_of_dec hx r
  refine ⟨enc (dec x + 1), out_mid oy, W_enc oy, right_enc oy, ?_, ?_, ?_, ?_⟩
  · rw [dNext_down (right_enc oy), dec_enc oy]
    have e : dec x + 1 - 1 = dec x := by omega
    rw [e, out_mid hz, hxe]
  · rw [flt_dec (W_enc oy) hx (right_enc oy) r, feq_dec (W_enc oy) hx (right_enc oy) r, dec_enc oy, Bool.or_eq_false_iff]
    exact ⟨decide_eq_false (by omega), decide_eq_false (by omega)⟩
  · have r1 : right 1 = true := by decide
    have v1 : V (dec 1) = 1 := by decide
    rw [dAdd_out r r1, v1]
    have k1 := (@fl_down (dec x) (V (dec x) + 1) 1 (by omega)).2 (by omega)
    have k2 : fl (V (dec x) + 1) 1 false ≤ dec x + 1 := by
      refine Int.le_trans (fl_le_up (by omega)) ((fl_up (by omega)).2 ?_)
      have := @V_lt (dec x) (dec x + 1) (by omega)
      omega
    have ok1 : ok (fl (V (dec x) + 1) 1 false) := by unfold ok at hz oy ⊢; omega
    refine ⟨_, out_mid ok1, ?_, W_enc ok1⟩
    rw [flt_dec (W_enc ok1) hx (right_enc ok1) r, dec_enc ok1]; exact decide_eq_false (by omega)
  · have r1 : right 1 = true := by decide
    have v1 : V (dec 1) = 1 := by decide
    rw [dAdd_out r r1, v1]
    have k2 : fl (V (dec x) + 1) 1 true ≤ dec x + 1 := by
      refine (fl_up (by omega)).2 ?_
      have := @V_lt (dec x) (dec x + 1) (by omega)
      omega
    have k1 : dec x ≤ fl (V (dec x) + 1) 1 true := by
      refine Int.le_trans ((@fl_down (dec x) (V (dec x) + 1) 1 (by omega)).2 (by omega)) (fl_le_up (by omega))
    have ok1 : ok (fl (V (dec x) + 1) 1 true) := by unfold ok at hz oy ⊢; omega
    refine ⟨_, out_mid ok1, ?_, W_enc ok1⟩
    rw [fgt_dec (W_enc ok1) (W_enc oy) (right_enc ok1) (right_enc oy), dec_enc ok1, dec_enc oy]; exact decide_eq_false (by omega)
end Go.Dy
