/- Plain facts: roots as ranks; the law DirGrows. -/
import Derived.Test.YtfjomcbbgnaaiaaDyT
namespace Go.Dy

/-- The rank of one. -/
def I1 : Int := 4607182418800017408
theorem V_one : V I1 = (one : Int) := by decide +kernel
theorem I1_eq : I1 = 4607182418800017408 := rfl

/-- A root's rank, of a rank from 0 on. -/
def sqz (z : Int) (up : Bool) : Int := sqR (mag z.toNat) up

theorem sqR_down {N : Nat} (r : Nat) : (r : Int) ≤ sqR N false ↔ mag r * mag r ≤ N * one := by
  unfold sqR rnk
  have e : (false == false) = true := rfl
  simp only [e, if_true, Bool.false_eq_true, if_false]
  rw [Int.ofNat_le, le_rdn, le_isq]
theorem sqR_up {N : Nat} (r : Nat) : sqR N true ≤ (r : Int) ↔ N * one ≤ mag r * mag r := by
  unfold sqR rnk
  have e : (true == false) = false := rfl
  simp only [e, Bool.false_eq_true, if_false]
  rw [Int.ofNat_le, rup_le]
  have h1 := (isq_spec (N * one)).1
  have h2 := @le_isq (mag r) (N * one)
  by_cases hs : isq (N * one) * isq (N * one) = N * one
  · rw [if_neg (by simp [hs])]
    rw [← sq_le, hs]
  · rw [if_pos (by simpa using hs)]
    constructor
    · intro h
      have : ¬ (mag r ≤ isq (N * one)) := by omega
      rw [h2] at this; omega
    · intro h
      by_cases h3 : mag r ≤ isq (N * one)
      · exfalso
        have h4 := h2.1 h3
        have h5 : mag r * mag r = N * one := by omega
        have h6 : isq (N * one) = mag r := isq_unique (by omega) (by
          have : mag r * mag r < (mag r + 1) * (mag r + 1) := sq_lt.2 (by omega)
          omega)
        rw [h6] at hs; exact hs h5
      · omega

theorem V_toNat {z : Int} (h : 0 ≤ z) : V z = (mag z.toNat : Int) := by
  have e : z = (z.toNat : Int) := by omega
  have := V_nat z.toNat
  rw [← e] at this; exact this

theorem sqz_down {y z : Int} (hz : 0 ≤ z) (hy : 0 ≤ y) : y ≤ sqz z false ↔ V y * V y ≤ V z * one := by
  have e : y = (y.toNat : Int) := by omega
  have h := sqR_down (N := mag z.toNat) y.toNat
  rw [← e] at h
  unfold sqz
  rw [h, V_toNat hz, V_toNat hy]
  constructor
  · intro h; exact_mod_cast h
  · intro h; exact_mod_cast h
theorem sqz_up {y z : Int} (hz : 0 ≤ z) (hy : 0 ≤ y) : sqz z true ≤ y ↔ V z * one ≤ V y * V y := by
  have e : y = (y.toNat : Int) := by omega
  have h := sqR_up (N := mag z.toNat) y.toNat
  rw [← e] at h
  unfold sqz
  rw [h, V_toNat hz, V_toNat hy]
  constructor
  · intro h; exact_mod_cast h
  · intro h; exact_mod_cast h

theorem sqz_nonneg (z : Int) (up : Bool) : 0 ≤ sqz z up := by
  unfold sqz sqR rnk
  simp only [Bool.false_eq_true, if_false]
  omega
theorem sqz_le_up (z : Int) : sqz z false ≤ sqz z true := by
  unfold sqz sqR rnk
  have e1 : (true == false) = false := rfl
  have e2 : (false == false) = true := rfl
  simp only [e1, e2, if_true, Bool.false_eq_true, if_false]
  unfold rup; split <;> omega
theorem sqz_up_le (z : Int) : sqz z true ≤ sqz z false + 1 := by
  unfold sqz sqR rnk
  have e1 : (true == false) = false := rfl
  have e2 : (false == false) = true := rfl
  simp only [e1, e2, if_true, Bool.false_eq_true, if_false]
  unfold rup; split <;> omega

theorem ok_I1 : ok I1 := by unfold ok I1; rw [top_eq]; omega

theorem sqz_ok {z : Int} {up : Bool} (h0 : 0 ≤ z) (h : ok z) : ok (sqz z up) := by
  have h1 := sqz_nonneg z up
  have h2 : sqz z up ≤ sqz z true := by
    cases up
    · exact sqz_le_up z
    · exact Int.le_refl _
  have hp := one_pos'
  have h3 : sqz z true ≤ z ∨ sqz z true ≤ I1 := by
    by_cases hz : I1 ≤ z
    · refine Or.inl ((sqz_up h0 h0).2 ?_)
      have a := V_le_iff.2 hz
      rw [V_one] at a
      exact Int.mul_le_mul_of_nonneg_left a (V_nonneg.2 h0)
    · refine Or.inr ((sqz_up h0 (by unfold I1; omega)).2 ?_)
      have a := V_le_iff.2 (Int.le_of_lt (Int.not_le.1 hz))
      rw [V_one] at a ⊢
      exact Int.mul_le_mul_of_nonneg_right a (by omega)
  have h4 := ok_I1
  unfold ok at h h4 ⊢
  omega

theorem sqz_mono {y z : Int} {up : Bool} (hy : 0 ≤ y) (h : y ≤ z) : sqz y up ≤ sqz z up := by
  have hz : 0 ≤ z := by omega
  have hv := V_le_iff.2 h
  have hp := one_pos'
  have hm : V y * one ≤ V z * one := Int.mul_le_mul_of_nonneg_right hv (by omega)
  cases up
  · exact (sqz_down hz (sqz_nonneg _ _)).2 (Int.le_trans ((sqz_down hy (sqz_nonneg _ _)).1 (Int.le_refl _)) hm)
  · exact (sqz_up hy (sqz_nonneg _ _)).2 (Int.le_trans hm ((sqz_up hz (sqz_nonneg _ _)).1 (Int.le_refl _)))

theorem enc_ge {z : Int} (h : ok z) : 2 ^ 63 ≤ enc z ↔ z < 0 := by
  unfold ok at h; rw [top_eq] at h
  unfold enc; split <;> omega
theorem enc_nonneg {z : Int} (h : 0 ≤ z) : enc z = z.toNat := by unfold enc; rw [if_pos h]

theorem sqz_zero (up : Bool) : sqz 0 up = 0 := by cases up <;> decide +kernel

theorem dSqrt_enc {z : Int} {up : Bool} (h : ok z) (h0 : 0 ≤ z) : dSqrt (enc z) up = (enc (sqz z up), 0) := by
  unfold dSqrt
  rw [right_enc h, if_neg (by decide), if_neg (by rw [enc_ge h]; omega)]
  by_cases hz : z = 0
  · subst hz; rw [if_pos (by decide), sqz_zero]; rfl
  · rw [if_neg (by rw [enc_eq_zero h]; exact hz), ← out_mid (up := up) (sqz_ok h0 h), enc_nonneg h0]; rfl
theorem dSqrt_neg {z : Int} {up : Bool} (h : ok z) (h0 : z < 0) : dSqrt (enc z) up = (0, 12) := by
  unfold dSqrt
  rw [right_enc h, if_neg (by decide), if_pos ((enc_ge h).2 h0)]

theorem fl_mono {num num' : Int} {den : Nat} {up : Bool} (hd : 0 < den) (h : num ≤ num') : fl num den up ≤ fl num' den up := by
  cases up
  · exact (fl_down hd).2 (Int.le_trans ((fl_down hd).1 (Int.le_refl _)) h)
  · exact (fl_up hd).2 (Int.le_trans h ((fl_up hd).1 (Int.le_refl _)))

/-- An answer without error is a number: the rank, kept within the greatest ones. -/
theorem out_ok {z : Int} {up : Bool} (h : (out z up).2 = 0) : ∃ y, ok y ∧ out z up = (enc y, 0) ∧ y = max (min z ((top : Int) - 1)) (1 - (top : Int)) := by
  have tp := top_eq
  unfold out at h ⊢
  by_cases h1 : (top : Int) ≤ z
  · rw [if_pos h1] at h ⊢
    cases up
    · exact ⟨(top : Int) - 1, ok_max, rfl, by omega⟩
    · rw [if_pos rfl] at h; exact absurd h (by decide)
  · rw [if_neg h1] at h ⊢
    by_cases h2 : z ≤ -(top : Int)
    · rw [if_pos h2] at h ⊢
      cases up
      · rw [if_neg (by decide)] at h; exact absurd h (by decide)
      · exact ⟨1 - (top : Int), by unfold ok; omega, rfl, by omega⟩
    · rw [if_neg h2]; exact ⟨z, by unfold ok; omega, rfl, by omega⟩

theorem out_mono {y z : Int} {up : Bool} (h : y ≤ z) (h1 : (out y up).2 = 0) (h2 : (out z up).2 = 0) : fgt (out y up).1 (out z up).1 = false := by
  obtain ⟨u, ou, e1, hu⟩ := out_ok h1
  obtain ⟨v, ov, e2, hv⟩ := out_ok h2
  rw [e1, e2]; dsimp only
  rw [fgt_enc ou ov]; exact decide_eq_false (by omega)

/-- min and max of two numbers. -/
def dmin (a b : Nat) : Nat := if dec b < dec a then b else a
def dmax (a b : Nat) : Nat := if dec a < dec b then b else a

theorem dmin_right {a b : Nat} (ra : right a = true) (rb : right b = true) : right (dmin a b) = true := by unfold dmin; split <;> assumption
theorem dmax_right {a b : Nat} (ra : right a = true) (rb : right b = true) : right (dmax a b) = true := by unfold dmax; split <;> assumption
theorem dmin_W {a b : Nat} (ha : W a) (hb : W b) : W (dmin a b) := by unfold dmin; split <;> assumption
theorem dmax_W {a b : Nat} (ha : W a) (hb : W b) : W (dmax a b) := by unfold dmax; split <;> assumption
theorem dec_dmin (a b : Nat) : dec (dmin a b) = min (dec a) (dec b) := by unfold dmin; split <;> omega
theorem dec_dmax (a b : Nat) : dec (dmax a b) = max (dec a) (dec b) := by unfold dmax; split <;> omega

theorem right_abs {c : Nat} (h : right c = true) : right (abs c) = true := by
  unfold right at h ⊢; rw [decide_eq_true_eq] at h ⊢; rw [top_eq] at *; unfold abs; omega
theorem W_abs (c : Nat) : W (abs c) := by unfold W abs; omega
theorem dec_abs {c : Nat} (hc : W c) (h : right c = true) : dec (abs c) = ((dec c).natAbs : Int) := by
  have := hc.lt
  unfold right at h; rw [decide_eq_true_eq, top_eq] at h
  unfold dec abs; rw [if_pos (by omega)]; split <;> omega

/-- Two answers, of a lesser and of a greater operand, as the law tests them. -/
def Grow (r s : Nat × Int) : Prop := (∃ x y, r = (x, 0) ∧ s = (y, 0) ∧ fgt x y = false) ∨ (∃ x e, r = (x, e) ∧ (e == 0) = false) ∨ (∃ x y e, r = (x, 0) ∧ s = (y, e) ∧ (e == 0) = false)

theorem grow_of {r s : Nat × Int} (h : r.2 = 0 → s.2 = 0 → fgt r.1 s.1 = false) : Grow r s := by
  obtain ⟨x, e⟩ := r
  obtain ⟨y, f⟩ := s
  by_cases he : e = 0
  · by_cases hf : f = 0
    · subst he hf; exact Or.inl ⟨x, y, rfl, rfl, h rfl rfl⟩
    · subst he; exact Or.inr (Or.inr ⟨x, y, f, rfl, rfl, by simpa using hf⟩)
  · exact Or.inr (Or.inl ⟨x, e, rfl, by simpa using he⟩)

theorem grow_add {a b c : Nat} {up : Bool} (ra : right a = true) (rb : right b = true) (rc : right c = true) (h : dec a ≤ dec b) : Grow (dAdd a c up) (dAdd b c up) := by
  rw [dAdd_out ra rc, dAdd_out rb rc]
  have := V_le_iff.2 h
  exact grow_of (out_mono (fl_mono (by omega) (by omega)))

theorem dMul_out {a b : Nat} {up : Bool} (ra : right a = true) (rb : right b = true) : dMul a b up = out (fl (V (dec a) * V (dec b)) one up) up := by
  unfold dMul mulR; rw [ra, rb]; rfl

theorem grow_mul {a b c : Nat} {up : Bool} (hc : W c) (ra : right a = true) (rb : right b = true) (rc : right c = true) (h : dec a ≤ dec b) : Grow (dMul a (abs c) up) (dMul b (abs c) up) := by
  rw [dMul_out ra (right_abs rc), dMul_out rb (right_abs rc)]
  refine grow_of (out_mono (fl_mono one_pos ?_))
  exact Int.mul_le_mul_of_nonneg_right (V_le_iff.2 h) (V_nonneg.2 (by rw [dec_abs hc rc]; omega))

theorem grow_sqrt {a b : Nat} {up : Bool} (ha : W a) (hb : W b) (ra : right a = true) (rb : right b = true) (h : dec a ≤ dec b) :
    (∃ x y, dSqrt a up = (x, 0) ∧ dSqrt b up = (y, 0) ∧ (flt x y || feq x y) = true) ∨ (∃ x e, dSqrt a up = (x, e) ∧ (e != 0) = true) := by
  have oa := ok_dec ha ra
  have ob := ok_dec hb rb
  by_cases h0 : dec a < 0
  · have := dSqrt_neg (up := up) oa h0
    rw [enc_of_dec ha ra] at this
    exact Or.inr ⟨_, _, this, rfl⟩
  · have e1 := dSqrt_enc (up := up) oa (by omega)
    have e2 := dSqrt_enc (up := up) ob (by omega)
    rw [enc_of_dec ha ra] at e1
    rw [enc_of_dec hb rb] at e2
    refine Or.inl ⟨_, _, e1, e2, ?_⟩
    rw [fle_enc (sqz_ok (by omega) oa) (sqz_ok (by omega) ob)]
    exact decide_eq_true (sqz_mono (by omega) h)
end Go.Dy
