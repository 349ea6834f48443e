/- Plain facts: ray.Hit; the law RayUnit. -/
import Derived.Test.YtfjomcbbgnaaiaaDyY
namespace Go.Dy

def o1 : Nat := 4607182418800017408
/-- ray.Hit's numbers: x^2 + y^2, up; 1 less that, down. -/
def far (x y : Nat) : Nat := (dAdd (dMul x x true).1 (dMul y y true).1 true).1
def lft (x y : Nat) : Nat := (dSub o1 (far x y) false).1
/-- Does a point hit? -/
def hits (x y : Nat) : Bool := (dIn x y).1 && !(flt (lft x y) 0 || feq (lft x y) 0)
def hX (x y : Nat) : Nat := if hits x y then (dSqrt (far x y) false).1 else 0
def hZ (x y : Nat) : Nat := if hits x y then (dSqrt (lft x y) false).1 else 0

theorem W_o1 : W o1 := W_one
theorem right_o1 : right o1 = true := right_one
theorem dec_o1 : dec o1 = I1 := dec_one
theorem V_o1 : V (dec o1) = (one : Int) := by rw [dec_o1, V_one]

theorem far_W (x y : Nat) : W (far x y) := dAdd_W _ _ _
theorem lft_W (x y : Nat) : W (lft x y) := dSub_W _ _ _
theorem hX_W (x y : Nat) : W (hX x y) := by unfold hX; split; exact dSqrt_W _ _; exact W_zero
theorem hZ_W (x y : Nat) : W (hZ x y) := by unfold hZ; split; exact dSqrt_W _ _; exact W_zero

/-- The square of a number within 1, up: a rank from 0 to 1. -/
theorem sq_up {x : Nat} (m : may x = true) : ∃ C : Int, 0 ≤ C ∧ C ≤ I1 ∧ dMul x x true = (enc C, 0) ∧ C = fl (V (dec x) * V (dec x)) one true := by
  obtain ⟨r, h⟩ := may_right m
  refine ⟨fl (V (dec x) * V (dec x)) one true, ?_, ?_, ?_, rfl⟩
  · refine fl_nonneg one_pos ?_
    rw [V_sq_abs]; exact Int.mul_nonneg (V_nonneg.2 (by omega)) (V_nonneg.2 (by omega))
  · rw [fl_up one_pos, V_one, V_sq_abs]
    have : V ((dec x).natAbs : Int) ≤ V I1 := V_le_iff.2 (by unfold I1; omega)
    rw [V_one] at this
    have h0 : 0 ≤ V ((dec x).natAbs : Int) := V_nonneg.2 (by omega)
    exact Int.mul_le_mul this this h0 (by have := one_pos'; omega)
  · rw [dMul_out r r]
    refine out_mid ?_
    have h1 : 0 ≤ fl (V (dec x) * V (dec x)) one true := fl_nonneg one_pos (by rw [V_sq_abs]; exact Int.mul_nonneg (V_nonneg.2 (by omega)) (V_nonneg.2 (by omega)))
    have h2 : fl (V (dec x) * V (dec x)) one true ≤ I1 := by
      rw [fl_up one_pos, V_one, V_sq_abs]
      have : V ((dec x).natAbs : Int) ≤ V I1 := V_le_iff.2 (by unfold I1; omega)
      rw [V_one] at this
      have h0 : 0 ≤ V ((dec x).natAbs : Int) := V_nonneg.2 (by omega)
      exact Int.mul_le_mul this this h0 (by have := one_pos'; omega)
    unfold ok I1 at *; rw [top_eq]; omega

theorem I2_eq : V (I1 + 2 ^ 52) = 2 * (one : Int) := by decide +kernel
theorem ok_of {z : Int} (h0 : -(I1 + 2 ^ 52) ≤ z) (h1 : z ≤ I1 + 2 ^ 52) : ok z := by unfold ok I1 at *; rw [top_eq]; omega

/-- All numbers of a point within the square, by ranks. -/
structure Pnt (x y : Nat) (C D F : Int) : Prop where
  c0 : 0 ≤ C
  c1 : C ≤ I1
  d0 : 0 ≤ D
  d1 : D ≤ I1
  f0 : 0 ≤ F
  f1 : F ≤ I1 + 2 ^ 52
  ec : dMul x x true = (enc C, 0)
  ed : dMul y y true = (enc D, 0)
  ef : far x y = enc F
  fc : C = fl (V (dec x) * V (dec x)) one true
  fd : D = fl (V (dec y) * V (dec y)) one true
  ff : F = fl (V C + V D) 1 true
  el : lft x y = enc (fl ((one : Int) - V F) 1 false)
  okl : ok (fl ((one : Int) - V F) 1 false)

theorem pnt_of {x y : Nat} (mx : may x = true) (my : may y = true) : ∃ C D F : Int, Pnt x y C D F := by
  obtain ⟨C, c0, c1, ec, fc⟩ := sq_up mx
  obtain ⟨D, d0, d1, ed, fd⟩ := sq_up my
  have oC : ok C := ok_of (by unfold I1; omega) (by omega)
  have oD : ok D := ok_of (by unfold I1; omega) (by omega)
  have vC := V_le_iff.2 c1
  have vD := V_le_iff.2 d1
  have vC0 := V_nonneg.2 c0
  have vD0 := V_nonneg.2 d0
  rw [V_one] at vC vD
  have f0 : 0 ≤ fl (V C + V D) 1 true := fl_nonneg (by omega) (by omega)
  have f1 : fl (V C + V D) 1 true ≤ I1 + 2 ^ 52 := by
    rw [fl_up (by omega), I2_eq]; omega
  have ef : far x y = enc (fl (V C + V D) 1 true) := by
    unfold far; rw [ec, ed]; dsimp only
    rw [dAdd_enc oC oD, out_mid (ok_of (by unfold I1; omega) f1)]
  generalize hF : fl (V C + V D) 1 true = F at *
  have oF : ok F := ok_of (by unfold I1; omega) f1
  have vF := V_le_iff.2 f1
  rw [I2_eq] at vF
  have vF0 := V_nonneg.2 f0
  have okl : ok (fl ((one : Int) - V F) 1 false) := by
    refine ok_of ?_ ?_
    · rw [fl_down (by omega), V_neg, I2_eq]; omega
    · have : fl ((one : Int) - V F) 1 false ≤ I1 := by
        refine Int.le_trans (fl_le_up (by omega)) ?_
        rw [fl_up (by omega), V_one]; omega
      omega
  refine ⟨C, D, F, c0, c1, d0, d1, f0, f1, ec, ed, ef, fc, fd, hF.symm, ?_, okl⟩
  unfold lft
  rw [ef]
  have e1 : o1 = enc I1 := by decide
  rw [e1, dSub_enc ok_I1 oF, V_one, out_mid okl]

/-- A point that hits: both roots. -/
structure Hit (x y : Nat) (F L X Z : Int) : Prop where
  f0 : 0 ≤ F
  f1 : F < I1
  l0 : 0 < L
  l1 : L ≤ I1
  eL : L = fl ((one : Int) - V F) 1 false
  ef : far x y = enc F
  el : lft x y = enc L
  eX : hX x y = enc X
  eZ : hZ x y = enc Z
  x0 : X = sqz F false
  z0 : Z = sqz L false
  sx : dSqrt (far x y) false = (enc X, 0)
  sz : dSqrt (lft x y) false = (enc Z, 0)

theorem hits_may {x y : Nat} (h : hits x y = true) : may x = true ∧ may y = true ∧ inB x y = true ∧ (flt (lft x y) 0 || feq (lft x y) 0) = false := by
  unfold hits at h
  rw [Bool.and_eq_true] at h
  obtain ⟨h1, h2⟩ := h
  unfold dIn at h1
  by_cases hm : (may x && may y) = true
  · rw [if_pos hm] at h1
    rw [Bool.and_eq_true] at hm
    exact ⟨hm.1, hm.2, h1, by simpa using h2⟩
  · rw [if_neg hm] at h1; cases h1

theorem lft_pos {x y : Nat} {L : Int} (oL : ok L) (e : lft x y = enc L) : (flt (lft x y) 0 || feq (lft x y) 0) = decide (L ≤ 0) := by
  rw [e, fle_dec (W_enc oL) W_zero (right_enc oL) right_zero, dec_enc oL, dec_zero]

theorem hit_of {x y : Nat} {C D F : Int} (P : Pnt x y C D F) (h : hits x y = true) : ∃ L X Z : Int, Hit x y F L X Z := by
  obtain ⟨mx, my, hin, hl⟩ := hits_may h
  have f1 := P.f1
  have f0 := P.f0
  have oF : ok F := ok_of (by unfold I1; omega) f1
  have okl := P.okl
  have el := P.el
  have l0 : 0 < fl ((one : Int) - V F) 1 false := by
    rw [lft_pos okl el, decide_eq_false_iff_not] at hl; omega
  have l1 : fl ((one : Int) - V F) 1 false ≤ I1 := by
    refine Int.le_trans (fl_le_up (by omega)) ?_
    rw [fl_up (by omega), V_one]
    have := V_nonneg.2 f0; omega
  have f2 : F < I1 := by
    have : (1 : Int) ≤ fl ((one : Int) - V F) 1 false := l0
    rw [fl_down (by omega)] at this
    have v1 : V 1 = 1 := by decide
    rw [v1] at this
    by_cases h : F < I1
    · exact h
    · have := V_le_iff.2 (Int.not_lt.1 h)
      rw [V_one] at this; omega
  have sx := dSqrt_enc (up := false) oF f0
  have sz := dSqrt_enc (up := false) okl (by omega)
  rw [← P.ef] at sx
  rw [← el] at sz
  refine ⟨_, _, _, f0, f2, l0, l1, rfl, P.ef, el, ?_, ?_, rfl, rfl, sx, sz⟩
  · unfold hX; rw [h, if_pos rfl, sx]
  · unfold hZ; rw [h, if_pos rfl, sz]

/-- A root's square, up: it is not above the number, and not below by more than 2^-52. -/
theorem root_square {F X A : Int} (f0 : 0 ≤ F) (f1 : F ≤ I1) (hX : X = sqz F false) (hA : A = fl (V X * V X) one true) :
    0 ≤ X ∧ X ≤ I1 ∧ 0 ≤ A ∧ A ≤ F ∧ V F ≤ V A + 2 * (big : Int) ∧ (0 < F → 0 < X) := by
  have x0 : 0 ≤ X := by rw [hX]; exact sqz_nonneg _ _
  have hsq : V X * V X ≤ V F * one := (sqz_down f0 x0).1 (by omega)
  have vF := V_le_iff.2 f1
  have vF0 := V_nonneg.2 f0
  rw [V_one] at vF
  have hp := one_pos'
  have x1 : X ≤ I1 := by
    rw [hX]
    have h1 : sqz F false ≤ sqz F true := sqz_le_up F
    have h2 : sqz F true ≤ I1 := by
      rw [sqz_up f0 (by unfold I1; omega), V_one]
      exact Int.mul_le_mul_of_nonneg_right vF (by omega)
    omega
  have a0 : 0 ≤ A := by
    rw [hA]; exact fl_nonneg one_pos (Int.mul_nonneg (V_nonneg.2 x0) (V_nonneg.2 x0))
  have aF : A ≤ F := by rw [hA]; exact (fl_up one_pos).2 hsq
  have vX0 := V_nonneg.2 x0
  have vX := V_le_iff.2 x1
  rw [V_one] at vX
  have hb : 0 < (big : Int) := by decide +kernel
  have key : V F ≤ V A + 2 * (big : Int) := by
    have hAV : V X * V X ≤ V A * one := (fl_up (z := A) one_pos).1 (by omega)
    by_cases hx : X = I1
    · -- then F is one, and so is A
      rw [hx, V_one] at hAV
      have := Int.le_of_mul_le_mul_right hAV hp
      omega
    · have hs := V_step (z := X) (by unfold I1; omega) (by omega)
      have hlt : ¬ (V (X + 1) * V (X + 1) ≤ V F * one) := by
        rw [← sqz_down f0 (by omega), ← hX]; omega
      have vX1 : V (X + 1) ≤ one := by
        have := V_le_iff.2 (show X + 1 ≤ I1 by omega)
        rw [V_one] at this; exact this
      have vlt := V_lt (show X < X + 1 by omega)
      generalize V (X + 1) = p at *
      generalize V X = q at *
      have e : p * p = q * q + (p - q) * (p + q) := by
        rw [Int.sub_mul, Int.mul_add, Int.mul_add, Int.mul_comm q p]; omega
      have e2 : (p - q) * (p + q) ≤ big * (2 * one) := Int.mul_le_mul (by omega) (by omega) (by omega) (by omega)
      have e3 : V F * one < (V A + 2 * (big : Int)) * one := by
        rw [Int.add_mul]
        have : (big : Int) * (2 * (one : Int)) = 2 * (big : Int) * one := by rw [← Int.mul_assoc, Int.mul_comm (big : Int) 2]
        omega
      exact Int.le_of_lt (Int.lt_of_mul_lt_mul_right e3 (by omega))
  refine ⟨x0, x1, a0, aF, key, ?_⟩
  intro hF
  have v1 : V 1 = 1 := by decide
  have : (1 : Int) ≤ X := by
    rw [hX, sqz_down f0 (by omega), v1]
    have h2 : (1 : Int) ≤ V F := by
      have := V_le_iff.2 (show (1 : Int) ≤ F by omega)
      rw [v1] at this; exact this
    have h3 : 1 * 1 ≤ V F * one := Int.mul_le_mul h2 (by omega) (by omega) (by omega)
    exact h3
  omega

/-- The rank of 2^-50. -/
def E50 : Int := 4382002437431492608
theorem V_E50 : V E50 = 8 * (big : Int) := by decide +kernel
theorem V_I8 : V (I1 - 8) = (one : Int) - 8 * (big : Int) := by decide +kernel
theorem one_big : (one : Int) = 9007199254740992 * (big : Int) := by decide +kernel
theorem big_pos : 0 < (big : Int) := by decide +kernel

theorem near_small {s : Int} (h1 : -(8 * (big : Int)) ≤ s) (h2 : s ≤ 8 * (big : Int)) : -E50 ≤ nz s ∧ nz s ≤ E50 := by
  refine ⟨le_nz ?_, nz_le ?_⟩
  · rw [V_neg, V_E50]; exact h1
  · rw [V_E50]; exact h2

/-- Within 1, what is nearest is no further than 2^-53. -/
theorem near_err {s : Int} (h1 : -(one : Int) ≤ s) (h2 : s ≤ one) : V (nz s) ≤ s + big ∧ s ≤ V (nz s) + big ∧ -I1 ≤ nz s ∧ nz s ≤ I1 := by
  have a1 : -I1 ≤ nz s := le_nz (by rw [V_neg, V_one]; exact h1)
  have a2 : nz s ≤ I1 := nz_le (by rw [V_one]; exact h2)
  have bp := big_pos
  refine ⟨?_, ?_, a1, a2⟩
  · by_cases hc : V (nz s) ≤ s
    · omega
    · have h3 : ¬ nz s ≤ nz s - 1 := by omega
      have h4 : ¬ s ≤ V (nz s - 1) := fun h => h3 (nz_le h)
      have h5 : -I1 ≤ nz s - 1 := by
        by_cases e : nz s = -I1
        · rw [e, V_neg, V_one] at hc; omega
        · omega
      have := V_step h5 (by omega)
      have e6 : nz s - 1 + 1 = nz s := by omega
      rw [e6] at this; omega
  · by_cases hc : s ≤ V (nz s)
    · omega
    · have h3 : ¬ nz s + 1 ≤ nz s := by omega
      have h4 : ¬ V (nz s + 1) ≤ s := fun h => h3 (le_nz h)
      have h5 : nz s < I1 := by
        by_cases e : nz s = I1
        · rw [e, V_one] at hc; omega
        · omega
      have := V_step a1 h5
      omega

/-- RayUnit's two sums: both squares are 1, and the first one x^2 and y^2, but for 2^-50. -/
theorem unit_sums {x y : Nat} {C D F L X Z A B : Int} (P : Pnt x y C D F) (H : Hit x y F L X Z) (hA : A = fl (V X * V X) one true) (hB : B = fl (V Z * V Z) one true) :
    (I1 - 8 ≤ nz (V A + V B) ∧ nz (V A + V B) ≤ I1 ∧ -E50 ≤ nz (V (nz (V A + V B)) - one) ∧ nz (V (nz (V A + V B)) - one) ≤ E50) ∧
    (-I1 ≤ nz (V A - V C) ∧ nz (V A - V C) ≤ I1 ∧ -E50 ≤ nz (V (nz (V A - V C)) - V D) ∧ nz (V (nz (V A - V C)) - V D) ≤ E50) := by
  have bp := big_pos
  have ob := one_big
  obtain ⟨x0, x1, a0, aF, ka, _⟩ := root_square H.f0 (Int.le_of_lt H.f1) H.x0 hA
  obtain ⟨z0, z1, b0, bL, kb, _⟩ := root_square (Int.le_of_lt H.l0) H.l1 H.z0 hB
  have vA := V_le_iff.2 aF
  have vB := V_le_iff.2 bL
  have vA0 := V_nonneg.2 a0
  have vB0 := V_nonneg.2 b0
  have f0 := H.f0
  have f1 := H.f1
  have hL1 : V L ≤ one - V F := by
    have := (@fl_down L ((one : Int) - V F) 1 (by omega)).1 (by rw [H.eL]; exact Int.le_refl _)
    omega
  have hL2 : (one : Int) - V F ≤ V L + big := by
    by_cases e : L = I1
    · have := V_nonneg.2 f0
      rw [e, V_one]; omega
    · have hs := V_step (z := L) (by have := H.l0; unfold I1; omega) (by have := H.l1; omega)
      have : ¬ (V (L + 1) * (1 : Nat) ≤ (one : Int) - V F) := by
        rw [← fl_down (by omega), ← H.eL]; omega
      omega
  have hF : V F ≤ V C + V D + big ∧ V C + V D ≤ V F := by
    have h1 : V C + V D ≤ V F * (1 : Nat) := (fl_up (z := F) (by omega)).1 (by rw [← P.ff]; exact Int.le_refl _)
    refine ⟨?_, by omega⟩
    by_cases e : F = 0
    · have := V_nonneg.2 P.c0; have := V_nonneg.2 P.d0
      rw [e, V_zero]; omega
    · have hs := V_step (z := F - 1) (by unfold I1; omega) (by omega)
      have e6 : F - 1 + 1 = F := by omega
      rw [e6] at hs
      have : ¬ (V C + V D ≤ V (F - 1) * (1 : Nat)) := by
        rw [← fl_up (by omega), ← P.ff]; omega
      omega
  obtain ⟨hF1, hF2⟩ := hF
  have vC0 := V_nonneg.2 P.c0
  have vD0 := V_nonneg.2 P.d0
  have vF := V_le_iff.2 (Int.le_of_lt f1)
  rw [V_one] at vF
  have s1 : I1 - 8 ≤ nz (V A + V B) := le_nz (by rw [V_I8]; omega)
  have s2 : nz (V A + V B) ≤ I1 := nz_le (by rw [V_one]; omega)
  have v1 := V_le_iff.2 s1
  have v2 := V_le_iff.2 s2
  rw [V_I8] at v1
  rw [V_one] at v2
  obtain ⟨t1, t2, t3, t4⟩ := near_err (s := V A - V C) (by omega) (by omega)
  exact ⟨⟨s1, s2, near_small (by omega) (by omega)⟩, t3, t4, near_small (by omega) (by omega)⟩
end Go.Dy
