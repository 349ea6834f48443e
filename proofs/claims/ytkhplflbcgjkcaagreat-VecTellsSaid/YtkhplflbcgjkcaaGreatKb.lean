/- Plain facts: the laws of package dir, the points within the ball, sums to the nearest number, the law RayUnit. -/
import Derived.Test.YtkhplflbcgjkcaaGreatKa
import Derived.Laws.FloatArith
/- Plain facts: the law DirSums. -/
namespace Go.Dy
theorem ok_dec {a : Nat} (ha : W a) (r : right a = true) : ok (dec a) := (enc_dec ha.lt r).2
theorem minus_dec {a : Nat} (ha : W a) (r : right a = true) : right (minus a) = true ∧ dec (minus a) = -dec a ∧ W (minus a) := by
 have r' := r
 unfold right at r; rw [decide_eq_true_eq, top_eq] at r
 have hl := ha.lt
 refine ⟨?_, ?_, ?_⟩
 ·unfold right; rw [decide_eq_true_eq, top_eq]; unfold minus; split
  ·omega
  ·split <;> omega
 ·unfold dec minus; split
  ·rename_i h; subst h; decide
  ·split
   ·rw [if_neg (by omega)]; omega
   ·rw [if_pos (by omega)]; omega
 ·unfold W minus; split
  ·omega
  ·split <;> omega
theorem dAdd_out {a b : Nat} {up : Bool} (ra : right a = true) (rb : right b = true) : dAdd a b up = out (fl (V (dec a) + V (dec b)) 1 up) up := by
 unfold dAdd addR; rw [ra, rb]; rfl
theorem dSub_out {a b : Nat} {up : Bool} (hb : W b) (ra : right a = true) (rb : right b = true) : dSub a b up = out (fl (V (dec a) - V (dec b)) 1 up) up := by
 obtain ⟨h1, h2, _⟩ := minus_dec hb rb
 unfold dSub
 rw [rb, if_pos rfl, dAdd_out ra h1, h2, V_neg, Int.sub_eq_add_neg]
theorem W_enc {z : Int} (h : ok z) : W (enc z) := enc_lt h
theorem out_W (z : Int) (up : Bool) : W (out z up).1 := by
 have t1 : W (enc ((top : Int) - 1)) := W_enc (by unfold ok; rw [top_eq]; omega)
 have t2 : W (enc (1 - (top : Int))) := W_enc (by unfold ok; rw [top_eq]; omega)
 unfold out
 split
 ·split
  ·exact W_zero
  ·exact t1
 ·split
  ·split
   ·exact t2
   ·exact W_zero
  ·exact W_enc (by unfold ok; omega)
theorem dAdd_W (a b : Nat) (up : Bool) : W (dAdd a b up).1 := by
 unfold dAdd; split
 ·exact out_W _ _
 ·exact W_zero
theorem dMul_W (a b : Nat) (up : Bool) : W (dMul a b up).1 := by
 unfold dMul; split
 ·exact out_W _ _
 ·exact W_zero
theorem dSub_W (a b : Nat) (up : Bool) : W (dSub a b up).1 := by
 unfold dSub; split
 ·exact dAdd_W _ _ _
 ·exact W_zero
theorem dNext_W (a : Nat) (up : Bool) : W (dNext a up).1 := by
 unfold dNext; split
 ·exact out_W _ _
 ·exact W_zero
theorem dDiv_W (a b : Nat) (up : Bool) : W (dDiv a b up).1 := by
 unfold dDiv; split
 ·exact W_zero
 ·split
  ·exact W_zero
  ·exact out_W _ _
theorem dSqrt_W (a : Nat) (up : Bool) : W (dSqrt a up).1 := by
 unfold dSqrt; split
 ·exact W_zero
 ·split
  ·exact W_zero
  ·split
   ·exact W_zero
   ·exact out_W _ _
end Go.Dy
/- Plain facts: the law DirNext. -/
namespace Go.Dy
theorem enc_of_dec {x : Nat} (hx : W x) (r : right x = true) : enc (dec x) = x := (enc_dec hx.lt r).1
end Go.Dy
/- Plain facts: operations on ranks; the laws DirParts and DirGrows. -/
namespace Go.Dy
theorem fle_dec {a b : Nat} (ha : W a) (hb : W b) (ra : right a = true) (rb : right b = true) : (flt a b || feq a b) = decide (dec a ≤ dec b) := by
 rw [flt_dec ha hb ra rb, feq_dec ha hb ra rb, Bool.eq_iff_iff]
 simp only [Bool.or_eq_true, decide_eq_true_eq]; omega
theorem fge_dec {a b : Nat} (ha : W a) (hb : W b) (ra : right a = true) (rb : right b = true) : (fgt a b || feq a b) = decide (dec b ≤ dec a) := by
 rw [fgt_dec ha hb ra rb, feq_dec ha hb ra rb, Bool.eq_iff_iff]
 simp only [Bool.or_eq_true, decide_eq_true_eq]; omega
theorem dMul_enc {y z : Int} {up : Bool} (hy : ok y) (hz : ok z) : dMul (enc y) (enc z) up = out (fl (V y * V z) one up) up := by
 unfold dMul mulR; rw [right_enc hy, right_enc hz, dec_enc hy, dec_enc hz]; rfl
theorem enc_eq_zero {z : Int} (h : ok z) : enc z = 0 ↔ z = 0 := by
 unfold ok at h; rw [top_eq] at h
 unfold enc; split <;> omega
theorem dAdd_enc {y z : Int} {up : Bool} (hy : ok y) (hz : ok z) : dAdd (enc y) (enc z) up = out (fl (V y + V z) 1 up) up := by
 rw [dAdd_out (right_enc hy) (right_enc hz), dec_enc hy, dec_enc hz]
theorem one_pos' : (0 : Int) < (one : Int) := by have := one_pos; omega
theorem ok_max : ok ((top : Int) - 1) := by unfold ok; rw [top_eq]; omega
end Go.Dy
/- Plain facts: roots as ranks; the law DirGrows. -/
namespace Go.Dy
def I1 : Int := 4607182418800017408
theorem V_one : V I1 = (one : Int) := by decide +kernel
def sqz (z : Int) (up : Bool) : Int := sqR (mag z.toNat) up
theorem sqR_down {N : Nat} (r : Nat) : (r : Int) ≤ sqR N false ↔ mag r * mag r ≤ N * one := by
 unfold sqR rnk
 have e : (false == false) = true := rfl
 simp only [e, if_true, Bool.false_eq_true, if_false]
 rw [Int.ofNat_le, le_rdn, le_isq]
theorem sqR_up {N : Nat} (r : Nat) : sqR N true ≤ (r : Int) ↔ N * one ≤ mag r * mag r := by
 unfold sqR rnk
 have e : (true == false) = false := rfl
 simp only [e, Bool.false_eq_true, if_false]
 rw [Int.ofNat_le, rup_le]
 have h1 := (isq_spec (N * one)).1
 have h2 := @le_isq (mag r) (N * one)
 by_cases hs : isq (N * one) * isq (N * one) = N * one
 ·rw [if_neg (by simp [hs])]
  rw [← sq_le, hs]
 ·rw [if_pos (by simpa using hs)]
  constructor
  ·intro h
   have : ¬ (mag r ≤ isq (N * one)) := by omega
   rw [h2] at this; omega
  ·intro h
   by_cases h3 : mag r ≤ isq (N * one)
   ·exfalso
    have h4 := h2.1 h3
    have h5 : mag r * mag r = N * one := by omega
    have h6 : isq (N * one) = mag r := isq_unique (by omega) (by
     have : mag r * mag r < (mag r + 1) * (mag r + 1) := sq_lt.2 (by omega)
     omega)
    rw [h6] at hs; exact hs h5
   ·omega
theorem V_toNat {z : Int} (h : 0 ≤ z) : V z = (mag z.toNat : Int) := by
 have e : z = (z.toNat : Int) := by omega
 have := V_nat z.toNat
 rw [← e] at this; exact this
theorem sqz_down {y z : Int} (hz : 0 ≤ z) (hy : 0 ≤ y) : y ≤ sqz z false ↔ V y * V y ≤ V z * one := by
 have e : y = (y.toNat : Int) := by omega
 have h := sqR_down (N := mag z.toNat) y.toNat
 rw [← e] at h
 unfold sqz
 rw [h, V_toNat hz, V_toNat hy]
 constructor
 ·intro h; exact_mod_cast h
 ·intro h; exact_mod_cast h
theorem sqz_up {y z : Int} (hz : 0 ≤ z) (hy : 0 ≤ y) : sqz z true ≤ y ↔ V z * one ≤ V y * V y := by
 have e : y = (y.toNat : Int) := by omega
 have h := sqR_up (N := mag z.toNat) y.toNat
 rw [← e] at h
 unfold sqz
 rw [h, V_toNat hz, V_toNat hy]
 constructor
 ·intro h; exact_mod_cast h
 ·intro h; exact_mod_cast h
theorem sqz_nonneg (z : Int) (up : Bool) : 0 ≤ sqz z up := by
 unfold sqz sqR rnk
 simp only [Bool.false_eq_true, if_false]
 omega
theorem sqz_le_up (z : Int) : sqz z false ≤ sqz z true := by
 unfold sqz sqR rnk
 have e1 : (true == false) = false := rfl
 have e2 : (false == false) = true := rfl
 simp only [e1, e2, if_true, Bool.false_eq_true, if_false]
 unfold rup; split <;> omega
theorem sqz_up_le (z : Int) : sqz z true ≤ sqz z false + 1 := by
 unfold sqz sqR rnk
 have e1 : (true == false) = false := rfl
 have e2 : (false == false) = true := rfl
 simp only [e1, e2, if_true, Bool.false_eq_true, if_false]
 unfold rup; split <;> omega
theorem ok_I1 : ok I1 := by unfold ok I1; rw [top_eq]; omega
theorem sqz_ok {z : Int} {up : Bool} (h0 : 0 ≤ z) (h : ok z) : ok (sqz z up) := by
 have h1 := sqz_nonneg z up
 have h2 : sqz z up ≤ sqz z true := by
  cases up
  ·exact sqz_le_up z
  ·exact Int.le_refl _
 have hp := one_pos'
 have h3 : sqz z true ≤ z ∨ sqz z true ≤ I1 := by
  by_cases hz : I1 ≤ z
  ·refine Or.inl ((sqz_up h0 h0).2 ?_)
   have a := V_le_iff.2 hz
   rw [V_one] at a
   exact Int.mul_le_mul_of_nonneg_left a (V_nonneg.2 h0)
  ·refine Or.inr ((sqz_up h0 (by unfold I1; omega)).2 ?_)
   have a := V_le_iff.2 (Int.le_of_lt (Int.not_le.1 hz))
   rw [V_one] at a ⊢
   exact Int.mul_le_mul_of_nonneg_right a (by omega)
 have h4 := ok_I1
 unfold ok at h h4 ⊢
 omega
theorem sqz_mono {y z : Int} {up : Bool} (hy : 0 ≤ y) (h : y ≤ z) : sqz y up ≤ sqz z up := by
 have hz : 0 ≤ z := by omega
 have hv := V_le_iff.2 h
 have hp := one_pos'
 have hm : V y * one ≤ V z * one := Int.mul_le_mul_of_nonneg_right hv (by omega)
 cases up
 ·exact (sqz_down hz (sqz_nonneg _ _)).2 (Int.le_trans ((sqz_down hy (sqz_nonneg _ _)).1 (Int.le_refl _)) hm)
 ·exact (sqz_up hy (sqz_nonneg _ _)).2 (Int.le_trans hm ((sqz_up hz (sqz_nonneg _ _)).1 (Int.le_refl _)))
theorem enc_ge {z : Int} (h : ok z) : 2 ^ 63 ≤ enc z ↔ z < 0 := by
 unfold ok at h; rw [top_eq] at h
 unfold enc; split <;> omega
theorem enc_nonneg {z : Int} (h : 0 ≤ z) : enc z = z.toNat := by unfold enc; rw [if_pos h]
theorem sqz_zero (up : Bool) : sqz 0 up = 0 := by cases up <;> decide +kernel
theorem dSqrt_enc {z : Int} {up : Bool} (h : ok z) (h0 : 0 ≤ z) : dSqrt (enc z) up = (enc (sqz z up), 0) := by
 unfold dSqrt
 rw [right_enc h, if_neg (by decide), if_neg (by rw [enc_ge h]; omega)]
 by_cases hz : z = 0
 ·subst hz; rw [if_pos (by decide), sqz_zero]; rfl
 ·rw [if_neg (by rw [enc_eq_zero h]; exact hz), ← out_mid (up := up) (sqz_ok h0 h), enc_nonneg h0]; rfl
theorem dSqrt_neg {z : Int} {up : Bool} (h : ok z) (h0 : z < 0) : dSqrt (enc z) up = (0, 12) := by
 unfold dSqrt
 rw [right_enc h, if_neg (by decide), if_pos ((enc_ge h).2 h0)]
theorem fl_mono {num num' : Int} {den : Nat} {up : Bool} (hd : 0 < den) (h : num ≤ num') : fl num den up ≤ fl num' den up := by
 cases up
 ·exact (fl_down hd).2 (Int.le_trans ((fl_down hd).1 (Int.le_refl _)) h)
 ·exact (fl_up hd).2 (Int.le_trans h ((fl_up hd).1 (Int.le_refl _)))
theorem out_ok {z : Int} {up : Bool} (h : (out z up).2 = 0) : ∃ y, ok y ∧ out z up = (enc y, 0) ∧ y = max (min z ((top : Int) - 1)) (1 - (top : Int)) := by
 have tp := top_eq
 unfold out at h ⊢
 by_cases h1 : (top : Int) ≤ z
 ·rw [if_pos h1] at h ⊢
  cases up
  ·exact ⟨(top : Int) - 1, ok_max, rfl, by omega⟩
  ·rw [if_pos rfl] at h; exact absurd h (by decide)
 ·rw [if_neg h1] at h ⊢
  by_cases h2 : z ≤ -(top : Int)
  ·rw [if_pos h2] at h ⊢
   cases up
   ·rw [if_neg (by decide)] at h; exact absurd h (by decide)
   ·exact ⟨1 - (top : Int), by unfold ok; omega, rfl, by omega⟩
  ·rw [if_neg h2]; exact ⟨z, by unfold ok; omega, rfl, by omega⟩
def dmin (a b : Nat) : Nat := if dec b < dec a then b else a
def dmax (a b : Nat) : Nat := if dec a < dec b then b else a
theorem dmin_right {a b : Nat} (ra : right a = true) (rb : right b = true) : right (dmin a b) = true := by unfold dmin; split <;> assumption
theorem dmax_right {a b : Nat} (ra : right a = true) (rb : right b = true) : right (dmax a b) = true := by unfold dmax; split <;> assumption
theorem dmin_W {a b : Nat} (ha : W a) (hb : W b) : W (dmin a b) := by unfold dmin; split <;> assumption
theorem dmax_W {a b : Nat} (ha : W a) (hb : W b) : W (dmax a b) := by unfold dmax; split <;> assumption
theorem dec_dmin (a b : Nat) : dec (dmin a b) = min (dec a) (dec b) := by unfold dmin; split <;> omega
theorem dec_dmax (a b : Nat) : dec (dmax a b) = max (dec a) (dec b) := by unfold dmax; split <;> omega
theorem right_abs {c : Nat} (h : right c = true) : right (abs c) = true := by
 unfold right at h ⊢; rw [decide_eq_true_eq] at h ⊢; rw [top_eq] at *; unfold abs; omega
theorem W_abs (c : Nat) : W (abs c) := by unfold W abs; omega
theorem dMul_out {a b : Nat} {up : Bool} (ra : right a = true) (rb : right b = true) : dMul a b up = out (fl (V (dec a) * V (dec b)) one up) up := by
 unfold dMul mulR; rw [ra, rb]; rfl
end Go.Dy
/- Plain facts: the parts of a number (Frexp), and which points are within the ball. -/
namespace Go.Dy
def may (x : Nat) : Bool := right x && decide ((dec x).natAbs ≤ 4607182418800017408)
def inB (x y : Nat) : Bool := decide (V (dec x) * V (dec x) + V (dec y) * V (dec y) < one * one)
def dIn (x y : Nat) : Bool × Int := if may x && may y then (inB x y, 0) else (false, 2)
end Go.Dy
/- Plain facts: a float64 made a whole number. -/
namespace Go.Dy
open Ieee
end Go.Dy
/- Plain facts: which points are within the ball, as ray.Inside tests it. -/
namespace Go.Dy
structure Pt (x y X Y : Nat) : Prop where
 le : Y ≤ X
 one : X ≤ 4607182418800017408
 sum : V (dec x) * V (dec x) + V (dec y) * V (dec y) = ((mag X * mag X + mag Y * mag Y : Nat) : Int)
end Go.Dy
/- Plain facts: sums and differences to the nearest number. -/
namespace Go.Dy
open Ieee
def nz (s : Int) : Int := if s < 0 then -((nr s.natAbs 0 : Nat) : Int) else ((nr s.natAbs 0 : Nat) : Int)
theorem le_nr0 {r n : Nat} (h : mag r ≤ n) : r ≤ nr n 0 := le_nr (by rw [Nat.pow_zero, Nat.mul_one]; exact h)
theorem nr0_le {r n : Nat} (h : n ≤ mag r) : nr n 0 ≤ r := nr_le (by rw [Nat.pow_zero, Nat.mul_one]; exact h)
theorem V_cases (z : Int) : (∃ r : Nat, z = (r : Int) ∧ V z = (mag r : Int)) ∨ (∃ r : Nat, 0 < r ∧ z = -(r : Int) ∧ V z = -(mag r : Int) ∧ 0 < mag r) := by
 by_cases h : 0 ≤ z
 ·exact Or.inl ⟨z.toNat, by omega, V_toNat h⟩
 ·refine Or.inr ⟨(-z).toNat, by omega, by omega, ?_, ?_⟩
  ·have e : z = -((-z).toNat : Int) := by omega
   have := V_ofNat_neg (-z).toNat
   rw [← e] at this; exact this
  ·have := @mag_lt 0 (-z).toNat (by omega)
   rw [mag_zero] at this; exact this
theorem le_nz {z s : Int} (h : V z ≤ s) : z ≤ nz s := by
 unfold nz
 rcases V_cases z with ⟨r, rfl, e⟩ | ⟨r, h0, rfl, e, hm⟩
 ·rw [e] at h
  rw [if_neg (by omega)]
  have := @le_nr0 r s.natAbs (by omega)
  omega
 ·rw [e] at h
  by_cases hs : s < 0
  ·rw [if_pos hs]
   have := @nr0_le r s.natAbs (by omega)
   omega
  ·rw [if_neg hs]; omega
theorem nz_le {z s : Int} (h : s ≤ V z) : nz s ≤ z := by
 unfold nz
 rcases V_cases z with ⟨r, rfl, e⟩ | ⟨r, h0, rfl, e, hm⟩
 ·rw [e] at h
  by_cases hs : s < 0
  ·rw [if_pos hs]; omega
  ·rw [if_neg hs]
   have := @nr0_le r s.natAbs (by omega)
   omega
 ·rw [e] at h
  rw [if_pos (by omega)]
  have := @le_nr0 r s.natAbs (by omega)
  omega
def nrst (z : Int) : Nat := if (top : Int) ≤ z then top else if z ≤ -(top : Int) then 2 ^ 63 + top else enc z
theorem nrst_ok {z : Int} (h : ok z) : nrst z = enc z := by
 unfold ok at h; unfold nrst; rw [if_neg (by omega), if_neg (by omega)]
theorem word_nrst (S : Int) : word (decide (S < 0)) (min (nr S.natAbs 0) top) = nrst (nz S) := by
 have tp := top_eq
 unfold nz nrst word enc
 by_cases h : S < 0
 ·have h1 : 1 ≤ nr S.natAbs 0 := le_nr0 (by rw [mag_low (by omega)]; omega)
  rw [decide_eq_true h, if_pos rfl, if_pos h]
  rw [if_neg (by omega)]
  by_cases h2 : top ≤ nr S.natAbs 0
  ·rw [Nat.min_eq_right h2, if_pos (by omega)]
  ·rw [Nat.min_eq_left (by omega), if_neg (by omega), if_neg (by omega)]; omega
 ·rw [decide_eq_false h, if_neg (by decide), if_neg h]
  by_cases h2 : top ≤ nr S.natAbs 0
  ·rw [Nat.min_eq_right h2, if_pos (by omega)]
  ·rw [Nat.min_eq_left (by omega), if_neg (by omega), if_neg (by omega), if_pos (by omega)]; omega
theorem sum_near {s t : Bool} {m n e f : Nat} {S : Int} (hS : S = (if s then -((m * 2 ^ e : Nat) : Int) else ((m * 2 ^ e : Nat) : Int)) + (if t then -((n * 2 ^ f : Nat) : Int) else ((n * 2 ^ f : Nat) : Int)))
  (h0 : S = 0 → (s && t) = false) :
  ((Datum.sum (.number s m (-1074 + (e : Int))) (.number t n (-1074 + (f : Int)))).map double.write) = some (nrst (nz S)) := by
 unfold Datum.sum
 dsimp only
 have k1 : (-1074 + (e : Int) - min (-1074 + (e : Int)) (-1074 + (f : Int))).toNat = e - min e f := by omega
 have k2 : (-1074 + (f : Int) - min (-1074 + (e : Int)) (-1074 + (f : Int))).toNat = f - min e f := by omega
 have k3 : min (-1074 + (e : Int)) (-1074 + (f : Int)) = -1074 + ((min e f : Nat) : Int) := by omega
 rw [k1, k2, k3]
 obtain ⟨g, hg⟩ : ∃ g, min e f = g := ⟨_, rfl⟩
 rw [hg]
 have p1 : 2 ^ e = 2 ^ (e - g) * 2 ^ g := by rw [← Nat.pow_add]; congr 1; omega
 have p2 : 2 ^ f = 2 ^ (f - g) * 2 ^ g := by rw [← Nat.pow_add]; congr 1; omega
 have hT : S = (signed s m (e - g) + signed t n (f - g)) * ((2 ^ g : Nat) : Int) := by
  rw [hS, signed_eq, signed_eq, p1, p2, ← Nat.mul_assoc, ← Nat.mul_assoc, Int.natCast_mul (m * 2 ^ (e - g)), Int.natCast_mul (n * 2 ^ (f - g))]
  generalize ((m * 2 ^ (e - g) : Nat) : Int) = a
  generalize ((n * 2 ^ (f - g) : Nat) : Int) = b
  generalize ((2 ^ g : Nat) : Int) = c
  cases s <;> cases t <;> simp [Int.add_mul, Int.neg_mul]
 have hg0 : 0 < 2 ^ g := Nat.two_pow_pos _
 generalize signed s m (e - g) + signed t n (f - g) = T at *
 have hTS : T = 0 ↔ S = 0 := by
  rw [hT, Int.mul_eq_zero]
  constructor
  ·intro h; exact Or.inl h
  ·intro h; rcases h with h | h
   ·exact h
   ·omega
 have hneg : T < 0 ↔ S < 0 := by
  rw [hT]
  constructor
  ·intro h; exact Int.mul_neg_of_neg_of_pos h (by omega)
  ·intro h
   by_cases h1 : T < 0
   ·exact h1
   ·have := Int.mul_nonneg (a := T) (b := ((2 ^ g : Nat) : Int)) (by omega) (by omega)
    omega
 have hsg : (if T = 0 then (s && t) else decide (T < 0)) = decide (S < 0) := by
  by_cases h : T = 0
  ·rw [if_pos h, h0 (hTS.1 h)]; exact (decide_eq_false (by omega)).symm
  ·rw [if_neg h, Bool.eq_iff_iff]; simp only [decide_eq_true_eq]; exact hneg
 simp only [Option.map, Format.write, hsg]
 rw [nearest_units (e := g) (j := 0) (n := S.natAbs) _ (by omega) (by rw [hT, Int.natAbs_mul, Int.natAbs_natCast]), word_nrst]
theorem sgn_dec {x : Nat} (hx : W x) (r : right x = true) : sgn x = true ↔ dec x < 0 := by
 unfold sgn; rw [decide_eq_true_eq]; exact (dec_neg hx r).symm
theorem add_near {x y : Nat} (hx : W x) (hy : W y) (rx : right x = true) (ry : right y = true) : double.add x y = some (nrst (nz (V (dec x) + V (dec y)))) := by
 obtain ⟨m, e, r1, m1⟩ := read_num hx.lt (right_fin rx)
 obtain ⟨n, f, r2, m2⟩ := read_num hy.lt (right_fin ry)
 unfold Format.add
 rw [r1, r2]
 refine sum_near ?_ ?_
 ·rw [V_dec hx.lt, V_dec hy.lt, m1, m2]
 ·intro h
  cases h1 : sgn x
  ·rfl
  ·cases h2 : sgn y
   ·rfl
   ·exfalso
    have a := V_lt ((sgn_dec hx rx).1 h1)
    have b := V_lt ((sgn_dec hy ry).1 h2)
    rw [V_zero] at a b; omega
theorem sub_near {x y : Nat} (hx : W x) (hy : W y) (rx : right x = true) (ry : right y = true) : double.sub x y = some (nrst (nz (V (dec x) - V (dec y)))) := by
 obtain ⟨m, e, r1, m1⟩ := read_num hx.lt (right_fin rx)
 obtain ⟨n, f, r2, m2⟩ := read_num hy.lt (right_fin ry)
 unfold Format.sub
 rw [r1, r2]
 have op : (Datum.number (sgn y) n (-1074 + (f : Int))).opposite = .number (!sgn y) n (-1074 + (f : Int)) := rfl
 rw [op]
 refine sum_near ?_ ?_
 ·rw [V_dec hx.lt, V_dec hy.lt, m1, m2]
  cases sgn y <;> simp [Int.sub_eq_add_neg]
 ·intro h
  cases h1 : sgn x
  ·rfl
  ·cases h2 : sgn y
   ·exfalso
    have a := V_lt ((sgn_dec hx rx).1 h1)
    have b : ¬ dec y < 0 := by rw [← sgn_dec hy ry, h2]; decide
    have c := V_nonneg.2 (Int.not_lt.1 b)
    rw [V_zero] at a; omega
   ·rfl
end Go.Dy
/- Plain facts: ray.Hit; the law RayUnit. -/
namespace Go.Dy
def o1 : Nat := 4607182418800017408
def far (x y : Nat) : Nat := (dAdd (dMul x x true).1 (dMul y y true).1 true).1
def lft (x y : Nat) : Nat := (dSub o1 (far x y) false).1
def hits (x y : Nat) : Bool := (dIn x y).1 && !(flt (lft x y) 0 || feq (lft x y) 0)
def hX (x y : Nat) : Nat := if hits x y then (dSqrt (far x y) false).1 else 0
def hZ (x y : Nat) : Nat := if hits x y then (dSqrt (lft x y) false).1 else 0
theorem one_big : (one : Int) = 9007199254740992 * (big : Int) := by decide +kernel
theorem big_pos : 0 < (big : Int) := by decide +kernel
end Go.Dy
/- Plain facts: the law RayUnit, as the program tests it. -/
namespace Go.Dy
theorem add_enc {y z : Int} (hy : ok y) (hz : ok z) (h : ok (nz (V y + V z))) : Ieee.double.add (enc y) (enc z) = some (enc (nz (V y + V z))) := by
 rw [add_near (W_enc hy) (W_enc hz) (right_enc hy) (right_enc hz), dec_enc hy, dec_enc hz, nrst_ok h]
end Go.Dy
