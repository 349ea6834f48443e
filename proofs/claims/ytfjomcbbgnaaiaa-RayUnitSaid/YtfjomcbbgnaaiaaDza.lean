/- Plain facts: the law RayUnit, as the program tests it. -/
import Derived.Test.YtfjomcbbgnaaiaaDyZ
namespace Go.Dy

theorem o1_enc : o1 = enc I1 := by decide
theorem m1_enc : (13830554455654793216 : Nat) = enc (-I1) := by decide
theorem ok_m1 : ok (-I1) := by unfold ok I1; rw [top_eq]; omega
theorem e50_enc : (4382002437431492608 : Nat) = enc E50 := by decide
theorem ok_e50 : ok E50 := by unfold ok E50; rw [top_eq]; omega

theorem may_high {x : Nat} (hx : W x) (r : right x = true) : (flt x 4607182418800017408 || feq x 4607182418800017408) = decide (dec x ≤ I1) := by
  rw [fle_dec hx W_one r right_one, dec_one]; rfl
theorem may_low {x : Nat} (hx : W x) (r : right x = true) : (fgt x 13830554455654793216 || feq x 13830554455654793216) = decide (-I1 ≤ dec x) := by
  rw [m1_enc, fge_dec hx (W_enc ok_m1) r (right_enc ok_m1), dec_enc ok_m1]
theorem may_both {x : Nat} (r : right x = true) : may x = (decide (-I1 ≤ dec x) && decide (dec x ≤ I1)) := by
  unfold may I1
  rw [r, Bool.true_and, Bool.eq_iff_iff]
  simp only [Bool.and_eq_true, decide_eq_true_eq]; omega

theorem add_enc {y z : Int} (hy : ok y) (hz : ok z) (h : ok (nz (V y + V z))) : Ieee.double.add (enc y) (enc z) = some (enc (nz (V y + V z))) := by
  rw [add_near (W_enc hy) (W_enc hz) (right_enc hy) (right_enc hz), dec_enc hy, dec_enc hz, nrst_ok h]
theorem sub_enc {y z : Int} (hy : ok y) (hz : ok z) (h : ok (nz (V y - V z))) : Ieee.double.sub (enc y) (enc z) = some (enc (nz (V y - V z))) := by
  rw [sub_near (W_enc hy) (W_enc hz) (right_enc hy) (right_enc hz), dec_enc hy, dec_enc hz, nrst_ok h]

theorem abs_le {z e : Int} (hz : ok z) (he : ok e) (h1 : -e ≤ z) (h2 : z ≤ e) : (flt (abs (enc z)) (enc e) || feq (abs (enc z)) (enc e)) = true := by
  rw [fle_dec (W_abs _) (W_enc he) (right_abs (right_enc hz)) (right_enc he), dec_abs (W_enc hz) (right_enc hz), dec_enc hz, dec_enc he]
  exact decide_eq_true (by omega)

/-- RayUnit, of a point that hits. -/
structure Unit25 (x y X Z a b c d s1 s2 s3 s4 : Nat) : Prop where
  eX : hX x y = X
  eZ : hZ x y = Z
  wX : W X
  wZ : W Z
  x0 : (fgt X 0 || feq X 0) = true
  x1 : (flt X 4607182418800017408 || feq X 4607182418800017408) = true
  z0 : fgt Z 0 = true
  z1 : (flt Z 4607182418800017408 || feq Z 4607182418800017408) = true
  ma : dMul X X true = (a, 0)
  mb : dMul Z Z true = (b, 0)
  mc : dMul x x true = (c, 0)
  md : dMul y y true = (d, 0)
  p1 : Ieee.double.add a b = some s1
  p2 : Ieee.double.sub s1 4607182418800017408 = some s2
  p3 : Ieee.double.sub a c = some s3
  p4 : Ieee.double.sub s3 d = some s4
  w2 : W s2
  w4 : W s4
  t2 : (flt (abs s2) 4382002437431492608 || feq (abs s2) 4382002437431492608) = true
  t4 : (flt (abs s4) 4382002437431492608 || feq (abs s4) 4382002437431492608) = true

theorem unit_of {x y : Nat} (h : hits x y = true) : ∃ X Z a b c d s1 s2 s3 s4 : Nat, Unit25 x y X Z a b c d s1 s2 s3 s4 := by
  obtain ⟨mx, my, _, _⟩ := hits_may h
  obtain ⟨C, D, F, P⟩ := pnt_of mx my
  obtain ⟨L, X, Z, H⟩ := hit_of P h
  obtain ⟨⟨q1, q2, q3, q4⟩, q5, q6, q7, q8⟩ := unit_sums P H rfl rfl
  obtain ⟨x0, x1, a0, aF, _, _⟩ := root_square H.f0 (Int.le_of_lt H.f1) H.x0 rfl
  obtain ⟨z0, z1, b0, bL, _, zp⟩ := root_square (Int.le_of_lt H.l0) H.l1 H.z0 rfl
  have zp := zp H.l0
  have f1 := H.f1
  have l1 := H.l1
  have small : ∀ {z : Int}, -I1 ≤ z → z ≤ I1 → ok z := fun {z} h1 h2 => ok_of (by unfold I1 at *; omega) (by omega)
  have i0 : (0 : Int) < I1 := by unfold I1; omega
  have oX : ok X := small (by omega) x1
  have oZ : ok Z := small (by omega) z1
  have oA := small (z := fl (V X * V X) one true) (by omega) (by omega)
  have oB := small (z := fl (V Z * V Z) one true) (by omega) (by omega)
  have oC : ok C := small (by have := P.c0; omega) P.c1
  have oD : ok D := small (by have := P.d0; omega) P.d1
  have E1 : E50 ≤ I1 := by unfold E50 I1; omega
  have e8 : (8 : Int) ≤ I1 := by unfold I1; omega
  have oS1 := small (z := nz (V (fl (V X * V X) one true) + V (fl (V Z * V Z) one true))) (by omega) q2
  have oS2 := small (by omega : -I1 ≤ nz (V (nz (V (fl (V X * V X) one true) + V (fl (V Z * V Z) one true))) - one)) (by omega)
  have oS3 := small q5 q6
  have oS4 := small (by omega : -I1 ≤ nz (V (nz (V (fl (V X * V X) one true) - V C)) - V D)) (by omega)
  have hz : (0 : Nat) = enc 0 := by decide
  have ok0 : ok 0 := small (by omega) (by omega)
  refine ⟨enc X, enc Z, _, _, _, _, _, _, _, _, H.eX, H.eZ, W_enc oX, W_enc oZ, ?_, ?_, ?_, ?_, ?_, ?_, P.ec, P.ed, add_enc oA oB oS1, ?_, sub_enc oA oC oS3, sub_enc oS3 oD oS4, W_enc oS2, W_enc oS4, ?_, ?_⟩
  · rw [hz, fge_enc oX ok0]; exact decide_eq_true x0
  · rw [show (4607182418800017408 : Nat) = enc I1 from o1_enc, fle_enc oX ok_I1]; exact decide_eq_true x1
  · rw [hz, fgt_enc oZ ok0]; exact decide_eq_true zp
  · rw [show (4607182418800017408 : Nat) = enc I1 from o1_enc, fle_enc oZ ok_I1]; exact decide_eq_true z1
  · rw [dMul_enc oX oX, out_mid oA]
  · rw [dMul_enc oZ oZ, out_mid oB]
  · rw [show (4607182418800017408 : Nat) = enc I1 from o1_enc]
    have := sub_enc oS1 ok_I1 (by rw [V_one]; exact oS2)
    rw [V_one] at this; exact this
  · rw [e50_enc]; exact abs_le oS2 ok_e50 q3 q4
  · rw [e50_enc]; exact abs_le oS4 ok_e50 q7 q8

theorem dIn_may {x y : Nat} (mx : may x = true) (my : may y = true) : dIn x y = (inB x y, 0) := by unfold dIn; rw [mx, my]; rfl
theorem dIn_wrong {x y : Nat} (h : may x = false ∨ may x = true ∧ may y = false) : dIn x y = (false, 2) := by
  unfold dIn
  rcases h with h | ⟨h, h'⟩
  · rw [h]; rfl
  · rw [h, h']; rfl
theorem hits_wrong {x y : Nat} (h : (dIn x y).1 = false) : hits x y = false := by unfold hits; rw [h]; rfl
theorem hX_no {x y : Nat} (h : hits x y = false) : hX x y = 0 := by unfold hX; rw [h]; rfl
theorem hZ_no {x y : Nat} (h : hits x y = false) : hZ x y = 0 := by unfold hZ; rw [h]; rfl
end Go.Dy
