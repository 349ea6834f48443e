/- Plain facts: the laws RayTurned and RayNear. -/
import Derived.Test.YtinhbebjlbnejaaDoorDb
namespace Go.Dy
open Ieee

theorem dAdd_comm (a b : Nat) (up : Bool) : dAdd a b up = dAdd b a up := by
  unfold dAdd addR; rw [Bool.and_comm, Int.add_comm]

theorem may_of_dec {x x' : Nat} (h : right x' = true) (m : may x = true) (e : (dec x').natAbs = (dec x).natAbs) : may x' = true := by
  obtain ⟨_, hm⟩ := may_right m
  unfold may; rw [h, Bool.true_and, e]; exact decide_eq_true hm

theorem sq_same {x x' : Nat} (e : (dec x').natAbs = (dec x).natAbs) : V (dec x') * V (dec x') = V (dec x) * V (dec x) := by
  rw [V_sq_abs, e, ← V_sq_abs]

theorem dMul_same {x x' : Nat} {up : Bool} (r : right x = true) (r' : right x' = true) (e : (dec x').natAbs = (dec x).natAbs) : dMul x' x' up = dMul x x up := by
  rw [dMul_out r' r', dMul_out r r, sq_same e]

/-- What is looked at, of points whose squares are the same. -/
structure SameHit (x y x' y' : Nat) : Prop where
  i : dIn x' y' = dIn x y
  h : hits x' y' = hits x y
  X : hX x' y' = hX x y
  Z : hZ x' y' = hZ x y

theorem same_of_far {x y x' y' : Nat} (i : dIn x' y' = dIn x y) (f : far x' y' = far x y) : SameHit x y x' y' := by
  have l : lft x' y' = lft x y := by unfold lft; rw [f]
  have h : hits x' y' = hits x y := by unfold hits; rw [i, l]
  exact ⟨i, h, by unfold hX; rw [h, f], by unfold hZ; rw [h, l]⟩

theorem same_swap {x y : Nat} (mx : may x = true) (my : may y = true) : SameHit x y y x := by
  refine same_of_far ?_ ?_
  · rw [dIn_may mx my, dIn_may my mx]
    unfold inB; rw [Int.add_comm]
  · unfold far; rw [dAdd_comm]

theorem same_sign {x y x' y' : Nat} (mx : may x = true) (my : may y = true) (rx : right x' = true) (ry : right y' = true) (ex : (dec x').natAbs = (dec x).natAbs) (ey : (dec y').natAbs = (dec y).natAbs) : SameHit x y x' y' := by
  refine same_of_far ?_ ?_
  · rw [dIn_may mx my, dIn_may (may_of_dec rx mx ex) (may_of_dec ry my ey)]
    unfold inB; rw [sq_same ex, sq_same ey]
  · unfold far; rw [dMul_same (may_right mx).1 rx ex, dMul_same (may_right my).1 ry ey]

/-- 0 - x. -/
theorem zero_sub {x : Nat} (hx : W x) (r : right x = true) : double.sub 0 x = some (minus x) := by
  obtain ⟨h1, h2, h3⟩ := minus_dec hx r
  rw [sub_near W_zero hx right_zero r, dec_zero, V_zero]
  have e : nz (0 - V (dec x)) = dec (minus x) := by
    have v : 0 - V (dec x) = V (-dec x) := by rw [V_neg]; omega
    rw [v, h2]
    exact Int.le_antisymm (nz_le (Int.le_refl _)) (le_nz (Int.le_refl _))
  rw [e, nrst_ok (ok_dec h3 h1), enc_of_dec h3 h1]

/-- p by 2^16: a number from 0 to 1. -/
theorem frac_of {p : Nat} (hp : p < 65536) : ∃ r : Nat, double.div (fi p) 4679240012837945344 = some r ∧ r ≤ 4607182418800017408 := by
  obtain ⟨f1, f2, f3, f4⟩ := fi_spec (m := p) (by omega)
  have g1 : fin 4679240012837945344 := by unfold fin; decide +kernel
  have g2 : mag (4679240012837945344 % 2 ^ 63) = 65536 * one := by decide +kernel
  have g3 : sgn 4679240012837945344 = false := by decide +kernel
  obtain ⟨r, e, _, h⟩ := div_near (x := fi p) (y := 4679240012837945344) f2 (by unfold W; omega) f1 g1 (by decide)
  have h1 : r ≤ 4607182418800017408 := by
    refine h _ ?_
    rw [f4, g2, mag_one]
    have : one * (65536 * one) = 65536 * one * one := Nat.mul_comm _ _
    rw [this]
    exact Nat.mul_le_mul_right _ (Nat.mul_le_mul_right _ (by omega))
  refine ⟨r, ?_, h1⟩
  rw [e, f3, g3, Nat.min_eq_left (by rw [top_eq]; omega)]
  rfl

/-- A part of a number's magnitude, down: it is no greater. -/
theorem part_of {x r : Nat} (hx : W x) (mx : may x = true) (hr : r ≤ 4607182418800017408) :
    ∃ U : Int, 0 ≤ U ∧ U ≤ ((dec x).natAbs : Int) ∧ ok U ∧ dMul (abs x) r false = (enc U, 0) ∧ may (enc U) = true := by
  obtain ⟨rx, hm⟩ := may_right mx
  obtain ⟨d1, d2, d3⟩ := dec_small hr
  have ra := right_abs rx
  have da := dec_abs hx rx
  have v0 : 0 ≤ V ((dec x).natAbs : Int) := V_nonneg.2 (by omega)
  have vr : V (dec r) ≤ one := by
    rw [← V_one]; refine V_le_iff.2 ?_
    rw [d1]; unfold I1; omega
  have vr0 : 0 ≤ V (dec r) := V_nonneg.2 (by rw [d1]; omega)
  have u0 : 0 ≤ fl (V ((dec x).natAbs : Int) * V (dec r)) one false := fl_nonneg one_pos (Int.mul_nonneg v0 vr0)
  have u1 : fl (V ((dec x).natAbs : Int) * V (dec r)) one false ≤ ((dec x).natAbs : Int) := by
    refine Int.le_trans (fl_le_up one_pos) ((fl_up one_pos).2 ?_)
    exact Int.mul_le_mul_of_nonneg_left vr v0
  have oU : ok (fl (V ((dec x).natAbs : Int) * V (dec r)) one false) := ok_of (by unfold I1; omega) (by unfold I1; omega)
  refine ⟨_, u0, u1, oU, ?_, ?_⟩
  · rw [dMul_out ra d3, da, out_mid oU]
  · unfold may
    rw [right_enc oU, dec_enc oU, Bool.true_and]
    exact decide_eq_true (by omega)

theorem sq_le_of {u x : Nat} {U : Int} (oU : ok U) (e : u = enc U) (h0 : 0 ≤ U) (h1 : U ≤ ((dec x).natAbs : Int)) : V (dec u) * V (dec u) ≤ V (dec x) * V (dec x) := by
  rw [e, dec_enc oU, V_sq_abs (dec x)]
  have a := V_le_iff.2 h1
  have b := V_nonneg.2 h0
  exact Int.mul_le_mul a a b (by omega)

/-- Nearer to the middle: what hits hits, and Z is no less, X no greater. -/
theorem nearer {x y u v : Nat} (mx : may x = true) (my : may y = true) (mu : may u = true) (mv : may v = true)
    (su : V (dec u) * V (dec u) ≤ V (dec x) * V (dec x)) (sv : V (dec v) * V (dec v) ≤ V (dec y) * V (dec y)) (h : hits x y = true) :
    hits u v = true ∧ (fgt (hZ u v) (hZ x y) || feq (hZ u v) (hZ x y)) = true ∧ (flt (hX u v) (hX x y) || feq (hX u v) (hX x y)) = true := by
  obtain ⟨_, _, hin, hl⟩ := hits_may h
  obtain ⟨C, D, F, P⟩ := pnt_of mx my
  obtain ⟨C', D', F', P'⟩ := pnt_of mu mv
  obtain ⟨L, X, Z, H⟩ := hit_of P h
  have hC : C' ≤ C := by rw [P.fc, P'.fc]; exact fl_mono one_pos su
  have hD : D' ≤ D := by rw [P.fd, P'.fd]; exact fl_mono one_pos sv
  have hF : F' ≤ F := by
    rw [P.ff, P'.ff]
    have := V_le_iff.2 hC
    have := V_le_iff.2 hD
    exact fl_mono (by omega) (by omega)
  have hL : fl ((one : Int) - V F) 1 false ≤ fl ((one : Int) - V F') 1 false := by
    have := V_le_iff.2 hF
    exact fl_mono (by omega) (by omega)
  have l0 := H.l0
  rw [H.eL] at l0
  have hh : hits u v = true := by
    unfold hits
    rw [dIn_may mu mv, lft_pos P'.okl P'.el]
    have i1 : inB u v = true := by
      unfold inB at hin ⊢
      rw [decide_eq_true_eq] at hin
      exact decide_eq_true (by omega)
    rw [i1, decide_eq_false (by omega)]; rfl
  obtain ⟨L', X', Z', H'⟩ := hit_of P' hh
  refine ⟨hh, ?_, ?_⟩
  · rw [H.eZ, H'.eZ]
    have oL : ok L := by rw [H.eL]; exact P.okl
    have oL' : ok L' := by rw [H'.eL]; exact P'.okl
    rw [fge_enc (by rw [H'.z0]; exact sqz_ok (by have := H'.l0; omega) oL') (by rw [H.z0]; exact sqz_ok (by have := H.l0; omega) oL)]
    refine decide_eq_true ?_
    rw [H.z0, H'.z0]
    exact sqz_mono (by have := H.l0; omega) (by rw [H.eL, H'.eL]; exact hL)
  · rw [H.eX, H'.eX]
    have oF : ok F := ok_of (by have := P.f0; unfold I1; omega) P.f1
    have oF' : ok F' := ok_of (by have := P'.f0; unfold I1; omega) P'.f1
    rw [fle_enc (by rw [H'.x0]; exact sqz_ok P'.f0 oF') (by rw [H.x0]; exact sqz_ok P.f0 oF)]
    refine decide_eq_true ?_
    rw [H.x0, H'.x0]
    exact sqz_mono P'.f0 hF
end Go.Dy
