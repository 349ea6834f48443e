/- Walks: burnishref01.Mul, Sub. -/
import Derived.Test.YtakdeeknfcifpaaTv
namespace Go.Proofs.Ytakdeeknfcifpaa
open Go Go.RowKit
set_option linter.unusedSimpArgs false
set_option linter.unusedVariables false
open Dy
theorem two_pos (n : Nat) : 0 < 2 ^ n := Nat.two_pow_pos n
theorem fma_some {x y z r : Nat} (h : Ieee.double.fma x y z = some r) (hr : Dy.W r) : nFma [.f x, .f y, .f z] = true ∧ (fmaF x y z).getD 0 = r := by
  have h' : fmaF x y z = some r := h
  refine ⟨?_, by rw [h']; rfl⟩
  show okF (fmaF x y z) = true
  rw [h']; exact decide_eq_true hr.lt
theorem neg_word {s : Bool} {b : Nat} (hb : b < 2 ^ 63) : Op.negFloat .f64 (word s b) = word (!s) b := by
  rw [neg_bits (W_word hb)]
  unfold word
  cases s <;> simp <;> omega
theorem hneg {b : Nat} (hb : Dy.W b) : mN [.f b] = true := decide_eq_true (neg_W hb).lt
theorem ok_small {S : Int} (h1 : -(64 * (one : Int)) ≤ S) (h2 : S ≤ 64 * (one : Int)) : ok (nz S) := by
  have h : (64 : Int) * one ≤ 8388608 * V K1000 := by decide +kernel
  exact ok_rn (by omega) (by omega)
theorem enc_ne {x : Int} (o : ok x) (x0 : x ≠ 0) : feq (enc x) 0 = false ∧ nNzT [.f (enc x)] = true := by
  have e : feq (enc x) 0 = decide (enc x = 0) := feq_right (W_enc o) (right_enc o)
  have h : enc x ≠ 0 := fun h => x0 ((enc_eq_zero o).1 h)
  refine ⟨by rw [e]; exact decide_eq_false h, ?_⟩
  show (right (enc x) && !(enc x == 0)) = true
  rw [right_enc o]; simp [h]
theorem rmul_fin {x y : Int} (up : Bool) (w : World) (ox : ok x) (oy : ok y) (x0 : x ≠ 0) (y0 : y ≠ 0) {f g p cc bk D : Nat} {i k e : Int} (f1 : frT (enc x) = (f, i)) (f2 : frT (enc y) = (g, k)) (hm : Ieee.double.mul f g = some p) (wp : Dy.W p) (ew : IntKind.i64.wrap (i + k) = e) (hL : nLdx [.i e] = true) (hn : nearT p e = (cc, bk)) (wb : Dy.W bk) (hf : Ieee.double.fma f g (Op.negFloat .f64 bk) = some D) (wD : Dy.W D) (hR : sideF cc D up = dMul (enc x) (enc y) up) (hns : nSideT [.f cc] = true) :
    Calls Try.prog 34 #[.float .f64 (enc x), .float .f64 (enc y), .bool up] w fun e w' => e = .returned (.tuple #[.float .f64 (dMul (enc x) (enc y) up).1, .int .i64 (dMul (enc x) (enc y) up).2]) ∧ Below w.heap.size w w' := by
  obtain ⟨hx1, hx2⟩ := enc_ne ox x0
  obtain ⟨hy1, hy2⟩ := enc_ne oy y0
  obtain ⟨k1, k2⟩ := fma_some hf wD
  exact rmul_4 _ _ up w (W_enc ox) (W_enc oy) ((rrT_right (W_enc ox)).trans (right_enc ox)) ((rrT_right (W_enc oy)).trans (right_enc oy)) hx1 hy1 f1 hx2 f2 hy2 (by rw [hm]; rfl) (fn_some hm wp) ew hn hL rfl (hneg wb) k2 k1 hR hns (dMul_W _ _ _)
theorem rmul_mid {x y : Int} (up : Bool) (w : World) (ox : ok x) (oy : ok y) (x0 : x ≠ 0) (y0 : y ≠ 0) :
    Calls Try.prog 34 #[.float .f64 (enc x), .float .f64 (enc y), .bool up] w fun e w' => e = .returned (.tuple #[.float .f64 (dMul (enc x) (enc y) up).1, .int .i64 (dMul (enc x) (enc y) up).2]) ∧ Below w.heap.size w w' := by
  have tp := top_eq
  have d0 := D0_eq
  obtain ⟨q1, i, f1, a1, a2, a3, a4, a5, c1, a6⟩ := fr_spec ox x0
  obtain ⟨q2, k, f2, b1, b2, b3, b4, b5, c2, b6⟩ := fr_spec oy y0
  obtain ⟨g1, g2, g3, g4⟩ := HQ_facts
  have m1 := mag_le_iff.2 a1
  have m2 := mag_le_iff.2 b1
  have m3 : mag q1 < one := by rw [← g4]; exact mag_lt a2
  have m4 : mag q2 < one := by rw [← g4]; exact mag_lt b2
  have q1s : q1 < 2 ^ 63 := by omega
  have q2s : q2 < 2 ^ 63 := by omega
  have q1t : q1 < top := by omega
  have q2t : q2 < top := by omega
  obtain ⟨s, hs⟩ : ∃ s, (decide (x < 0) ^^ decide (y < 0)) = s := ⟨_, rfl⟩
  have o0 : 0 < one := by omega
  have oe := one_eq
  have mq : mag HQ2 * one ≤ mag q1 * mag q2 := by rw [← g2]; exact Nat.mul_le_mul m1 m2
  obtain ⟨P, hP⟩ : ∃ P, nr (mag q1 * mag q2) 1074 = P := ⟨_, rfl⟩
  have P1 : P ≤ 4607182418800017408 := by
    rw [← hP]; refine nr_le ?_
    rw [← oe, g4]; exact Nat.mul_le_mul (Nat.le_of_lt m3) (Nat.le_of_lt m4)
  have P2 : HQ2 ≤ P := by
    rw [← hP]; refine le_nr ?_
    rw [← oe]; exact mq
  have Pm : mag P ≤ one := by rw [← g4]; exact mag_le_iff.2 P1
  have hmul : Ieee.double.mul (word (decide (x < 0)) q1) (word (decide (y < 0)) q2) = some (word s P) := by
    rw [mul_eq (W_word q1s) (W_word q2s) (fin_word q1t) (fin_word q2t)]
    unfold fmul
    rw [sgn_word q1s, sgn_word q2s, word_abs q1s, word_abs q2s, hs, hP, Nat.min_eq_left (by omega)]
  have wP : Dy.W (word s P) := W_word (by omega)
  have hLe : ∀ t, mag t * one ≤ mag q1 * mag q2 → t ≤ P := fun t h => by rw [← hP]; exact le_nr (by rw [← oe]; exact h)
  have hGe : ∀ t, mag q1 * mag q2 ≤ mag t * one → P ≤ t := fun t h => by rw [← hP]; exact nr_le (by rw [← oe]; exact h)
  clear hP oe
  obtain ⟨e, he⟩ : ∃ e, i + k = e := ⟨_, rfl⟩
  obtain ⟨r, b, hr, b7, b8, b9, b10, b11, b12, b13, b14⟩ := near_spec (s := s) (P := P) (e := e) (by omega)
  have ew : IntKind.i64.wrap (i + k) = e := by rw [he, IntKind.wrap_i64]; omega
  have hL : nLdx [.i e] = true := decide_eq_true (show -1000000 ≤ e ∧ e ≤ 1000000 from ⟨by omega, by omega⟩)
  have hR := frac_mul a5 b5 he (by omega) (by omega)
  have T0 := two_pos (D0 + D0)
  generalize 2 ^ (D0 + D0) = T at *
  have C := fun (u v : Nat) (h : u * 2 ^ (-e).toNat = v * 2 ^ e.toNat) => corr (o := one) (Nat.mul_pos T0 (two_pos _)) (Nat.mul_pos T0 (two_pos _)) (lift2 (T := T) h) hR
  have RT := round_two (LeX := fun v => v * one ≤ mag q1 * mag q2) (GeX := fun v => mag q1 * mag q2 ≤ v * one) (LeR := fun u => u * one ≤ mag x.natAbs * mag y.natAbs) (GeR := fun u => mag x.natAbs * mag y.natAbs ≤ u * one) (e := e) (P := P)
    (fun u v h => ⟨(C u v h).1.1, (C u v h).2.1⟩) hLe hGe (Nat.le_trans g3 (mag_le_iff.2 P2)) (fun u h => big_r hR h mq g3 T0 o0)
  rw [hr] at RT
  obtain ⟨bt1, bt2⟩ := between (s := s) (N := mag x.natAbs * mag y.natAbs) (den := one) (r := r) o0 RT.1 RT.2
  have hnum : V x * V y = sg s ((mag x.natAbs * mag y.natAbs : Nat) : Int) := by
    rw [V_sg (x := x), V_sg (x := y), sg_mul, hs, Int.natCast_mul]
  obtain ⟨Q, hQ⟩ : ∃ Q, mag q1 * mag q2 = Q * one := by rw [a6, b6]; exact prod_one
  have Q1 : Q < one := by
    have h := Nat.mul_lt_mul_of_lt_of_lt m3 m4
    rw [hQ] at h
    exact Nat.lt_of_mul_lt_mul_right h
  have Q0 : 0 < Q := by
    rcases Nat.eq_zero_or_pos Q with h | h
    · rw [h, Nat.zero_mul] at hQ
      have : 0 < mag q1 * mag q2 := Nat.mul_pos (by omega) (by omega)
      omega
    · exact h
  obtain ⟨bk, hbk⟩ : ∃ bk, (nearT (word s P) e).2 = bk := ⟨_, rfl⟩
  obtain ⟨cc, hcc⟩ : ∃ cc, (nearT (word s P) e).1 = cc := ⟨_, rfl⟩
  have hnear : nearT (word s P) e = (cc, bk) := by rw [← hbk, ← hcc]
  rw [hcc] at b10 b13
  rw [hbk] at b11 b12
  have hns : nSideT [.f cc] = true := by show (!nan cc) = true; rw [b13]; rfl
  by_cases ht : r < top
  · rw [b11 ht] at hnear
    have eb := neg_word (s := s) (b := b) (by omega)
    have hf := fma_near (x := word (decide (x < 0)) q1) (y := word (decide (y < 0)) q2) (z := word (!s) b) (W_word q1s) (W_word q2s) (W_word (by omega)) (fin_word q1t) (fin_word q2t) (fin_word b9) (S := sg s ((Q : Int) - mag b))
      (by rw [sgn_word q1s, sgn_word q2s, sgn_word (by omega), word_abs q1s, word_abs q2s, word_abs (by omega), hs, hQ, Int.natCast_mul]; exact sub_sg)
      (fun _ => by rw [sgn_word q1s, sgn_word q2s, sgn_word (by omega), hs]; cases s <;> rfl)
    have oS : ok (nz (sg s ((Q : Int) - mag b))) := ok_small (by unfold sg; split <;> omega) (by unfold sg; split <;> omega)
    have cr := C (mag r) (mag b) b7.symm
    rw [hQ] at cr
    obtain ⟨l1, l2⟩ := lack (N := mag x.natAbs * mag y.natAbs) (den := one) (r := r) (Q := Q) (b := mag b) oS rfl rfl
      (cr.1.trans ⟨fun h => Nat.le_of_mul_le_mul_right h o0, fun h => Nat.mul_le_mul_right _ h⟩)
      (cr.2.trans ⟨fun h => Nat.le_of_mul_le_mul_right h o0, fun h => Nat.mul_le_mul_right _ h⟩)
    rw [nrst_ok oS, ← eb] at hf
    refine rmul_fin up w ox oy x0 y0 f1 f2 hmul wP ew hL hnear (W_word (by omega)) hf (W_enc oS) ?_ hns
    rw [dMul_enc ox oy, hnum]
    exact quo_side o0 b10 bt1 bt2 (fun _ => l1) (fun _ => l2)
  · rw [b12 (by omega)] at hnear
    have e0 : Op.negFloat .f64 0 = word true 0 := by decide
    have hf := fma_near (x := word (decide (x < 0)) q1) (y := word (decide (y < 0)) q2) (z := word true 0) (W_word q1s) (W_word q2s) (W_word (by omega)) (fin_word q1t) (fin_word q2t) (fin_word (by omega)) (S := sg s (Q : Int))
      (by rw [sgn_word q1s, sgn_word q2s, sgn_word (by omega), word_abs q1s, word_abs q2s, word_abs (by omega), hs, hQ, Int.natCast_mul]; exact zero_sg)
      (fun h => by exfalso; unfold sg at h; revert h; split <;> omega)
    have oS : ok (nz (sg s (Q : Int))) := ok_small (by unfold sg; split <;> omega) (by unfold sg; split <;> omega)
    have no : ¬ ok (sg s (r : Int)) := by unfold ok sg; split <;> omega
    rw [nrst_ok oS, ← e0] at hf
    refine rmul_fin up w ox oy x0 y0 f1 f2 hmul wP ew hL hnear W_zero hf (W_enc oS) ?_ hns
    rw [dMul_enc ox oy, hnum]
    exact quo_side o0 b10 bt1 bt2 (fun h => absurd h no) (fun h => absurd h no)
end Go.Proofs.Ytakdeeknfcifpaa
