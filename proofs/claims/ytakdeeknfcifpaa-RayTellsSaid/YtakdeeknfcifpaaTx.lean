/- Walks: burnishref01.Div. -/
import Derived.Test.YtakdeeknfcifpaaTw
namespace Go.Proofs.Ytakdeeknfcifpaa
open Go Go.RowKit
set_option linter.unusedSimpArgs false
set_option linter.unusedVariables false
open Dy
theorem dneg1 (n : Int) : decide (n < 0) = decide (0 < -n) := by congr 1; rw [eq_iff_iff]; omega
theorem dneg2 (n : Int) : decide (0 < n) = decide (-n < 0) := by congr 1; rw [eq_iff_iff]; omega
theorem half_le {a b o : Nat} (h1 : a ≤ o) (h2 : o ≤ 2 * b) : a * o ≤ 2 * o * b := by
  have k1 : a * o ≤ o * o := Nat.mul_le_mul_right _ h1
  have k2 : o * o ≤ o * (2 * b) := Nat.mul_le_mul_left _ h2
  have k3 : o * (2 * b) = 2 * o * b := by ac_rfl
  omega
theorem pow_two_eq {a b c d : Nat} (h : a + b = c + d) : 2 ^ a * 2 ^ b = 2 ^ c * 2 ^ d := by rw [← Nat.pow_add, ← Nat.pow_add, h]
theorem two_facts : mag 4611686018427387904 = 2 * one := by decide +kernel
/-- The end of a quotient: the sign is turned where the divisor is below 0. -/
theorem rdiv_fin {x y : Int} (up : Bool) (w : World) (ox : ok x) (oy : ok y) (x0 : x ≠ 0) (y0 : y ≠ 0) {f p cc bk q : Nat} {i k e D : Int} (f1 : frT (enc x) = (f, i)) (f2 : frT (enc y) = (word (decide (y < 0)) q, k)) (hq : q < top) (hq0 : q ≠ 0) (hm : Ieee.double.div f (word (decide (y < 0)) q) = some p) (wp : Dy.W p) (ew : IntKind.i64.wrap (i - k) = e) (hL : nLdx [.i e] = true) (hn : nearT p e = (cc, bk)) (wb : Dy.W bk) (hf : Ieee.double.fma (Op.negFloat .f64 bk) (word (decide (y < 0)) q) f = some (enc D)) (oD : ok D)
    (hR : ∀ d' : Nat, Dy.W d' → fgt d' 0 = (if y < 0 then flt (enc D) 0 else fgt (enc D) 0) → flt d' 0 = (if y < 0 then fgt (enc D) 0 else flt (enc D) 0) → sideF cc d' up = dDiv (enc x) (enc y) up) (hns : nSideT [.f cc] = true) :
    Calls Try.prog 69 #[.float .f64 (enc x), .float .f64 (enc y), .bool up] w fun e w' => e = .returned (.tuple #[.float .f64 (dDiv (enc x) (enc y) up).1, .int .i64 (dDiv (enc x) (enc y) up).2]) ∧ Below w.heap.size w w' := by
  obtain ⟨hx1, hx2⟩ := enc_ne ox x0
  obtain ⟨hy1, hy2⟩ := enc_ne oy y0
  obtain ⟨k1, k2⟩ := fma_some hf (W_enc oD)
  obtain ⟨we, wo⟩ := word_enc (s := decide (y < 0)) hq hq0
  have hg : flt (word (decide (y < 0)) q) 0 = decide (y < 0) := by
    rw [we, (sign_enc wo).2, V_sgr]
    have : 0 < mag q := by have := @mag_lt 0 q (by omega); rw [mag_zero] at this; exact this
    by_cases h : y < 0
    · rw [decide_eq_true h]; exact decide_eq_true (by show -(mag q : Int) < 0; omega)
    · rw [decide_eq_false h]; exact decide_eq_false (by show ¬ (mag q : Int) < 0; omega)
  obtain ⟨n1, n2⟩ := neg_sign oD
  by_cases h : y < 0
  · rw [decide_eq_true h] at hg
    exact rdiv_4 _ _ up w (W_enc ox) (W_enc oy) ((rrT_right (W_enc ox)).trans (right_enc ox)) ((rrT_right (W_enc oy)).trans (right_enc oy)) hy1 hx1 f1 hx2 f2 hy2 (by rw [hm]; rfl) (fn_some hm wp) ew hn hL rfl (hneg wb) k2 k1 (by rw [← decide_eq_true h] at hg; rw [← decide_eq_true h]; exact hg) rfl (hneg (W_enc oD)) (hR _ (neg_W (W_enc oD)) (by rw [if_pos h]; exact n1) (by rw [if_pos h]; exact n2)) hns (dDiv_W _ _ _)
  · rw [decide_eq_false h] at hg
    exact rdiv_5 _ _ up w (W_enc ox) (W_enc oy) ((rrT_right (W_enc ox)).trans (right_enc ox)) ((rrT_right (W_enc oy)).trans (right_enc oy)) hy1 hx1 f1 hx2 f2 hy2 (by rw [hm]; rfl) (fn_some hm wp) ew hn hL rfl (hneg wb) k2 k1 (by rw [← decide_eq_false h] at hg; rw [← decide_eq_false h]; exact hg) (hR _ (W_enc oD) (by rw [if_neg h]) (by rw [if_neg h])) hns (dDiv_W _ _ _)
theorem rdiv_mid {x y : Int} (up : Bool) (w : World) (ox : ok x) (oy : ok y) (x0 : x ≠ 0) (y0 : y ≠ 0) :
    Calls Try.prog 69 #[.float .f64 (enc x), .float .f64 (enc y), .bool up] w fun e w' => e = .returned (.tuple #[.float .f64 (dDiv (enc x) (enc y) up).1, .int .i64 (dDiv (enc x) (enc y) up).2]) ∧ Below w.heap.size w w' := by
  have tp := top_eq
  have d0 := D0_eq
  obtain ⟨q1, i, f1, a1, a2, a3, a4, a5, c1, a6⟩ := fr_spec ox x0
  obtain ⟨q2, k, f2, b1, b2, b3, b4, b5, c2, b6⟩ := fr_spec oy y0
  obtain ⟨g1, g2, g3, g4⟩ := HQ_facts
  have gt := two_facts
  have m1 := mag_le_iff.2 a1
  have m2 := mag_le_iff.2 b1
  have m3 : mag q1 < one := by rw [← g4]; exact mag_lt a2
  have m4 : mag q2 < one := by rw [← g4]; exact mag_lt b2
  have h1m : HQ1 = 4602678819172646912 := rfl
  have q1s : q1 < 2 ^ 63 := by omega
  have q2s : q2 < 2 ^ 63 := by omega
  have q1t : q1 < top := by omega
  have q2t : q2 < top := by omega
  obtain ⟨s, hs⟩ : ∃ s, (decide (x < 0) ^^ decide (y < 0)) = s := ⟨_, rfl⟩
  have o0 : 0 < one := by omega
  obtain ⟨P, hdiv, hLe, hGe⟩ := div_near (x := word (decide (x < 0)) q1) (y := word (decide (y < 0)) q2) (W_word q1s) (W_word q2s) (fin_word q1t) (fin_word q2t) (by rw [word_abs q2s]; omega)
  rw [word_abs q1s, word_abs q2s] at hLe hGe
  rw [sgn_word q1s, sgn_word q2s, hs] at hdiv
  have P1 : P ≤ 4611686018427387904 := hGe _ (by
    rw [gt]; exact half_le (Nat.le_of_lt m3) (by omega))
  have P2 : HQ1 ≤ P := hLe _ (Nat.mul_le_mul m1 (Nat.le_of_lt m4))
  have Pm : mag P ≤ 2 * one := by rw [← gt]; exact mag_le_iff.2 P1
  rw [Nat.min_eq_left (by omega)] at hdiv
  have wP : Dy.W (word s P) := W_word (by omega)
  obtain ⟨e, he⟩ : ∃ e, i - k = e := ⟨_, rfl⟩
  obtain ⟨r, b, hr, b7, b8, b9, b10, b11, b12, b13, b14⟩ := near_spec (s := s) (P := P) (e := e) Pm
  have ew : IntKind.i64.wrap (i - k) = e := by rw [he, IntKind.wrap_i64]; omega
  have hL : nLdx [.i e] = true := decide_eq_true (show -1000000 ≤ e ∧ e ≤ 1000000 from ⟨by omega, by omega⟩)
  have hx : 2 ^ ((D0 : Int) + i).toNat * 2 ^ (-e).toNat = 2 ^ ((D0 : Int) + k).toNat * 2 ^ e.toNat := pow_two_eq (by omega)
  obtain ⟨m53, hm53⟩ := back53 P2 hr b7 b14
  have T0 := two_pos D0
  have Ti := two_pos ((D0 : Int) + i).toNat
  have Tk := two_pos ((D0 : Int) + k).toNat
  have C := fun (u v : Nat) (h : u * 2 ^ (-e).toNat = v * 2 ^ e.toNat) => corr2 (o := one) a5 b5 h hx T0 (two_pos _) Tk (two_pos _)
  have RT := round_two (LeX := fun v => v * mag q2 ≤ mag q1 * one) (GeX := fun v => mag q1 * one ≤ v * mag q2) (LeR := fun u => u * mag y.natAbs ≤ mag x.natAbs * one) (GeR := fun u => mag x.natAbs * one ≤ u * mag y.natAbs) (e := e) (P := P)
    (fun u v h => ⟨(C u v h).1.1, (C u v h).2.1⟩) hLe hGe (Nat.le_trans (Nat.le_trans g3 (mag_le_iff.2 (show HQ2 ≤ HQ1 by decide))) (mag_le_iff.2 P2)) (fun u h => big_r2 a5 b5 hx Tk o0 h m1 (Nat.le_of_lt m4) (Nat.le_trans g3 (mag_le_iff.2 (show HQ2 ≤ HQ1 by decide))))
  rw [hr] at RT
  have my0 : 0 < mag y.natAbs := by have := @mag_lt 0 y.natAbs (by omega); rw [mag_zero] at this; exact this
  obtain ⟨bt1, bt2⟩ := between (s := s) (N := mag x.natAbs * one) (den := mag y.natAbs) (r := r) my0 RT.1 RT.2
  have hout : dDiv (enc x) (enc y) up = out (fl (sg s ((mag x.natAbs * one : Nat) : Int)) (mag y.natAbs) up) up := by
    unfold dDiv divR
    rw [right_enc ox, right_enc oy, if_neg (by decide), if_neg (by rw [enc_eq_zero oy]; exact y0), dec_enc ox, dec_enc oy, V_natAbs, V_sg (x := x), Int.natCast_mul]
    by_cases h : y < 0
    · rw [if_pos h]
      have es : sg s ((mag x.natAbs : Int) * one) = -(sg (decide (x < 0)) (mag x.natAbs : Int) * one) := by
        rw [← hs, decide_eq_true h]; cases decide (x < 0) <;> simp [sg, Int.neg_mul]
      rw [es]
    · rw [if_neg h]
      have es : sg s ((mag x.natAbs : Int) * one) = sg (decide (x < 0)) (mag x.natAbs : Int) * one := by
        rw [← hs, decide_eq_false h]; cases decide (x < 0) <;> simp [sg, Int.neg_mul]
      rw [es]
  obtain ⟨bk, hbk⟩ : ∃ bk, (nearT (word s P) e).2 = bk := ⟨_, rfl⟩
  obtain ⟨cc, hcc⟩ : ∃ cc, (nearT (word s P) e).1 = cc := ⟨_, rfl⟩
  have hnear : nearT (word s P) e = (cc, bk) := by rw [← hbk, ← hcc]
  rw [hcc] at b10 b13
  rw [hbk] at b11 b12
  have hns : nSideT [.f cc] = true := by show (!nan cc) = true; rw [b13]; rfl
  have q2n : q2 ≠ 0 := by omega
  by_cases ht : r < top
  · rw [b11 ht] at hnear
    obtain ⟨Q, hQ⟩ : ∃ Q, mag b * mag q2 = Q * one := by rw [hm53, b6]; exact prod_one2
    have Q1 : Q ≤ 4 * one := by
      have h := Nat.mul_le_mul b8 (Nat.le_of_lt m4)
      rw [hQ] at h
      exact Nat.le_of_mul_le_mul_right h o0
    have eb := neg_word (s := s) (b := b) (by omega)
    have hsx : ((!s) ^^ decide (y < 0)) = !decide (x < 0) := by rw [← hs]; cases decide (x < 0) <;> cases decide (y < 0) <;> rfl
    have hf := fma_near (x := word (!s) b) (y := word (decide (y < 0)) q2) (z := word (decide (x < 0)) q1) (W_word (by omega)) (W_word q2s) (W_word q1s) (fin_word b9) (fin_word q2t) (fin_word q1t) (S := sg (decide (x < 0)) ((mag q1 : Int) - Q))
      (by rw [sgn_word q1s, sgn_word q2s, sgn_word (by omega), word_abs q1s, word_abs q2s, word_abs (by omega), hsx, hQ, Int.natCast_mul]; exact sub_sg2)
      (fun _ => by rw [sgn_word q1s, sgn_word q2s, sgn_word (by omega), hsx]; cases decide (x < 0) <;> rfl)
    have oS : ok (nz (sg (decide (x < 0)) ((mag q1 : Int) - Q))) := ok_small (by unfold sg; split <;> omega) (by unfold sg; split <;> omega)
    have cr := C (mag r) (mag b) b7.symm
    rw [hQ] at cr
    rw [nrst_ok oS, ← eb] at hf
    -- the sign with the divisor's
    have oS2 : ok (nz (sg s ((mag q1 : Int) - Q))) := ok_small (by unfold sg; split <;> omega) (by unfold sg; split <;> omega)
    obtain ⟨l1, l2⟩ := lack (N := mag x.natAbs * one) (den := mag y.natAbs) (r := r) (Q := mag q1) (b := Q) oS2 rfl rfl
      (cr.1.trans ⟨fun h => Nat.le_of_mul_le_mul_right h o0, fun h => Nat.mul_le_mul_right _ h⟩)
      (cr.2.trans ⟨fun h => Nat.le_of_mul_le_mul_right h o0, fun h => Nat.mul_le_mul_right _ h⟩)
    obtain ⟨v1, v2⟩ := sign_enc oS
    obtain ⟨u1, u2⟩ := sign_enc oS2
    have hV : y < 0 → V (nz (sg s ((mag q1 : Int) - Q))) = -V (nz (sg (decide (x < 0)) ((mag q1 : Int) - Q))) := fun h => by
      rw [← hs, decide_eq_true h]
      have : sg (decide (x < 0) ^^ true) ((mag q1 : Int) - Q) = -sg (decide (x < 0)) ((mag q1 : Int) - Q) := by cases decide (x < 0) <;> simp [sg]
      rw [this, nz_neg, V_neg]
    have hV2 : ¬ y < 0 → V (nz (sg s ((mag q1 : Int) - Q))) = V (nz (sg (decide (x < 0)) ((mag q1 : Int) - Q))) := fun h => by
      rw [← hs, decide_eq_false h, Bool.xor_false]
    refine rdiv_fin up w ox oy x0 y0 f1 f2 q2t q2n hdiv wP ew hL hnear (W_word (by omega)) hf oS (fun d' wd k1 k2 => ?_) hns
    have k1' : fgt d' 0 = fgt (enc (nz (sg s ((mag q1 : Int) - Q)))) 0 := by
      rw [k1, u1, v1, v2]
      by_cases h : y < 0
      · rw [if_pos h, hV h]; exact dneg1 _
      · rw [if_neg h, hV2 h]
    have k2' : flt d' 0 = flt (enc (nz (sg s ((mag q1 : Int) - Q)))) 0 := by
      rw [k2, u2, v1, v2]
      by_cases h : y < 0
      · rw [if_pos h, hV h]; exact dneg2 _
      · rw [if_neg h, hV2 h]
    rw [hout]
    exact quo_side my0 b10 bt1 bt2 (fun _ => k1'.trans l1) (fun _ => k2'.trans l2)
  · rw [b12 (by omega)] at hnear
    have e0 : Op.negFloat .f64 0 = word true 0 := by decide
    have q1n : 0 < mag q1 := by omega
    have hf := fma_near (x := word true 0) (y := word (decide (y < 0)) q2) (z := word (decide (x < 0)) q1) (W_word (by omega)) (W_word q2s) (W_word q1s) (fin_word (by omega)) (fin_word q2t) (fin_word q1t) (S := sg (decide (x < 0)) (mag q1 : Int))
      (by
        rw [sgn_word q1s, sgn_word q2s, sgn_word (by omega), word_abs q1s, word_abs q2s, word_abs (by omega), mag_zero, Nat.zero_mul]
        have : ∀ t : Bool, sg t ((0 : Nat) : Int) = 0 := fun t => by cases t <;> rfl
        rw [this, Int.zero_add])
      (fun h => by exfalso; unfold sg at h; revert h; split <;> omega)
    have oS : ok (nz (sg (decide (x < 0)) (mag q1 : Int))) := ok_small (by unfold sg; split <;> omega) (by unfold sg; split <;> omega)
    have no : ¬ ok (sg s (r : Int)) := by unfold ok sg; split <;> omega
    rw [nrst_ok oS, ← e0] at hf
    refine rdiv_fin up w ox oy x0 y0 f1 f2 q2t q2n hdiv wP ew hL hnear W_zero hf oS (fun d' wd k1 k2 => ?_) hns
    rw [hout]
    exact quo_side my0 b10 bt1 bt2 (fun h => absurd h no) (fun h => absurd h no)
end Go.Proofs.Ytakdeeknfcifpaa
