/- Walks: burnishref07.Value, Cap are those of lambert. -/
import Derived.Test.YtnbdjpnnagpldaaGreatME
import Derived.Test.YtnbdjpnnagpldaaGreatLm
namespace Go.Proofs.YtnbdjpnnagpldaaGreat
open Go Go.RowKit
set_option linter.unusedSimpArgs false
set_option linter.unusedVariables false
open Dy
theorem minusT_eq {b : Nat} (hb : Dy.W b) (rb : right b = true) : minusT b = minus b := by
  have h : feq b 0 = decide (b = 0) := feq_right hb rb
  unfold minusT
  rw [h, neg_bits hb]
  unfold minus
  by_cases b0 : b = 0
  · subst b0; rfl
  · rw [if_neg (by simpa using b0), if_neg b0]
    by_cases h63 : b < 2 ^ 63
    · rw [if_pos h63, if_pos h63]; omega
    · rw [if_neg h63, if_neg h63]
theorem dmax_comm {x y : Nat} (hx : Dy.W x) (hy : Dy.W y) (rx : right x = true) (ry : right y = true) : dmax x y = dmax y x := by
  unfold dmax
  rcases Int.lt_trichotomy (dec x) (dec y) with h | h | h
  · rw [if_pos h, if_neg (by omega)]
  · rw [if_neg (by omega), if_neg (by omega), ← enc_of_dec hx rx, ← enc_of_dec hy ry, h]
  · rw [if_neg (by omega), if_pos h]
theorem absT_eq {a : Nat × Nat} (ha : WW a) (h : ivR a = true) : absT 0 a = (iBare a, 0) := by
  obtain ⟨a1, a2, a3⟩ := ivR_of h
  have e : offT 0 (ivR a) = (false, 0) := by rw [h]; rfl
  have f1 : (fgt a.1 0 || feq a.1 0) = decide (0 ≤ dec a.1) := fge_dec ha.1 W_zero a1 right_zero
  have f2 : (flt a.2 0 || feq a.2 0) = decide (dec a.2 ≤ 0) := fle_dec ha.2 W_zero a2 right_zero
  unfold absT negT iBare iTurned
  rw [e]
  dsimp only
  rw [e, f1, f2, minusT_eq ha.1 a1, minusT_eq ha.2 a2]
  dsimp only
  obtain ⟨m1, m2, m3⟩ := minus_dec ha.1 a1
  rw [moreT_eq m3 ha.2 m1 a2, dmax_comm m3 ha.2 m1 a2]
  by_cases d1 : 0 ≤ dec a.1
  · rw [decide_eq_true d1, if_pos d1]; simp
  · rw [decide_eq_false d1, if_neg d1]
    by_cases d2 : dec a.2 ≤ 0
    · rw [decide_eq_true d2, if_pos d2]; simp
    · rw [decide_eq_false d2, if_neg d2]; simp
theorem sqrT_eq (c : Int) {a : Nat × Nat} (ha : WW a) : sqrT c a = cSqr c a := by
  unfold sqrT cSqr
  obtain ⟨k1, k2, k3⟩ := @ask_no c (ivR a) (iEnds (dMul (iBare a).1 (iBare a).1 false) (dMul (iBare a).2 (iBare a).2 true))
  rcases offT_cases c (ivR a) with ⟨h, e⟩ | ⟨h, h2, e⟩ | ⟨h, h2, e⟩
  · have : absT c a = ((0, 0), c) := by unfold absT; rw [e]; simp [h]
    rw [this, k1 h]; simp [h]
  · have : absT c a = ((0, 0), 20) := by unfold absT; rw [e]; simp
    rw [this, k2 h h2]; simp
  · subst h
    rw [absT_eq ha h2, k3 rfl h2, if_neg (by simp)]
    exact keep_ends _ _
theorem withT_eq {a : Nat × Nat} (ha : WW a) (h : ivR a = true) : withT a 0 4607182418800017408 = !(oL a || oH a) := by
  obtain ⟨a1, a2, a3⟩ := ivR_of h
  have e1 : (4607182418800017408 : Nat) = enc I1 := one_enc
  have o1 : ok I1 := ok_I1
  unfold withT oL oH
  rw [fge_dec ha.1 W_zero a1 right_zero, flt_dec ha.1 W_zero a1 right_zero, e1, fle_dec ha.2 (W_enc o1) a2 (right_enc o1), fgt_dec ha.2 (W_enc o1) a2 (right_enc o1), dec_enc o1, dec_zero]
  rw [Bool.eq_iff_iff]; simp
theorem un_of {a : Nat × Nat} (ha : WW a) (h : ivR a = true) (hw : (oL a || oH a) = false) : ∃ p, Un p ∧ Dy.E p = a := by
  obtain ⟨a1, a2, a3⟩ := ivR_of h
  have e1 : (4607182418800017408 : Nat) = enc I1 := one_enc
  have o1 : ok I1 := ok_I1
  unfold oL oH at hw
  rw [flt_dec ha.1 W_zero a1 right_zero, e1, fgt_dec ha.2 (W_enc o1) a2 (right_enc o1), dec_enc o1, dec_zero] at hw
  simp at hw
  refine ⟨(dec a.1, dec a.2), ⟨⟨ok_dec ha.1 a1, ok_dec ha.2 a2, a3⟩, hw.1, hw.2⟩, ?_⟩
  show (enc (dec a.1), enc (dec a.2)) = a
  rw [enc_of_dec ha.1 a1, enc_of_dec ha.2 a2]
theorem pi_ldx : Dy.ldx 4843940237547941144 (-51) = piIv.1 ∧ Dy.ldx 4843940237547941145 (-51) = piIv.2 := by decide +kernel
theorem rval_any (a0 a1 : Nat) (w : World) (w0 : Dy.W a0) (w1 : Dy.W a1) : Calls Tryz.prog 8 #[.agg #[.float .f64 a0, .float .f64 a1]] w fun e w' => e = .returned (.tuple #[iv (lamV (a0, a1)).1, .int .i64 (lamV (a0, a1)).2]) ∧ Below w.heap.size w w' := by
  have ha : WW (a0, a1) := ⟨w0, w1⟩
  cases h : ivR (a0, a1) with
  | false =>
    have e : lamV (a0, a1) = ((0, 0), 20) := by unfold lamV lam1; rw [h]; rfl
    rw [e]; exact rval_1 a0 a1 w w0 w1 h
  | true =>
    have hw := withT_eq ha h
    cases ho : (oL (a0, a1) || oH (a0, a1)) with
    | true =>
      have e : lamV (a0, a1) = ((0, 0), 2) := by unfold lamV lam1; rw [h, ho]; rfl
      rw [ho] at hw
      rw [e]; exact rval_2 a0 a1 w w0 w1 h hw
    | false =>
      rw [ho] at hw
      obtain ⟨p, up, ep⟩ := un_of ha h ho
      obtain ⟨s, us, g1, g2⟩ := got_value up
      rw [ep] at g1 g2
      obtain ⟨l1, l2⟩ := pi_ldx
      have ed : divT 0 (a0, a1) (piIv.1, piIv.2) = ((enc s.1, enc s.2), 0) := by
        rw [divT_eq 0 (show WW (piIv.1, piIv.2) from by rw [show (piIv.1, piIv.2) = Dy.E piZ from pi_E]; exact pi_Rk.E_W), show (piIv.1, piIv.2) = Dy.E piZ from pi_E]
        exact g2.1
      rw [g1.1]
      exact rval_0 a0 a1 w w0 w1 h hw l1 l2 (by decide) ed (W_enc us.rk.lo) (W_enc us.rk.hi)
theorem capF_T (a b : Nat × Nat) (hb : WW b) : mulT (subT (sqrT 0 b).2 (4607182418800017408, 4607182418800017408) (sqrT 0 b).1).2 a (subT (sqrT 0 b).2 (4607182418800017408, 4607182418800017408) (sqrT 0 b).1).1 = capF a b := by
  rw [mulT_eq, subT_eq, sqrT_eq 0 hb]; rfl
theorem rcap_any (a0 a1 b0 b1 : Nat) (w : World) (w0 : Dy.W a0) (w1 : Dy.W a1) (w2 : Dy.W b0) (w3 : Dy.W b1) : Calls Tryz.prog 11 #[.agg #[.float .f64 a0, .float .f64 a1], .agg #[.float .f64 b0, .float .f64 b1]] w fun e w' => e = .returned (.tuple #[iv (lamC (a0, a1) (b0, b1)).1, .int .i64 (lamC (a0, a1) (b0, b1)).2]) ∧ Below w.heap.size w w' := by
  have ha : WW (a0, a1) := ⟨w0, w1⟩
  have hb : WW (b0, b1) := ⟨w2, w3⟩
  cases h : ivR (a0, a1) with
  | false =>
    have e : lamC (a0, a1) (b0, b1) = ((0, 0), 20) := by unfold lamC lam2; rw [h]; rfl
    rw [e]; exact rcap_1 a0 a1 b0 b1 w w0 w1 w2 w3 h
  | true =>
    cases k : ivR (b0, b1) with
    | false =>
      have e : lamC (a0, a1) (b0, b1) = ((0, 0), 20) := by unfold lamC lam2; rw [h, k]; rfl
      rw [e]; exact rcap_2 a0 a1 b0 b1 w w0 w1 w2 w3 h k
    | true =>
      have hw := withT_eq ha h
      have kw := withT_eq hb k
      cases ho : (oL (a0, a1) || oH (a0, a1)) with
      | true =>
        have e : lamC (a0, a1) (b0, b1) = ((0, 0), 2) := by unfold lamC lam2; rw [h, k, ho]; rfl
        rw [ho] at hw
        rw [e]; exact rcap_3 a0 a1 b0 b1 w w0 w1 w2 w3 h k hw
      | false =>
        rw [ho] at hw
        cases ko : (oL (b0, b1) || oH (b0, b1)) with
        | true =>
          have e : lamC (a0, a1) (b0, b1) = ((0, 0), 2) := by
            unfold lamC lam2
            rw [h, k]
            have : (oL (a0, a1) || oH (a0, a1) || oL (b0, b1) || oH (b0, b1)) = true := by rw [ho, Bool.false_or, ko]
            rw [this]; rfl
          rw [ko] at kw
          rw [e]; exact rcap_4 a0 a1 b0 b1 w w0 w1 w2 w3 h k hw kw
        | false =>
          rw [ko] at kw
          obtain ⟨p, up, ep⟩ := un_of ha h ho
          obtain ⟨q, uq, eq⟩ := un_of hb k ko
          have g := got_cap up uq
          rw [ep, eq] at g
          have gl : lamC (a0, a1) (b0, b1) = lamRes (capF (a0, a1) (b0, b1)) := by
            unfold lamC lam2
            have : (oL (a0, a1) || oH (a0, a1) || oL (b0, b1) || oH (b0, b1)) = false := by rw [ho, Bool.false_or, ko]
            rw [h, k, this]; rfl
          obtain ⟨g1, g2⟩ := g
          have gc : capF (a0, a1) (b0, b1) = lamC (a0, a1) (b0, b1) := by
            rw [gl] at g1 ⊢
            unfold lamRes at g1 ⊢
            by_cases c : (capF (a0, a1) (b0, b1)).2 = 0
            · rw [if_pos c]; exact Prod.ext rfl c
            · rw [if_neg c] at g1
              have := congrArg Prod.snd g1
              exact absurd this c
          have hn : numT 0 4607182418800017408 = ((4607182418800017408, 4607182418800017408), 0) := by rw [numT_eq 0 W_one, num_one]
          have hc := capF_T (a0, a1) (b0, b1) hb
          rw [gc, g1] at hc
          rw [g1]
          exact rcap_0 a0 a1 b0 b1 w w0 w1 w2 w3 h k hw kw hn rfl rfl hc (W_enc g2.lo) (W_enc g2.hi)
end Go.Proofs.YtnbdjpnnagpldaaGreat
