/- Walks: burnishref01's Sub, Mul, Div, Sqrt are those of dir. -/
import Derived.Test.YtakdeeknfcifpaaTy
namespace Go.Dy
theorem tm2 (i : Int) : i.tmod 2 = if 0 ≤ i then i % 2 else -((-i) % 2) := by
  split
  · rename_i h; rw [Int.tmod_eq_emod_of_nonneg h]
  · rename_i h
    obtain ⟨n, rfl⟩ : ∃ n, i = -n := ⟨-i, by omega⟩
    rw [Int.neg_tmod, Int.tmod_eq_emod_of_nonneg (by omega), Int.neg_neg]
theorem td2 (i : Int) : i.tdiv 2 = if 0 ≤ i then i / 2 else -((-i) / 2) := by
  split
  · rename_i h; rw [Int.tdiv_eq_ediv_of_nonneg h]
  · rename_i h
    obtain ⟨n, rfl⟩ : ∃ n, i = -n := ⟨-i, by omega⟩
    rw [Int.neg_tdiv, Int.tdiv_eq_ediv_of_nonneg (by omega), Int.neg_neg]
theorem tpar (i : Int) : (i.tmod 2 = 0 ∧ i = 2 * i.tdiv 2) ∨ (i.tmod 2 ≠ 0 ∧ i + 1 = 2 * (i + 1).tdiv 2) := by
  rw [tm2, td2, td2]
  by_cases h : 0 ≤ i
  · rw [if_pos h, if_pos h, if_pos (show 0 ≤ i + 1 by omega)]; omega
  · rw [if_neg h, if_neg h]
    by_cases h2 : 0 ≤ i + 1
    · rw [if_pos h2]; omega
    · rw [if_neg h2]; omega
theorem fl_zero0 (den : Nat) (up : Bool) : fl 0 den up = 0 := by
  unfold fl
  simp
  exact rnk_zero _ _
theorem out_zero (up : Bool) : out 0 up = (0, 0) := by
  have o : ok 0 := by unfold ok; decide
  rw [out_mid o]; rfl
theorem form_half {D n : Nat} (hD : 1 ≤ D) (hn : n < 2 ^ 52) : mag ((D - 1) * 2 ^ 52 + (2 ^ 52 + n)) * 2 = mag (D * 2 ^ 52 + (2 ^ 52 + n)) := by
  rw [mag_form D n hn, mag_form (D - 1) n hn, Nat.mul_assoc, ← Nat.pow_succ]
  have : (D - 1).succ = D := by omega
  rw [this]
/-- A half of a fraction. -/
theorem mag_halfT {q : Nat} (h1 : HQ1 ≤ q) (h2 : q < 4607182418800017408) : mag (q - 4503599627370496) * 2 = mag q := by
  unfold HQ1 at h1
  obtain ⟨n, hn⟩ : ∃ n, q = 4602678819172646912 + n := ⟨q - 4602678819172646912, by omega⟩
  have n1 : n < 4503599627370496 := by omega
  have k := form_half (D := 1021) (n := n) (by decide) n1
  have q1 : 1021 * 2 ^ 52 + (2 ^ 52 + n) = q := by omega
  have q2 : (1021 - 1) * 2 ^ 52 + (2 ^ 52 + n) = q - 4503599627370496 := by omega
  rw [q1, q2] at k
  exact k
end Go.Dy
namespace Go.Proofs.Ytakdeeknfcifpaa
open Go Go.RowKit
set_option linter.unusedSimpArgs false
set_option linter.unusedVariables false
open Dy
theorem rsqrt_pos {x : Int} (up : Bool) (w : World) (ox : ok x) (x0 : 0 < x) :
    Calls Try.prog 37 #[.float .f64 (enc x), .bool up] w fun e w' => e = .returned (.tuple #[.float .f64 (dSqrt (enc x) up).1, .int .i64 (dSqrt (enc x) up).2]) ∧ Below w.heap.size w w' := by
  have tp := top_eq
  have d0 := D0_eq
  obtain ⟨q1, i, f1, a1, a2, a3, a4, a5, c1, a6⟩ := fr_spec ox (by omega)
  rw [decide_eq_false (show ¬ x < 0 by omega), word_f] at f1
  obtain ⟨hx1, hx2⟩ := enc_ne ox (by omega)
  have hfl : flt (enc x) 0 = false := by
    rw [(sign_enc ox).2]; exact decide_eq_false (by have := V_nonneg.2 (show 0 ≤ x by omega); omega)
  have hrr := (rrT_right (W_enc ox)).trans (right_enc ox)
  have a1' := a1
  unfold HQ1 at a1
  have wq : Dy.W q1 := by unfold Dy.W; omega
  have wR : Dy.W (dSqrt (enc x) up).1 := Dy.dSqrt_W _ _
  rcases tpar i with ⟨hi, e2⟩ | ⟨hi, e2⟩
  · obtain ⟨h, hh⟩ : ∃ h, i.tdiv 2 = h := ⟨_, rfl⟩
    rw [hh] at e2
    have a5' : mag x.natAbs * 2 ^ D0 = mag q1 * 2 ^ ((D0 : Int) + 2 * h).toNat := by rw [← e2]; exact a5
    obtain ⟨P, cc, bk, D, s1, wP, s2, wb, s3, oD, s4, s5⟩ := sqrt_core (q := q1) (h := h) up ox x0 (by unfold HQ2; omega) a2 (by omega) (by omega) a5'
    obtain ⟨n1, n2⟩ := nroot_some s1 wP
    obtain ⟨k1, k2⟩ := fma_some s3 (W_enc oD)
    have ew : IntKind.i64.wrap (i.tdiv 2) = h := by rw [hh, IntKind.wrap_i64]; omega
    exact rsqrt_4 _ up w (W_enc ox) hrr hfl hx1 f1 hx2 hi rfl n2 n1 ew s2 (decide_eq_true (show -1000000 ≤ h ∧ h ≤ 1000000 from ⟨by omega, by omega⟩)) rfl (hneg wb) k2 k1 s5 s4 wR
  · obtain ⟨h, hh⟩ : ∃ h, (i + 1).tdiv 2 = h := ⟨_, rfl⟩
    rw [hh] at e2
    have mh := mag_halfT a1' a2
    obtain ⟨t, ht⟩ : ∃ t, q1 - 4503599627370496 = t := ⟨_, rfl⟩
    rw [ht] at mh
    have a5' : mag x.natAbs * 2 ^ D0 = mag t * 2 ^ ((D0 : Int) + 2 * h).toNat := by
      have e3 : ((D0 : Int) + 2 * h).toNat = ((D0 : Int) + i).toNat + 1 := by omega
      rw [a5, ← mh, e3, Nat.pow_succ, Nat.mul_assoc, Nat.mul_comm 2]
    obtain ⟨P, cc, bk, D, s1, wP, s2, wb, s3, oD, s4, s5⟩ := sqrt_core (q := t) (h := h) up ox x0 (by unfold HQ2; omega) (by omega) (by omega) (by omega) a5'
    obtain ⟨n1, n2⟩ := nroot_some s1 wP
    obtain ⟨k1, k2⟩ := fma_some s3 (W_enc oD)
    have w2 : Dy.W 4611686018427387904 := by unfold Dy.W; decide
    have hdiv : Ieee.double.div q1 4611686018427387904 = some t := by
      obtain ⟨r, r1, r2, r3⟩ := div_near (x := q1) (y := 4611686018427387904) wq w2 (by unfold fin; omega) (by unfold fin; omega) (by decide)
      have e4 : q1 % 2 ^ 63 = q1 := Nat.mod_eq_of_lt (by omega)
      have e5 : (4611686018427387904 : Nat) % 2 ^ 63 = 4611686018427387904 := by decide
      rw [e4, e5, two_facts] at r2 r3
      have e6 : mag t * (2 * one) = mag q1 * one := by rw [← mh, Nat.mul_assoc]
      have := r2 t (Nat.le_of_eq e6)
      have := r3 t (Nat.le_of_eq e6.symm)
      have er : r = t := by omega
      have sg1 : sgn q1 = false := by unfold sgn; exact decide_eq_false (by omega)
      have sg2 : sgn 4611686018427387904 = false := by decide
      rw [r1, er, sg1, sg2, Nat.min_eq_left (by omega)]
      exact congrArg some (word_f t)
    have ei : IntKind.i64.wrap (i + 1) = i + 1 := by rw [IntKind.wrap_i64]; omega
    have ew : IntKind.i64.wrap ((i + 1).tdiv 2) = h := by rw [hh, IntKind.wrap_i64]; omega
    exact rsqrt_3 _ up w (W_enc ox) hrr hfl hx1 f1 hx2 rfl (by simpa using hi) (by rw [hdiv]; rfl) (fn_some hdiv (by unfold Dy.W; omega)) ei n2 n1 ew s2 (decide_eq_true (show -1000000 ≤ h ∧ h ≤ 1000000 from ⟨by omega, by omega⟩)) rfl (hneg wb) k2 k1 s5 s4 wR
theorem rsqrt_any (a : Nat) (up : Bool) (w : World) (ha : Dy.W a) :
    Calls Try.prog 37 #[.float .f64 a, .bool up] w fun e w' => e = .returned (.tuple #[.float .f64 (dSqrt a up).1, .int .i64 (dSqrt a up).2]) ∧ Below w.heap.size w w' := by
  have ra' := rrT_right ha
  cases ra : right a with
  | false =>
    have e : dSqrt a up = (0, 13) := by unfold dSqrt; rw [ra]; rfl
    rw [e]
    exact rsqrt_1 a up w ha (by rw [ra', ra])
  | true =>
    obtain ⟨ea, oa⟩ := enc_dec ha.lt ra
    rw [ra] at ra'
    have hfl : flt a 0 = decide (dec a < 0) := by
      rw [flt_dec ha W_zero ra right_zero, dec_zero]
    rcases Int.lt_trichotomy (dec a) 0 with h | h | h
    · have h63 := (dec_neg ha ra).1 h
      have e : dSqrt a up = (0, 12) := by unfold dSqrt; rw [ra, if_neg (by decide), if_pos h63]
      rw [e]
      exact rsqrt_0 a up w ha ra' (by rw [hfl]; exact decide_eq_true h)
    · have a0 : a = 0 := by rw [← ea, h]; rfl
      subst a0
      have e : dSqrt 0 up = (0, 0) := by unfold dSqrt; rw [ra, if_neg (by decide), if_neg (by decide), if_pos rfl]
      rw [e]
      exact rsqrt_2 0 up w ha ra' (by rw [hfl, h]; rfl) (by rw [feq_right ha ra]; rfl)
    · have k := rsqrt_pos up w oa h
      rw [ea] at k; exact k
theorem rmul_any (a b : Nat) (up : Bool) (w : World) (ha : Dy.W a) (hb : Dy.W b) :
    Calls Try.prog 34 #[.float .f64 a, .float .f64 b, .bool up] w fun e w' => e = .returned (.tuple #[.float .f64 (dMul a b up).1, .int .i64 (dMul a b up).2]) ∧ Below w.heap.size w w' := by
  have ra' := rrT_right ha
  have rb' := rrT_right hb
  cases ra : right a with
  | false =>
    have e : dMul a b up = (0, 13) := by unfold dMul; rw [ra]; rfl
    rw [e]
    exact rmul_1 a b up w ha hb (by rw [ra', ra])
  | true =>
    cases rb : right b with
    | false =>
      have e : dMul a b up = (0, 13) := by unfold dMul; rw [ra, rb]; rfl
      rw [e]
      exact rmul_2 a b up w ha hb (by rw [ra', ra]) (by rw [rb', rb])
    | true =>
      obtain ⟨ea, oa⟩ := enc_dec ha.lt ra
      obtain ⟨eb, ob⟩ := enc_dec hb.lt rb
      rw [ra] at ra'
      rw [rb] at rb'
      have hm := dMul_enc (up := up) oa ob
      rw [ea, eb] at hm
      by_cases a0 : dec a = 0
      · have e : dMul a b up = (0, 0) := by rw [hm, a0, V_zero, Int.zero_mul, fl_zero0, out_zero]
        rw [e]
        have a0' : a = 0 := by rw [← ea, a0]; rfl
        exact rmul_0 a b up w ha hb ra' rb' (by rw [feq_right ha ra]; exact decide_eq_true a0')
      · have fa : feq a 0 = false := by
          rw [feq_right ha ra]; exact decide_eq_false (fun h => a0 (by rw [h]; rfl))
        by_cases b0 : dec b = 0
        · have e : dMul a b up = (0, 0) := by rw [hm, b0, V_zero, Int.mul_zero, fl_zero0, out_zero]
          rw [e]
          have b0' : b = 0 := by rw [← eb, b0]; rfl
          exact rmul_3 a b up w ha hb ra' rb' fa (by rw [feq_right hb rb]; exact decide_eq_true b0')
        · have k := rmul_mid up w oa ob a0 b0
          rw [ea, eb] at k; exact k
theorem rdiv_any (a b : Nat) (up : Bool) (w : World) (ha : Dy.W a) (hb : Dy.W b) :
    Calls Try.prog 69 #[.float .f64 a, .float .f64 b, .bool up] w fun e w' => e = .returned (.tuple #[.float .f64 (dDiv a b up).1, .int .i64 (dDiv a b up).2]) ∧ Below w.heap.size w w' := by
  have ra' := rrT_right ha
  have rb' := rrT_right hb
  cases ra : right a with
  | false =>
    have e : dDiv a b up = (0, 13) := by unfold dDiv; rw [ra]; rfl
    rw [e]
    exact rdiv_1 a b up w ha hb (by rw [ra', ra])
  | true =>
    cases rb : right b with
    | false =>
      have e : dDiv a b up = (0, 13) := by unfold dDiv; rw [ra, rb]; rfl
      rw [e]
      exact rdiv_2 a b up w ha hb (by rw [ra', ra]) (by rw [rb', rb])
    | true =>
      obtain ⟨ea, oa⟩ := enc_dec ha.lt ra
      obtain ⟨eb, ob⟩ := enc_dec hb.lt rb
      rw [ra] at ra'
      rw [rb] at rb'
      by_cases b0 : b = 0
      · have e : dDiv a b up = (0, 11) := by unfold dDiv; rw [ra, rb, if_neg (by decide), if_pos b0]
        rw [e]
        exact rdiv_0 a b up w ha hb ra' rb' (by rw [feq_right hb rb]; exact decide_eq_true b0)
      · have fb : feq b 0 = false := by rw [feq_right hb rb]; exact decide_eq_false b0
        by_cases a0 : a = 0
        · have e : dDiv a b up = (0, 0) := by
            unfold dDiv divR
            rw [ra, rb, if_neg (by decide), if_neg b0, a0]
            have : dec 0 = 0 := by decide
            rw [this, V_zero, Int.zero_mul]
            split
            · rw [show -(0 : Int) = 0 from rfl, fl_zero0, out_zero]
            · rw [fl_zero0, out_zero]
          rw [e]
          exact rdiv_3 a b up w ha hb ra' rb' fb (by rw [feq_right ha ra]; exact decide_eq_true a0)
        · have k := rdiv_mid up w oa ob (fun h => a0 (by rw [← ea, h]; rfl)) (fun h => b0 (by rw [← eb, h]; rfl))
          rw [ea, eb] at k; exact k
theorem rsub_any (a b : Nat) (up : Bool) (w : World) (ha : Dy.W a) (hb : Dy.W b) :
    Calls Try.prog 36 #[.float .f64 a, .float .f64 b, .bool up] w fun e w' => e = .returned (.tuple #[.float .f64 (dSub a b up).1, .int .i64 (dSub a b up).2]) ∧ Below w.heap.size w w' := by
  have rb' := rrT_right hb
  cases rb : right b with
  | false =>
    have e : dSub a b up = (0, 13) := by unfold dSub; rw [rb]; rfl
    rw [e]
    exact rsub_1 a b up w ha hb (by rw [rb', rb])
  | true =>
    rw [rb] at rb'
    have e : dSub a b up = dAdd a (minus b) up := by unfold dSub; rw [rb, if_pos rfl]
    have wn := neg_W hb
    have ep : plainT (Op.negFloat .f64 b) = minus b := by
      have h : feq (Op.negFloat .f64 b) 0 = decide (Op.negFloat .f64 b % 2 ^ 63 = 0) := feq_zero wn.lt
      unfold plainT
      rw [h, neg_bits hb]
      have r := rb
      unfold right at r; rw [decide_eq_true_eq] at r
      unfold Dy.W at hb
      unfold minus
      by_cases b0 : b = 0
      · subst b0; decide
      · rw [if_neg b0]
        by_cases h63 : b < 2 ^ 63
        · rw [if_pos h63, if_pos h63, if_neg (by simp; omega)]; omega
        · rw [if_neg h63, if_neg h63, if_neg (by simp; omega)]
    rw [e]
    exact rsub_0 a b up w ha hb rb' rfl (hneg hb) ep rfl (dAdd_W _ _ _)
theorem rsubT_ct : CtOk Try.prog 36 (ctO2 Dy.dSub) := ctO2_ok (en Try.func36 rfl (by decide)) Dy.dSub_W rsub_any
theorem rmulT_ct : CtOk Try.prog 34 (ctO2 Dy.dMul) := ctO2_ok (en Try.func34 rfl (by decide)) Dy.dMul_W rmul_any
theorem rdivT_ct : CtOk Try.prog 69 (ctO2 Dy.dDiv) := ctO2_ok (en Try.func69 rfl (by decide)) Dy.dDiv_W rdiv_any
theorem rsqrtT_ct : CtOk Try.prog 37 (ctO1 Dy.dSqrt) := ctO1_ok (en Try.func37 rfl (by decide)) (fun x up _ => Dy.dSqrt_W x up) rsqrt_any
def uA0 : List (Nat × Ct) := (36, ctO2 Dy.dSub) :: (34, ctO2 Dy.dMul) :: (69, ctO2 Dy.dDiv) :: (37, ctO1 Dy.dSqrt) :: tO0
theorem uA0_ok : AllOk Try.prog uA0 := ⟨rsubT_ct, rmulT_ct, rdivT_ct, rsqrtT_ct, tO0_ok⟩
end Go.Proofs.Ytakdeeknfcifpaa
