/- Plain facts: a sum by its nearest number and what that lacks (P1.2). -/
import Derived.Test.YtnbdjpnnagpldaaTg
import Derived.Test.YtnbdjpnnagpldaaDc
namespace Go.Dy
open Ieee
open Go.Proofs.Ytnbdjpnnagpldaa (sideF sideF_up sideF_dn)
/-- The number next to the real sum, by the sign of what the nearest one lacks. -/
theorem sum_side {E : Int} {c d : Nat} {up : Bool} (hc : Cb c (nz E)) (h1 : ok (nz E) → fgt d 0 = decide (V (nz E) < E)) (h2 : ok (nz E) → flt d 0 = decide (E < V (nz E))) : sideF c d up = out (fl E 1 up) up := by
  have hup : fl E 1 true ≤ fl E 1 false + 1 := fl_up_le (by omega)
  have a1 : fl E 1 false ≤ nz E := le_nz (by have := (@fl_down (fl E 1 false) E 1 (by omega)).1 (Int.le_refl _); omega)
  have a2 : nz E ≤ fl E 1 true := nz_le (by have := (@fl_up (fl E 1 true) E 1 (by omega)).1 (Int.le_refl _); omega)
  cases up
  · refine sideF_dn hc a1 (by omega) (fun o => ?_)
    rw [h2 o]
    by_cases h : E < V (nz E)
    · rw [if_pos (decide_eq_true h)]
      have : ¬ nz E ≤ fl E 1 false := by rw [fl_down (by omega)]; omega
      omega
    · rw [if_neg (by simpa using h)]
      have : nz E ≤ fl E 1 false := by rw [fl_down (by omega)]; omega
      omega
  · refine sideF_up hc a2 (by omega) (fun o => ?_)
    rw [h1 o]
    by_cases h : V (nz E) < E
    · rw [if_pos (decide_eq_true h)]
      have : ¬ fl E 1 true ≤ nz E := by rw [fl_up (by omega)]; omega
      omega
    · rw [if_neg (by simpa using h)]
      have : fl E 1 true ≤ nz E := by rw [fl_up (by omega)]; omega
      omega
/-- A number's sign. -/
theorem sign_enc {d : Int} (o : ok d) : fgt (enc d) 0 = decide (0 < V d) ∧ flt (enc d) 0 = decide (V d < 0) := by
  rw [fgt_dec (W_enc o) W_zero (right_enc o) right_zero, flt_dec (W_enc o) W_zero (right_enc o) right_zero, dec_enc o, dec_zero]
  have h1 : 0 ≤ d ↔ 0 ≤ V d := V_nonneg.symm
  have h2 : 0 ≤ -d ↔ 0 ≤ -V d := by rw [← V_neg]; exact V_nonneg.symm
  constructor
  · congr 1; rw [eq_iff_iff]; omega
  · congr 1; rw [eq_iff_iff]; omega
def K1000 : Int := 9110782046170513408
theorem V_top : V (top : Int) = 16777216 * V K1000 := by decide +kernel
theorem K_one : V K1000 = 10715086071862673209484250490600018105614048117055336074437503883703510511249361224931983788156958581275946729175531468251871452856923140435984577574698574803934567774824230985421074605062371141877954182153046474983581941267398767559165543946077062914571196477686542167660429831652624386837205668069376 * (one : Int) := by decide +kernel
theorem V_K1000_pos : 0 < V K1000 := by decide +kernel
theorem ok_lt {n : Int} (h : Fl n) (h1 : -(16777216 * V K1000) < n) (h2 : n < 16777216 * V K1000) : ok (nz n) ∧ V (nz n) = n := by
  have e := h.rn
  refine ⟨?_, e⟩
  unfold rn at e
  rw [← V_top] at h1 h2
  have k1 : nz n < top := by
    rcases Int.lt_or_le (nz n) top with h | h
    · exact h
    · have := V_le_iff.2 h; omega
  have k2 : -(top : Int) < nz n := by
    rcases Int.lt_or_le (-(top : Int)) (nz n) with h | h
    · exact h
    · have := V_le_iff.2 h; rw [V_neg] at this; omega
  exact ⟨k2, k1⟩
theorem ok_rn {n : Int} (h1 : -(8388608 * V K1000) ≤ n) (h2 : n ≤ 8388608 * V K1000) : ok (nz n) := by
  have q := V_K1000_pos
  have f : Fl (8388608 * V K1000) := by
    have h := Fl.ofV K1000
    have : (8388608 : Int) * V K1000 = V 9214364837600034816 := by decide +kernel
    rw [this]; exact Fl.ofV _
  have r1 := rn_le (n := n) f h2
  have r2 := le_rn (n := n) f.neg h1
  have := (ok_lt (fl_rn n) (by omega) (by omega)).1
  unfold rn at this; rw [nz_V] at this; exact this
theorem add_mid {a b : Int} (oa : ok a) (ob : ok b) (o : ok (nz (V a + V b))) : double.add (enc a) (enc b) = some (enc (nz (V a + V b))) := by
  rw [add_near (W_enc oa) (W_enc ob) (right_enc oa) (right_enc ob), dec_enc oa, dec_enc ob, nrst_ok o]
theorem sub_mid {a b : Int} (oa : ok a) (ob : ok b) (o : ok (nz (V a - V b))) : double.sub (enc a) (enc b) = some (enc (nz (V a - V b))) := by
  rw [sub_near (W_enc oa) (W_enc ob) (right_enc oa) (right_enc ob), dec_enc oa, dec_enc ob, nrst_ok o]
/-- Numbers of which a sum is less than 2^1000: all that is worked out are numbers. -/
theorem sum_ranges {A B S : Int} (fa : Fl A) (fb : Fl B) (ha : -(16777216 * V K1000) < A ∧ A < 16777216 * V K1000) (hb : -(16777216 * V K1000) < B ∧ B < 16777216 * V K1000) (hs : S = rn (A + B)) (s1 : -V K1000 < S) (s2 : S < V K1000) :
    ok (nz (S - A)) ∧ ok (nz (S - rn (S - A))) ∧ ok (nz (A - (S - rn (S - A)))) ∧ ok (nz (B - rn (S - A))) ∧ ok (nz (A + B - S)) := by
  have q := V_K1000_pos
  obtain ⟨k1, k2, k3, k4⟩ := two_sum fa fb hs rfl
  obtain ⟨fe, e1, e2⟩ := fl_err fa fb
  rw [← hs] at fe e1 e2
  have fQ := Fl.ofV K1000
  have hn1 : A + B ≤ V K1000 := by
    rcases Int.lt_or_le (V K1000) (A + B) with h | h
    · have := le_rn (n := A + B) fQ (by omega); omega
    · exact h
  have hn2 : -V K1000 ≤ A + B := by
    rcases Int.lt_or_le (A + B) (-V K1000) with h | h
    · have := rn_le (n := A + B) fQ.neg (by omega); omega
    · exact h
  have hbig := fun n h1 h2 => (ok_rn (n := n) h1 h2)
  have hlt := fun n h h1 h2 => (ok_lt (n := n) h h1 h2)
  generalize V K1000 = Q at *
  by_cases hA : -(4 * Q) ≤ A ∧ A ≤ 4 * Q
  · have c0 : -(6 * Q) ≤ S - A := by omega
    have c1 : S - A ≤ 6 * Q := by omega
    have f8 : Fl (8 * Q) := by rw [show 8 * Q = 2 * (2 * (2 * Q)) by omega]; exact fQ.twice.twice.twice
    have c2 := rn_le (n := S - A) f8 (by omega)
    have c3 := le_rn (n := S - A) f8.neg (by omega)
    generalize rn (S - A) = c at *
    exact ⟨hbig _ (by omega) (by omega), hbig _ (by omega) (by omega), hbig _ (by omega) (by omega), hbig _ (by omega) (by omega), hbig _ (by omega) (by omega)⟩
  · have fs : Fl (A + B) := by
      rcases Int.lt_or_le A 0 with h | h
      · have := sterbenz fb fa.neg (by omega) (by omega)
        rwa [show B - -A = A + B by omega] at this
      · have := sterbenz fa fb.neg (by omega) (by omega)
        rwa [show A - -B = A + B by omega] at this
    have es : S = A + B := by rw [hs, fs.rn]
    have e3 : S - A = B := by omega
    have z0 : ok (nz 0) := by have : nz 0 = 0 := nz_V 0
                              rw [this]; unfold ok; decide
    rw [e3, fb.rn]
    have e4 : S - B = A := by omega
    rw [e4, Int.sub_self, Int.sub_self, show A + B - S = 0 by omega]
    have hb' := hlt B fb hb.1 hb.2
    have ha' := hlt A fa ha.1 ha.2
    exact ⟨hb'.1, ha'.1, z0, z0, z0⟩
end Go.Dy
