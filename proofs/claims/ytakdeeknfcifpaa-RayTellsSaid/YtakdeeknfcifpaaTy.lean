/- Walks: burnishref01.Sqrt. -/
import Derived.Test.YtakdeeknfcifpaaTx
import Derived.Test.YtakdeeknfcifpaaTz
namespace Go.Dy
open Ieee
open Go.Proofs.Ytakdeeknfcifpaa (sideF sideF_up sideF_dn)
theorem side_gen {lo hi z : Int} {c d : Nat} {up : Bool} (hc : Cb c z) (a1 : lo ≤ z) (a2 : z ≤ hi) (hup : hi ≤ lo + 1) (h1 : ok z → fgt d 0 = decide (¬ hi ≤ z)) (h2 : ok z → flt d 0 = decide (¬ z ≤ lo)) : sideF c d up = out (if up = true then hi else lo) up := by
  cases up
  · rw [if_neg (by decide)]
    refine sideF_dn hc a1 (by omega) (fun o => ?_)
    rw [h2 o]
    by_cases h : z ≤ lo
    · rw [if_neg (by simpa using h)]; omega
    · rw [if_pos (decide_eq_true h)]; omega
  · rw [if_pos rfl]
    refine sideF_up hc a2 (by omega) (fun o => ?_)
    rw [h1 o]
    by_cases h : hi ≤ z
    · rw [if_neg (by simpa using h)]; omega
    · rw [if_pos (decide_eq_true h)]; omega
def D3 : Nat := 537
theorem D3_eq : D3 = 537 := rfl
theorem half_pow : 2 ^ 53 * 2 ^ D3 ≤ mag HQ1 := by decide +kernel
theorem back537 {P r b : Nat} {e : Int} (hP : HQ1 ≤ P) (hr : nr (mag P * 2 ^ e.toNat) (-e).toNat = r) (b7 : mag b * 2 ^ e.toNat = mag r * 2 ^ (-e).toNat) (b14 : 0 ≤ e → b = P) : ∃ m, mag b = m * 2 ^ D3 := by
  have hp := half_pow
  have hPm := mag_le_iff.2 hP
  by_cases he : 0 ≤ e
  · rw [b14 he]
    obtain ⟨v, hv, -⟩ := nat_dvd_grid (g := D3) (fl_mag P) (Nat.le_trans hp hPm)
    exact ⟨v, hv⟩
  · have e0 : e.toNat = 0 := by omega
    obtain ⟨j, hj⟩ : ∃ j, (-e).toNat = j := ⟨_, rfl⟩
    rw [e0, hj, Nat.pow_zero, Nat.mul_one] at hr b7
    by_cases h : D3 ≤ j
    · refine ⟨mag r * 2 ^ (j - D3), ?_⟩
      rw [b7, Nat.mul_assoc, ← Nat.pow_add]
      have : j - D3 + D3 = j := by omega
      rw [this]
    · have hf : Fl ((2 ^ 53 * 2 ^ (D3 - j) : Nat) : Int) := ⟨2 ^ 53, D3 - j, by decide, by rw [Int.natCast_mul, Int.natCast_pow]; rfl⟩
      obtain ⟨t, ht⟩ := mag_of_fl hf
      have k : t ≤ r := by
        rw [← hr]; refine le_nr ?_
        rw [ht, Nat.mul_assoc, ← Nat.pow_add]
        have : D3 - j + j = D3 := by omega
        rw [this]; exact Nat.le_trans hp hPm
      obtain ⟨v, hv, -⟩ := nat_dvd_grid (g := D3 - j) (fl_mag r) (by rw [← ht]; exact mag_le_iff.2 k)
      refine ⟨v, ?_⟩
      rw [b7, hv, Nat.mul_assoc, ← Nat.pow_add]
      have : D3 - j + j = D3 := by omega
      rw [this]
theorem prod_one3 {m : Nat} : m * 2 ^ D3 * (m * 2 ^ D3) = m * m * one := by
  obtain ⟨E0, hE, eE⟩ := one_pow
  have d3 := D3_eq
  have h : D3 + D3 = E0 := by omega
  rw [eE, Nat.mul_mul_mul_comm, ← Nat.pow_add, h]
theorem corr3 {u v mx q o A c d : Nat} {B : Nat} (h1 : mx * A = q * B) (hu : u * c = v * d) (hx : B * (c * c) = A * (d * d)) (pA : 0 < A) (pc : 0 < c) (pd : 0 < d) : (u * u ≤ mx * o ↔ v * v ≤ q * o) ∧ (mx * o ≤ u * u ↔ q * o ≤ v * v) := by
  have e1 : u * u * (A * (c * c)) = v * v * (A * (d * d)) := by
    have : u * u * (A * (c * c)) = u * c * (u * c) * A := by ac_rfl
    rw [this, hu]; ac_rfl
  have e2 : mx * o * (A * (c * c)) = q * o * (A * (d * d)) := by
    have : mx * o * (A * (c * c)) = mx * A * (o * (c * c)) := by ac_rfl
    have h3 : q * B * (o * (c * c)) = q * o * (B * (c * c)) := by ac_rfl
    rw [this, h1, h3, hx]
  have k1 := Nat.mul_pos pA (Nat.mul_pos pc pc)
  have k2 := Nat.mul_pos pA (Nat.mul_pos pd pd)
  constructor
  · constructor
    · intro h
      have := Nat.mul_le_mul_right (A * (c * c)) h
      rw [e1, e2] at this
      exact Nat.le_of_mul_le_mul_right this k2
    · intro h
      have := Nat.mul_le_mul_right (A * (d * d)) h
      rw [← e1, ← e2] at this
      exact Nat.le_of_mul_le_mul_right this k1
  · constructor
    · intro h
      have := Nat.mul_le_mul_right (A * (c * c)) h
      rw [e1, e2] at this
      exact Nat.le_of_mul_le_mul_right this k2
    · intro h
      have := Nat.mul_le_mul_right (A * (d * d)) h
      rw [← e1, ← e2] at this
      exact Nat.le_of_mul_le_mul_right this k1
theorem big_r3 {u mx q o A B c d H : Nat} (h1 : mx * A = q * B) (hx : B * (c * c) = A * (d * d)) (pA : 0 < A) (h : mx * o ≤ u * u) (hq : H * H ≤ q * o) (g3 : 2 ^ 53 ≤ H) : 2 ^ 53 * d ≤ u * c := by
  have k := Nat.mul_le_mul_right (A * (c * c)) h
  have e2 : mx * o * (A * (c * c)) = q * o * (A * (d * d)) := by
    have : mx * o * (A * (c * c)) = mx * A * (o * (c * c)) := by ac_rfl
    have h3 : q * B * (o * (c * c)) = q * o * (B * (c * c)) := by ac_rfl
    rw [this, h1, h3, hx]
  rw [e2] at k
  generalize 2 ^ 53 = W at *
  have k2 : H * d * (H * d) * A ≤ u * c * (u * c) * A := by
    have e3 : H * d * (H * d) * A = H * H * (A * (d * d)) := by ac_rfl
    have e4 : u * c * (u * c) * A = u * u * (A * (c * c)) := by ac_rfl
    rw [e3, e4]
    exact Nat.le_trans (Nat.mul_le_mul_right _ hq) k
  have k3 := Nat.le_of_mul_le_mul_right k2 pA
  have k4 : H * d ≤ u * c := Nat.mul_self_le_mul_self_iff.1 k3
  exact Nat.le_trans (Nat.mul_le_mul_right _ g3) k4
end Go.Dy
namespace Go.Proofs.Ytakdeeknfcifpaa
open Go Go.RowKit
set_option linter.unusedSimpArgs false
set_option linter.unusedVariables false
open Dy
theorem nroot_some {x r : Nat} (h : Ieee.double.sqrt x = some r) (hr : Dy.W r) : nRoot [.f x] = true ∧ (rootF x).getD 0 = r := by
  have h' : rootF x = some r := h
  refine ⟨?_, by rw [h']; rfl⟩
  show okF (rootF x) = true
  rw [h']; exact decide_eq_true hr.lt
theorem sqz_def (x : Int) (up : Bool) : sqz x up = sqR (mag x.toNat) up := rfl
theorem word_f (b : Nat) : word false b = b := rfl
theorem sg_f (n : Int) : sg false n = n := rfl
theorem pos_sub {a b : Nat} : 0 < (a : Int) - b ↔ ¬ a ≤ b := by omega
theorem neg_sub' {a b : Nat} : (a : Int) - b < 0 ↔ ¬ b ≤ a := by omega
theorem four_sq (o : Nat) : 4 * o * (4 * o) = 16 * o * o := by grind
/-- The root of a number that is a fraction by an even power of two: what is told of it. -/
theorem sqrt_core {x : Int} {q : Nat} {h : Int} (up : Bool) (ox : ok x) (x0 : 0 < x) (a1 : HQ2 ≤ q) (a2 : q < 4607182418800017408) (h1 : -540 ≤ h) (h2 : h ≤ 600) (a5 : mag x.natAbs * 2 ^ D0 = mag q * 2 ^ ((D0 : Int) + 2 * h).toNat) :
    ∃ (P cc bk : Nat) (D : Int), Ieee.double.sqrt q = some P ∧ Dy.W P ∧ nearT P h = (cc, bk) ∧ Dy.W bk ∧ Ieee.double.fma (Op.negFloat .f64 bk) bk q = some (enc D) ∧ ok D ∧ nSideT [.f cc] = true ∧ sideF cc (enc D) up = dSqrt (enc x) up := by
  have tp := top_eq
  have d0 := D0_eq
  obtain ⟨g1, g2, g3, g4⟩ := HQ_facts
  have m1 := mag_le_iff.2 a1
  have m3 : mag q < one := by rw [← g4]; exact mag_lt a2
  have qs : q < 2 ^ 63 := by omega
  have qt : q < top := by omega
  have qn : q ≠ 0 := by unfold HQ2 at a1; omega
  have o0 : 0 < one := by omega
  have wq : Dy.W q := by unfold Dy.W; omega
  have qm : q % 2 ^ 63 = q := Nat.mod_eq_of_lt qs
  have fq : fin q := by unfold fin; rw [qm]; exact qt
  have sq : sgn q = false := by unfold sgn; exact decide_eq_false (by omega)
  obtain ⟨P, hroot, hLe, hGe⟩ := root_near wq fq sq (by rw [qm]; exact qn)
  rw [qm] at hLe hGe
  have mq : mag HQ1 * mag HQ1 ≤ mag q * one := by rw [g2]; exact Nat.mul_le_mul_right _ m1
  have P1 : P ≤ 4607182418800017408 := hGe _ (by rw [g4]; exact Nat.mul_le_mul_right _ (Nat.le_of_lt m3))
  have P2 : HQ1 ≤ P := hLe _ mq
  have Pm : mag P ≤ one := by rw [← g4]; exact mag_le_iff.2 P1
  have hroot' : Ieee.double.sqrt q = some P := by rw [hroot, Nat.min_eq_left (by omega), word_f]
  have wP : Dy.W P := by unfold Dy.W; omega
  obtain ⟨r, b, hr, b7, b8, b9, b10, b11, b12, b13, b14⟩ := near_spec (s := false) (P := P) (e := h) (by omega)
  have eP : word false P = P := word_f P
  rw [eP] at b10 b11 b12 b13
  have hx : 2 ^ ((D0 : Int) + 2 * h).toNat * (2 ^ (-h).toNat * 2 ^ (-h).toNat) = 2 ^ D0 * (2 ^ h.toNat * 2 ^ h.toNat) := by
    rw [← Nat.pow_add, ← Nat.pow_add, ← Nat.pow_add, ← Nat.pow_add]
    have : ((D0 : Int) + 2 * h).toNat + ((-h).toNat + (-h).toNat) = D0 + (h.toNat + h.toNat) := by omega
    rw [this]
  have T0 := two_pos D0
  have C := fun (u v : Nat) (k : u * 2 ^ (-h).toNat = v * 2 ^ h.toNat) => corr3 (o := one) a5 k hx T0 (two_pos _) (two_pos _)
  have RT := round_two (LeX := fun v => v * v ≤ mag q * one) (GeX := fun v => mag q * one ≤ v * v) (LeR := fun u => u * u ≤ mag x.natAbs * one) (GeR := fun u => mag x.natAbs * one ≤ u * u) (e := h) (P := P)
    (fun u v k => ⟨(C u v k).1.1, (C u v k).2.1⟩) hLe hGe (Nat.le_trans (Nat.le_trans g3 (mag_le_iff.2 (show HQ2 ≤ HQ1 by decide))) (mag_le_iff.2 P2)) (fun u k => big_r3 a5 hx T0 k mq (Nat.le_trans g3 (mag_le_iff.2 (show HQ2 ≤ HQ1 by decide))))
  rw [hr] at RT
  have xn : x.toNat = x.natAbs := by omega
  have ex : enc x = x.natAbs := by unfold enc; rw [if_pos (by omega)]; omega
  have z1 : sqz x false ≤ r := by
    have n0 := sqz_nonneg x false
    rcases Int.lt_or_le (r : Int) (sqz x false) with k | k
    · have k2 : (((r + 1 : Nat)) : Int) ≤ sqR (mag x.toNat) false := by show _ ≤ sqz x false; omega
      rw [sqR_down, xn] at k2
      have := RT.1 _ k2; omega
    · exact k
  have z2 : (r : Int) ≤ sqz x true := by
    have n0 := sqz_nonneg x true
    rcases Int.lt_or_le (sqz x true) (r : Int) with k | k
    · obtain ⟨t, ht⟩ := Int.eq_ofNat_of_zero_le n0
      have k2 : sqz x true ≤ (t : Int) := by omega
      rw [sqz_def, sqR_up, xn] at k2
      have := RT.2 _ k2; omega
    · exact k
  have z3 := sqz_up_le x
  have hout : dSqrt (enc x) up = out (if up = true then sqz x true else sqz x false) up := by
    unfold dSqrt
    have r1 : (!right (enc x)) = false := by rw [right_enc ox]; rfl
    rw [r1, if_neg (by decide), if_neg (by rw [ex]; unfold ok at ox; omega), if_neg (by rw [ex]; omega), ex, ← xn]
    cases up
    · rw [if_neg (by decide), sqz_def]
    · rw [if_pos rfl, sqz_def]
  have s1 : sqz x true ≤ (r : Int) ↔ mag x.natAbs * one ≤ mag r * mag r := by
    rw [sqz_def, sqR_up, xn]
  have s2 : (r : Int) ≤ sqz x false ↔ mag r * mag r ≤ mag x.natAbs * one := by
    rw [sqz_def, sqR_down, xn]
  obtain ⟨bk, hbk⟩ : ∃ bk, (nearT P h).2 = bk := ⟨_, rfl⟩
  obtain ⟨cc, hcc⟩ : ∃ cc, (nearT P h).1 = cc := ⟨_, rfl⟩
  have hnear : nearT P h = (cc, bk) := by rw [← hbk, ← hcc]
  rw [hcc] at b10 b13
  rw [hbk] at b11 b12
  have hns : nSideT [.f cc] = true := by show (!nan cc) = true; rw [b13]; rfl
  have esr : sg false (r : Int) = (r : Int) := sg_f _
  rw [esr] at b10
  by_cases ht : r < top
  · rw [b11 ht] at hnear
    obtain ⟨m, hm⟩ := back537 P2 hr b7 b14
    have hQ : mag b * mag b = m * m * one := by rw [hm]; exact prod_one3
    obtain ⟨Q, hQ'⟩ : ∃ Q, m * m = Q := ⟨_, rfl⟩
    rw [hQ'] at hQ
    have Q1 : Q ≤ 16 * one := by
      have k := Nat.mul_le_mul b8 b8
      rw [hQ] at k
      rw [four_sq] at k
      exact Nat.le_of_mul_le_mul_right k o0
    have eb := neg_word (s := false) (b := b) (by omega)
    have hf := fma_near (x := word true b) (y := word false b) (z := word false q) (W_word (by omega)) (W_word (by omega)) (W_word qs) (fin_word b9) (fin_word b9) (fin_word qt) (S := sg false ((mag q : Int) - Q))
      (by rw [sgn_word (by omega), sgn_word (by omega), sgn_word qs, word_abs (by omega), word_abs (by omega), word_abs qs, hQ, Int.natCast_mul]; exact sub_sg2)
      (fun _ => by rw [sgn_word (by omega), sgn_word (by omega), sgn_word qs]; rfl)
    have oS : ok (nz (sg false ((mag q : Int) - Q))) := ok_small (by rw [sg_f]; omega) (by rw [sg_f]; omega)
    have cr := C (mag r) (mag b) b7.symm
    rw [hQ] at cr
    obtain ⟨v1, v2⟩ := sign_enc oS
    obtain ⟨w1, w2⟩ := rn_sign (sg false ((mag q : Int) - Q))
    rw [nrst_ok oS] at hf
    have hf' : Ieee.double.fma (Op.negFloat .f64 (word false b)) (word false b) q = some (enc (nz (sg false ((mag q : Int) - Q)))) := by rw [word_f q] at hf; rw [eb]; exact hf
    refine ⟨P, cc, word false b, _, hroot', wP, hnear, W_word (by omega), hf', oS, hns, ?_⟩
    rw [hout]
    refine side_gen b10 z1 z2 z3 (fun _ => ?_) (fun _ => ?_)
    · rw [v1]; refine decide_eq_decide.2 ?_; rw [w1, s1, cr.2]
      have : mag q * one ≤ Q * one ↔ mag q ≤ Q := ⟨fun k => Nat.le_of_mul_le_mul_right k o0, fun k => Nat.mul_le_mul_right _ k⟩
      rw [this, sg_f]
      exact pos_sub
    · rw [v2]; refine decide_eq_decide.2 ?_; rw [w2, s2, cr.1]
      have : Q * one ≤ mag q * one ↔ Q ≤ mag q := ⟨fun k => Nat.le_of_mul_le_mul_right k o0, fun k => Nat.mul_le_mul_right _ k⟩
      rw [this, sg_f]
      exact neg_sub'
  · rw [b12 (by omega)] at hnear
    have e0 : Op.negFloat .f64 0 = word true 0 := by decide
    have q0 : 0 < mag q := by omega
    have hf := fma_near (x := word true 0) (y := word false 0) (z := word false q) (W_word (by omega)) (W_word (by omega)) (W_word qs) (fin_word (by omega)) (fin_word (by omega)) (fin_word qt) (S := (mag q : Int))
      (by
        rw [sgn_word (by omega), sgn_word (by omega), sgn_word qs, word_abs (by omega), word_abs (by omega), word_abs qs, mag_zero, Nat.zero_mul]
        have : ∀ t : Bool, sg t ((0 : Nat) : Int) = 0 := fun t => by cases t <;> rfl
        rw [this, Int.zero_add, sg_f])
      (fun h => by exfalso; omega)
    have oS : ok (nz (mag q : Int)) := ok_small (by omega) (by omega)
    have no : ¬ ok (r : Int) := by unfold ok; omega
    rw [nrst_ok oS] at hf
    have hf' : Ieee.double.fma (Op.negFloat .f64 0) 0 q = some (enc (nz (mag q : Int))) := by rw [word_f q, word_f 0] at hf; rw [e0]; exact hf
    refine ⟨P, cc, 0, _, hroot', wP, hnear, W_zero, hf', oS, hns, ?_⟩
    rw [hout]
    exact side_gen b10 z1 z2 z3 (fun h => absurd h no) (fun h => absurd h no)
end Go.Proofs.Ytakdeeknfcifpaa
