/- Walks: burnishref01.Mul, Sub. -/
import Derived.Test.YtakdeeknfcifpaaTu
namespace Go.Dy
open Ieee
open Go.Proofs.Ytakdeeknfcifpaa (sideF sideF_up sideF_dn frT nearT infT)
def HQ1 : Nat := 4602678819172646912
def HQ2 : Nat := 4598175219545276416
theorem HQ_facts : 2 * mag HQ1 = one ∧ mag HQ1 * mag HQ1 = mag HQ2 * one ∧ 2 ^ 53 ≤ mag HQ2 ∧ mag 4607182418800017408 = one := by decide +kernel
theorem sgn_word {s : Bool} {r : Nat} (h : r < 2 ^ 63) : sgn (word s r) = s := by
  unfold sgn word; cases s <;> simp <;> omega
theorem W_word {s : Bool} {r : Nat} (h : r < 2 ^ 63) : W (word s r) := by
  unfold W word; split <;> omega
theorem fin_word {s : Bool} {r : Nat} (h : r < top) : fin (word s r) := by
  have tp := top_eq
  unfold fin; rw [word_abs (by omega)]; exact h
theorem enc_abs {x : Int} (o : ok x) : enc x % 2 ^ 63 = x.natAbs ∧ sgn (enc x) = decide (x < 0) := by
  have tp := top_eq
  unfold ok at o
  constructor
  · unfold enc; split <;> omega
  · unfold sgn enc; congr 1; rw [eq_iff_iff]; split <;> omega
theorem pw {X c k a b d e : Nat} (h : c * 2 ^ k = X * 2 ^ a) (h1 : a + b = d) (h2 : k + b = e) : X * 2 ^ d = c * 2 ^ e := by
  subst h1; subst h2
  rw [Nat.pow_add, ← Nat.mul_assoc, ← h, Nat.mul_assoc, ← Nat.pow_add]
theorem pw3 {n m : Nat} (h : n + n = m) : 2 ^ n * 2 ^ n = 2 ^ m := by rw [← Nat.pow_add, h]
theorem pw2 {c a f : Nat} : c * 2 ^ a * 2 ^ f = c * 2 ^ (a + f) := by rw [Nat.mul_assoc, ← Nat.pow_add]
def D0 : Nat := 1100
theorem D0_eq : D0 = 1100 := rfl
def D1 : Nat := 1021
theorem D1_eq : D1 = 1021 := rfl
/-- A number as a fraction from a half to 1, by a power of two. -/
theorem fr_spec {x : Int} (o : ok x) (x0 : x ≠ 0) : ∃ (q : Nat) (i : Int), frT (enc x) = (word (decide (x < 0)) q, i) ∧ HQ1 ≤ q ∧ q < 4607182418800017408 ∧ -1073 ≤ i ∧ i ≤ 1024 ∧ mag x.natAbs * 2 ^ D0 = mag q * 2 ^ ((D0 : Int) + i).toNat ∧ ∃ c : Nat, mag q = c * 2 ^ D1 := by
  have tp := top_eq
  have d0 := D0_eq
  have d1 := D1_eq
  obtain ⟨eb, es⟩ := enc_abs o
  have hx0 : enc x % 2 ^ 63 ≠ 0 := by rw [eb]; omega
  have hf : enc x % 2 ^ 63 < top := by rw [eb]; unfold ok at o; omega
  obtain ⟨r, n1, n2, n3, n4, n5⟩ := norm_spec (W_enc o) hf hx0
  rw [es] at n1
  rw [eb] at n4 n5
  have ha : abs (enc x) = x.natAbs := eb
  rw [ha] at n4 n5
  have r63 : r < 2 ^ 63 := by omega
  have e1 : norm1 (enc x) % 2 ^ 52 = r % 2 ^ 52 := by rw [n1]; unfold word; split <;> omega
  have e2 : field (norm1 (enc x)) = r / 2 ^ 52 := by rw [n1]; unfold field word; split <;> omega
  have e3 : ((-1 : Int) + 1023).toNat = 1022 := by decide
  refine ⟨1022 * 2 ^ 52 + r % 2 ^ 52, norm2 (enc x) + ((r / 2 ^ 52 : Nat) : Int) - 1022, ?_, by unfold HQ1; omega, by omega, ?_, ?_, ?_, ?_⟩
  · unfold frT built; rw [e1, e2, e3, es]
  · unfold norm2; split <;> omega
  · unfold norm2; split <;> omega
  · have mf : mag (1022 * 2 ^ 52 + r % 2 ^ 52) = (2 ^ 52 + r % 2 ^ 52) * 2 ^ D1 := by
      have := mag_form D1 (r % 2 ^ 52) (Nat.mod_lt _ (by decide))
      rw [← this, d1]; congr 1; omega
    have mr : mag r = (2 ^ 52 + r % 2 ^ 52) * 2 ^ (r / 2 ^ 52 - 1) := by
      unfold mag; rw [if_neg (by omega)]
    have rk : 1 ≤ r / 2 ^ 52 := by omega
    rw [mf]
    by_cases h : x.natAbs < 2 ^ 52
    · have m := n4 h
      have n2' : norm2 (enc x) = -52 := norm2_sub (by rw [ha]; exact h)
      rw [n2']
      have t : ((D0 : Int) + (-52 + ((r / 2 ^ 52 : Nat) : Int) - 1022)).toNat = 26 + r / 2 ^ 52 := by omega
      rw [t]
      have h1 := pw (d := D0) (e := D1 + (26 + r / 2 ^ 52)) (b := D0 - 52) (mr.symm.trans m) (by omega) (by omega)
      exact h1.trans (pw2 (c := 2 ^ 52 + r % 2 ^ 52) (a := D1) (f := 26 + r / 2 ^ 52)).symm
    · have m := n5 h
      have n2' : norm2 (enc x) = 0 := norm2_nor (by rw [ha]; exact h)
      rw [n2']
      have t : ((D0 : Int) + (0 + ((r / 2 ^ 52 : Nat) : Int) - 1022)).toNat = 78 + r / 2 ^ 52 := by omega
      rw [t]
      have h0 : (2 ^ 52 + r % 2 ^ 52) * 2 ^ (r / 2 ^ 52 - 1) = mag x.natAbs * 2 ^ 0 := by rw [← mr, m, Nat.pow_zero, Nat.mul_one]
      have h1 := pw (d := D0) (e := D1 + (78 + r / 2 ^ 52)) (b := D0) h0 (Nat.zero_add _) (by omega)
      exact h1.trans (pw2 (c := 2 ^ 52 + r % 2 ^ 52) (a := D1) (f := 78 + r / 2 ^ 52)).symm
  · refine ⟨2 ^ 52 + r % 2 ^ 52, ?_⟩
    have := mag_form D1 (r % 2 ^ 52) (Nat.mod_lt _ (by decide))
    rw [← this, d1]; congr 1; omega
theorem top_big : 4 * one < mag top := by decide +kernel
/-- A nearest number by a power of two, and that back again. -/
theorem near_spec {s : Bool} {P : Nat} {e : Int} (hP : mag P ≤ 2 * one) : ∃ r b : Nat, nr (mag P * 2 ^ e.toNat) (-e).toNat = r ∧ mag b * 2 ^ e.toNat = mag r * 2 ^ (-e).toNat ∧ mag b ≤ 4 * one ∧ b < top ∧ Cb (nearT (word s P) e).1 (sg s r) ∧ (r < top → (nearT (word s P) e).2 = word s b) ∧ (top ≤ r → (nearT (word s P) e).2 = 0) ∧ nan (nearT (word s P) e).1 = false ∧ (0 ≤ e → b = P) := by
  have tp := top_eq
  have tb := top_big
  have Pt : P < top := mag_lt_iff.1 (by omega)
  obtain ⟨b, b1, b2, b3, b5⟩ := back_of (e := e) (P := P)
  obtain ⟨r, hr⟩ : ∃ r, nr (mag P * 2 ^ e.toNat) (-e).toNat = r := ⟨_, rfl⟩
  rw [hr] at b1 b3
  have b4 : mag b ≤ 4 * one := by omega
  have bt : b < top := mag_lt_iff.1 (by omega)
  have e1 : ldx (word s P) e = word s (min r top) := by
    unfold ldx
    rw [word_abs (by omega), if_pos Pt, sgn_word (by omega), hr]
  have ei : infT (word s (min r top)) 0 = decide (top ≤ r) := by
    have h1 : infT (word s (min r top)) 0 = inf (word s (min r top)) := by
      show fgt (abs (word s (min r top))) 9218868437227405311 = inf (word s (min r top))
      exact fgt_abs_max (W_word (by omega)).lt
    rw [h1]; unfold inf; rw [word_abs (by omega)]; congr 1; rw [eq_iff_iff]; omega
  refine ⟨r, b, hr, b1, b4, bt, ?_, ?_, ?_, ?_, b5⟩
  · show Cb (ldx (word s P) e) (sg s r)
    rw [e1]
    by_cases h : top ≤ r
    · rw [Nat.min_eq_right h]
      cases s
      · left; exact ⟨by show (top : Int) ≤ r; omega, by decide⟩
      · right; left; exact ⟨by show -(r : Int) ≤ _; omega, by decide⟩
    · rw [Nat.min_eq_left (by omega)]
      right; right
      refine ⟨?_, fin_word (by omega), W_word (by omega), ?_⟩
      · unfold ok sg; split <;> omega
      · unfold dec word sg
        cases s
        · simp; omega
        · simp; omega
  · intro h
    show (if infT (ldx (word s P) e) 0 = true then 0 else ldx (ldx (word s P) e) (-e)) = _
    rw [e1, ei, if_neg (by simpa using h), Nat.min_eq_left (by omega)]
    unfold ldx
    rw [word_abs (by omega), if_pos h, sgn_word (by omega), Int.neg_neg, b3, Nat.min_eq_left (by omega)]
  · intro h
    show (if infT (ldx (word s P) e) 0 = true then 0 else ldx (ldx (word s P) e) (-e)) = _
    rw [e1, ei, if_pos (decide_eq_true h)]
  · show nan (ldx (word s P) e) = false
    rw [e1]; unfold nan; rw [word_abs (by omega)]; exact decide_eq_false (by omega)
theorem corr {u v R X K1 K2 o : Nat} (k1 : 0 < K1) (k2 : 0 < K2) (hu : u * K1 = v * K2) (hR : R * K1 = X * K2) : (u * o ≤ R ↔ v * o ≤ X) ∧ (R ≤ u * o ↔ X ≤ v * o) := by
  have e : u * o * K1 = v * o * K2 := by rw [Nat.mul_right_comm, hu, Nat.mul_right_comm]
  constructor
  · constructor
    · intro h
      have := Nat.mul_le_mul_right K1 h
      rw [e, hR] at this
      exact Nat.le_of_mul_le_mul_right this k2
    · intro h
      have := Nat.mul_le_mul_right K2 h
      rw [← e, ← hR] at this
      exact Nat.le_of_mul_le_mul_right this k1
  · constructor
    · intro h
      have := Nat.mul_le_mul_right K1 h
      rw [e, hR] at this
      exact Nat.le_of_mul_le_mul_right this k2
    · intro h
      have := Nat.mul_le_mul_right K2 h
      rw [← e, ← hR] at this
      exact Nat.le_of_mul_le_mul_right this k1
theorem z_fl : Fl 0 := ⟨0, 0, by decide, by decide⟩
theorem one_fl : Fl 1 := ⟨1, 0, by decide, by decide⟩
theorem rn_sign (S : Int) : (0 < V (nz S) ↔ 0 < S) ∧ (V (nz S) < 0 ↔ S < 0) := by
  have h1 : 0 < S → 1 ≤ rn S := fun h => le_rn one_fl (by omega)
  have h2 : S < 0 → rn S ≤ -1 := fun h => rn_le one_fl.neg (by omega)
  have h3 : S ≤ 0 → rn S ≤ 0 := fun h => rn_le z_fl h
  have h4 : 0 ≤ S → 0 ≤ rn S := fun h => le_rn z_fl h
  unfold rn at *
  constructor <;> omega
theorem V_sg {x : Int} : V x = sg (decide (x < 0)) (mag x.natAbs : Int) := by
  have h1 : 0 ≤ x ↔ 0 ≤ V x := V_nonneg.symm
  have h2 := V_natAbs x
  unfold sg
  by_cases h : x < 0
  · rw [decide_eq_true h, if_pos rfl]; omega
  · rw [decide_eq_false h, if_neg (by decide)]; omega
theorem sg_mul (s t : Bool) (a b : Int) : sg s a * sg t b = sg (s ^^ t) (a * b) := by
  cases s <;> cases t <;> simp [sg, Int.mul_neg, Int.neg_mul]
theorem V_sgr (s : Bool) (r : Nat) : V (sg s r) = sg s (mag r : Int) := by
  cases s
  · exact V_nat r
  · exact V_ofNat_neg r
/-- The sign of what is lacking. -/
theorem lack {s : Bool} {den N r Q b : Nat} {S : Int} {d : Int} (od : ok d) (hd : d = nz S) (hS : S = sg s ((Q : Int) - b)) (c1 : mag r * den ≤ N ↔ b ≤ Q) (c2 : N ≤ mag r * den ↔ Q ≤ b) :
    fgt (enc d) 0 = decide (V (sg s r) * den < sg s (N : Int)) ∧ flt (enc d) 0 = decide (sg s (N : Int) < V (sg s r) * den) := by
  obtain ⟨g1, g2⟩ := sign_enc od
  obtain ⟨k1, k2⟩ := rn_sign S
  rw [← hd] at k1 k2
  rw [g1, g2, V_sgr]
  have c3 : ((mag r : Int) * den ≤ N ↔ b ≤ Q) := by rw [← c1]; exact_mod_cast Iff.rfl
  have c4 : ((N : Int) ≤ (mag r : Int) * den ↔ Q ≤ b) := by rw [← c2]; exact_mod_cast Iff.rfl
  constructor
  · congr 1; rw [eq_iff_iff, k1, hS]
    cases s
    · show 0 < (Q : Int) - b ↔ (mag r : Int) * den < N; omega
    · show 0 < -((Q : Int) - b) ↔ -(mag r : Int) * den < -(N : Int)
      rw [Int.neg_mul]; omega
  · congr 1; rw [eq_iff_iff, k2, hS]
    cases s
    · show (Q : Int) - b < 0 ↔ (N : Int) < (mag r : Int) * den; omega
    · show -((Q : Int) - b) < 0 ↔ -(N : Int) < -(mag r : Int) * den
      rw [Int.neg_mul]; omega
theorem frac_mul {mx my q1 q2 A : Nat} {i k e : Int} (h1 : mx * 2 ^ A = q1 * 2 ^ ((A : Int) + i).toNat) (h2 : my * 2 ^ A = q2 * 2 ^ ((A : Int) + k).toNat) (he : i + k = e) (bi : 0 ≤ (A : Int) + i) (bk : 0 ≤ (A : Int) + k) : mx * my * (2 ^ (A + A) * 2 ^ (-e).toNat) = q1 * q2 * (2 ^ (A + A) * 2 ^ e.toNat) := by
  have e1 : mx * my * (2 ^ (A + A) * 2 ^ (-e).toNat) = mx * 2 ^ A * (my * 2 ^ A) * 2 ^ (-e).toNat := by
    rw [Nat.pow_add]
    generalize 2 ^ A = a
    generalize 2 ^ (-e).toNat = n
    ac_rfl
  rw [e1, h1, h2, Nat.mul_mul_mul_comm, ← Nat.pow_add, Nat.mul_assoc, ← Nat.pow_add, ← Nat.pow_add]
  congr 2; omega
theorem lift2 {u v T a b : Nat} (h : u * a = v * b) : u * (T * a) = v * (T * b) := by
  rw [Nat.mul_left_comm, h, Nat.mul_left_comm]
theorem big_r {u R X T a b o H : Nat} (hR : R * (T * a) = X * (T * b)) (h : R ≤ u * o) (hq : H * o ≤ X) (g3 : 2 ^ 53 ≤ H) (T0 : 0 < T) (o0 : 0 < o) : 2 ^ 53 * b ≤ u * a := by
  have h1 := Nat.mul_le_mul_right (T * a) h
  rw [hR] at h1
  generalize 2 ^ 53 = W at *
  have h3 : W * o * (T * b) ≤ u * o * (T * a) := Nat.le_trans (Nat.mul_le_mul_right _ (Nat.le_trans (Nat.mul_le_mul_right _ g3) hq)) h1
  have h4 : W * o * (T * b) = W * b * (o * T) := by ac_rfl
  have h5 : u * o * (T * a) = u * a * (o * T) := by ac_rfl
  rw [h4, h5] at h3
  exact Nat.le_of_mul_le_mul_right h3 (Nat.mul_pos o0 T0)
theorem prod_one {c1 c2 : Nat} : ∃ Q, c1 * 2 ^ D1 * (c2 * 2 ^ D1) = Q * one := by
  obtain ⟨E0, hE, eE⟩ := one_pow
  have d1 := D1_eq
  refine ⟨c1 * c2 * 2 ^ (D1 + D1 - E0), ?_⟩
  have h : D1 + D1 - E0 + E0 = D1 + D1 := by omega
  rw [eE, Nat.mul_mul_mul_comm, ← Nat.pow_add, Nat.mul_assoc (c1 * c2), ← Nat.pow_add, h]
theorem sub_sg {s : Bool} {Q b o : Int} : sg s (Q * o) + sg (!s) b * o = sg s (Q - b) * o := by
  cases s
  · show Q * o + -b * o = (Q - b) * o
    rw [← Int.add_mul]; congr 1
  · show -(Q * o) + b * o = -(Q - b) * o
    rw [← Int.neg_mul, ← Int.add_mul]; congr 1; omega
theorem zero_sg {s : Bool} {Q o : Int} : sg s (Q * o) + sg true ((mag 0 : Nat) : Int) * o = sg s Q * o := by
  have h : sg true ((mag 0 : Nat) : Int) = 0 := by rw [mag_zero]; rfl
  rw [h, Int.zero_mul, Int.add_zero]
  cases s
  · rfl
  · show -(Q * o) = -Q * o
    rw [Int.neg_mul]
theorem corr2 {u v mx my q1 q2 o a b c d TA : Nat} (h1 : mx * TA = q1 * a) (h2 : my * TA = q2 * b) (hu : u * c = v * d) (hx : a * c = b * d) (p1 : 0 < TA) (p2 : 0 < c) (p3 : 0 < b) (p4 : 0 < d) : (u * my ≤ mx * o ↔ v * q2 ≤ q1 * o) ∧ (mx * o ≤ u * my ↔ q1 * o ≤ v * q2) := by
  have e1 : u * my * (TA * c) = v * q2 * (b * d) := by
    have : u * my * (TA * c) = u * c * (my * TA) := by ac_rfl
    rw [this, hu, h2]; ac_rfl
  have e2 : mx * o * (TA * c) = q1 * o * (b * d) := by
    have : mx * o * (TA * c) = mx * TA * (o * c) := by ac_rfl
    rw [this, h1, ← hx]; ac_rfl
  have k1 := Nat.mul_pos p1 p2
  have k2 := Nat.mul_pos p3 p4
  constructor
  · constructor
    · intro h
      have := Nat.mul_le_mul_right (TA * c) h
      rw [e1, e2] at this
      exact Nat.le_of_mul_le_mul_right this k2
    · intro h
      have := Nat.mul_le_mul_right (b * d) h
      rw [← e1, ← e2] at this
      exact Nat.le_of_mul_le_mul_right this k1
  · constructor
    · intro h
      have := Nat.mul_le_mul_right (TA * c) h
      rw [e1, e2] at this
      exact Nat.le_of_mul_le_mul_right this k2
    · intro h
      have := Nat.mul_le_mul_right (b * d) h
      rw [← e1, ← e2] at this
      exact Nat.le_of_mul_le_mul_right this k1
theorem big_r2 {u mx my q1 q2 o a b c d TA H : Nat} (h1 : mx * TA = q1 * a) (h2 : my * TA = q2 * b) (hx : a * c = b * d) (p3 : 0 < b) (o0 : 0 < o) (h : mx * o ≤ u * my) (hq : H ≤ q1) (hq2 : q2 ≤ o) (g3 : 2 ^ 53 ≤ H) : 2 ^ 53 * d ≤ u * c := by
  have k := Nat.mul_le_mul_right (TA * c) h
  have e1 : u * my * (TA * c) = u * c * q2 * b := by
    have : u * my * (TA * c) = u * c * (my * TA) := by ac_rfl
    rw [this, h2]; ac_rfl
  have e2 : mx * o * (TA * c) = q1 * o * d * b := by
    have : mx * o * (TA * c) = mx * TA * (o * c) := by ac_rfl
    have h3 : q1 * a * (o * c) = q1 * o * (a * c) := by ac_rfl
    rw [this, h1, h3, hx]; ac_rfl
  rw [e1, e2] at k
  have k2 := Nat.le_of_mul_le_mul_right k p3
  generalize 2 ^ 53 = W at *
  have k3 : W * d * o ≤ u * c * o := by
    refine Nat.le_trans ?_ (Nat.mul_le_mul_left (u * c) hq2)
    refine Nat.le_trans ?_ k2
    have : W * d * o = W * o * d := by ac_rfl
    rw [this]
    exact Nat.mul_le_mul_right _ (Nat.mul_le_mul_right _ (Nat.le_trans g3 hq))
  exact Nat.le_of_mul_le_mul_right k3 o0
def TR0 : Nat := 4273916046374600704
theorem TR_facts : mag TR0 * 2 ^ 52 ≤ mag HQ1 ∧ 2 ^ 53 * 2 ^ 53 ≤ mag TR0 := by decide +kernel
/-- What comes back is a multiple of 2^53 units. -/
theorem back53 {P r b : Nat} {e : Int} (hP : HQ1 ≤ P) (hr : nr (mag P * 2 ^ e.toNat) (-e).toNat = r) (b7 : mag b * 2 ^ e.toNat = mag r * 2 ^ (-e).toNat) (b14 : 0 ≤ e → b = P) : ∃ m, mag b = m * 2 ^ 53 := by
  obtain ⟨t1, t2⟩ := TR_facts
  have hPm := mag_le_iff.2 hP
  by_cases he : 0 ≤ e
  · rw [b14 he]
    obtain ⟨v, hv, -⟩ := nat_dvd_grid (g := 53) (fl_mag P) (Nat.le_trans t2 (Nat.le_trans (Nat.le_mul_of_pos_right _ (by decide)) (Nat.le_trans t1 hPm)))
    exact ⟨v, hv⟩
  · have e0 : e.toNat = 0 := by omega
    obtain ⟨j, hj⟩ : ∃ j, (-e).toNat = j := ⟨_, rfl⟩
    rw [e0, hj, Nat.pow_zero, Nat.mul_one] at hr b7
    by_cases h : 53 ≤ j
    · refine ⟨mag r * 2 ^ (j - 53), ?_⟩
      rw [b7, Nat.mul_assoc, ← Nat.pow_add]
      congr 2; omega
    · have k : TR0 ≤ r := by
        rw [← hr]; refine le_nr ?_
        exact Nat.le_trans (Nat.mul_le_mul_left _ (Nat.pow_le_pow_right (by omega) (by omega))) (Nat.le_trans t1 hPm)
      obtain ⟨v, hv, -⟩ := nat_dvd_grid (g := 53) (fl_mag r) (Nat.le_trans t2 (mag_le_iff.2 k))
      exact ⟨v * 2 ^ j, by rw [b7, hv]; ac_rfl⟩
theorem prod_one2 {m c : Nat} : ∃ Q, m * 2 ^ 53 * (c * 2 ^ D1) = Q * one := by
  obtain ⟨E0, hE, eE⟩ := one_pow
  have d1 := D1_eq
  refine ⟨m * c, ?_⟩
  have h : 53 + D1 = E0 := by omega
  rw [eE, Nat.mul_mul_mul_comm, ← Nat.pow_add, h]
theorem sub_sg2 {t : Bool} {Q q o : Int} : sg (!t) (Q * o) + sg t q * o = sg t (q - Q) * o := by
  cases t
  · show -(Q * o) + q * o = (q - Q) * o
    rw [← Int.neg_mul, ← Int.add_mul]; congr 1; omega
  · show Q * o + -q * o = -(q - Q) * o
    rw [← Int.add_mul]; congr 1; omega
theorem word_enc {s : Bool} {q : Nat} (h : q < top) (h0 : q ≠ 0) : word s q = enc (sg s q) ∧ ok (sg s (q : Int)) := by
  have tp := top_eq
  constructor
  · unfold word enc sg
    cases s
    · simp
    · simp; omega
  · unfold ok sg; split <;> omega
theorem neg_sign {n : Int} (o : ok n) : fgt (Op.negFloat .f64 (enc n)) 0 = flt (enc n) 0 ∧ flt (Op.negFloat .f64 (enc n)) 0 = fgt (enc n) 0 := by
  by_cases h : n = 0
  · subst h; decide +kernel
  · have tp := top_eq
    have o' : ok (-n) := by unfold ok at *; omega
    have e : Op.negFloat .f64 (enc n) = enc (-n) := by
      rw [neg_bits (W_enc o)]
      unfold ok at o
      unfold enc
      by_cases c : 0 ≤ n
      · rw [if_pos c, if_pos (by omega), if_neg (by omega)]; omega
      · rw [if_neg c, if_neg (by omega), if_pos (by omega)]; omega
    obtain ⟨a1, a2⟩ := sign_enc o
    obtain ⟨b1, b2⟩ := sign_enc o'
    rw [e, a1, a2, b1, b2, V_neg]
    constructor
    · congr 1; rw [eq_iff_iff]; omega
    · congr 1; rw [eq_iff_iff]; omega
end Go.Dy
