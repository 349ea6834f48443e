/- Plain facts: a number as a fraction and a power of two; two roundings; x * y + z. Walks: burnishref01.Mul, Sub. Walks: burnishref01.Mul, Sub. Walks: burnishref01.Div. Plain facts: roots to the nearest number. Walks: burnishref01.Sqrt. Walks: burnishref01's Sub, Mul, Div, Sqrt are those of dir. -/
import Derived.Test.YtkhplflbcgjkcaaGreatTp
import Derived.Test.YtkhplflbcgjkcaaGreatDc
/-! Plain facts: a number as a fraction and a power of two; two roundings; x * y + z. -/
namespace Go.Dy
open Ieee
open Go.Proofs.YtkhplflbcgjkcaaGreat (sideF sideF_up sideF_dn frT)
theorem quo_side {num z : Int} {den : Nat} (hd : 0 < den) {c d : Nat} {up : Bool} (hc : Cb c z) (a1 : fl num den false ≤ z) (a2 : z ≤ fl num den true) (h1 : ok z → fgt d 0 = decide (V z * den < num)) (h2 : ok z → flt d 0 = decide (num < V z * den)) : sideF c d up = out (fl num den up) up := by
 have hup : fl num den true ≤ fl num den false + 1 := fl_up_le hd
 cases up
 ·refine sideF_dn hc a1 (by omega) (fun o => ?_)
  rw [h2 o]
  by_cases h : num < V z * den
  ·rw [if_pos (decide_eq_true h)]
   have : ¬ z ≤ fl num den false := by rw [fl_down hd]; omega
   omega
  ·rw [if_neg (by simpa using h)]
   have : z ≤ fl num den false := by rw [fl_down hd]; omega
   omega
 ·refine sideF_up hc a2 (by omega) (fun o => ?_)
  rw [h1 o]
  by_cases h : V z * den < num
  ·rw [if_pos (decide_eq_true h)]
   have : ¬ fl num den true ≤ z := by rw [fl_up hd]; omega
   omega
  ·rw [if_neg (by simpa using h)]
   have : fl num den true ≤ z := by rw [fl_up hd]; omega
   omega
def sg (s : Bool) (n : Int) : Int := if s then -n else n
theorem between {s : Bool} {N den r : Nat} (hd : 0 < den) (hL : ∀ t, mag t * den ≤ N → t ≤ r) (hG : ∀ t, N ≤ mag t * den → r ≤ t) : fl (sg s N) den false ≤ sg s r ∧ sg s r ≤ fl (sg s N) den true := by
 have k1 : fl (N : Int) den false ≤ r := by
  rcases Int.lt_or_le (r : Int) (fl (N : Int) den false) with h | h
  ·have h2 : (((r + 1 : Nat)) : Int) ≤ fl (N : Int) den false := by omega
   rw [fl_down hd, V_nat] at h2
   have h3 : mag (r + 1) * den ≤ N := by exact_mod_cast h2
   have := hL _ h3; omega
  ·exact h
 have k2 : (r : Int) ≤ fl (N : Int) den true := by
  rcases Int.lt_or_le (fl (N : Int) den true) (r : Int) with h | h
  ·have h2 : fl (N : Int) den true ≤ (r : Int) - 1 := by omega
   rw [fl_up hd] at h2
   by_cases r0 : r = 0
   ·subst r0
    have h3 : V ((0 : Nat) - 1 : Int) ≤ -1 := by have := V_lt (show ((0 : Nat) - 1 : Int) < 0 by omega); rw [V_zero] at this; omega
    have h4 : V ((0 : Nat) - 1 : Int) * (den : Int) ≤ (-1) * den := Int.mul_le_mul_of_nonneg_right h3 (by omega)
    omega
   ·have e : (r : Int) - 1 = ((r - 1 : Nat) : Int) := by omega
    rw [e, V_nat] at h2
    have h3 : N ≤ mag (r - 1) * den := by exact_mod_cast h2
    have := hG _ h3; omega
  ·exact h
 cases s
 ·exact ⟨k1, k2⟩
 ·show fl (-(N : Int)) den false ≤ -(r : Int) ∧ -(r : Int) ≤ fl (-(N : Int)) den true
  rw [fl_neg, fl_neg]
  constructor
  ·show -fl (N : Int) den true ≤ -(r : Int); omega
  ·show -(r : Int) ≤ -fl (N : Int) den false; omega
theorem mag_of_fl {n : Nat} (h : Fl (n : Int)) : ∃ t, mag t = n := by
 obtain ⟨z, hz⟩ := h.rank
 have z0 : 0 ≤ z := V_nonneg.1 (by omega)
 refine ⟨z.toNat, ?_⟩
 have := V_toNat z0
 omega
theorem fl_mul2 {t j : Nat} : Fl ((mag t * 2 ^ j : Nat) : Int) := by
 obtain ⟨m, k, h1, h2⟩ := fl_mag t
 exact ⟨m, k + j, h1, by rw [Int.natCast_mul, Int.natCast_pow, h2, Int.pow_add, Int.mul_assoc]; rfl⟩
theorem nat_dvd_grid {n g : Nat} (h : Fl (n : Int)) (h2 : 2 ^ 53 * 2 ^ g ≤ n) : ∃ v, n = v * 2 ^ g ∧ Fl (v : Int) := by
 obtain ⟨m, k, h3, e⟩ := h
 have m0 : 0 ≤ m := by
  rcases Int.lt_or_le m 0 with h | h
  ·have := Int.mul_neg_of_neg_of_pos h (pow_pos' k); omega
  ·exact h
 obtain ⟨q, rfl⟩ := Int.eq_ofNat_of_zero_le m0
 have e' : n = q * 2 ^ k := by exact_mod_cast e
 have h4 : 2 ^ 53 * 2 ^ g ≤ 2 ^ 53 * 2 ^ k := by rw [e'] at h2; exact Nat.le_trans h2 (Nat.mul_le_mul_right _ (by omega))
 have h5 : g ≤ k := (Nat.pow_le_pow_iff_right (by omega)).1 (Nat.le_of_mul_le_mul_left h4 (by omega))
 refine ⟨q * 2 ^ (k - g), ?_, ⟨q, k - g, h3, by rw [Int.natCast_mul, Int.natCast_pow]; rfl⟩⟩
 rw [Nat.mul_assoc, ← Nat.pow_add, e']; congr 2; omega
theorem round_two {LeX GeX LeR GeR : Nat → Prop} {e : Int} {P : Nat}
  (C : ∀ u v : Nat, u * 2 ^ (-e).toNat = v * 2 ^ e.toNat → (LeR u → LeX v) ∧ (GeR u → GeX v))
  (hL : ∀ t, LeX (mag t) → t ≤ P) (hG : ∀ t, GeX (mag t) → P ≤ t) (big : 2 ^ 53 ≤ mag P)
  (bigR : ∀ u, GeR u → 2 ^ 53 * 2 ^ e.toNat ≤ u * 2 ^ (-e).toNat) :
  (∀ t, LeR (mag t) → t ≤ nr (mag P * 2 ^ e.toNat) (-e).toNat) ∧ (∀ t, GeR (mag t) → nr (mag P * 2 ^ e.toNat) (-e).toNat ≤ t) := by
 by_cases he : e < 0
 ·have e0 : e.toNat = 0 := by omega
  obtain ⟨j, hj⟩ : ∃ j, (-e).toNat = j := ⟨_, rfl⟩
  rw [e0, hj] at C bigR ⊢
  have key : ∀ t, ∃ s, mag s = mag t * 2 ^ j := fun t => mag_of_fl fl_mul2
  constructor
  ·intro t h
   obtain ⟨s, hs⟩ := key t
   have := hL s ((C (mag t) (mag s) (by rw [hs, Nat.pow_zero, Nat.mul_one])).1 h)
   refine le_nr ?_
   rw [← hs, Nat.pow_zero, Nat.mul_one]; exact mag_le_iff.2 this
  ·intro t h
   obtain ⟨s, hs⟩ := key t
   have := hG s ((C (mag t) (mag s) (by rw [hs, Nat.pow_zero, Nat.mul_one])).2 h)
   refine nr_le ?_
   rw [← hs, Nat.pow_zero, Nat.mul_one]; exact mag_le_iff.2 this
 ·have e0 : (-e).toNat = 0 := by omega
  obtain ⟨j, hj⟩ : ∃ j, e.toNat = j := ⟨_, rfl⟩
  rw [e0, hj] at C bigR ⊢
  constructor
  ·intro t h
   refine le_nr ?_
   rw [Nat.pow_zero, Nat.mul_one]
   rcases Nat.lt_or_ge (mag t) (2 ^ 53 * 2 ^ j) with h1 | h1
   ·exact Nat.le_trans (Nat.le_of_lt h1) (Nat.mul_le_mul_right _ big)
   ·obtain ⟨v, hv, fv⟩ := nat_dvd_grid (fl_mag t) h1
    obtain ⟨s, hs⟩ := mag_of_fl fv
    have := hL s ((C (mag t) (mag s) (by rw [hs, Nat.pow_zero, Nat.mul_one]; exact hv)).1 h)
    rw [hv, ← hs]; exact Nat.mul_le_mul_right _ (mag_le_iff.2 this)
  ·intro t h
   refine nr_le ?_
   rw [Nat.pow_zero, Nat.mul_one]
   have h1 := bigR _ h
   rw [Nat.pow_zero, Nat.mul_one] at h1
   obtain ⟨v, hv, fv⟩ := nat_dvd_grid (fl_mag t) h1
   obtain ⟨s, hs⟩ := mag_of_fl fv
   have := hG s ((C (mag t) (mag s) (by rw [hs, Nat.pow_zero, Nat.mul_one]; exact hv)).2 h)
   rw [hv, ← hs]; exact Nat.mul_le_mul_right _ (mag_le_iff.2 this)
theorem nr_twice (n j : Nat) : mag (nr n j) * 2 ^ j ≤ 2 * n := by
 have h1 := rdn_le (n / 2 ^ j)
 have h2 : mag (rdn (n / 2 ^ j)) * 2 ^ j ≤ n := Nat.le_trans (Nat.mul_le_mul_right _ h1) (Nat.div_mul_le_self _ _)
 unfold nr
 dsimp only
 rw [Nat.add_mul]
 split
 ·omega
 ·split
  ·omega
  ·omega
theorem back_of {e : Int} {P : Nat} : ∃ s : Nat, mag s * 2 ^ e.toNat = mag (nr (mag P * 2 ^ e.toNat) (-e).toNat) * 2 ^ (-e).toNat ∧ mag s ≤ 2 * mag P ∧ nr (mag (nr (mag P * 2 ^ e.toNat) (-e).toNat) * 2 ^ (-e).toNat) e.toNat = s ∧ (0 ≤ e → s = P) := by
 by_cases he : e < 0
 ·have e0 : e.toNat = 0 := by omega
  obtain ⟨j, hj⟩ : ∃ j, (-e).toNat = j := ⟨_, rfl⟩
  rw [e0, hj, Nat.pow_zero, Nat.mul_one]
  obtain ⟨s, hs⟩ := mag_of_fl (fl_mul2 (t := nr (mag P) j) (j := j))
  refine ⟨s, by rw [Nat.mul_one]; exact hs, ?_, ?_, fun h => by omega⟩
  ·rw [hs]; exact nr_twice (mag P) j
  ·exact nr_exact (by rw [hs, Nat.pow_zero, Nat.mul_one])
 ·have e0 : (-e).toNat = 0 := by omega
  obtain ⟨j, hj⟩ : ∃ j, e.toNat = j := ⟨_, rfl⟩
  rw [e0, hj]
  obtain ⟨t, ht⟩ := mag_of_fl (fl_mul2 (t := P) (j := j))
  have h1 : nr (mag P * 2 ^ j) 0 = t := nr_exact (by rw [ht, Nat.pow_zero, Nat.mul_one])
  rw [h1, ht, Nat.pow_zero, Nat.mul_one]
  exact ⟨P, rfl, by rw [Nat.two_mul]; exact Nat.le_add_right _ _, nr_exact rfl, fun _ => rfl⟩
theorem fma_near {x y z : Nat} (hx : W x) (hy : W y) (hz : W z) (fx : fin x) (fy : fin y) (fz : fin z) {S : Int}
  (hS : sg (sgn x ^^ sgn y) ((mag (x % 2 ^ 63) * mag (y % 2 ^ 63) : Nat) : Int) + sg (sgn z) (mag (z % 2 ^ 63) : Int) * one = S * one)
  (h0 : S = 0 → ((sgn x ^^ sgn y) && sgn z) = false) : double.fma x y z = some (nrst (nz S)) := by
 obtain ⟨m, e, r1, m1⟩ := read_num hx.lt fx
 obtain ⟨n, f, r2, m2⟩ := read_num hy.lt fy
 obtain ⟨k, g, r3, m3⟩ := read_num hz.lt fz
 unfold Format.fma
 rw [r1, r2, r3]
 simp only [Datum.product, Option.bind]
 unfold Datum.sum
 dsimp only
 obtain ⟨B, hB⟩ : ∃ B : Nat, (B : Int) = min (-1074 + (e : Int) + (-1074 + (f : Int))) (-1074 + (g : Int)) + 2148 := ⟨(min (-1074 + (e : Int) + (-1074 + (f : Int))) (-1074 + (g : Int)) + 2148).toNat, by omega⟩
 have k1 : (-1074 + (e : Int) + (-1074 + (f : Int)) - min (-1074 + (e : Int) + (-1074 + (f : Int))) (-1074 + (g : Int))).toNat = e + f - B := by omega
 have k2 : (-1074 + (g : Int) - min (-1074 + (e : Int) + (-1074 + (f : Int))) (-1074 + (g : Int))).toNat = g + 1074 - B := by omega
 rw [k1, k2]
 have b1 : B ≤ e + f := by omega
 have b2 : B ≤ g + 1074 := by omega
 have o1 : (one : Int) = ((2 ^ 1074 : Nat) : Int) := by
  obtain ⟨E0, hE, eE⟩ := one_pow
  rw [eE, hE]
 have hT : (signed (sgn x ^^ sgn y) (m * n) (e + f - B) + signed (sgn z) k (g + 1074 - B)) * ((2 ^ B : Nat) : Int) = S * one := by
  rw [← hS, m1, m2, m3, signed_eq, signed_eq, Int.add_mul]
  have p1 : m * n * 2 ^ (e + f - B) * 2 ^ B = m * 2 ^ e * (n * 2 ^ f) := by
   rw [Nat.mul_assoc, ← Nat.pow_add, show e + f - B + B = e + f by omega, Nat.pow_add]; grind
  have p2 : k * 2 ^ (g + 1074 - B) * 2 ^ B = k * 2 ^ g * 2 ^ 1074 := by
   rw [Nat.mul_assoc, ← Nat.pow_add, show g + 1074 - B + B = g + 1074 by omega, Nat.pow_add, ← Nat.mul_assoc]
  have q1 : ((m * n * 2 ^ (e + f - B) : Nat) : Int) * ((2 ^ B : Nat) : Int) = ((m * 2 ^ e * (n * 2 ^ f) : Nat) : Int) := by rw [← Int.natCast_mul, p1]
  have q2 : ((k * 2 ^ (g + 1074 - B) : Nat) : Int) * ((2 ^ B : Nat) : Int) = ((k * 2 ^ g : Nat) : Int) * one := by rw [o1, ← Int.natCast_mul, ← Int.natCast_mul, p2]
  unfold sg
  congr 1
  ·split
   ·rw [Int.neg_one_mul, Int.neg_mul, q1]
   ·rw [Int.one_mul]; exact q1
  ·split
   ·rw [Int.neg_one_mul, Int.neg_mul, q2, Int.neg_mul]
   ·rw [Int.one_mul]; exact q2
 generalize signed (sgn x ^^ sgn y) (m * n) (e + f - B) + signed (sgn z) k (g + 1074 - B) = T at *
 have pB : (0 : Int) < ((2 ^ B : Nat) : Int) := by have := Nat.two_pow_pos B; omega
 have po : (0 : Int) < one := by have := one_big; have := big_pos; omega
 have hTS : T = 0 ↔ S = 0 := by
  constructor
  ·intro h; rw [h, Int.zero_mul] at hT
   rcases Int.mul_eq_zero.1 hT.symm with h | h <;> omega
  ·intro h; rw [h, Int.zero_mul] at hT
   rcases Int.mul_eq_zero.1 hT with h | h <;> omega
 have hneg : T < 0 ↔ S < 0 := by
  constructor
  ·intro h
   have h1 := Int.mul_neg_of_neg_of_pos h pB
   rcases Int.lt_or_le S 0 with h2 | h2
   ·exact h2
   ·have := Int.mul_nonneg h2 (Int.le_of_lt po); omega
  ·intro h
   have h1 := Int.mul_neg_of_neg_of_pos h po
   rcases Int.lt_or_le T 0 with h2 | h2
   ·exact h2
   ·have := Int.mul_nonneg h2 (Int.le_of_lt pB); omega
 have hsg : (if T = 0 then ((sgn x ^^ sgn y) && sgn z) else decide (T < 0)) = decide (S < 0) := by
  by_cases h : T = 0
  ·rw [if_pos h, h0 (hTS.1 h)]; exact (decide_eq_false (by have := hTS.1 h; omega)).symm
  ·rw [if_neg h, Bool.eq_iff_iff]; simp only [decide_eq_true_eq]; exact hneg
 simp only [Option.map, Format.write, hsg]
 have hab : T.natAbs * 2 ^ B = S.natAbs * 2 ^ 1074 := by
  have := congrArg Int.natAbs hT
  rw [Int.natAbs_mul, Int.natAbs_mul, o1, Int.natAbs_natCast, Int.natAbs_natCast] at this
  exact this
 rw [nearest_units (e := B) (j := 1074) (n := S.natAbs * 2 ^ 1074) _ (by omega) hab.symm]
 have h5 : nr (S.natAbs * 2 ^ 1074) 1074 = nr S.natAbs 0 := by
  have := nr_scale S.natAbs 0 1074
  rw [Nat.zero_add] at this; exact this
 rw [h5, word_nrst]
end Go.Dy
/-! Walks: burnishref01.Mul, Sub. -/
namespace Go.Dy
open Ieee
open Go.Proofs.YtkhplflbcgjkcaaGreat (sideF sideF_up sideF_dn frT nearT infT)
def HQ1 : Nat := 4602678819172646912
def HQ2 : Nat := 4598175219545276416
theorem HQ_facts : 2 * mag HQ1 = one ∧ mag HQ1 * mag HQ1 = mag HQ2 * one ∧ 2 ^ 53 ≤ mag HQ2 ∧ mag 4607182418800017408 = one := by decide +kernel
theorem sgn_word {s : Bool} {r : Nat} (h : r < 2 ^ 63) : sgn (word s r) = s := by
 unfold sgn word; cases s <;> simp <;> omega
theorem W_word {s : Bool} {r : Nat} (h : r < 2 ^ 63) : W (word s r) := by
 unfold W word; split <;> omega
theorem fin_word {s : Bool} {r : Nat} (h : r < top) : fin (word s r) := by
 have tp := top_eq
 unfold fin; rw [word_abs (by omega)]; exact h
theorem enc_abs {x : Int} (o : ok x) : enc x % 2 ^ 63 = x.natAbs ∧ sgn (enc x) = decide (x < 0) := by
 have tp := top_eq
 unfold ok at o
 constructor
 ·unfold enc; split <;> omega
 ·unfold sgn enc; congr 1; rw [eq_iff_iff]; split <;> omega
theorem pw {X c k a b d e : Nat} (h : c * 2 ^ k = X * 2 ^ a) (h1 : a + b = d) (h2 : k + b = e) : X * 2 ^ d = c * 2 ^ e := by
 subst h1; subst h2
 rw [Nat.pow_add, ← Nat.mul_assoc, ← h, Nat.mul_assoc, ← Nat.pow_add]
theorem pw2 {c a f : Nat} : c * 2 ^ a * 2 ^ f = c * 2 ^ (a + f) := by rw [Nat.mul_assoc, ← Nat.pow_add]
def D0 : Nat := 1100
theorem D0_eq : D0 = 1100 := rfl
def D1 : Nat := 1021
theorem D1_eq : D1 = 1021 := rfl
theorem fr_spec {x : Int} (o : ok x) (x0 : x ≠ 0) : ∃ (q : Nat) (i : Int), frT (enc x) = (word (decide (x < 0)) q, i) ∧ HQ1 ≤ q ∧ q < 4607182418800017408 ∧ -1073 ≤ i ∧ i ≤ 1024 ∧ mag x.natAbs * 2 ^ D0 = mag q * 2 ^ ((D0 : Int) + i).toNat ∧ ∃ c : Nat, mag q = c * 2 ^ D1 := by
 have tp := top_eq
 have d0 := D0_eq
 have d1 := D1_eq
 obtain ⟨eb, es⟩ := enc_abs o
 have hx0 : enc x % 2 ^ 63 ≠ 0 := by rw [eb]; omega
 have hf : enc x % 2 ^ 63 < top := by rw [eb]; unfold ok at o; omega
 obtain ⟨r, n1, n2, n3, n4, n5⟩ := norm_spec (W_enc o) hf hx0
 rw [es] at n1
 rw [eb] at n4 n5
 have ha : abs (enc x) = x.natAbs := eb
 rw [ha] at n4 n5
 have r63 : r < 2 ^ 63 := by omega
 have e1 : norm1 (enc x) % 2 ^ 52 = r % 2 ^ 52 := by rw [n1]; unfold word; split <;> omega
 have e2 : field (norm1 (enc x)) = r / 2 ^ 52 := by rw [n1]; unfold field word; split <;> omega
 have e3 : ((-1 : Int) + 1023).toNat = 1022 := by decide
 refine ⟨1022 * 2 ^ 52 + r % 2 ^ 52, norm2 (enc x) + ((r / 2 ^ 52 : Nat) : Int) - 1022, ?_, by unfold HQ1; omega, by omega, ?_, ?_, ?_, ?_⟩
 ·unfold frT built; rw [e1, e2, e3, es]
 ·unfold norm2; split <;> omega
 ·unfold norm2; split <;> omega
 ·have mf : mag (1022 * 2 ^ 52 + r % 2 ^ 52) = (2 ^ 52 + r % 2 ^ 52) * 2 ^ D1 := by
   have := mag_form D1 (r % 2 ^ 52) (Nat.mod_lt _ (by decide))
   rw [← this, d1]; congr 1; omega
  have mr : mag r = (2 ^ 52 + r % 2 ^ 52) * 2 ^ (r / 2 ^ 52 - 1) := by
   unfold mag; rw [if_neg (by omega)]
  have rk : 1 ≤ r / 2 ^ 52 := by omega
  rw [mf]
  by_cases h : x.natAbs < 2 ^ 52
  ·have m := n4 h
   have n2' : norm2 (enc x) = -52 := norm2_sub (by rw [ha]; exact h)
   rw [n2']
   have t : ((D0 : Int) + (-52 + ((r / 2 ^ 52 : Nat) : Int) - 1022)).toNat = 26 + r / 2 ^ 52 := by omega
   rw [t]
   have h1 := pw (d := D0) (e := D1 + (26 + r / 2 ^ 52)) (b := D0 - 52) (mr.symm.trans m) (by omega) (by omega)
   exact h1.trans (pw2 (c := 2 ^ 52 + r % 2 ^ 52) (a := D1) (f := 26 + r / 2 ^ 52)).symm
  ·have m := n5 h
   have n2' : norm2 (enc x) = 0 := norm2_nor (by rw [ha]; exact h)
   rw [n2']
   have t : ((D0 : Int) + (0 + ((r / 2 ^ 52 : Nat) : Int) - 1022)).toNat = 78 + r / 2 ^ 52 := by omega
   rw [t]
   have h0 : (2 ^ 52 + r % 2 ^ 52) * 2 ^ (r / 2 ^ 52 - 1) = mag x.natAbs * 2 ^ 0 := by rw [← mr, m, Nat.pow_zero, Nat.mul_one]
   have h1 := pw (d := D0) (e := D1 + (78 + r / 2 ^ 52)) (b := D0) h0 (Nat.zero_add _) (by omega)
   exact h1.trans (pw2 (c := 2 ^ 52 + r % 2 ^ 52) (a := D1) (f := 78 + r / 2 ^ 52)).symm
 ·refine ⟨2 ^ 52 + r % 2 ^ 52, ?_⟩
  have := mag_form D1 (r % 2 ^ 52) (Nat.mod_lt _ (by decide))
  rw [← this, d1]; congr 1; omega
theorem top_big : 4 * one < mag top := by decide +kernel
theorem near_spec {s : Bool} {P : Nat} {e : Int} (hP : mag P ≤ 2 * one) : ∃ r b : Nat, nr (mag P * 2 ^ e.toNat) (-e).toNat = r ∧ mag b * 2 ^ e.toNat = mag r * 2 ^ (-e).toNat ∧ mag b ≤ 4 * one ∧ b < top ∧ Cb (nearT (word s P) e).1 (sg s r) ∧ (r < top → (nearT (word s P) e).2 = word s b) ∧ (top ≤ r → (nearT (word s P) e).2 = 0) ∧ nan (nearT (word s P) e).1 = false ∧ (0 ≤ e → b = P) := by
 have tp := top_eq
 have tb := top_big
 have Pt : P < top := mag_lt_iff.1 (by omega)
 obtain ⟨b, b1, b2, b3, b5⟩ := back_of (e := e) (P := P)
 obtain ⟨r, hr⟩ : ∃ r, nr (mag P * 2 ^ e.toNat) (-e).toNat = r := ⟨_, rfl⟩
 rw [hr] at b1 b3
 have b4 : mag b ≤ 4 * one := by omega
 have bt : b < top := mag_lt_iff.1 (by omega)
 have e1 : ldx (word s P) e = word s (min r top) := by
  unfold ldx
  rw [word_abs (by omega), if_pos Pt, sgn_word (by omega), hr]
 have ei : infT (word s (min r top)) 0 = decide (top ≤ r) := by
  have h1 : infT (word s (min r top)) 0 = inf (word s (min r top)) := by
   show fgt (abs (word s (min r top))) 9218868437227405311 = inf (word s (min r top))
   exact fgt_abs_max (W_word (by omega)).lt
  rw [h1]; unfold inf; rw [word_abs (by omega)]; congr 1; rw [eq_iff_iff]; omega
 refine ⟨r, b, hr, b1, b4, bt, ?_, ?_, ?_, ?_, b5⟩
 ·show Cb (ldx (word s P) e) (sg s r)
  rw [e1]
  by_cases h : top ≤ r
  ·rw [Nat.min_eq_right h]
   cases s
   ·left; exact ⟨by show (top : Int) ≤ r; omega, by decide⟩
   ·right; left; exact ⟨by show -(r : Int) ≤ _; omega, by decide⟩
  ·rw [Nat.min_eq_left (by omega)]
   right; right
   refine ⟨?_, fin_word (by omega), W_word (by omega), ?_⟩
   ·unfold ok sg; split <;> omega
   ·unfold dec word sg
    cases s
    ·simp; omega
    ·simp; omega
 ·intro h
  show (if infT (ldx (word s P) e) 0 = true then 0 else ldx (ldx (word s P) e) (-e)) = _
  rw [e1, ei, if_neg (by simpa using h), Nat.min_eq_left (by omega)]
  unfold ldx
  rw [word_abs (by omega), if_pos h, sgn_word (by omega), Int.neg_neg, b3, Nat.min_eq_left (by omega)]
 ·intro h
  show (if infT (ldx (word s P) e) 0 = true then 0 else ldx (ldx (word s P) e) (-e)) = _
  rw [e1, ei, if_pos (decide_eq_true h)]
 ·show nan (ldx (word s P) e) = false
  rw [e1]; unfold nan; rw [word_abs (by omega)]; exact decide_eq_false (by omega)
theorem corr {u v R X K1 K2 o : Nat} (k1 : 0 < K1) (k2 : 0 < K2) (hu : u * K1 = v * K2) (hR : R * K1 = X * K2) : (u * o ≤ R ↔ v * o ≤ X) ∧ (R ≤ u * o ↔ X ≤ v * o) := by
 have e : u * o * K1 = v * o * K2 := by rw [Nat.mul_right_comm, hu, Nat.mul_right_comm]
 constructor
 ·constructor
  ·intro h
   have := Nat.mul_le_mul_right K1 h
   rw [e, hR] at this
   exact Nat.le_of_mul_le_mul_right this k2
  ·intro h
   have := Nat.mul_le_mul_right K2 h
   rw [← e, ← hR] at this
   exact Nat.le_of_mul_le_mul_right this k1
 ·constructor
  ·intro h
   have := Nat.mul_le_mul_right K1 h
   rw [e, hR] at this
   exact Nat.le_of_mul_le_mul_right this k2
  ·intro h
   have := Nat.mul_le_mul_right K2 h
   rw [← e, ← hR] at this
   exact Nat.le_of_mul_le_mul_right this k1
theorem z_fl : Fl 0 := ⟨0, 0, by decide, by decide⟩
theorem one_fl : Fl 1 := ⟨1, 0, by decide, by decide⟩
theorem rn_sign (S : Int) : (0 < V (nz S) ↔ 0 < S) ∧ (V (nz S) < 0 ↔ S < 0) := by
 have h1 : 0 < S → 1 ≤ rn S := fun h => le_rn one_fl (by omega)
 have h2 : S < 0 → rn S ≤ -1 := fun h => rn_le one_fl.neg (by omega)
 have h3 : S ≤ 0 → rn S ≤ 0 := fun h => rn_le z_fl h
 have h4 : 0 ≤ S → 0 ≤ rn S := fun h => le_rn z_fl h
 unfold rn at *
 constructor <;> omega
theorem V_sg {x : Int} : V x = sg (decide (x < 0)) (mag x.natAbs : Int) := by
 have h1 : 0 ≤ x ↔ 0 ≤ V x := V_nonneg.symm
 have h2 := V_natAbs x
 unfold sg
 by_cases h : x < 0
 ·rw [decide_eq_true h, if_pos rfl]; omega
 ·rw [decide_eq_false h, if_neg (by decide)]; omega
theorem sg_mul (s t : Bool) (a b : Int) : sg s a * sg t b = sg (s ^^ t) (a * b) := by
 cases s <;> cases t <;> simp [sg, Int.mul_neg, Int.neg_mul]
theorem V_sgr (s : Bool) (r : Nat) : V (sg s r) = sg s (mag r : Int) := by
 cases s
 ·exact V_nat r
 ·exact V_ofNat_neg r
theorem lack {s : Bool} {den N r Q b : Nat} {S : Int} {d : Int} (od : ok d) (hd : d = nz S) (hS : S = sg s ((Q : Int) - b)) (c1 : mag r * den ≤ N ↔ b ≤ Q) (c2 : N ≤ mag r * den ↔ Q ≤ b) :
  fgt (enc d) 0 = decide (V (sg s r) * den < sg s (N : Int)) ∧ flt (enc d) 0 = decide (sg s (N : Int) < V (sg s r) * den) := by
 obtain ⟨g1, g2⟩ := sign_enc od
 obtain ⟨k1, k2⟩ := rn_sign S
 rw [← hd] at k1 k2
 rw [g1, g2, V_sgr]
 have c3 : ((mag r : Int) * den ≤ N ↔ b ≤ Q) := by rw [← c1]; exact_mod_cast Iff.rfl
 have c4 : ((N : Int) ≤ (mag r : Int) * den ↔ Q ≤ b) := by rw [← c2]; exact_mod_cast Iff.rfl
 constructor
 ·congr 1; rw [eq_iff_iff, k1, hS]
  cases s
  ·show 0 < (Q : Int) - b ↔ (mag r : Int) * den < N; omega
  ·show 0 < -((Q : Int) - b) ↔ -(mag r : Int) * den < -(N : Int)
   rw [Int.neg_mul]; omega
 ·congr 1; rw [eq_iff_iff, k2, hS]
  cases s
  ·show (Q : Int) - b < 0 ↔ (N : Int) < (mag r : Int) * den; omega
  ·show -((Q : Int) - b) < 0 ↔ -(N : Int) < -(mag r : Int) * den
   rw [Int.neg_mul]; omega
theorem frac_mul {mx my q1 q2 A : Nat} {i k e : Int} (h1 : mx * 2 ^ A = q1 * 2 ^ ((A : Int) + i).toNat) (h2 : my * 2 ^ A = q2 * 2 ^ ((A : Int) + k).toNat) (he : i + k = e) (bi : 0 ≤ (A : Int) + i) (bk : 0 ≤ (A : Int) + k) : mx * my * (2 ^ (A + A) * 2 ^ (-e).toNat) = q1 * q2 * (2 ^ (A + A) * 2 ^ e.toNat) := by
 have e1 : mx * my * (2 ^ (A + A) * 2 ^ (-e).toNat) = mx * 2 ^ A * (my * 2 ^ A) * 2 ^ (-e).toNat := by
  rw [Nat.pow_add]
  generalize 2 ^ A = a
  generalize 2 ^ (-e).toNat = n
  ac_rfl
 rw [e1, h1, h2, Nat.mul_mul_mul_comm, ← Nat.pow_add, Nat.mul_assoc, ← Nat.pow_add, ← Nat.pow_add]
 congr 2; omega
theorem lift2 {u v T a b : Nat} (h : u * a = v * b) : u * (T * a) = v * (T * b) := by
 rw [Nat.mul_left_comm, h, Nat.mul_left_comm]
theorem big_r {u R X T a b o H : Nat} (hR : R * (T * a) = X * (T * b)) (h : R ≤ u * o) (hq : H * o ≤ X) (g3 : 2 ^ 53 ≤ H) (T0 : 0 < T) (o0 : 0 < o) : 2 ^ 53 * b ≤ u * a := by
 have h1 := Nat.mul_le_mul_right (T * a) h
 rw [hR] at h1
 generalize 2 ^ 53 = W at *
 have h3 : W * o * (T * b) ≤ u * o * (T * a) := Nat.le_trans (Nat.mul_le_mul_right _ (Nat.le_trans (Nat.mul_le_mul_right _ g3) hq)) h1
 have h4 : W * o * (T * b) = W * b * (o * T) := by ac_rfl
 have h5 : u * o * (T * a) = u * a * (o * T) := by ac_rfl
 rw [h4, h5] at h3
 exact Nat.le_of_mul_le_mul_right h3 (Nat.mul_pos o0 T0)
theorem prod_one {c1 c2 : Nat} : ∃ Q, c1 * 2 ^ D1 * (c2 * 2 ^ D1) = Q * one := by
 obtain ⟨E0, hE, eE⟩ := one_pow
 have d1 := D1_eq
 refine ⟨c1 * c2 * 2 ^ (D1 + D1 - E0), ?_⟩
 have h : D1 + D1 - E0 + E0 = D1 + D1 := by omega
 rw [eE, Nat.mul_mul_mul_comm, ← Nat.pow_add, Nat.mul_assoc (c1 * c2), ← Nat.pow_add, h]
theorem sub_sg {s : Bool} {Q b o : Int} : sg s (Q * o) + sg (!s) b * o = sg s (Q - b) * o := by
 cases s
 ·show Q * o + -b * o = (Q - b) * o
  rw [← Int.add_mul]; congr 1
 ·show -(Q * o) + b * o = -(Q - b) * o
  rw [← Int.neg_mul, ← Int.add_mul]; congr 1; omega
theorem zero_sg {s : Bool} {Q o : Int} : sg s (Q * o) + sg true ((mag 0 : Nat) : Int) * o = sg s Q * o := by
 have h : sg true ((mag 0 : Nat) : Int) = 0 := by rw [mag_zero]; rfl
 rw [h, Int.zero_mul, Int.add_zero]
 cases s
 ·rfl
 ·show -(Q * o) = -Q * o
  rw [Int.neg_mul]
theorem corr2 {u v mx my q1 q2 o a b c d TA : Nat} (h1 : mx * TA = q1 * a) (h2 : my * TA = q2 * b) (hu : u * c = v * d) (hx : a * c = b * d) (p1 : 0 < TA) (p2 : 0 < c) (p3 : 0 < b) (p4 : 0 < d) : (u * my ≤ mx * o ↔ v * q2 ≤ q1 * o) ∧ (mx * o ≤ u * my ↔ q1 * o ≤ v * q2) := by
 have e1 : u * my * (TA * c) = v * q2 * (b * d) := by
  have : u * my * (TA * c) = u * c * (my * TA) := by ac_rfl
  rw [this, hu, h2]; ac_rfl
 have e2 : mx * o * (TA * c) = q1 * o * (b * d) := by
  have : mx * o * (TA * c) = mx * TA * (o * c) := by ac_rfl
  rw [this, h1, ← hx]; ac_rfl
 have k1 := Nat.mul_pos p1 p2
 have k2 := Nat.mul_pos p3 p4
 constructor
 ·constructor
  ·intro h
   have := Nat.mul_le_mul_right (TA * c) h
   rw [e1, e2] at this
   exact Nat.le_of_mul_le_mul_right this k2
  ·intro h
   have := Nat.mul_le_mul_right (b * d) h
   rw [← e1, ← e2] at this
   exact Nat.le_of_mul_le_mul_right this k1
 ·constructor
  ·intro h
   have := Nat.mul_le_mul_right (TA * c) h
   rw [e1, e2] at this
   exact Nat.le_of_mul_le_mul_right this k2
  ·intro h
   have := Nat.mul_le_mul_right (b * d) h
   rw [← e1, ← e2] at this
   exact Nat.le_of_mul_le_mul_right this k1
theorem big_r2 {u mx my q1 q2 o a b c d TA H : Nat} (h1 : mx * TA = q1 * a) (h2 : my * TA = q2 * b) (hx : a * c = b * d) (p3 : 0 < b) (o0 : 0 < o) (h : mx * o ≤ u * my) (hq : H ≤ q1) (hq2 : q2 ≤ o) (g3 : 2 ^ 53 ≤ H) : 2 ^ 53 * d ≤ u * c := by
 have k := Nat.mul_le_mul_right (TA * c) h
 have e1 : u * my * (TA * c) = u * c * q2 * b := by
  have : u * my * (TA * c) = u * c * (my * TA) := by ac_rfl
  rw [this, h2]; ac_rfl
 have e2 : mx * o * (TA * c) = q1 * o * d * b := by
  have : mx * o * (TA * c) = mx * TA * (o * c) := by ac_rfl
  have h3 : q1 * a * (o * c) = q1 * o * (a * c) := by ac_rfl
  rw [this, h1, h3, hx]; ac_rfl
 rw [e1, e2] at k
 have k2 := Nat.le_of_mul_le_mul_right k p3
 generalize 2 ^ 53 = W at *
 have k3 : W * d * o ≤ u * c * o := by
  refine Nat.le_trans ?_ (Nat.mul_le_mul_left (u * c) hq2)
  refine Nat.le_trans ?_ k2
  have : W * d * o = W * o * d := by ac_rfl
  rw [this]
  exact Nat.mul_le_mul_right _ (Nat.mul_le_mul_right _ (Nat.le_trans g3 hq))
 exact Nat.le_of_mul_le_mul_right k3 o0
def TR0 : Nat := 4273916046374600704
theorem TR_facts : mag TR0 * 2 ^ 52 ≤ mag HQ1 ∧ 2 ^ 53 * 2 ^ 53 ≤ mag TR0 := by decide +kernel
theorem back53 {P r b : Nat} {e : Int} (hP : HQ1 ≤ P) (hr : nr (mag P * 2 ^ e.toNat) (-e).toNat = r) (b7 : mag b * 2 ^ e.toNat = mag r * 2 ^ (-e).toNat) (b14 : 0 ≤ e → b = P) : ∃ m, mag b = m * 2 ^ 53 := by
 obtain ⟨t1, t2⟩ := TR_facts
 have hPm := mag_le_iff.2 hP
 by_cases he : 0 ≤ e
 ·rw [b14 he]
  obtain ⟨v, hv, -⟩ := nat_dvd_grid (g := 53) (fl_mag P) (Nat.le_trans t2 (Nat.le_trans (Nat.le_mul_of_pos_right _ (by decide)) (Nat.le_trans t1 hPm)))
  exact ⟨v, hv⟩
 ·have e0 : e.toNat = 0 := by omega
  obtain ⟨j, hj⟩ : ∃ j, (-e).toNat = j := ⟨_, rfl⟩
  rw [e0, hj, Nat.pow_zero, Nat.mul_one] at hr b7
  by_cases h : 53 ≤ j
  ·refine ⟨mag r * 2 ^ (j - 53), ?_⟩
   rw [b7, Nat.mul_assoc, ← Nat.pow_add]
   congr 2; omega
  ·have k : TR0 ≤ r := by
    rw [← hr]; refine le_nr ?_
    exact Nat.le_trans (Nat.mul_le_mul_left _ (Nat.pow_le_pow_right (by omega) (by omega))) (Nat.le_trans t1 hPm)
   obtain ⟨v, hv, -⟩ := nat_dvd_grid (g := 53) (fl_mag r) (Nat.le_trans t2 (mag_le_iff.2 k))
   exact ⟨v * 2 ^ j, by rw [b7, hv]; ac_rfl⟩
theorem prod_one2 {m c : Nat} : ∃ Q, m * 2 ^ 53 * (c * 2 ^ D1) = Q * one := by
 obtain ⟨E0, hE, eE⟩ := one_pow
 have d1 := D1_eq
 refine ⟨m * c, ?_⟩
 have h : 53 + D1 = E0 := by omega
 rw [eE, Nat.mul_mul_mul_comm, ← Nat.pow_add, h]
theorem sub_sg2 {t : Bool} {Q q o : Int} : sg (!t) (Q * o) + sg t q * o = sg t (q - Q) * o := by
 cases t
 ·show -(Q * o) + q * o = (q - Q) * o
  rw [← Int.neg_mul, ← Int.add_mul]; congr 1; omega
 ·show Q * o + -q * o = -(q - Q) * o
  rw [← Int.add_mul]; congr 1; omega
theorem word_enc {s : Bool} {q : Nat} (h : q < top) (h0 : q ≠ 0) : word s q = enc (sg s q) ∧ ok (sg s (q : Int)) := by
 have tp := top_eq
 constructor
 ·unfold word enc sg
  cases s
  ·simp
  ·simp; omega
 ·unfold ok sg; split <;> omega
theorem neg_sign {n : Int} (o : ok n) : fgt (Op.negFloat .f64 (enc n)) 0 = flt (enc n) 0 ∧ flt (Op.negFloat .f64 (enc n)) 0 = fgt (enc n) 0 := by
 by_cases h : n = 0
 ·subst h; decide +kernel
 ·have tp := top_eq
  have o' : ok (-n) := by unfold ok at *; omega
  have e : Op.negFloat .f64 (enc n) = enc (-n) := by
   rw [neg_bits (W_enc o)]
   unfold ok at o
   unfold enc
   by_cases c : 0 ≤ n
   ·rw [if_pos c, if_pos (by omega), if_neg (by omega)]; omega
   ·rw [if_neg c, if_neg (by omega), if_pos (by omega)]; omega
  obtain ⟨a1, a2⟩ := sign_enc o
  obtain ⟨b1, b2⟩ := sign_enc o'
  rw [e, a1, a2, b1, b2, V_neg]
  constructor
  ·congr 1; rw [eq_iff_iff]; omega
  ·congr 1; rw [eq_iff_iff]; omega
end Go.Dy
/-! Walks: burnishref01.Mul, Sub. -/
namespace Go.Proofs.YtkhplflbcgjkcaaGreat
open Go Go.RowKit
set_option linter.unusedSimpArgs false
set_option linter.unusedVariables false
open Dy
theorem two_pos (n : Nat) : 0 < 2 ^ n := Nat.two_pow_pos n
theorem fma_some {x y z r : Nat} (h : Ieee.double.fma x y z = some r) (hr : Dy.W r) : nFma [.f x, .f y, .f z] = true ∧ (fmaF x y z).getD 0 = r := by
 have h' : fmaF x y z = some r := h
 refine ⟨?_, by rw [h']; rfl⟩
 show okF (fmaF x y z) = true
 rw [h']; exact decide_eq_true hr.lt
theorem neg_word {s : Bool} {b : Nat} (hb : b < 2 ^ 63) : Op.negFloat .f64 (word s b) = word (!s) b := by
 rw [neg_bits (W_word hb)]
 unfold word
 cases s <;> simp <;> omega
theorem hneg {b : Nat} (hb : Dy.W b) : mN [.f b] = true := decide_eq_true (neg_W hb).lt
theorem ok_small {S : Int} (h1 : -(64 * (one : Int)) ≤ S) (h2 : S ≤ 64 * (one : Int)) : ok (nz S) := by
 have h : (64 : Int) * one ≤ 8388608 * V K1000 := by decide +kernel
 exact ok_rn (by omega) (by omega)
theorem enc_ne {x : Int} (o : ok x) (x0 : x ≠ 0) : feq (enc x) 0 = false ∧ nNzT [.f (enc x)] = true := by
 have e : feq (enc x) 0 = decide (enc x = 0) := feq_right (W_enc o) (right_enc o)
 have h : enc x ≠ 0 := fun h => x0 ((enc_eq_zero o).1 h)
 refine ⟨by rw [e]; exact decide_eq_false h, ?_⟩
 show (right (enc x) && !(enc x == 0)) = true
 rw [right_enc o]; simp [h]
theorem rmul_fin {x y : Int} (up : Bool) (w : World) (ox : ok x) (oy : ok y) (x0 : x ≠ 0) (y0 : y ≠ 0) {f g p cc bk D : Nat} {i k e : Int} (f1 : frT (enc x) = (f, i)) (f2 : frT (enc y) = (g, k)) (hm : Ieee.double.mul f g = some p) (wp : Dy.W p) (ew : IntKind.i64.wrap (i + k) = e) (hL : nLdx [.i e] = true) (hn : nearT p e = (cc, bk)) (wb : Dy.W bk) (hf : Ieee.double.fma f g (Op.negFloat .f64 bk) = some D) (wD : Dy.W D) (hR : sideF cc D up = dMul (enc x) (enc y) up) (hns : nSideT [.f cc] = true) :
  Calls Tryz.prog 135 #[.float .f64 (enc x), .float .f64 (enc y), .bool up] w fun e w' => e = .returned (.tuple #[.float .f64 (dMul (enc x) (enc y) up).1, .int .i64 (dMul (enc x) (enc y) up).2]) ∧ Below w.heap.size w w' := by
 obtain ⟨hx1, hx2⟩ := enc_ne ox x0
 obtain ⟨hy1, hy2⟩ := enc_ne oy y0
 obtain ⟨k1, k2⟩ := fma_some hf wD
 exact rmul_4 _ _ up w (W_enc ox) (W_enc oy) ((rrT_right (W_enc ox)).trans (right_enc ox)) ((rrT_right (W_enc oy)).trans (right_enc oy)) hx1 hy1 f1 hx2 f2 hy2 (by rw [hm]; rfl) (fn_some hm wp) ew hn hL rfl (hneg wb) k2 k1 hR hns (dMul_W _ _ _)
theorem rmul_mid {x y : Int} (up : Bool) (w : World) (ox : ok x) (oy : ok y) (x0 : x ≠ 0) (y0 : y ≠ 0) :
  Calls Tryz.prog 135 #[.float .f64 (enc x), .float .f64 (enc y), .bool up] w fun e w' => e = .returned (.tuple #[.float .f64 (dMul (enc x) (enc y) up).1, .int .i64 (dMul (enc x) (enc y) up).2]) ∧ Below w.heap.size w w' := by
 have tp := top_eq
 have d0 := D0_eq
 obtain ⟨q1, i, f1, a1, a2, a3, a4, a5, c1, a6⟩ := fr_spec ox x0
 obtain ⟨q2, k, f2, b1, b2, b3, b4, b5, c2, b6⟩ := fr_spec oy y0
 obtain ⟨g1, g2, g3, g4⟩ := HQ_facts
 have m1 := mag_le_iff.2 a1
 have m2 := mag_le_iff.2 b1
 have m3 : mag q1 < one := by rw [← g4]; exact mag_lt a2
 have m4 : mag q2 < one := by rw [← g4]; exact mag_lt b2
 have q1s : q1 < 2 ^ 63 := by omega
 have q2s : q2 < 2 ^ 63 := by omega
 have q1t : q1 < top := by omega
 have q2t : q2 < top := by omega
 obtain ⟨s, hs⟩ : ∃ s, (decide (x < 0) ^^ decide (y < 0)) = s := ⟨_, rfl⟩
 have o0 : 0 < one := by omega
 have oe := one_eq
 have mq : mag HQ2 * one ≤ mag q1 * mag q2 := by rw [← g2]; exact Nat.mul_le_mul m1 m2
 obtain ⟨P, hP⟩ : ∃ P, nr (mag q1 * mag q2) 1074 = P := ⟨_, rfl⟩
 have P1 : P ≤ 4607182418800017408 := by
  rw [← hP]; refine nr_le ?_
  rw [← oe, g4]; exact Nat.mul_le_mul (Nat.le_of_lt m3) (Nat.le_of_lt m4)
 have P2 : HQ2 ≤ P := by
  rw [← hP]; refine le_nr ?_
  rw [← oe]; exact mq
 have Pm : mag P ≤ one := by rw [← g4]; exact mag_le_iff.2 P1
 have hmul : Ieee.double.mul (word (decide (x < 0)) q1) (word (decide (y < 0)) q2) = some (word s P) := by
  rw [mul_eq (W_word q1s) (W_word q2s) (fin_word q1t) (fin_word q2t)]
  unfold fmul
  rw [sgn_word q1s, sgn_word q2s, word_abs q1s, word_abs q2s, hs, hP, Nat.min_eq_left (by omega)]
 have wP : Dy.W (word s P) := W_word (by omega)
 have hLe : ∀ t, mag t * one ≤ mag q1 * mag q2 → t ≤ P := fun t h => by rw [← hP]; exact le_nr (by rw [← oe]; exact h)
 have hGe : ∀ t, mag q1 * mag q2 ≤ mag t * one → P ≤ t := fun t h => by rw [← hP]; exact nr_le (by rw [← oe]; exact h)
 clear hP oe
 obtain ⟨e, he⟩ : ∃ e, i + k = e := ⟨_, rfl⟩
 obtain ⟨r, b, hr, b7, b8, b9, b10, b11, b12, b13, b14⟩ := near_spec (s := s) (P := P) (e := e) (by omega)
 have ew : IntKind.i64.wrap (i + k) = e := by rw [he, IntKind.wrap_i64]; omega
 have hL : nLdx [.i e] = true := decide_eq_true (show -1000000 ≤ e ∧ e ≤ 1000000 from ⟨by omega, by omega⟩)
 have hR := frac_mul a5 b5 he (by omega) (by omega)
 have T0 := two_pos (D0 + D0)
 generalize 2 ^ (D0 + D0) = T at *
 have C := fun (u v : Nat) (h : u * 2 ^ (-e).toNat = v * 2 ^ e.toNat) => corr (o := one) (Nat.mul_pos T0 (two_pos _)) (Nat.mul_pos T0 (two_pos _)) (lift2 (T := T) h) hR
 have RT := round_two (LeX := fun v => v * one ≤ mag q1 * mag q2) (GeX := fun v => mag q1 * mag q2 ≤ v * one) (LeR := fun u => u * one ≤ mag x.natAbs * mag y.natAbs) (GeR := fun u => mag x.natAbs * mag y.natAbs ≤ u * one) (e := e) (P := P)
  (fun u v h => ⟨(C u v h).1.1, (C u v h).2.1⟩) hLe hGe (Nat.le_trans g3 (mag_le_iff.2 P2)) (fun u h => big_r hR h mq g3 T0 o0)
 rw [hr] at RT
 obtain ⟨bt1, bt2⟩ := between (s := s) (N := mag x.natAbs * mag y.natAbs) (den := one) (r := r) o0 RT.1 RT.2
 have hnum : V x * V y = sg s ((mag x.natAbs * mag y.natAbs : Nat) : Int) := by
  rw [V_sg (x := x), V_sg (x := y), sg_mul, hs, Int.natCast_mul]
 obtain ⟨Q, hQ⟩ : ∃ Q, mag q1 * mag q2 = Q * one := by rw [a6, b6]; exact prod_one
 have Q1 : Q < one := by
  have h := Nat.mul_lt_mul_of_lt_of_lt m3 m4
  rw [hQ] at h
  exact Nat.lt_of_mul_lt_mul_right h
 have Q0 : 0 < Q := by
  rcases Nat.eq_zero_or_pos Q with h | h
  ·rw [h, Nat.zero_mul] at hQ
   have : 0 < mag q1 * mag q2 := Nat.mul_pos (by omega) (by omega)
   omega
  ·exact h
 obtain ⟨bk, hbk⟩ : ∃ bk, (nearT (word s P) e).2 = bk := ⟨_, rfl⟩
 obtain ⟨cc, hcc⟩ : ∃ cc, (nearT (word s P) e).1 = cc := ⟨_, rfl⟩
 have hnear : nearT (word s P) e = (cc, bk) := by rw [← hbk, ← hcc]
 rw [hcc] at b10 b13
 rw [hbk] at b11 b12
 have hns : nSideT [.f cc] = true := by show (!nan cc) = true; rw [b13]; rfl
 by_cases ht : r < top
 ·rw [b11 ht] at hnear
  have eb := neg_word (s := s) (b := b) (by omega)
  have hf := fma_near (x := word (decide (x < 0)) q1) (y := word (decide (y < 0)) q2) (z := word (!s) b) (W_word q1s) (W_word q2s) (W_word (by omega)) (fin_word q1t) (fin_word q2t) (fin_word b9) (S := sg s ((Q : Int) - mag b))
   (by rw [sgn_word q1s, sgn_word q2s, sgn_word (by omega), word_abs q1s, word_abs q2s, word_abs (by omega), hs, hQ, Int.natCast_mul]; exact sub_sg)
   (fun _ => by rw [sgn_word q1s, sgn_word q2s, sgn_word (by omega), hs]; cases s <;> rfl)
  have oS : ok (nz (sg s ((Q : Int) - mag b))) := ok_small (by unfold sg; split <;> omega) (by unfold sg; split <;> omega)
  have cr := C (mag r) (mag b) b7.symm
  rw [hQ] at cr
  obtain ⟨l1, l2⟩ := lack (N := mag x.natAbs * mag y.natAbs) (den := one) (r := r) (Q := Q) (b := mag b) oS rfl rfl
   (cr.1.trans ⟨fun h => Nat.le_of_mul_le_mul_right h o0, fun h => Nat.mul_le_mul_right _ h⟩)
   (cr.2.trans ⟨fun h => Nat.le_of_mul_le_mul_right h o0, fun h => Nat.mul_le_mul_right _ h⟩)
  rw [nrst_ok oS, ← eb] at hf
  refine rmul_fin up w ox oy x0 y0 f1 f2 hmul wP ew hL hnear (W_word (by omega)) hf (W_enc oS) ?_ hns
  rw [dMul_enc ox oy, hnum]
  exact quo_side o0 b10 bt1 bt2 (fun _ => l1) (fun _ => l2)
 ·rw [b12 (by omega)] at hnear
  have e0 : Op.negFloat .f64 0 = word true 0 := by decide
  have hf := fma_near (x := word (decide (x < 0)) q1) (y := word (decide (y < 0)) q2) (z := word true 0) (W_word q1s) (W_word q2s) (W_word (by omega)) (fin_word q1t) (fin_word q2t) (fin_word (by omega)) (S := sg s (Q : Int))
   (by rw [sgn_word q1s, sgn_word q2s, sgn_word (by omega), word_abs q1s, word_abs q2s, word_abs (by omega), hs, hQ, Int.natCast_mul]; exact zero_sg)
   (fun h => by exfalso; unfold sg at h; revert h; split <;> omega)
  have oS : ok (nz (sg s (Q : Int))) := ok_small (by unfold sg; split <;> omega) (by unfold sg; split <;> omega)
  have no : ¬ ok (sg s (r : Int)) := by unfold ok sg; split <;> omega
  rw [nrst_ok oS, ← e0] at hf
  refine rmul_fin up w ox oy x0 y0 f1 f2 hmul wP ew hL hnear W_zero hf (W_enc oS) ?_ hns
  rw [dMul_enc ox oy, hnum]
  exact quo_side o0 b10 bt1 bt2 (fun h => absurd h no) (fun h => absurd h no)
end Go.Proofs.YtkhplflbcgjkcaaGreat
/-! Walks: burnishref01.Div. -/
namespace Go.Proofs.YtkhplflbcgjkcaaGreat
open Go Go.RowKit
set_option linter.unusedSimpArgs false
set_option linter.unusedVariables false
open Dy
theorem dneg1 (n : Int) : decide (n < 0) = decide (0 < -n) := by congr 1; rw [eq_iff_iff]; omega
theorem dneg2 (n : Int) : decide (0 < n) = decide (-n < 0) := by congr 1; rw [eq_iff_iff]; omega
theorem half_le {a b o : Nat} (h1 : a ≤ o) (h2 : o ≤ 2 * b) : a * o ≤ 2 * o * b := by
 have k1 : a * o ≤ o * o := Nat.mul_le_mul_right _ h1
 have k2 : o * o ≤ o * (2 * b) := Nat.mul_le_mul_left _ h2
 have k3 : o * (2 * b) = 2 * o * b := by ac_rfl
 omega
theorem pow_two_eq {a b c d : Nat} (h : a + b = c + d) : 2 ^ a * 2 ^ b = 2 ^ c * 2 ^ d := by rw [← Nat.pow_add, ← Nat.pow_add, h]
theorem two_facts : mag 4611686018427387904 = 2 * one := by decide +kernel
theorem rdiv_fin {x y : Int} (up : Bool) (w : World) (ox : ok x) (oy : ok y) (x0 : x ≠ 0) (y0 : y ≠ 0) {f p cc bk q : Nat} {i k e D : Int} (f1 : frT (enc x) = (f, i)) (f2 : frT (enc y) = (word (decide (y < 0)) q, k)) (hq : q < top) (hq0 : q ≠ 0) (hm : Ieee.double.div f (word (decide (y < 0)) q) = some p) (wp : Dy.W p) (ew : IntKind.i64.wrap (i - k) = e) (hL : nLdx [.i e] = true) (hn : nearT p e = (cc, bk)) (wb : Dy.W bk) (hf : Ieee.double.fma (Op.negFloat .f64 bk) (word (decide (y < 0)) q) f = some (enc D)) (oD : ok D)
  (hR : ∀ d' : Nat, Dy.W d' → fgt d' 0 = (if y < 0 then flt (enc D) 0 else fgt (enc D) 0) → flt d' 0 = (if y < 0 then fgt (enc D) 0 else flt (enc D) 0) → sideF cc d' up = dDiv (enc x) (enc y) up) (hns : nSideT [.f cc] = true) :
  Calls Tryz.prog 151 #[.float .f64 (enc x), .float .f64 (enc y), .bool up] w fun e w' => e = .returned (.tuple #[.float .f64 (dDiv (enc x) (enc y) up).1, .int .i64 (dDiv (enc x) (enc y) up).2]) ∧ Below w.heap.size w w' := by
 obtain ⟨hx1, hx2⟩ := enc_ne ox x0
 obtain ⟨hy1, hy2⟩ := enc_ne oy y0
 obtain ⟨k1, k2⟩ := fma_some hf (W_enc oD)
 obtain ⟨we, wo⟩ := word_enc (s := decide (y < 0)) hq hq0
 have hg : flt (word (decide (y < 0)) q) 0 = decide (y < 0) := by
  rw [we, (sign_enc wo).2, V_sgr]
  have : 0 < mag q := by have := @mag_lt 0 q (by omega); rw [mag_zero] at this; exact this
  by_cases h : y < 0
  ·rw [decide_eq_true h]; exact decide_eq_true (by show -(mag q : Int) < 0; omega)
  ·rw [decide_eq_false h]; exact decide_eq_false (by show ¬ (mag q : Int) < 0; omega)
 obtain ⟨n1, n2⟩ := neg_sign oD
 by_cases h : y < 0
 ·rw [decide_eq_true h] at hg
  exact rdiv_4 _ _ up w (W_enc ox) (W_enc oy) ((rrT_right (W_enc ox)).trans (right_enc ox)) ((rrT_right (W_enc oy)).trans (right_enc oy)) hy1 hx1 f1 hx2 f2 hy2 (by rw [hm]; rfl) (fn_some hm wp) ew hn hL rfl (hneg wb) k2 k1 (by rw [← decide_eq_true h] at hg; rw [← decide_eq_true h]; exact hg) rfl (hneg (W_enc oD)) (hR _ (neg_W (W_enc oD)) (by rw [if_pos h]; exact n1) (by rw [if_pos h]; exact n2)) hns (dDiv_W _ _ _)
 ·rw [decide_eq_false h] at hg
  exact rdiv_5 _ _ up w (W_enc ox) (W_enc oy) ((rrT_right (W_enc ox)).trans (right_enc ox)) ((rrT_right (W_enc oy)).trans (right_enc oy)) hy1 hx1 f1 hx2 f2 hy2 (by rw [hm]; rfl) (fn_some hm wp) ew hn hL rfl (hneg wb) k2 k1 (by rw [← decide_eq_false h] at hg; rw [← decide_eq_false h]; exact hg) (hR _ (W_enc oD) (by rw [if_neg h]) (by rw [if_neg h])) hns (dDiv_W _ _ _)
theorem rdiv_mid {x y : Int} (up : Bool) (w : World) (ox : ok x) (oy : ok y) (x0 : x ≠ 0) (y0 : y ≠ 0) :
  Calls Tryz.prog 151 #[.float .f64 (enc x), .float .f64 (enc y), .bool up] w fun e w' => e = .returned (.tuple #[.float .f64 (dDiv (enc x) (enc y) up).1, .int .i64 (dDiv (enc x) (enc y) up).2]) ∧ Below w.heap.size w w' := by
 have tp := top_eq
 have d0 := D0_eq
 obtain ⟨q1, i, f1, a1, a2, a3, a4, a5, c1, a6⟩ := fr_spec ox x0
 obtain ⟨q2, k, f2, b1, b2, b3, b4, b5, c2, b6⟩ := fr_spec oy y0
 obtain ⟨g1, g2, g3, g4⟩ := HQ_facts
 have gt := two_facts
 have m1 := mag_le_iff.2 a1
 have m2 := mag_le_iff.2 b1
 have m3 : mag q1 < one := by rw [← g4]; exact mag_lt a2
 have m4 : mag q2 < one := by rw [← g4]; exact mag_lt b2
 have h1m : HQ1 = 4602678819172646912 := rfl
 have q1s : q1 < 2 ^ 63 := by omega
 have q2s : q2 < 2 ^ 63 := by omega
 have q1t : q1 < top := by omega
 have q2t : q2 < top := by omega
 obtain ⟨s, hs⟩ : ∃ s, (decide (x < 0) ^^ decide (y < 0)) = s := ⟨_, rfl⟩
 have o0 : 0 < one := by omega
 obtain ⟨P, hdiv, hLe, hGe⟩ := div_near (x := word (decide (x < 0)) q1) (y := word (decide (y < 0)) q2) (W_word q1s) (W_word q2s) (fin_word q1t) (fin_word q2t) (by rw [word_abs q2s]; omega)
 rw [word_abs q1s, word_abs q2s] at hLe hGe
 rw [sgn_word q1s, sgn_word q2s, hs] at hdiv
 have P1 : P ≤ 4611686018427387904 := hGe _ (by
  rw [gt]; exact half_le (Nat.le_of_lt m3) (by omega))
 have P2 : HQ1 ≤ P := hLe _ (Nat.mul_le_mul m1 (Nat.le_of_lt m4))
 have Pm : mag P ≤ 2 * one := by rw [← gt]; exact mag_le_iff.2 P1
 rw [Nat.min_eq_left (by omega)] at hdiv
 have wP : Dy.W (word s P) := W_word (by omega)
 obtain ⟨e, he⟩ : ∃ e, i - k = e := ⟨_, rfl⟩
 obtain ⟨r, b, hr, b7, b8, b9, b10, b11, b12, b13, b14⟩ := near_spec (s := s) (P := P) (e := e) Pm
 have ew : IntKind.i64.wrap (i - k) = e := by rw [he, IntKind.wrap_i64]; omega
 have hL : nLdx [.i e] = true := decide_eq_true (show -1000000 ≤ e ∧ e ≤ 1000000 from ⟨by omega, by omega⟩)
 have hx : 2 ^ ((D0 : Int) + i).toNat * 2 ^ (-e).toNat = 2 ^ ((D0 : Int) + k).toNat * 2 ^ e.toNat := pow_two_eq (by omega)
 obtain ⟨m53, hm53⟩ := back53 P2 hr b7 b14
 have T0 := two_pos D0
 have Ti := two_pos ((D0 : Int) + i).toNat
 have Tk := two_pos ((D0 : Int) + k).toNat
 have C := fun (u v : Nat) (h : u * 2 ^ (-e).toNat = v * 2 ^ e.toNat) => corr2 (o := one) a5 b5 h hx T0 (two_pos _) Tk (two_pos _)
 have RT := round_two (LeX := fun v => v * mag q2 ≤ mag q1 * one) (GeX := fun v => mag q1 * one ≤ v * mag q2) (LeR := fun u => u * mag y.natAbs ≤ mag x.natAbs * one) (GeR := fun u => mag x.natAbs * one ≤ u * mag y.natAbs) (e := e) (P := P)
  (fun u v h => ⟨(C u v h).1.1, (C u v h).2.1⟩) hLe hGe (Nat.le_trans (Nat.le_trans g3 (mag_le_iff.2 (show HQ2 ≤ HQ1 by decide))) (mag_le_iff.2 P2)) (fun u h => big_r2 a5 b5 hx Tk o0 h m1 (Nat.le_of_lt m4) (Nat.le_trans g3 (mag_le_iff.2 (show HQ2 ≤ HQ1 by decide))))
 rw [hr] at RT
 have my0 : 0 < mag y.natAbs := by have := @mag_lt 0 y.natAbs (by omega); rw [mag_zero] at this; exact this
 obtain ⟨bt1, bt2⟩ := between (s := s) (N := mag x.natAbs * one) (den := mag y.natAbs) (r := r) my0 RT.1 RT.2
 have hout : dDiv (enc x) (enc y) up = out (fl (sg s ((mag x.natAbs * one : Nat) : Int)) (mag y.natAbs) up) up := by
  unfold dDiv divR
  rw [right_enc ox, right_enc oy, if_neg (by decide), if_neg (by rw [enc_eq_zero oy]; exact y0), dec_enc ox, dec_enc oy, V_natAbs, V_sg (x := x), Int.natCast_mul]
  by_cases h : y < 0
  ·rw [if_pos h]
   have es : sg s ((mag x.natAbs : Int) * one) = -(sg (decide (x < 0)) (mag x.natAbs : Int) * one) := by
    rw [← hs, decide_eq_true h]; cases decide (x < 0) <;> simp [sg, Int.neg_mul]
   rw [es]
  ·rw [if_neg h]
   have es : sg s ((mag x.natAbs : Int) * one) = sg (decide (x < 0)) (mag x.natAbs : Int) * one := by
    rw [← hs, decide_eq_false h]; cases decide (x < 0) <;> simp [sg, Int.neg_mul]
   rw [es]
 obtain ⟨bk, hbk⟩ : ∃ bk, (nearT (word s P) e).2 = bk := ⟨_, rfl⟩
 obtain ⟨cc, hcc⟩ : ∃ cc, (nearT (word s P) e).1 = cc := ⟨_, rfl⟩
 have hnear : nearT (word s P) e = (cc, bk) := by rw [← hbk, ← hcc]
 rw [hcc] at b10 b13
 rw [hbk] at b11 b12
 have hns : nSideT [.f cc] = true := by show (!nan cc) = true; rw [b13]; rfl
 have q2n : q2 ≠ 0 := by omega
 by_cases ht : r < top
 ·rw [b11 ht] at hnear
  obtain ⟨Q, hQ⟩ : ∃ Q, mag b * mag q2 = Q * one := by rw [hm53, b6]; exact prod_one2
  have Q1 : Q ≤ 4 * one := by
   have h := Nat.mul_le_mul b8 (Nat.le_of_lt m4)
   rw [hQ] at h
   exact Nat.le_of_mul_le_mul_right h o0
  have eb := neg_word (s := s) (b := b) (by omega)
  have hsx : ((!s) ^^ decide (y < 0)) = !decide (x < 0) := by rw [← hs]; cases decide (x < 0) <;> cases decide (y < 0) <;> rfl
  have hf := fma_near (x := word (!s) b) (y := word (decide (y < 0)) q2) (z := word (decide (x < 0)) q1) (W_word (by omega)) (W_word q2s) (W_word q1s) (fin_word b9) (fin_word q2t) (fin_word q1t) (S := sg (decide (x < 0)) ((mag q1 : Int) - Q))
   (by rw [sgn_word q1s, sgn_word q2s, sgn_word (by omega), word_abs q1s, word_abs q2s, word_abs (by omega), hsx, hQ, Int.natCast_mul]; exact sub_sg2)
   (fun _ => by rw [sgn_word q1s, sgn_word q2s, sgn_word (by omega), hsx]; cases decide (x < 0) <;> rfl)
  have oS : ok (nz (sg (decide (x < 0)) ((mag q1 : Int) - Q))) := ok_small (by unfold sg; split <;> omega) (by unfold sg; split <;> omega)
  have cr := C (mag r) (mag b) b7.symm
  rw [hQ] at cr
  rw [nrst_ok oS, ← eb] at hf
  -- the sign with the divisor's
  have oS2 : ok (nz (sg s ((mag q1 : Int) - Q))) := ok_small (by unfold sg; split <;> omega) (by unfold sg; split <;> omega)
  obtain ⟨l1, l2⟩ := lack (N := mag x.natAbs * one) (den := mag y.natAbs) (r := r) (Q := mag q1) (b := Q) oS2 rfl rfl
   (cr.1.trans ⟨fun h => Nat.le_of_mul_le_mul_right h o0, fun h => Nat.mul_le_mul_right _ h⟩)
   (cr.2.trans ⟨fun h => Nat.le_of_mul_le_mul_right h o0, fun h => Nat.mul_le_mul_right _ h⟩)
  obtain ⟨v1, v2⟩ := sign_enc oS
  obtain ⟨u1, u2⟩ := sign_enc oS2
  have hV : y < 0 → V (nz (sg s ((mag q1 : Int) - Q))) = -V (nz (sg (decide (x < 0)) ((mag q1 : Int) - Q))) := fun h => by
   rw [← hs, decide_eq_true h]
   have : sg (decide (x < 0) ^^ true) ((mag q1 : Int) - Q) = -sg (decide (x < 0)) ((mag q1 : Int) - Q) := by cases decide (x < 0) <;> simp [sg]
   rw [this, nz_neg, V_neg]
  have hV2 : ¬ y < 0 → V (nz (sg s ((mag q1 : Int) - Q))) = V (nz (sg (decide (x < 0)) ((mag q1 : Int) - Q))) := fun h => by
   rw [← hs, decide_eq_false h, Bool.xor_false]
  refine rdiv_fin up w ox oy x0 y0 f1 f2 q2t q2n hdiv wP ew hL hnear (W_word (by omega)) hf oS (fun d' wd k1 k2 => ?_) hns
  have k1' : fgt d' 0 = fgt (enc (nz (sg s ((mag q1 : Int) - Q)))) 0 := by
   rw [k1, u1, v1, v2]
   by_cases h : y < 0
   ·rw [if_pos h, hV h]; exact dneg1 _
   ·rw [if_neg h, hV2 h]
  have k2' : flt d' 0 = flt (enc (nz (sg s ((mag q1 : Int) - Q)))) 0 := by
   rw [k2, u2, v1, v2]
   by_cases h : y < 0
   ·rw [if_pos h, hV h]; exact dneg2 _
   ·rw [if_neg h, hV2 h]
  rw [hout]
  exact quo_side my0 b10 bt1 bt2 (fun _ => k1'.trans l1) (fun _ => k2'.trans l2)
 ·rw [b12 (by omega)] at hnear
  have e0 : Op.negFloat .f64 0 = word true 0 := by decide
  have q1n : 0 < mag q1 := by omega
  have hf := fma_near (x := word true 0) (y := word (decide (y < 0)) q2) (z := word (decide (x < 0)) q1) (W_word (by omega)) (W_word q2s) (W_word q1s) (fin_word (by omega)) (fin_word q2t) (fin_word q1t) (S := sg (decide (x < 0)) (mag q1 : Int))
   (by
    rw [sgn_word q1s, sgn_word q2s, sgn_word (by omega), word_abs q1s, word_abs q2s, word_abs (by omega), mag_zero, Nat.zero_mul]
    have : ∀ t : Bool, sg t ((0 : Nat) : Int) = 0 := fun t => by cases t <;> rfl
    rw [this, Int.zero_add])
   (fun h => by exfalso; unfold sg at h; revert h; split <;> omega)
  have oS : ok (nz (sg (decide (x < 0)) (mag q1 : Int))) := ok_small (by unfold sg; split <;> omega) (by unfold sg; split <;> omega)
  have no : ¬ ok (sg s (r : Int)) := by unfold ok sg; split <;> omega
  rw [nrst_ok oS, ← e0] at hf
  refine rdiv_fin up w ox oy x0 y0 f1 f2 q2t q2n hdiv wP ew hL hnear W_zero hf oS (fun d' wd k1 k2 => ?_) hns
  rw [hout]
  exact quo_side my0 b10 bt1 bt2 (fun h => absurd h no) (fun h => absurd h no)
end Go.Proofs.YtkhplflbcgjkcaaGreat
/-! Plain facts: roots to the nearest number. -/
namespace Go.Dy
open Ieee
theorem root_near {x : Nat} (hx : W x) (fx : fin x) (sx : sgn x = false) (h0 : x % 2 ^ 63 ≠ 0) :
  ∃ r : Nat, double.sqrt x = some (word false (min r top)) ∧ (∀ z : Nat, mag z * mag z ≤ mag (x % 2 ^ 63) * one → z ≤ r) ∧ (∀ z : Nat, mag (x % 2 ^ 63) * one ≤ mag z * mag z → r ≤ z) := by
 obtain ⟨m, e, r1, m1⟩ := read_num hx.lt fx
 have hxp : 0 < mag (x % 2 ^ 63) := by
  have := @mag_lt 0 (x % 2 ^ 63) (by omega)
  rw [mag_zero] at this; exact this
 have hm : m ≠ 0 := by
  intro h; rw [h, Nat.zero_mul] at m1; omega
 unfold Format.sqrt
 rw [r1, sx]
 have fb : double.fractionBits + 2 = 54 := rfl
 rw [fb]
 unfold Datum.root
 dsimp only
 rw [if_neg hm, if_neg (by decide)]
 simp only [Option.map, Format.write]
 obtain ⟨g0, hg0⟩ : ∃ g0 : Nat, 2 * 54 - m.log2 = g0 := ⟨_, rfl⟩
 obtain ⟨g, hg⟩ : ∃ g : Nat, g0 + ((-1074 + (e : Int) - (g0 : Int)) % 2).toNat = g := ⟨_, rfl⟩
 rw [hg0, hg, Nat.shiftLeft_eq]
 have hev : (-1074 + (e : Int) - (g : Int)) % 2 = 0 := by omega
 have bm1 := Nat.log2_self_le hm
 have hn : 2 ^ 108 ≤ m * 2 ^ g := by
  have b : 2 ^ m.log2 * 2 ^ g ≤ m * 2 ^ g := Nat.mul_le_mul_right _ bm1
  rw [← Nat.pow_add] at b
  have c : 2 ^ 108 ≤ 2 ^ (m.log2 + g) := Nat.pow_le_pow_right (by omega) (by omega)
  omega
 obtain ⟨n, hnn⟩ : ∃ n, n = m * 2 ^ g := ⟨_, rfl⟩
 have hw0 : Datum.rootFrom (m * 2 ^ g) ((m * 2 ^ g).log2 / 2 + 1) 0 = isq n := by rw [hnn]; rfl
 rw [hw0]
 obtain ⟨w, hw⟩ : ∃ w, w = isq n := ⟨_, rfl⟩
 rw [← hw]
 rw [← hnn] at hn ⊢
 have hq : 2 ^ 53 ≤ w := by
  rw [hw, le_isq]; omega
 obtain ⟨s1, s2⟩ := isq_spec n
 rw [← hw] at s1 s2
 obtain ⟨s, hs⟩ : ∃ s, s = (w * w != n).toNat := ⟨_, rfl⟩
 have hs1 : s ≤ 1 := by rw [hs]; cases (w * w != n) <;> decide
 have hs0 : s = 0 ↔ w * w = n := by
  rw [hs]
  by_cases h : w * w = n
  ·rw [h]; simp
  ·have : (w * w != n) = true := by simpa using h
   rw [this]; simp [h]
 rw [← hs]
 obtain ⟨P, hP⟩ : ∃ P : Int, P = (-1074 + (e : Int) - (g : Int)) / 2 - 1 + 1074 := ⟨_, rfl⟩
 have hpl : (-1074 + (e : Int) - (g : Int)) / 2 - 1 = -1074 + P := by omega
 rw [hpl, nearest_at]
 obtain ⟨E, hE⟩ : ∃ E, P.toNat = E := ⟨_, rfl⟩
 obtain ⟨J, hJ⟩ : ∃ J, (-P).toNat = J := ⟨_, rfl⟩
 have hz : E = 0 ∨ J = 0 := by omega
 rw [hE, hJ, m1]
 have key : m * 2 ^ e * one * (2 ^ J * 2 ^ J) = 4 * n * (2 ^ E * 2 ^ E) := by
  obtain ⟨S, hS, eS⟩ : ∃ S, S = 1074 ∧ one = 2 ^ S := ⟨1074, rfl, one_eq⟩
  rw [hnn, eS]
  have e1 : 2 ^ e * 2 ^ S * (2 ^ J * 2 ^ J) = 2 ^ 2 * (2 ^ g * (2 ^ E * 2 ^ E)) := by
   rw [← Nat.pow_add, ← Nat.pow_add, ← Nat.pow_add, ← Nat.pow_add, ← Nat.pow_add, ← Nat.pow_add]
   exact congrArg (fun t => 2 ^ t) (by omega)
  have l : m * 2 ^ e * 2 ^ S * (2 ^ J * 2 ^ J) = m * (2 ^ e * 2 ^ S * (2 ^ J * 2 ^ J)) := by simp only [Nat.mul_assoc]
  rw [l, e1]
  have : (2 : Nat) ^ 2 = 4 := rfl
  rw [this]
  simp only [Nat.mul_assoc, Nat.mul_left_comm]
 have pJ : 0 < 2 ^ J * 2 ^ J := Nat.mul_pos (Nat.two_pow_pos _) (Nat.two_pow_pos _)
 have pE : 0 < 2 ^ E * 2 ^ E := Nat.mul_pos (Nat.two_pow_pos _) (Nat.two_pow_pos _)
 have c1 : ∀ z : Nat, mag z * mag z ≤ m * 2 ^ e * one ↔ (mag z * 2 ^ J) * (mag z * 2 ^ J) ≤ 4 * n * (2 ^ E * 2 ^ E) := by
  intro z
  rw [← Nat.mul_le_mul_right_iff pJ, key, Nat.mul_mul_mul_comm (mag z)]
 have c2 : ∀ z : Nat, m * 2 ^ e * one ≤ mag z * mag z ↔ 4 * n * (2 ^ E * 2 ^ E) ≤ (mag z * 2 ^ J) * (mag z * 2 ^ J) := by
  intro z
  rw [← Nat.mul_le_mul_right_iff pJ, key, Nat.mul_mul_mul_comm (mag z)]
 have sq2 : ∀ t : Nat, (2 * t * 2 ^ E) * (2 * t * 2 ^ E) = 4 * (t * t) * (2 ^ E * 2 ^ E) := by
  intro t
  rw [Nat.mul_mul_mul_comm, Nat.mul_mul_mul_comm 2 t]
 refine ⟨_, rfl, ?_, ?_⟩
 ·intro z hzz
  rw [c1] at hzz
  refine sticky_le hq hs1 hz ?_ ?_
  ·have e2 : (2 * w + 2) * 2 ^ E = 2 * (w + 1) * 2 ^ E := rfl
   rw [e2, ← sq_lt, sq2]
   have : 4 * n * (2 ^ E * 2 ^ E) < 4 * ((w + 1) * (w + 1)) * (2 ^ E * 2 ^ E) := Nat.mul_lt_mul_of_pos_right (by omega) pE
   omega
  ·intro h
   rw [← sq_le, sq2, hs0.1 h]; exact hzz
 ·intro z hzz
  rw [c2] at hzz
  refine sticky_ge hq hs1 hz ?_
  by_cases h : s = 0
  ·rw [if_pos h, ← sq_le, sq2, hs0.1 h]; exact hzz
  ·rw [if_neg h, ← sq_lt, sq2]
   have hlt : w * w < n := by
    have : w * w ≠ n := fun e => h (hs0.2 e)
    omega
   have : 4 * (w * w) * (2 ^ E * 2 ^ E) < 4 * n * (2 ^ E * 2 ^ E) := Nat.mul_lt_mul_of_pos_right (by omega) pE
   omega
end Go.Dy
/-! Walks: burnishref01.Sqrt. -/
namespace Go.Dy
open Ieee
open Go.Proofs.YtkhplflbcgjkcaaGreat (sideF sideF_up sideF_dn)
theorem side_gen {lo hi z : Int} {c d : Nat} {up : Bool} (hc : Cb c z) (a1 : lo ≤ z) (a2 : z ≤ hi) (hup : hi ≤ lo + 1) (h1 : ok z → fgt d 0 = decide (¬ hi ≤ z)) (h2 : ok z → flt d 0 = decide (¬ z ≤ lo)) : sideF c d up = out (if up = true then hi else lo) up := by
 cases up
 ·rw [if_neg (by decide)]
  refine sideF_dn hc a1 (by omega) (fun o => ?_)
  rw [h2 o]
  by_cases h : z ≤ lo
  ·rw [if_neg (by simpa using h)]; omega
  ·rw [if_pos (decide_eq_true h)]; omega
 ·rw [if_pos rfl]
  refine sideF_up hc a2 (by omega) (fun o => ?_)
  rw [h1 o]
  by_cases h : hi ≤ z
  ·rw [if_neg (by simpa using h)]; omega
  ·rw [if_pos (decide_eq_true h)]; omega
def D3 : Nat := 537
theorem D3_eq : D3 = 537 := rfl
theorem half_pow : 2 ^ 53 * 2 ^ D3 ≤ mag HQ1 := by decide +kernel
theorem back537 {P r b : Nat} {e : Int} (hP : HQ1 ≤ P) (hr : nr (mag P * 2 ^ e.toNat) (-e).toNat = r) (b7 : mag b * 2 ^ e.toNat = mag r * 2 ^ (-e).toNat) (b14 : 0 ≤ e → b = P) : ∃ m, mag b = m * 2 ^ D3 := by
 have hp := half_pow
 have hPm := mag_le_iff.2 hP
 by_cases he : 0 ≤ e
 ·rw [b14 he]
  obtain ⟨v, hv, -⟩ := nat_dvd_grid (g := D3) (fl_mag P) (Nat.le_trans hp hPm)
  exact ⟨v, hv⟩
 ·have e0 : e.toNat = 0 := by omega
  obtain ⟨j, hj⟩ : ∃ j, (-e).toNat = j := ⟨_, rfl⟩
  rw [e0, hj, Nat.pow_zero, Nat.mul_one] at hr b7
  by_cases h : D3 ≤ j
  ·refine ⟨mag r * 2 ^ (j - D3), ?_⟩
   rw [b7, Nat.mul_assoc, ← Nat.pow_add]
   have : j - D3 + D3 = j := by omega
   rw [this]
  ·have hf : Fl ((2 ^ 53 * 2 ^ (D3 - j) : Nat) : Int) := ⟨2 ^ 53, D3 - j, by decide, by rw [Int.natCast_mul, Int.natCast_pow]; rfl⟩
   obtain ⟨t, ht⟩ := mag_of_fl hf
   have k : t ≤ r := by
    rw [← hr]; refine le_nr ?_
    rw [ht, Nat.mul_assoc, ← Nat.pow_add]
    have : D3 - j + j = D3 := by omega
    rw [this]; exact Nat.le_trans hp hPm
   obtain ⟨v, hv, -⟩ := nat_dvd_grid (g := D3 - j) (fl_mag r) (by rw [← ht]; exact mag_le_iff.2 k)
   refine ⟨v, ?_⟩
   rw [b7, hv, Nat.mul_assoc, ← Nat.pow_add]
   have : D3 - j + j = D3 := by omega
   rw [this]
theorem prod_one3 {m : Nat} : m * 2 ^ D3 * (m * 2 ^ D3) = m * m * one := by
 obtain ⟨E0, hE, eE⟩ := one_pow
 have d3 := D3_eq
 have h : D3 + D3 = E0 := by omega
 rw [eE, Nat.mul_mul_mul_comm, ← Nat.pow_add, h]
theorem corr3 {u v mx q o A c d : Nat} {B : Nat} (h1 : mx * A = q * B) (hu : u * c = v * d) (hx : B * (c * c) = A * (d * d)) (pA : 0 < A) (pc : 0 < c) (pd : 0 < d) : (u * u ≤ mx * o ↔ v * v ≤ q * o) ∧ (mx * o ≤ u * u ↔ q * o ≤ v * v) := by
 have e1 : u * u * (A * (c * c)) = v * v * (A * (d * d)) := by
  have : u * u * (A * (c * c)) = u * c * (u * c) * A := by ac_rfl
  rw [this, hu]; ac_rfl
 have e2 : mx * o * (A * (c * c)) = q * o * (A * (d * d)) := by
  have : mx * o * (A * (c * c)) = mx * A * (o * (c * c)) := by ac_rfl
  have h3 : q * B * (o * (c * c)) = q * o * (B * (c * c)) := by ac_rfl
  rw [this, h1, h3, hx]
 have k1 := Nat.mul_pos pA (Nat.mul_pos pc pc)
 have k2 := Nat.mul_pos pA (Nat.mul_pos pd pd)
 constructor
 ·constructor
  ·intro h
   have := Nat.mul_le_mul_right (A * (c * c)) h
   rw [e1, e2] at this
   exact Nat.le_of_mul_le_mul_right this k2
  ·intro h
   have := Nat.mul_le_mul_right (A * (d * d)) h
   rw [← e1, ← e2] at this
   exact Nat.le_of_mul_le_mul_right this k1
 ·constructor
  ·intro h
   have := Nat.mul_le_mul_right (A * (c * c)) h
   rw [e1, e2] at this
   exact Nat.le_of_mul_le_mul_right this k2
  ·intro h
   have := Nat.mul_le_mul_right (A * (d * d)) h
   rw [← e1, ← e2] at this
   exact Nat.le_of_mul_le_mul_right this k1
theorem big_r3 {u mx q o A B c d H : Nat} (h1 : mx * A = q * B) (hx : B * (c * c) = A * (d * d)) (pA : 0 < A) (h : mx * o ≤ u * u) (hq : H * H ≤ q * o) (g3 : 2 ^ 53 ≤ H) : 2 ^ 53 * d ≤ u * c := by
 have k := Nat.mul_le_mul_right (A * (c * c)) h
 have e2 : mx * o * (A * (c * c)) = q * o * (A * (d * d)) := by
  have : mx * o * (A * (c * c)) = mx * A * (o * (c * c)) := by ac_rfl
  have h3 : q * B * (o * (c * c)) = q * o * (B * (c * c)) := by ac_rfl
  rw [this, h1, h3, hx]
 rw [e2] at k
 generalize 2 ^ 53 = W at *
 have k2 : H * d * (H * d) * A ≤ u * c * (u * c) * A := by
  have e3 : H * d * (H * d) * A = H * H * (A * (d * d)) := by ac_rfl
  have e4 : u * c * (u * c) * A = u * u * (A * (c * c)) := by ac_rfl
  rw [e3, e4]
  exact Nat.le_trans (Nat.mul_le_mul_right _ hq) k
 have k3 := Nat.le_of_mul_le_mul_right k2 pA
 have k4 : H * d ≤ u * c := Nat.mul_self_le_mul_self_iff.1 k3
 exact Nat.le_trans (Nat.mul_le_mul_right _ g3) k4
end Go.Dy
namespace Go.Proofs.YtkhplflbcgjkcaaGreat
open Go Go.RowKit
set_option linter.unusedSimpArgs false
set_option linter.unusedVariables false
open Dy
theorem nroot_some {x r : Nat} (h : Ieee.double.sqrt x = some r) (hr : Dy.W r) : nRoot [.f x] = true ∧ (rootF x).getD 0 = r := by
 have h' : rootF x = some r := h
 refine ⟨?_, by rw [h']; rfl⟩
 show okF (rootF x) = true
 rw [h']; exact decide_eq_true hr.lt
theorem sqz_def (x : Int) (up : Bool) : sqz x up = sqR (mag x.toNat) up := rfl
theorem word_f (b : Nat) : word false b = b := rfl
theorem sg_f (n : Int) : sg false n = n := rfl
theorem pos_sub {a b : Nat} : 0 < (a : Int) - b ↔ ¬ a ≤ b := by omega
theorem neg_sub' {a b : Nat} : (a : Int) - b < 0 ↔ ¬ b ≤ a := by omega
theorem four_sq (o : Nat) : 4 * o * (4 * o) = 16 * o * o := by grind
theorem sqrt_core {x : Int} {q : Nat} {h : Int} (up : Bool) (ox : ok x) (x0 : 0 < x) (a1 : HQ2 ≤ q) (a2 : q < 4607182418800017408) (h1 : -540 ≤ h) (h2 : h ≤ 600) (a5 : mag x.natAbs * 2 ^ D0 = mag q * 2 ^ ((D0 : Int) + 2 * h).toNat) :
  ∃ (P cc bk : Nat) (D : Int), Ieee.double.sqrt q = some P ∧ Dy.W P ∧ nearT P h = (cc, bk) ∧ Dy.W bk ∧ Ieee.double.fma (Op.negFloat .f64 bk) bk q = some (enc D) ∧ ok D ∧ nSideT [.f cc] = true ∧ sideF cc (enc D) up = dSqrt (enc x) up := by
 have tp := top_eq
 have d0 := D0_eq
 obtain ⟨g1, g2, g3, g4⟩ := HQ_facts
 have m1 := mag_le_iff.2 a1
 have m3 : mag q < one := by rw [← g4]; exact mag_lt a2
 have qs : q < 2 ^ 63 := by omega
 have qt : q < top := by omega
 have qn : q ≠ 0 := by unfold HQ2 at a1; omega
 have o0 : 0 < one := by omega
 have wq : Dy.W q := by unfold Dy.W; omega
 have qm : q % 2 ^ 63 = q := Nat.mod_eq_of_lt qs
 have fq : fin q := by unfold fin; rw [qm]; exact qt
 have sq : sgn q = false := by unfold sgn; exact decide_eq_false (by omega)
 obtain ⟨P, hroot, hLe, hGe⟩ := root_near wq fq sq (by rw [qm]; exact qn)
 rw [qm] at hLe hGe
 have mq : mag HQ1 * mag HQ1 ≤ mag q * one := by rw [g2]; exact Nat.mul_le_mul_right _ m1
 have P1 : P ≤ 4607182418800017408 := hGe _ (by rw [g4]; exact Nat.mul_le_mul_right _ (Nat.le_of_lt m3))
 have P2 : HQ1 ≤ P := hLe _ mq
 have Pm : mag P ≤ one := by rw [← g4]; exact mag_le_iff.2 P1
 have hroot' : Ieee.double.sqrt q = some P := by rw [hroot, Nat.min_eq_left (by omega), word_f]
 have wP : Dy.W P := by unfold Dy.W; omega
 obtain ⟨r, b, hr, b7, b8, b9, b10, b11, b12, b13, b14⟩ := near_spec (s := false) (P := P) (e := h) (by omega)
 have eP : word false P = P := word_f P
 rw [eP] at b10 b11 b12 b13
 have hx : 2 ^ ((D0 : Int) + 2 * h).toNat * (2 ^ (-h).toNat * 2 ^ (-h).toNat) = 2 ^ D0 * (2 ^ h.toNat * 2 ^ h.toNat) := by
  rw [← Nat.pow_add, ← Nat.pow_add, ← Nat.pow_add, ← Nat.pow_add]
  have : ((D0 : Int) + 2 * h).toNat + ((-h).toNat + (-h).toNat) = D0 + (h.toNat + h.toNat) := by omega
  rw [this]
 have T0 := two_pos D0
 have C := fun (u v : Nat) (k : u * 2 ^ (-h).toNat = v * 2 ^ h.toNat) => corr3 (o := one) a5 k hx T0 (two_pos _) (two_pos _)
 have RT := round_two (LeX := fun v => v * v ≤ mag q * one) (GeX := fun v => mag q * one ≤ v * v) (LeR := fun u => u * u ≤ mag x.natAbs * one) (GeR := fun u => mag x.natAbs * one ≤ u * u) (e := h) (P := P)
  (fun u v k => ⟨(C u v k).1.1, (C u v k).2.1⟩) hLe hGe (Nat.le_trans (Nat.le_trans g3 (mag_le_iff.2 (show HQ2 ≤ HQ1 by decide))) (mag_le_iff.2 P2)) (fun u k => big_r3 a5 hx T0 k mq (Nat.le_trans g3 (mag_le_iff.2 (show HQ2 ≤ HQ1 by decide))))
 rw [hr] at RT
 have xn : x.toNat = x.natAbs := by omega
 have ex : enc x = x.natAbs := by unfold enc; rw [if_pos (by omega)]; omega
 have z1 : sqz x false ≤ r := by
  have n0 := sqz_nonneg x false
  rcases Int.lt_or_le (r : Int) (sqz x false) with k | k
  ·have k2 : (((r + 1 : Nat)) : Int) ≤ sqR (mag x.toNat) false := by show _ ≤ sqz x false; omega
   rw [sqR_down, xn] at k2
   have := RT.1 _ k2; omega
  ·exact k
 have z2 : (r : Int) ≤ sqz x true := by
  have n0 := sqz_nonneg x true
  rcases Int.lt_or_le (sqz x true) (r : Int) with k | k
  ·obtain ⟨t, ht⟩ := Int.eq_ofNat_of_zero_le n0
   have k2 : sqz x true ≤ (t : Int) := by omega
   rw [sqz_def, sqR_up, xn] at k2
   have := RT.2 _ k2; omega
  ·exact k
 have z3 := sqz_up_le x
 have hout : dSqrt (enc x) up = out (if up = true then sqz x true else sqz x false) up := by
  unfold dSqrt
  have r1 : (!right (enc x)) = false := by rw [right_enc ox]; rfl
  rw [r1, if_neg (by decide), if_neg (by rw [ex]; unfold ok at ox; omega), if_neg (by rw [ex]; omega), ex, ← xn]
  cases up
  ·rw [if_neg (by decide), sqz_def]
  ·rw [if_pos rfl, sqz_def]
 have s1 : sqz x true ≤ (r : Int) ↔ mag x.natAbs * one ≤ mag r * mag r := by
  rw [sqz_def, sqR_up, xn]
 have s2 : (r : Int) ≤ sqz x false ↔ mag r * mag r ≤ mag x.natAbs * one := by
  rw [sqz_def, sqR_down, xn]
 obtain ⟨bk, hbk⟩ : ∃ bk, (nearT P h).2 = bk := ⟨_, rfl⟩
 obtain ⟨cc, hcc⟩ : ∃ cc, (nearT P h).1 = cc := ⟨_, rfl⟩
 have hnear : nearT P h = (cc, bk) := by rw [← hbk, ← hcc]
 rw [hcc] at b10 b13
 rw [hbk] at b11 b12
 have hns : nSideT [.f cc] = true := by show (!nan cc) = true; rw [b13]; rfl
 have esr : sg false (r : Int) = (r : Int) := sg_f _
 rw [esr] at b10
 by_cases ht : r < top
 ·rw [b11 ht] at hnear
  obtain ⟨m, hm⟩ := back537 P2 hr b7 b14
  have hQ : mag b * mag b = m * m * one := by rw [hm]; exact prod_one3
  obtain ⟨Q, hQ'⟩ : ∃ Q, m * m = Q := ⟨_, rfl⟩
  rw [hQ'] at hQ
  have Q1 : Q ≤ 16 * one := by
   have k := Nat.mul_le_mul b8 b8
   rw [hQ] at k
   rw [four_sq] at k
   exact Nat.le_of_mul_le_mul_right k o0
  have eb := neg_word (s := false) (b := b) (by omega)
  have hf := fma_near (x := word true b) (y := word false b) (z := word false q) (W_word (by omega)) (W_word (by omega)) (W_word qs) (fin_word b9) (fin_word b9) (fin_word qt) (S := sg false ((mag q : Int) - Q))
   (by rw [sgn_word (by omega), sgn_word (by omega), sgn_word qs, word_abs (by omega), word_abs (by omega), word_abs qs, hQ, Int.natCast_mul]; exact sub_sg2)
   (fun _ => by rw [sgn_word (by omega), sgn_word (by omega), sgn_word qs]; rfl)
  have oS : ok (nz (sg false ((mag q : Int) - Q))) := ok_small (by rw [sg_f]; omega) (by rw [sg_f]; omega)
  have cr := C (mag r) (mag b) b7.symm
  rw [hQ] at cr
  obtain ⟨v1, v2⟩ := sign_enc oS
  obtain ⟨w1, w2⟩ := rn_sign (sg false ((mag q : Int) - Q))
  rw [nrst_ok oS] at hf
  have hf' : Ieee.double.fma (Op.negFloat .f64 (word false b)) (word false b) q = some (enc (nz (sg false ((mag q : Int) - Q)))) := by rw [word_f q] at hf; rw [eb]; exact hf
  refine ⟨P, cc, word false b, _, hroot', wP, hnear, W_word (by omega), hf', oS, hns, ?_⟩
  rw [hout]
  refine side_gen b10 z1 z2 z3 (fun _ => ?_) (fun _ => ?_)
  ·rw [v1]; refine decide_eq_decide.2 ?_; rw [w1, s1, cr.2]
   have : mag q * one ≤ Q * one ↔ mag q ≤ Q := ⟨fun k => Nat.le_of_mul_le_mul_right k o0, fun k => Nat.mul_le_mul_right _ k⟩
   rw [this, sg_f]
   exact pos_sub
  ·rw [v2]; refine decide_eq_decide.2 ?_; rw [w2, s2, cr.1]
   have : Q * one ≤ mag q * one ↔ Q ≤ mag q := ⟨fun k => Nat.le_of_mul_le_mul_right k o0, fun k => Nat.mul_le_mul_right _ k⟩
   rw [this, sg_f]
   exact neg_sub'
 ·rw [b12 (by omega)] at hnear
  have e0 : Op.negFloat .f64 0 = word true 0 := by decide
  have q0 : 0 < mag q := by omega
  have hf := fma_near (x := word true 0) (y := word false 0) (z := word false q) (W_word (by omega)) (W_word (by omega)) (W_word qs) (fin_word (by omega)) (fin_word (by omega)) (fin_word qt) (S := (mag q : Int))
   (by
    rw [sgn_word (by omega), sgn_word (by omega), sgn_word qs, word_abs (by omega), word_abs (by omega), word_abs qs, mag_zero, Nat.zero_mul]
    have : ∀ t : Bool, sg t ((0 : Nat) : Int) = 0 := fun t => by cases t <;> rfl
    rw [this, Int.zero_add, sg_f])
   (fun h => by exfalso; omega)
  have oS : ok (nz (mag q : Int)) := ok_small (by omega) (by omega)
  have no : ¬ ok (r : Int) := by unfold ok; omega
  rw [nrst_ok oS] at hf
  have hf' : Ieee.double.fma (Op.negFloat .f64 0) 0 q = some (enc (nz (mag q : Int))) := by rw [word_f q, word_f 0] at hf; rw [e0]; exact hf
  refine ⟨P, cc, 0, _, hroot', wP, hnear, W_zero, hf', oS, hns, ?_⟩
  rw [hout]
  exact side_gen b10 z1 z2 z3 (fun h => absurd h no) (fun h => absurd h no)
end Go.Proofs.YtkhplflbcgjkcaaGreat
/-! Walks: burnishref01's Sub, Mul, Div, Sqrt are those of dir. -/
namespace Go.Dy
theorem tm2 (i : Int) : i.tmod 2 = if 0 ≤ i then i % 2 else -((-i) % 2) := by
 split
 ·rename_i h; rw [Int.tmod_eq_emod_of_nonneg h]
 ·rename_i h
  obtain ⟨n, rfl⟩ : ∃ n, i = -n := ⟨-i, by omega⟩
  rw [Int.neg_tmod, Int.tmod_eq_emod_of_nonneg (by omega), Int.neg_neg]
theorem td2 (i : Int) : i.tdiv 2 = if 0 ≤ i then i / 2 else -((-i) / 2) := by
 split
 ·rename_i h; rw [Int.tdiv_eq_ediv_of_nonneg h]
 ·rename_i h
  obtain ⟨n, rfl⟩ : ∃ n, i = -n := ⟨-i, by omega⟩
  rw [Int.neg_tdiv, Int.tdiv_eq_ediv_of_nonneg (by omega), Int.neg_neg]
theorem tpar (i : Int) : (i.tmod 2 = 0 ∧ i = 2 * i.tdiv 2) ∨ (i.tmod 2 ≠ 0 ∧ i + 1 = 2 * (i + 1).tdiv 2) := by
 rw [tm2, td2, td2]
 by_cases h : 0 ≤ i
 ·rw [if_pos h, if_pos h, if_pos (show 0 ≤ i + 1 by omega)]; omega
 ·rw [if_neg h, if_neg h]
  by_cases h2 : 0 ≤ i + 1
  ·rw [if_pos h2]; omega
  ·rw [if_neg h2]; omega
theorem fl_zero0 (den : Nat) (up : Bool) : fl 0 den up = 0 := by
 unfold fl
 simp
 exact rnk_zero _ _
theorem out_zero (up : Bool) : out 0 up = (0, 0) := by
 have o : ok 0 := by unfold ok; decide
 rw [out_mid o]; rfl
theorem form_half {D n : Nat} (hD : 1 ≤ D) (hn : n < 2 ^ 52) : mag ((D - 1) * 2 ^ 52 + (2 ^ 52 + n)) * 2 = mag (D * 2 ^ 52 + (2 ^ 52 + n)) := by
 rw [mag_form D n hn, mag_form (D - 1) n hn, Nat.mul_assoc, ← Nat.pow_succ]
 have : (D - 1).succ = D := by omega
 rw [this]
theorem mag_halfT {q : Nat} (h1 : HQ1 ≤ q) (h2 : q < 4607182418800017408) : mag (q - 4503599627370496) * 2 = mag q := by
 unfold HQ1 at h1
 obtain ⟨n, hn⟩ : ∃ n, q = 4602678819172646912 + n := ⟨q - 4602678819172646912, by omega⟩
 have n1 : n < 4503599627370496 := by omega
 have k := form_half (D := 1021) (n := n) (by decide) n1
 have q1 : 1021 * 2 ^ 52 + (2 ^ 52 + n) = q := by omega
 have q2 : (1021 - 1) * 2 ^ 52 + (2 ^ 52 + n) = q - 4503599627370496 := by omega
 rw [q1, q2] at k
 exact k
end Go.Dy
namespace Go.Proofs.YtkhplflbcgjkcaaGreat
open Go Go.RowKit
set_option linter.unusedSimpArgs false
set_option linter.unusedVariables false
open Dy
theorem rsqrt_pos {x : Int} (up : Bool) (w : World) (ox : ok x) (x0 : 0 < x) :
  Calls Tryz.prog 136 #[.float .f64 (enc x), .bool up] w fun e w' => e = .returned (.tuple #[.float .f64 (dSqrt (enc x) up).1, .int .i64 (dSqrt (enc x) up).2]) ∧ Below w.heap.size w w' := by
 have tp := top_eq
 have d0 := D0_eq
 obtain ⟨q1, i, f1, a1, a2, a3, a4, a5, c1, a6⟩ := fr_spec ox (by omega)
 rw [decide_eq_false (show ¬ x < 0 by omega), word_f] at f1
 obtain ⟨hx1, hx2⟩ := enc_ne ox (by omega)
 have hfl : flt (enc x) 0 = false := by
  rw [(sign_enc ox).2]; exact decide_eq_false (by have := V_nonneg.2 (show 0 ≤ x by omega); omega)
 have hrr := (rrT_right (W_enc ox)).trans (right_enc ox)
 have a1' := a1
 unfold HQ1 at a1
 have wq : Dy.W q1 := by unfold Dy.W; omega
 have wR : Dy.W (dSqrt (enc x) up).1 := Dy.dSqrt_W _ _
 rcases tpar i with ⟨hi, e2⟩ | ⟨hi, e2⟩
 ·obtain ⟨h, hh⟩ : ∃ h, i.tdiv 2 = h := ⟨_, rfl⟩
  rw [hh] at e2
  have a5' : mag x.natAbs * 2 ^ D0 = mag q1 * 2 ^ ((D0 : Int) + 2 * h).toNat := by rw [← e2]; exact a5
  obtain ⟨P, cc, bk, D, s1, wP, s2, wb, s3, oD, s4, s5⟩ := sqrt_core (q := q1) (h := h) up ox x0 (by unfold HQ2; omega) a2 (by omega) (by omega) a5'
  obtain ⟨n1, n2⟩ := nroot_some s1 wP
  obtain ⟨k1, k2⟩ := fma_some s3 (W_enc oD)
  have ew : IntKind.i64.wrap (i.tdiv 2) = h := by rw [hh, IntKind.wrap_i64]; omega
  exact rsqrt_4 _ up w (W_enc ox) hrr hfl hx1 f1 hx2 hi rfl n2 n1 ew s2 (decide_eq_true (show -1000000 ≤ h ∧ h ≤ 1000000 from ⟨by omega, by omega⟩)) rfl (hneg wb) k2 k1 s5 s4 wR
 ·obtain ⟨h, hh⟩ : ∃ h, (i + 1).tdiv 2 = h := ⟨_, rfl⟩
  rw [hh] at e2
  have mh := mag_halfT a1' a2
  obtain ⟨t, ht⟩ : ∃ t, q1 - 4503599627370496 = t := ⟨_, rfl⟩
  rw [ht] at mh
  have a5' : mag x.natAbs * 2 ^ D0 = mag t * 2 ^ ((D0 : Int) + 2 * h).toNat := by
   have e3 : ((D0 : Int) + 2 * h).toNat = ((D0 : Int) + i).toNat + 1 := by omega
   rw [a5, ← mh, e3, Nat.pow_succ, Nat.mul_assoc, Nat.mul_comm 2]
  obtain ⟨P, cc, bk, D, s1, wP, s2, wb, s3, oD, s4, s5⟩ := sqrt_core (q := t) (h := h) up ox x0 (by unfold HQ2; omega) (by omega) (by omega) (by omega) a5'
  obtain ⟨n1, n2⟩ := nroot_some s1 wP
  obtain ⟨k1, k2⟩ := fma_some s3 (W_enc oD)
  have w2 : Dy.W 4611686018427387904 := by unfold Dy.W; decide
  have hdiv : Ieee.double.div q1 4611686018427387904 = some t := by
   obtain ⟨r, r1, r2, r3⟩ := div_near (x := q1) (y := 4611686018427387904) wq w2 (by unfold fin; omega) (by unfold fin; omega) (by decide)
   have e4 : q1 % 2 ^ 63 = q1 := Nat.mod_eq_of_lt (by omega)
   have e5 : (4611686018427387904 : Nat) % 2 ^ 63 = 4611686018427387904 := by decide
   rw [e4, e5, two_facts] at r2 r3
   have e6 : mag t * (2 * one) = mag q1 * one := by rw [← mh, Nat.mul_assoc]
   have := r2 t (Nat.le_of_eq e6)
   have := r3 t (Nat.le_of_eq e6.symm)
   have er : r = t := by omega
   have sg1 : sgn q1 = false := by unfold sgn; exact decide_eq_false (by omega)
   have sg2 : sgn 4611686018427387904 = false := by decide
   rw [r1, er, sg1, sg2, Nat.min_eq_left (by omega)]
   exact congrArg some (word_f t)
  have ei : IntKind.i64.wrap (i + 1) = i + 1 := by rw [IntKind.wrap_i64]; omega
  have ew : IntKind.i64.wrap ((i + 1).tdiv 2) = h := by rw [hh, IntKind.wrap_i64]; omega
  exact rsqrt_3 _ up w (W_enc ox) hrr hfl hx1 f1 hx2 rfl (by simpa using hi) (by rw [hdiv]; rfl) (fn_some hdiv (by unfold Dy.W; omega)) ei n2 n1 ew s2 (decide_eq_true (show -1000000 ≤ h ∧ h ≤ 1000000 from ⟨by omega, by omega⟩)) rfl (hneg wb) k2 k1 s5 s4 wR
theorem rsqrt_any (a : Nat) (up : Bool) (w : World) (ha : Dy.W a) :
  Calls Tryz.prog 136 #[.float .f64 a, .bool up] w fun e w' => e = .returned (.tuple #[.float .f64 (dSqrt a up).1, .int .i64 (dSqrt a up).2]) ∧ Below w.heap.size w w' := by
 have ra' := rrT_right ha
 cases ra : right a with
 | false =>
  have e : dSqrt a up = (0, 13) := by unfold dSqrt; rw [ra]; rfl
  rw [e]
  exact rsqrt_1 a up w ha (by rw [ra', ra])
 | true =>
  obtain ⟨ea, oa⟩ := enc_dec ha.lt ra
  rw [ra] at ra'
  have hfl : flt a 0 = decide (dec a < 0) := by
   rw [flt_dec ha W_zero ra right_zero, dec_zero]
  rcases Int.lt_trichotomy (dec a) 0 with h | h | h
  ·have h63 := (dec_neg ha ra).1 h
   have e : dSqrt a up = (0, 12) := by unfold dSqrt; rw [ra, if_neg (by decide), if_pos h63]
   rw [e]
   exact rsqrt_0 a up w ha ra' (by rw [hfl]; exact decide_eq_true h)
  ·have a0 : a = 0 := by rw [← ea, h]; rfl
   subst a0
   have e : dSqrt 0 up = (0, 0) := by unfold dSqrt; rw [ra, if_neg (by decide), if_neg (by decide), if_pos rfl]
   rw [e]
   exact rsqrt_2 0 up w ha ra' (by rw [hfl, h]; rfl) (by rw [feq_right ha ra]; rfl)
  ·have k := rsqrt_pos up w oa h
   rw [ea] at k; exact k
theorem rmul_any (a b : Nat) (up : Bool) (w : World) (ha : Dy.W a) (hb : Dy.W b) :
  Calls Tryz.prog 135 #[.float .f64 a, .float .f64 b, .bool up] w fun e w' => e = .returned (.tuple #[.float .f64 (dMul a b up).1, .int .i64 (dMul a b up).2]) ∧ Below w.heap.size w w' := by
 have ra' := rrT_right ha
 have rb' := rrT_right hb
 cases ra : right a with
 | false =>
  have e : dMul a b up = (0, 13) := by unfold dMul; rw [ra]; rfl
  rw [e]
  exact rmul_1 a b up w ha hb (by rw [ra', ra])
 | true =>
  cases rb : right b with
  | false =>
   have e : dMul a b up = (0, 13) := by unfold dMul; rw [ra, rb]; rfl
   rw [e]
   exact rmul_2 a b up w ha hb (by rw [ra', ra]) (by rw [rb', rb])
  | true =>
   obtain ⟨ea, oa⟩ := enc_dec ha.lt ra
   obtain ⟨eb, ob⟩ := enc_dec hb.lt rb
   rw [ra] at ra'
   rw [rb] at rb'
   have hm := dMul_enc (up := up) oa ob
   rw [ea, eb] at hm
   by_cases a0 : dec a = 0
   ·have e : dMul a b up = (0, 0) := by rw [hm, a0, V_zero, Int.zero_mul, fl_zero0, out_zero]
    rw [e]
    have a0' : a = 0 := by rw [← ea, a0]; rfl
    exact rmul_0 a b up w ha hb ra' rb' (by rw [feq_right ha ra]; exact decide_eq_true a0')
   ·have fa : feq a 0 = false := by
     rw [feq_right ha ra]; exact decide_eq_false (fun h => a0 (by rw [h]; rfl))
    by_cases b0 : dec b = 0
    ·have e : dMul a b up = (0, 0) := by rw [hm, b0, V_zero, Int.mul_zero, fl_zero0, out_zero]
     rw [e]
     have b0' : b = 0 := by rw [← eb, b0]; rfl
     exact rmul_3 a b up w ha hb ra' rb' fa (by rw [feq_right hb rb]; exact decide_eq_true b0')
    ·have k := rmul_mid up w oa ob a0 b0
     rw [ea, eb] at k; exact k
theorem rdiv_any (a b : Nat) (up : Bool) (w : World) (ha : Dy.W a) (hb : Dy.W b) :
  Calls Tryz.prog 151 #[.float .f64 a, .float .f64 b, .bool up] w fun e w' => e = .returned (.tuple #[.float .f64 (dDiv a b up).1, .int .i64 (dDiv a b up).2]) ∧ Below w.heap.size w w' := by
 have ra' := rrT_right ha
 have rb' := rrT_right hb
 cases ra : right a with
 | false =>
  have e : dDiv a b up = (0, 13) := by unfold dDiv; rw [ra]; rfl
  rw [e]
  exact rdiv_1 a b up w ha hb (by rw [ra', ra])
 | true =>
  cases rb : right b with
  | false =>
   have e : dDiv a b up = (0, 13) := by unfold dDiv; rw [ra, rb]; rfl
   rw [e]
   exact rdiv_2 a b up w ha hb (by rw [ra', ra]) (by rw [rb', rb])
  | true =>
   obtain ⟨ea, oa⟩ := enc_dec ha.lt ra
   obtain ⟨eb, ob⟩ := enc_dec hb.lt rb
   rw [ra] at ra'
   rw [rb] at rb'
   by_cases b0 : b = 0
   ·have e : dDiv a b up = (0, 11) := by unfold dDiv; rw [ra, rb, if_neg (by decide), if_pos b0]
    rw [e]
    exact rdiv_0 a b up w ha hb ra' rb' (by rw [feq_right hb rb]; exact decide_eq_true b0)
   ·have fb : feq b 0 = false := by rw [feq_right hb rb]; exact decide_eq_false b0
    by_cases a0 : a = 0
    ·have e : dDiv a b up = (0, 0) := by
      unfold dDiv divR
      rw [ra, rb, if_neg (by decide), if_neg b0, a0]
      have : dec 0 = 0 := by decide
      rw [this, V_zero, Int.zero_mul]
      split
      ·rw [show -(0 : Int) = 0 from rfl, fl_zero0, out_zero]
      ·rw [fl_zero0, out_zero]
     rw [e]
     exact rdiv_3 a b up w ha hb ra' rb' fb (by rw [feq_right ha ra]; exact decide_eq_true a0)
    ·have k := rdiv_mid up w oa ob (fun h => a0 (by rw [← ea, h]; rfl)) (fun h => b0 (by rw [← eb, h]; rfl))
     rw [ea, eb] at k; exact k
theorem rsub_any (a b : Nat) (up : Bool) (w : World) (ha : Dy.W a) (hb : Dy.W b) :
  Calls Tryz.prog 61 #[.float .f64 a, .float .f64 b, .bool up] w fun e w' => e = .returned (.tuple #[.float .f64 (dSub a b up).1, .int .i64 (dSub a b up).2]) ∧ Below w.heap.size w w' := by
 have rb' := rrT_right hb
 cases rb : right b with
 | false =>
  have e : dSub a b up = (0, 13) := by unfold dSub; rw [rb]; rfl
  rw [e]
  exact rsub_1 a b up w ha hb (by rw [rb', rb])
 | true =>
  rw [rb] at rb'
  have e : dSub a b up = dAdd a (minus b) up := by unfold dSub; rw [rb, if_pos rfl]
  have wn := neg_W hb
  have ep : plainT (Op.negFloat .f64 b) = minus b := by
   have h : feq (Op.negFloat .f64 b) 0 = decide (Op.negFloat .f64 b % 2 ^ 63 = 0) := feq_zero wn.lt
   unfold plainT
   rw [h, neg_bits hb]
   have r := rb
   unfold right at r; rw [decide_eq_true_eq] at r
   unfold Dy.W at hb
   unfold minus
   by_cases b0 : b = 0
   ·subst b0; decide
   ·rw [if_neg b0]
    by_cases h63 : b < 2 ^ 63
    ·rw [if_pos h63, if_pos h63, if_neg (by simp; omega)]; omega
    ·rw [if_neg h63, if_neg h63, if_neg (by simp; omega)]
  rw [e]
  exact rsub_0 a b up w ha hb rb' rfl (hneg hb) ep rfl (dAdd_W _ _ _)
theorem rsubT_ct : CtOk Tryz.prog 61 (ctO2 Dy.dSub) := ctO2_ok (en Tryz.func61 rfl (by decide)) Dy.dSub_W rsub_any
theorem rmulT_ct : CtOk Tryz.prog 135 (ctO2 Dy.dMul) := ctO2_ok (en Tryz.func135 rfl (by decide)) Dy.dMul_W rmul_any
theorem rdivT_ct : CtOk Tryz.prog 151 (ctO2 Dy.dDiv) := ctO2_ok (en Tryz.func151 rfl (by decide)) Dy.dDiv_W rdiv_any
theorem rsqrtT_ct : CtOk Tryz.prog 136 (ctO1 Dy.dSqrt) := ctO1_ok (en Tryz.func136 rfl (by decide)) (fun x up _ => Dy.dSqrt_W x up) rsqrt_any
def uA0 : List (Nat × Ct) := (61, ctO2 Dy.dSub) :: (135, ctO2 Dy.dMul) :: (151, ctO2 Dy.dDiv) :: (136, ctO1 Dy.dSqrt) :: tO0
theorem uA0_ok : AllOk Tryz.prog uA0 := ⟨rsubT_ct, rmulT_ct, rdivT_ct, rsqrtT_ct, tO0_ok⟩
end Go.Proofs.YtkhplflbcgjkcaaGreat
