/- Plain facts: a number as a fraction and a power of two; two roundings; x * y + z. -/
import Derived.Test.YtakdeeknfcifpaaTp
namespace Go.Dy
open Ieee
open Go.Proofs.Ytakdeeknfcifpaa (sideF sideF_up sideF_dn frT)
/-- The number next to the real quotient, by the sign of what one beside it lacks. -/
theorem quo_side {num z : Int} {den : Nat} (hd : 0 < den) {c d : Nat} {up : Bool} (hc : Cb c z) (a1 : fl num den false ≤ z) (a2 : z ≤ fl num den true) (h1 : ok z → fgt d 0 = decide (V z * den < num)) (h2 : ok z → flt d 0 = decide (num < V z * den)) : sideF c d up = out (fl num den up) up := by
  have hup : fl num den true ≤ fl num den false + 1 := fl_up_le hd
  cases up
  · refine sideF_dn hc a1 (by omega) (fun o => ?_)
    rw [h2 o]
    by_cases h : num < V z * den
    · rw [if_pos (decide_eq_true h)]
      have : ¬ z ≤ fl num den false := by rw [fl_down hd]; omega
      omega
    · rw [if_neg (by simpa using h)]
      have : z ≤ fl num den false := by rw [fl_down hd]; omega
      omega
  · refine sideF_up hc a2 (by omega) (fun o => ?_)
    rw [h1 o]
    by_cases h : V z * den < num
    · rw [if_pos (decide_eq_true h)]
      have : ¬ fl num den true ≤ z := by rw [fl_up hd]; omega
      omega
    · rw [if_neg (by simpa using h)]
      have : fl num den true ≤ z := by rw [fl_up hd]; omega
      omega
/-- A sign. -/
def sg (s : Bool) (n : Int) : Int := if s then -n else n
theorem between {s : Bool} {N den r : Nat} (hd : 0 < den) (hL : ∀ t, mag t * den ≤ N → t ≤ r) (hG : ∀ t, N ≤ mag t * den → r ≤ t) : fl (sg s N) den false ≤ sg s r ∧ sg s r ≤ fl (sg s N) den true := by
  have k1 : fl (N : Int) den false ≤ r := by
    rcases Int.lt_or_le (r : Int) (fl (N : Int) den false) with h | h
    · have h2 : (((r + 1 : Nat)) : Int) ≤ fl (N : Int) den false := by omega
      rw [fl_down hd, V_nat] at h2
      have h3 : mag (r + 1) * den ≤ N := by exact_mod_cast h2
      have := hL _ h3; omega
    · exact h
  have k2 : (r : Int) ≤ fl (N : Int) den true := by
    rcases Int.lt_or_le (fl (N : Int) den true) (r : Int) with h | h
    · have h2 : fl (N : Int) den true ≤ (r : Int) - 1 := by omega
      rw [fl_up hd] at h2
      by_cases r0 : r = 0
      · subst r0
        have h3 : V ((0 : Nat) - 1 : Int) ≤ -1 := by have := V_lt (show ((0 : Nat) - 1 : Int) < 0 by omega); rw [V_zero] at this; omega
        have h4 : V ((0 : Nat) - 1 : Int) * (den : Int) ≤ (-1) * den := Int.mul_le_mul_of_nonneg_right h3 (by omega)
        omega
      · have e : (r : Int) - 1 = ((r - 1 : Nat) : Int) := by omega
        rw [e, V_nat] at h2
        have h3 : N ≤ mag (r - 1) * den := by exact_mod_cast h2
        have := hG _ h3; omega
    · exact h
  cases s
  · exact ⟨k1, k2⟩
  · show fl (-(N : Int)) den false ≤ -(r : Int) ∧ -(r : Int) ≤ fl (-(N : Int)) den true
    rw [fl_neg, fl_neg]
    constructor
    · show -fl (N : Int) den true ≤ -(r : Int); omega
    · show -(r : Int) ≤ -fl (N : Int) den false; omega
/-- A magnitude on a grid is one. -/
theorem mag_of_fl {n : Nat} (h : Fl (n : Int)) : ∃ t, mag t = n := by
  obtain ⟨z, hz⟩ := h.rank
  have z0 : 0 ≤ z := V_nonneg.1 (by omega)
  refine ⟨z.toNat, ?_⟩
  have := V_toNat z0
  omega
theorem fl_mul2 {t j : Nat} : Fl ((mag t * 2 ^ j : Nat) : Int) := by
  obtain ⟨m, k, h1, h2⟩ := fl_mag t
  exact ⟨m, k + j, h1, by rw [Int.natCast_mul, Int.natCast_pow, h2, Int.pow_add, Int.mul_assoc]; rfl⟩
theorem nat_dvd_grid {n g : Nat} (h : Fl (n : Int)) (h2 : 2 ^ 53 * 2 ^ g ≤ n) : ∃ v, n = v * 2 ^ g ∧ Fl (v : Int) := by
  obtain ⟨m, k, h3, e⟩ := h
  have m0 : 0 ≤ m := by
    rcases Int.lt_or_le m 0 with h | h
    · have := Int.mul_neg_of_neg_of_pos h (pow_pos' k); omega
    · exact h
  obtain ⟨q, rfl⟩ := Int.eq_ofNat_of_zero_le m0
  have e' : n = q * 2 ^ k := by exact_mod_cast e
  have h4 : 2 ^ 53 * 2 ^ g ≤ 2 ^ 53 * 2 ^ k := by rw [e'] at h2; exact Nat.le_trans h2 (Nat.mul_le_mul_right _ (by omega))
  have h5 : g ≤ k := (Nat.pow_le_pow_iff_right (by omega)).1 (Nat.le_of_mul_le_mul_left h4 (by omega))
  refine ⟨q * 2 ^ (k - g), ?_, ⟨q, k - g, h3, by rw [Int.natCast_mul, Int.natCast_pow]; rfl⟩⟩
  rw [Nat.mul_assoc, ← Nat.pow_add, e']; congr 2; omega
/-- A nearest number, by a power of two, the nearest one again: no number lies between it and the real result. -/
theorem round_two {LeX GeX LeR GeR : Nat → Prop} {e : Int} {P : Nat}
    (C : ∀ u v : Nat, u * 2 ^ (-e).toNat = v * 2 ^ e.toNat → (LeR u → LeX v) ∧ (GeR u → GeX v))
    (hL : ∀ t, LeX (mag t) → t ≤ P) (hG : ∀ t, GeX (mag t) → P ≤ t) (big : 2 ^ 53 ≤ mag P)
    (bigR : ∀ u, GeR u → 2 ^ 53 * 2 ^ e.toNat ≤ u * 2 ^ (-e).toNat) :
    (∀ t, LeR (mag t) → t ≤ nr (mag P * 2 ^ e.toNat) (-e).toNat) ∧ (∀ t, GeR (mag t) → nr (mag P * 2 ^ e.toNat) (-e).toNat ≤ t) := by
  by_cases he : e < 0
  · have e0 : e.toNat = 0 := by omega
    obtain ⟨j, hj⟩ : ∃ j, (-e).toNat = j := ⟨_, rfl⟩
    rw [e0, hj] at C bigR ⊢
    have key : ∀ t, ∃ s, mag s = mag t * 2 ^ j := fun t => mag_of_fl fl_mul2
    constructor
    · intro t h
      obtain ⟨s, hs⟩ := key t
      have := hL s ((C (mag t) (mag s) (by rw [hs, Nat.pow_zero, Nat.mul_one])).1 h)
      refine le_nr ?_
      rw [← hs, Nat.pow_zero, Nat.mul_one]; exact mag_le_iff.2 this
    · intro t h
      obtain ⟨s, hs⟩ := key t
      have := hG s ((C (mag t) (mag s) (by rw [hs, Nat.pow_zero, Nat.mul_one])).2 h)
      refine nr_le ?_
      rw [← hs, Nat.pow_zero, Nat.mul_one]; exact mag_le_iff.2 this
  · have e0 : (-e).toNat = 0 := by omega
    obtain ⟨j, hj⟩ : ∃ j, e.toNat = j := ⟨_, rfl⟩
    rw [e0, hj] at C bigR ⊢
    constructor
    · intro t h
      refine le_nr ?_
      rw [Nat.pow_zero, Nat.mul_one]
      rcases Nat.lt_or_ge (mag t) (2 ^ 53 * 2 ^ j) with h1 | h1
      · exact Nat.le_trans (Nat.le_of_lt h1) (Nat.mul_le_mul_right _ big)
      · obtain ⟨v, hv, fv⟩ := nat_dvd_grid (fl_mag t) h1
        obtain ⟨s, hs⟩ := mag_of_fl fv
        have := hL s ((C (mag t) (mag s) (by rw [hs, Nat.pow_zero, Nat.mul_one]; exact hv)).1 h)
        rw [hv, ← hs]; exact Nat.mul_le_mul_right _ (mag_le_iff.2 this)
    · intro t h
      refine nr_le ?_
      rw [Nat.pow_zero, Nat.mul_one]
      have h1 := bigR _ h
      rw [Nat.pow_zero, Nat.mul_one] at h1
      obtain ⟨v, hv, fv⟩ := nat_dvd_grid (fl_mag t) h1
      obtain ⟨s, hs⟩ := mag_of_fl fv
      have := hG s ((C (mag t) (mag s) (by rw [hs, Nat.pow_zero, Nat.mul_one]; exact hv)).2 h)
      rw [hv, ← hs]; exact Nat.mul_le_mul_right _ (mag_le_iff.2 this)
theorem nr_twice (n j : Nat) : mag (nr n j) * 2 ^ j ≤ 2 * n := by
  have h1 := rdn_le (n / 2 ^ j)
  have h2 : mag (rdn (n / 2 ^ j)) * 2 ^ j ≤ n := Nat.le_trans (Nat.mul_le_mul_right _ h1) (Nat.div_mul_le_self _ _)
  unfold nr
  dsimp only
  rw [Nat.add_mul]
  split
  · omega
  · split
    · omega
    · omega
/-- A number that came of two roundings, back again. -/
theorem back_of {e : Int} {P : Nat} : ∃ s : Nat, mag s * 2 ^ e.toNat = mag (nr (mag P * 2 ^ e.toNat) (-e).toNat) * 2 ^ (-e).toNat ∧ mag s ≤ 2 * mag P ∧ nr (mag (nr (mag P * 2 ^ e.toNat) (-e).toNat) * 2 ^ (-e).toNat) e.toNat = s ∧ (0 ≤ e → s = P) := by
  by_cases he : e < 0
  · have e0 : e.toNat = 0 := by omega
    obtain ⟨j, hj⟩ : ∃ j, (-e).toNat = j := ⟨_, rfl⟩
    rw [e0, hj, Nat.pow_zero, Nat.mul_one]
    obtain ⟨s, hs⟩ := mag_of_fl (fl_mul2 (t := nr (mag P) j) (j := j))
    refine ⟨s, by rw [Nat.mul_one]; exact hs, ?_, ?_, fun h => by omega⟩
    · rw [hs]; exact nr_twice (mag P) j
    · exact nr_exact (by rw [hs, Nat.pow_zero, Nat.mul_one])
  · have e0 : (-e).toNat = 0 := by omega
    obtain ⟨j, hj⟩ : ∃ j, e.toNat = j := ⟨_, rfl⟩
    rw [e0, hj]
    obtain ⟨t, ht⟩ := mag_of_fl (fl_mul2 (t := P) (j := j))
    have h1 : nr (mag P * 2 ^ j) 0 = t := nr_exact (by rw [ht, Nat.pow_zero, Nat.mul_one])
    rw [h1, ht, Nat.pow_zero, Nat.mul_one]
    exact ⟨P, rfl, by rw [Nat.two_mul]; exact Nat.le_add_right _ _, nr_exact rfl, fun _ => rfl⟩
/-- x * y + z, rounded once. -/
theorem fma_near {x y z : Nat} (hx : W x) (hy : W y) (hz : W z) (fx : fin x) (fy : fin y) (fz : fin z) {S : Int}
    (hS : sg (sgn x ^^ sgn y) ((mag (x % 2 ^ 63) * mag (y % 2 ^ 63) : Nat) : Int) + sg (sgn z) (mag (z % 2 ^ 63) : Int) * one = S * one)
    (h0 : S = 0 → ((sgn x ^^ sgn y) && sgn z) = false) : double.fma x y z = some (nrst (nz S)) := by
  obtain ⟨m, e, r1, m1⟩ := read_num hx.lt fx
  obtain ⟨n, f, r2, m2⟩ := read_num hy.lt fy
  obtain ⟨k, g, r3, m3⟩ := read_num hz.lt fz
  unfold Format.fma
  rw [r1, r2, r3]
  simp only [Datum.product, Option.bind]
  unfold Datum.sum
  dsimp only
  obtain ⟨B, hB⟩ : ∃ B : Nat, (B : Int) = min (-1074 + (e : Int) + (-1074 + (f : Int))) (-1074 + (g : Int)) + 2148 := ⟨(min (-1074 + (e : Int) + (-1074 + (f : Int))) (-1074 + (g : Int)) + 2148).toNat, by omega⟩
  have k1 : (-1074 + (e : Int) + (-1074 + (f : Int)) - min (-1074 + (e : Int) + (-1074 + (f : Int))) (-1074 + (g : Int))).toNat = e + f - B := by omega
  have k2 : (-1074 + (g : Int) - min (-1074 + (e : Int) + (-1074 + (f : Int))) (-1074 + (g : Int))).toNat = g + 1074 - B := by omega
  rw [k1, k2]
  have b1 : B ≤ e + f := by omega
  have b2 : B ≤ g + 1074 := by omega
  have o1 : (one : Int) = ((2 ^ 1074 : Nat) : Int) := by
    obtain ⟨E0, hE, eE⟩ := one_pow
    rw [eE, hE]
  have hT : (signed (sgn x ^^ sgn y) (m * n) (e + f - B) + signed (sgn z) k (g + 1074 - B)) * ((2 ^ B : Nat) : Int) = S * one := by
    rw [← hS, m1, m2, m3, signed_eq, signed_eq, Int.add_mul]
    have p1 : m * n * 2 ^ (e + f - B) * 2 ^ B = m * 2 ^ e * (n * 2 ^ f) := by
      rw [Nat.mul_assoc, ← Nat.pow_add, show e + f - B + B = e + f by omega, Nat.pow_add]; grind
    have p2 : k * 2 ^ (g + 1074 - B) * 2 ^ B = k * 2 ^ g * 2 ^ 1074 := by
      rw [Nat.mul_assoc, ← Nat.pow_add, show g + 1074 - B + B = g + 1074 by omega, Nat.pow_add, ← Nat.mul_assoc]
    have q1 : ((m * n * 2 ^ (e + f - B) : Nat) : Int) * ((2 ^ B : Nat) : Int) = ((m * 2 ^ e * (n * 2 ^ f) : Nat) : Int) := by rw [← Int.natCast_mul, p1]
    have q2 : ((k * 2 ^ (g + 1074 - B) : Nat) : Int) * ((2 ^ B : Nat) : Int) = ((k * 2 ^ g : Nat) : Int) * one := by rw [o1, ← Int.natCast_mul, ← Int.natCast_mul, p2]
    unfold sg
    congr 1
    · split
      · rw [Int.neg_one_mul, Int.neg_mul, q1]
      · rw [Int.one_mul]; exact q1
    · split
      · rw [Int.neg_one_mul, Int.neg_mul, q2, Int.neg_mul]
      · rw [Int.one_mul]; exact q2
  generalize signed (sgn x ^^ sgn y) (m * n) (e + f - B) + signed (sgn z) k (g + 1074 - B) = T at *
  have pB : (0 : Int) < ((2 ^ B : Nat) : Int) := by have := Nat.two_pow_pos B; omega
  have po : (0 : Int) < one := by have := one_big; have := big_pos; omega
  have hTS : T = 0 ↔ S = 0 := by
    constructor
    · intro h; rw [h, Int.zero_mul] at hT
      rcases Int.mul_eq_zero.1 hT.symm with h | h <;> omega
    · intro h; rw [h, Int.zero_mul] at hT
      rcases Int.mul_eq_zero.1 hT with h | h <;> omega
  have hneg : T < 0 ↔ S < 0 := by
    constructor
    · intro h
      have h1 := Int.mul_neg_of_neg_of_pos h pB
      rcases Int.lt_or_le S 0 with h2 | h2
      · exact h2
      · have := Int.mul_nonneg h2 (Int.le_of_lt po); omega
    · intro h
      have h1 := Int.mul_neg_of_neg_of_pos h po
      rcases Int.lt_or_le T 0 with h2 | h2
      · exact h2
      · have := Int.mul_nonneg h2 (Int.le_of_lt pB); omega
  have hsg : (if T = 0 then ((sgn x ^^ sgn y) && sgn z) else decide (T < 0)) = decide (S < 0) := by
    by_cases h : T = 0
    · rw [if_pos h, h0 (hTS.1 h)]; exact (decide_eq_false (by have := hTS.1 h; omega)).symm
    · rw [if_neg h, Bool.eq_iff_iff]; simp only [decide_eq_true_eq]; exact hneg
  simp only [Option.map, Format.write, hsg]
  have hab : T.natAbs * 2 ^ B = S.natAbs * 2 ^ 1074 := by
    have := congrArg Int.natAbs hT
    rw [Int.natAbs_mul, Int.natAbs_mul, o1, Int.natAbs_natCast, Int.natAbs_natCast] at this
    exact this
  rw [nearest_units (e := B) (j := 1074) (n := S.natAbs * 2 ^ 1074) _ (by omega) hab.symm]
  have h5 : nr (S.natAbs * 2 ^ 1074) 1074 = nr S.natAbs 0 := by
    have := nr_scale S.natAbs 0 1074
    rw [Nat.zero_add] at this; exact this
  rw [h5, word_nrst]
end Go.Dy
