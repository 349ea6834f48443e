/- Plain facts: twice a number, quotients to the nearest number, the end of the rings. -/
import Derived.Test.YtikiegcncliocaaSr
import Derived.Test.YtikiegcncliocaaDb
import Derived.Test.YtikiegcncliocaaCd
namespace Go.Dy
open Ieee
theorem mag_dbl {r : Nat} (h : 2 ^ 52 ≤ r) : mag (r + 2 ^ 52) = 2 * mag r := by
  unfold mag
  rw [if_neg (by omega), if_neg (by omega), show (r + 2 ^ 52) % 2 ^ 52 = r % 2 ^ 52 by omega, show (r + 2 ^ 52) / 2 ^ 52 - 1 = (r / 2 ^ 52 - 1) + 1 by omega]
  generalize 2 ^ 52 + r % 2 ^ 52 = g
  generalize r / 2 ^ 52 - 1 = k
  have e : 2 ^ (k + 1) = 2 * 2 ^ k := by rw [Nat.pow_succ, Nat.mul_comm]
  rw [e, Nat.mul_left_comm]
def D52 : Int := 4503599627370496
theorem V_dbl {z : Int} (h : D52 ≤ z) : V (z + D52) = 2 * V z := by
  have hd : D52 = 4503599627370496 := rfl
  rw [V_toNat (by omega), V_toNat (by omega)]
  have e : (z + D52).toNat = z.toNat + 2 ^ 52 := by omega
  rw [e, mag_dbl (by omega)]
  omega
def two : Nat := 4611686018427387904
theorem mag_two : mag two = 2 * one := by decide +kernel
theorem twice_enc {A : Int} (h : D52 ≤ A) (hA : A + D52 < (top : Int)) : double.mul (enc A) two = some (enc (A + D52)) := by
  have hd : D52 = 4503599627370496 := rfl
  have tp := top_eq
  have e1 : enc A = A.toNat := enc_nonneg (by omega)
  have e2 : enc (A + D52) = A.toNat + 2 ^ 52 := by rw [enc_nonneg (by omega)]; omega
  have m1 : A.toNat % 2 ^ 63 = A.toNat := Nat.mod_eq_of_lt (by omega)
  have m2 : two % 2 ^ 63 = two := by decide
  obtain ⟨S, hS, eS⟩ : ∃ S, S = 1074 ∧ one = 2 ^ S := ⟨1074, rfl, one_eq⟩
  have k : mag (A.toNat + 2 ^ 52) * 2 ^ S = mag A.toNat * mag two := by
    rw [mag_dbl (by omega), mag_two, ← eS, Nat.mul_comm 2 (mag _), Nat.mul_assoc]
  have g1 : A.toNat + 2 ^ 52 ≤ nr (mag A.toNat * mag two) S := le_nr (by rw [k]; exact Nat.le_refl _)
  have g2 : nr (mag A.toNat * mag two) S ≤ A.toNat + 2 ^ 52 := nr_le (by rw [k]; exact Nat.le_refl _)
  rw [mul_eq (by rw [e1]; omega) (by unfold two; omega) (by rw [e1, m1]; omega) (by rw [m2]; unfold two; omega)]
  have s1 : sgn (enc A) = false := by unfold sgn; rw [decide_eq_false]; rw [e1]; omega
  have s2 : sgn two = false := by decide +kernel
  unfold fmul
  rw [← hS, s1, s2, e1, m1, m2, e2]
  generalize nr (mag A.toNat * mag two) S = q at *
  rw [show q = A.toNat + 2 ^ 52 by omega, Nat.min_eq_left (by omega)]
  rfl
theorem twice_zero : double.mul (enc 0) two = some (enc 0) := by decide +kernel
/-- 2^-32, as a rank. -/
def L32 : Nat := 4463067230724161536
theorem mag_L32 : mag L32 * 4294967296 = one := by decide +kernel
theorem frq_low {u : Nat} (hu : u ≤ 4294967295) : ∃ r : Nat, double.div (fi u) 4751297606873776128 = some r ∧ r ≤ 4607182418800017408 ∧ (r = 0 ∨ L32 ≤ r) := by
  obtain ⟨r, e, h1⟩ := frq_of hu
  refine ⟨r, e, h1, ?_⟩
  obtain ⟨f1, f2, f3, f4⟩ := fi_spec (m := u) (by omega)
  have g1 : fin 4751297606873776128 := by unfold fin; decide +kernel
  have g2 : mag (4751297606873776128 % 2 ^ 63) = 4294967295 * one := by decide +kernel
  have g3 : sgn 4751297606873776128 = false := by decide +kernel
  obtain ⟨q, e', hlo, hhi⟩ := div_near (x := fi u) (y := 4751297606873776128) f2 (by unfold W; omega) f1 g1 (by decide)
  have tp := top_eq
  rw [e', f3, g3] at e
  have hq : min q top = r := by simpa [word] using e
  rw [f4, g2] at hlo hhi
  rcases Nat.eq_zero_or_pos u with h0 | h0
  · left
    have := hhi 0 (by rw [h0]; simp)
    omega
  · right
    have := hlo L32 (by
      obtain ⟨o, ho⟩ : ∃ o, o = one := ⟨_, rfl⟩
      have m := mag_L32
      rw [← ho] at m ⊢
      have s1 : mag L32 * 4294967295 ≤ o := by omega
      have s2 : o ≤ u * o := Nat.le_mul_of_pos_left _ h0
      rw [← Nat.mul_assoc]
      exact Nat.mul_le_mul_right _ (Nat.le_trans s1 s2))
    have hl : L32 < top := by rw [tp]; decide
    omega
/-- The nearest number to a quotient: no less than what is not above it. -/
theorem div_ge {R N : Int} (hR : ok R) (hN : ok N) (R0 : 0 ≤ R) (N0 : 0 < N) {z u : Int} (z0 : 0 ≤ z) (u0 : 0 ≤ u) (ou : ok u) (h : V z * V N ≤ V R * one) (k : V R * one ≤ V u * V N) : ∃ r : Int, ok r ∧ 0 ≤ r ∧ z ≤ r ∧ r ≤ u ∧ double.div (enc R) (enc N) = some (enc r) := by
  have t := top_eq
  obtain ⟨a, rfl⟩ : ∃ a : Nat, R = (a : Int) := ⟨R.toNat, by omega⟩
  obtain ⟨b, rfl⟩ : ∃ b : Nat, N = (b : Int) := ⟨N.toNat, by omega⟩
  obtain ⟨c, rfl⟩ : ∃ c : Nat, z = (c : Int) := ⟨z.toNat, by omega⟩
  obtain ⟨d, rfl⟩ : ∃ d : Nat, u = (d : Int) := ⟨u.toNat, by omega⟩
  have ha := hR.2; have hb := hN.2; have hd := ou.2
  rw [enc_nat, enc_nat]
  have a63 : a % 2 ^ 63 = a := Nat.mod_eq_of_lt (by omega)
  have b63 : b % 2 ^ 63 = b := Nat.mod_eq_of_lt (by omega)
  obtain ⟨r, e, m1, m2⟩ := div_near (x := a) (y := b) (by unfold W; omega) (by unfold W; omega) (by unfold fin; rw [a63]; omega) (by unfold fin; rw [b63]; omega) (by rw [b63]; omega)
  rw [a63, b63] at m1 m2
  have Vn : ∀ n : Nat, V (n : Int) = (mag n : Int) := fun n => by unfold V; rw [if_pos (by omega)]; congr 2
  rw [Vn, Vn, Vn] at h
  rw [Vn, Vn, Vn] at k
  have h' : mag c * mag b ≤ mag a * one := by exact_mod_cast h
  have k' : mag a * one ≤ mag d * mag b := by exact_mod_cast k
  have x1 := m1 c h'; have x2 := m2 d k'
  have sg : ∀ n : Nat, (n : Int) < (top : Int) → sgn n = false := fun n hn => by unfold sgn; exact decide_eq_false (by omega)
  refine ⟨(r : Int), ⟨by omega, by omega⟩, by omega, by omega, by omega, ?_⟩
  rw [e, sg a ha, sg b hb, enc_nat, Nat.min_eq_left (by omega)]
  rfl
theorem V_val {x y : Int} (h : val x ≤ val y) : V x ≤ V y := V_le_iff.2 (val_le.1 h)
theorem V_mulval {z N R : Int} (h : val z * val N ≤ val R) : V z * V N ≤ V R * one := by
  have s := S1_pos
  have e : (val z * val N) * (S1 * S1) = (V z : Rat) * (V N : Rat) := by rw [← val_mul z, ← val_mul N]; grind
  have e2 : val R * (S1 * S1) = (V R : Rat) * S1 := by rw [← val_mul R]; grind
  have p := Rat.mul_le_mul_of_nonneg_right h (show 0 ≤ S1 * S1 from Rat.mul_nonneg (by grind) (by grind))
  rw [e, e2] at p
  have q : ((V z * V N : Int) : Rat) ≤ ((V R * (one : Int) : Int) : Rat) := by rw [Rat.intCast_mul, Rat.intCast_mul]; exact p
  exact Rat.intCast_le_intCast.1 q
theorem V_mulval' {z N R : Int} (h : val R ≤ val z * val N) : V R * one ≤ V z * V N := by
  have s := S1_pos
  have e : (val z * val N) * (S1 * S1) = (V z : Rat) * (V N : Rat) := by rw [← val_mul z, ← val_mul N]; grind
  have e2 : val R * (S1 * S1) = (V R : Rat) * S1 := by rw [← val_mul R]; grind
  have p := Rat.mul_le_mul_of_nonneg_right h (show 0 ≤ S1 * S1 from Rat.mul_nonneg (by grind) (by grind))
  rw [e, e2] at p
  have q : ((V R * (one : Int) : Int) : Rat) ≤ ((V z * V N : Int) : Rat) := by rw [Rat.intCast_mul, Rat.intCast_mul]; exact p
  exact Rat.intCast_le_intCast.1 q

theorem V_addval {s q c : Int} (h : val s ≤ val q + val c) : V s ≤ V q + V c := by
  have s1 := S1_pos
  have p := Rat.mul_le_mul_of_nonneg_right h (show 0 ≤ S1 by grind)
  have e : (val q + val c) * S1 = ((V q : Int) : Rat) + ((V c : Int) : Rat) := by rw [← val_mul q, ← val_mul c]; grind
  rw [val_mul, e, ← Rat.intCast_add] at p
  exact Rat.intCast_le_intCast.1 p
theorem V_addval' {s q c : Int} (h : val q + val c ≤ val s) : V q + V c ≤ V s := by
  have s1 := S1_pos
  have p := Rat.mul_le_mul_of_nonneg_right h (show 0 ≤ S1 by grind)
  have e : (val q + val c) * S1 = ((V q : Int) : Rat) + ((V c : Int) : Rat) := by rw [← val_mul q, ← val_mul c]; grind
  rw [val_mul, e, ← Rat.intCast_add] at p
  exact Rat.intCast_le_intCast.1 p
theorem V_subval {x y s : Int} (h : val x - val y ≤ val s) : V x - V y ≤ V s := by
  have := V_addval' (s := s) (q := x) (c := -y) (by rw [val_neg]; grind)
  rw [V_neg] at this; omega
theorem V_subval' {x y s : Int} (h : val s ≤ val x - val y) : V s ≤ V x - V y := by
  have := V_addval (s := s) (q := x) (c := -y) (by rw [val_neg]; grind)
  rw [V_neg] at this; omega
end Go.Dy
namespace Go.Proofs.Ytikiegcncliocaa
open Go Go.RowKit

theorem vq {z : Int} {n d : Nat} {x : Rat} (h : 0 < d) (e : Dy.V z * (d : Int) = (n : Int) * (Dy.one : Int)) (k : ((n : Nat) : Rat) / ((d : Nat) : Rat) = x) : Dy.val z = x := by
  have s := Dy.S1_pos
  have dr : (0 : Rat) < ((d : Nat) : Rat) := by exact_mod_cast h
  have c : ((Dy.V z : Int) : Rat) * ((d : Nat) : Rat) = ((n : Nat) : Rat) * Dy.S1 := by
    have := congrArg (fun i : Int => (i : Rat)) e
    simp only [Rat.intCast_mul] at this
    exact this
  rw [← Dy.val_mul z] at c
  rw [← k]
  have f : Dy.val z * ((d : Nat) : Rat) = ((n : Nat) : Rat) := by grind
  grind
/-- The end: how far the sums are apart, as the law asks it. -/
theorem rings_end {R N H2 L1 : Int} (oR : Dy.ok R) (oN : Dy.ok N) (oH : Dy.ok H2) (oL : Dy.ok L1) (R0 : 0 ≤ R) (v0 : 0 ≤ Dy.val R) (v2 : Dy.val R ≤ 2) (n1 : 1 ≤ Dy.val N) (n2 : Dy.val N ≤ 64) (hd : Dy.val H2 - Dy.val L1 ≤ Dy.val R / Dy.val N + 1 / 8589934592) (hl : -1024 ≤ Dy.val H2 - Dy.val L1) :
    ∃ q s d : Int, Dy.ok q ∧ Dy.ok s ∧ Dy.ok d ∧ Ieee.double.div (Dy.enc R) (Dy.enc N) = some (Dy.enc q) ∧ Ieee.double.add (Dy.enc q) (Dy.enc 4472074429978902528) = some (Dy.enc s) ∧ Ieee.double.sub (Dy.enc H2) (Dy.enc L1) = some (Dy.enc d) ∧ d ≤ s := by
  have v30 : Dy.val 4472074429978902528 = 1 / 1073741824 := (Dy.val_q (z := 4472074429978902528) (num := 1) (den := 1073741824) (by decide) (by decide +kernel)).trans (by decide +kernel)
  have vtwo : Dy.val 4611686018427387904 = 2 := (Dy.val_q (z := 4611686018427387904) (num := 2) (den := 1) (by decide) (by decide +kernel)).trans (by decide +kernel)
  have vfour : Dy.val 4616189618054758400 = 4 := (Dy.val_q (z := 4616189618054758400) (num := 4) (den := 1) (by decide) (by decide +kernel)).trans (by decide +kernel)
  have vk : Dy.val (-4652218415073722368) = -1024 := by
    have := (Dy.val_q (z := 4652218415073722368) (num := 1024) (den := 1) (by decide) (by decide +kernel)).trans (show _ = (1024 : Rat) by decide +kernel)
    rw [Dy.val_neg, this]
  have bR : Dy.Bd (R, R) 0 2 0 := ⟨Dy.rk_pt oR, v0, v2, by show Dy.val R - Dy.val R ≤ 0; grind⟩
  have bN : Dy.Bd (N, N) 1 64 0 := ⟨Dy.rk_pt oN, n1, n2, by show Dy.val N - Dy.val N ≤ 0; grind⟩
  have hR := Dy.has_pt R; have hN := Dy.has_pt N
  have N0 : 0 < N := Dy.val_lt.1 (by rw [Dy.val_zero]; grind)
  obtain ⟨s1, g1, b1⟩ := Dy.bd_div 2 0 (75557863725914340196353 / 37778931862957161709568) (38685626227668133590597633 / 43556142965880123323311949751266331066368) 0 2 0 bR bN (by decide +kernel)
  have h1 : Dy.Has s1 ((Dy.val R) / (Dy.val N)) := Dy.has_div bR.rk bN.rk g1 hR hN
  have z0 : 0 ≤ s1.1 := Dy.val_le.1 (by rw [Dy.val_zero]; exact b1.lo)
  have qe : Dy.val R / Dy.val N * Dy.val N = Dy.val R := Rat.div_mul_cancel (by grind)
  have zl : Dy.val s1.1 * Dy.val N ≤ Dy.val R := by
    have := Rat.mul_le_mul_of_nonneg_right h1.lo (show 0 ≤ Dy.val N by grind)
    rw [qe] at this; exact this
  obtain ⟨q, oq, q0, zq, qu, eq⟩ := Dy.div_ge oR oN R0 N0 z0 (u := 4611686018427387904) (by decide) ⟨by decide, by decide⟩ (Dy.V_mulval zl) (Dy.V_mulval' (by rw [vtwo]; grind))
  have vz := Dy.val_le.2 zq
  have vq0 := Dy.val_le.2 q0; have vqu := Dy.val_le.2 qu
  rw [Dy.val_zero] at vq0; rw [vtwo] at vqu
  have bq : Dy.Bd (q, q) 0 2 0 := ⟨Dy.rk_pt oq, vq0, vqu, by show Dy.val q - Dy.val q ≤ 0; grind⟩
  have oc : Dy.ok 4472074429978902528 := ⟨by decide, by decide⟩
  have bc : Dy.Bd (4472074429978902528, 4472074429978902528) (1 / 1073741824) (1 / 1073741824) 0 := ⟨Dy.rk_pt oc, by show _ ≤ Dy.val 4472074429978902528; rw [v30]; exact Rat.le_refl, by show Dy.val 4472074429978902528 ≤ _; rw [v30]; exact Rat.le_refl, by show Dy.val 4472074429978902528 - Dy.val 4472074429978902528 ≤ 0; grind⟩
  have hq := Dy.has_pt q; have hc := Dy.has_pt 4472074429978902528
  obtain ⟨sk1, gk1, bk1⟩ := Dy.bd_add (2147483649 / 1073741824) (40564799864490218006628452532223 / 43556142965880123323311949751266331066368) (75557863761098712285185 / 37778931862957161709568) (38685626245682532100079617 / 43556142965880123323311949751266331066368) bq bc (by decide +kernel)
  have hk1 : Dy.Has sk1 ((Dy.val q) + (Dy.val 4472074429978902528)) := Dy.has_add bq.rk bc.rk gk1 hq hc
  have w1 := b1.wd; have w2 := bk1.wd; have h1 := h1.hi; have h2 := hk1.hi; have h3 := hk1.lo
  rw [v30] at h2 h3
  have d1 : Dy.V H2 - Dy.V L1 ≤ Dy.V sk1.1 := Dy.V_subval (by grind)
  have d2 : Dy.V sk1.1 ≤ Dy.V q + Dy.V 4472074429978902528 := Dy.V_addval (by rw [v30]; exact h3)
  have nd := Dy.nz_le d1
  have ns := Dy.le_nz d2
  have ld := Dy.le_nz (Dy.V_subval' (x := H2) (y := L1) (s := -4652218415073722368) (by rw [vk]; exact hl))
  have us := Dy.nz_le (Dy.V_addval' (s := 4616189618054758400) (q := q) (c := 4472074429978902528) (by rw [v30, vfour]; grind))
  have os := bk1.rk.lo
  have od : Dy.ok (Dy.nz (Dy.V H2 - Dy.V L1)) := by have t := Dy.top_eq; unfold Dy.ok at *; omega
  have os' : Dy.ok (Dy.nz (Dy.V q + Dy.V 4472074429978902528)) := by have t := Dy.top_eq; unfold Dy.ok at *; omega
  exact ⟨q, _, _, oq, os', od, eq, Dy.add_enc oq oc os', Dy.sub_enc oH oL od, Int.le_trans nd ns⟩
end Go.Proofs.Ytikiegcncliocaa
