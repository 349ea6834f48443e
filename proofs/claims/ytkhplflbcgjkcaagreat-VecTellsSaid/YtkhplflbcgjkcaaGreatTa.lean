/- Plain facts: a sum, and what it lacks, without an error. -/
import Derived.Test.YtkhplflbcgjkcaaGreatKb
namespace Go.Dy
open Ieee
def Fl (n : Int) : Prop := ∃ (m : Int) (k : Nat), m.natAbs ≤ 2 ^ 53 ∧ n = m * 2 ^ k
def rn (n : Int) : Int := V (nz n)
theorem fl_mag (r : Nat) : Fl (mag r : Int) := by
 unfold mag
 split
 ·exact ⟨r, 0, by omega, by simp⟩
 ·refine ⟨((2 ^ 52 + r % 2 ^ 52 : Nat) : Int), r / 2 ^ 52 - 1, by omega, ?_⟩
  rw [Int.natCast_mul, Int.natCast_pow]; rfl
theorem Fl.neg {n : Int} (h : Fl n) : Fl (-n) := by
 obtain ⟨m, k, h1, rfl⟩ := h
 exact ⟨-m, k, by omega, by rw [Int.neg_mul]⟩
theorem Fl.ofV (z : Int) : Fl (V z) := by
 rcases V_cases z with ⟨r, rfl, e⟩ | ⟨r, h0, rfl, e, hm⟩
 ·rw [e]; exact fl_mag r
 ·rw [e]; exact (fl_mag r).neg
theorem mag_rdn_fl {m k : Nat} (h : m ≤ 2 ^ 53) : mag (rdn (m * 2 ^ k)) = m * 2 ^ k := by
 rcases form_of (m * 2 ^ k) with h1 | ⟨k', m', x, h2, h3, h4, e⟩
 ·rw [rdn_low h1, mag_low h1]
 ·have x0 : x = 0 := by
   by_cases hk : k' ≤ k
   ·have e1 : m * 2 ^ k = m * 2 ^ (k - k') * 2 ^ k' := by rw [Nat.mul_assoc, ← Nat.pow_add]; congr 2; omega
    have e2 : (m * 2 ^ k) % 2 ^ k' = 0 := by rw [e1]; exact Nat.mul_mod_left _ _
    rw [e, Nat.mul_comm, Nat.mul_add_mod, Nat.mod_eq_of_lt h4] at e2
    exact e2
   ·have e1 : m * 2 ^ k ≤ 2 ^ 53 * 2 ^ k := Nat.mul_le_mul_right _ h
    have e2 : 2 ^ 53 * 2 ^ k ≤ 2 ^ 52 * 2 ^ k' := by
     rw [← Nat.pow_add, ← Nat.pow_add]; exact Nat.pow_le_pow_right (by omega) (by omega)
    have e3 : 2 ^ 52 * 2 ^ k' ≤ m' * 2 ^ k' := Nat.mul_le_mul_right _ h2
    omega
  subst x0
  rw [e, rdn_form h2 h3 (Nat.two_pow_pos _)]
  have e4 : k' * 2 ^ 52 + m' = k' * 2 ^ 52 + (2 ^ 52 + (m' - 2 ^ 52)) := by omega
  rw [e4, mag_form k' (m' - 2 ^ 52) (by omega)]
  have e5 : 2 ^ 52 + (m' - 2 ^ 52) = m' := by omega
  rw [e5]; rfl
theorem Fl.rank {n : Int} (h : Fl n) : ∃ z, V z = n := by
 obtain ⟨m, k, h1, rfl⟩ := h
 have h2 := mag_rdn_fl (m := m.natAbs) (k := k) h1
 rcases Int.lt_or_le m 0 with hm | hm
 ·refine ⟨-((rdn (m.natAbs * 2 ^ k) : Nat) : Int), ?_⟩
  rw [V_ofNat_neg, h2, Int.natCast_mul, Int.natCast_pow]
  have : (m.natAbs : Int) = -m := by omega
  rw [this, Int.neg_mul, Int.neg_neg]; rfl
 ·refine ⟨((rdn (m.natAbs * 2 ^ k) : Nat) : Int), ?_⟩
  rw [V_nat, h2, Int.natCast_mul, Int.natCast_pow]
  have : (m.natAbs : Int) = m := by omega
  rw [this]; rfl
theorem nz_V (z : Int) : nz (V z) = z := by
 have h1 := @le_nz z (V z) (Int.le_refl _)
 have h2 := @nz_le z (V z) (Int.le_refl _)
 omega
theorem Fl.rn {n : Int} (h : Fl n) : rn n = n := by
 obtain ⟨z, rfl⟩ := h.rank
 unfold Dy.rn; rw [nz_V]
theorem fl_rn (n : Int) : Fl (rn n) := Fl.ofV _
theorem le_rn {f n : Int} (hf : Fl f) (h : f ≤ n) : f ≤ rn n := by
 obtain ⟨z, rfl⟩ := hf.rank
 exact V_le_iff.2 (le_nz h)
theorem rn_le {f n : Int} (hf : Fl f) (h : n ≤ f) : rn n ≤ f := by
 obtain ⟨z, rfl⟩ := hf.rank
 exact V_le_iff.2 (nz_le h)
theorem nz_neg (n : Int) : nz (-n) = -nz n := by
 unfold nz
 rw [Int.natAbs_neg]
 have h0 : nr 0 0 = 0 := by decide
 by_cases h : n = 0
 ·subst h; simp [h0]
 ·by_cases h1 : n < 0
  ·rw [if_neg (by omega), if_pos h1, Int.neg_neg]
  ·rw [if_pos (by omega), if_neg h1]
theorem rn_neg (n : Int) : rn (-n) = -rn n := by unfold rn; rw [nz_neg, V_neg]
theorem rn_near_pos {n f : Int} (h0 : 0 ≤ n) (hf : Fl f) : (n - rn n).natAbs ≤ (n - f).natAbs := by
 obtain ⟨q, rfl⟩ := Int.eq_ofNat_of_zero_le h0
 have e1 : rn (q : Int) = mag (nr q 0) := by
  unfold rn nz; rw [if_neg (by omega), Int.natAbs_natCast, V_nat]
 have h1 := rdn_le q
 have h2 : q < mag (rdn q + 1) := by
  rcases Nat.lt_or_ge q (mag (rdn q + 1)) with h | h
  ·exact h
  ·have := le_rdn.2 h; omega
 have e : q / 2 ^ 0 = q := by rw [Nat.pow_zero, Nat.div_one]
 have hc : (nr q 0 = rdn q ∧ 2 * q ≤ mag (rdn q) + mag (rdn q + 1)) ∨ (nr q 0 = rdn q + 1 ∧ mag (rdn q) + mag (rdn q + 1) ≤ 2 * q) := by
  unfold nr
  rw [e]
  dsimp only
  rw [Nat.pow_zero, Nat.mul_one]
  split
  ·right; exact ⟨rfl, by omega⟩
  ·split
   ·right; exact ⟨rfl, by omega⟩
   ·left; exact ⟨rfl, by omega⟩
 have hF : f ≤ mag (rdn q) ∨ (mag (rdn q + 1) : Int) ≤ f := by
  obtain ⟨z, rfl⟩ := hf.rank
  rcases Int.lt_or_le ((rdn q : Nat) : Int) z with h | h
  ·right
   have h3 : (((rdn q + 1 : Nat) : Int)) ≤ z := by omega
   have := V_le_iff.2 h3
   rw [V_nat] at this; exact this
  ·left
   have := V_le_iff.2 h
   rw [V_nat] at this; exact this
 rw [e1]
 rcases hc with ⟨h3, h4⟩ | ⟨h3, h4⟩
 ·rw [h3]; omega
 ·rw [h3]; omega
theorem rn_near {n f : Int} (hf : Fl f) : (n - rn n).natAbs ≤ (n - f).natAbs := by
 rcases Int.lt_or_le n 0 with h | h
 ·have := rn_near_pos (n := -n) (f := -f) (by omega) hf.neg
  rw [rn_neg] at this
  omega
 ·exact rn_near_pos h hf
theorem pow_pos' (k : Nat) : 0 < (2 : Int) ^ k := Int.pow_pos (by decide)
theorem fl_grid {n : Int} {g : Nat} (h1 : (2 : Int) ^ g ∣ n) (h2 : n.natAbs ≤ 2 ^ 53 * 2 ^ g) : Fl n := by
 obtain ⟨m, rfl⟩ := h1
 refine ⟨m, g, ?_, Int.mul_comm _ _⟩
 rw [Int.natAbs_mul, Int.natAbs_pow, Nat.mul_comm] at h2
 exact Nat.le_of_mul_le_mul_right h2 (Nat.two_pow_pos _)
theorem grid_of {n : Int} {g : Nat} (h1 : Fl n) (h2 : 2 ^ 53 * 2 ^ g ≤ n.natAbs) : (2 : Int) ^ g ∣ n := by
 obtain ⟨m, k, h3, rfl⟩ := h1
 rw [Int.natAbs_mul, Int.natAbs_pow] at h2
 have h4 : 2 ^ 53 * 2 ^ g ≤ 2 ^ 53 * 2 ^ k := Nat.le_trans h2 (Nat.mul_le_mul_right _ h3)
 have h5 : g ≤ k := by
  have := Nat.le_of_mul_le_mul_left h4 (by omega)
  exact (Nat.pow_le_pow_iff_right (by omega)).1 this
 exact Int.dvd_trans ⟨2 ^ (k - g), by rw [← Int.pow_add]; congr 1; omega⟩ (Int.dvd_mul_left _ _)
theorem rn_grid {n : Int} {g : Nat} (h : (2 : Int) ^ g ∣ n) : (2 : Int) ^ g ∣ rn n := by
 by_cases h2 : n.natAbs ≤ 2 ^ 53 * 2 ^ g
 ·rw [(fl_grid h h2).rn]; exact h
 ·refine grid_of (fl_rn n) ?_
  have e : (((2 ^ 53 * 2 ^ g : Nat)) : Int) = (2 ^ 53 : Int) * 2 ^ g := by rw [Int.natCast_mul, Int.natCast_pow]; rfl
  have hB : Fl ((2 ^ 53 * 2 ^ g : Nat) : Int) := ⟨2 ^ 53, g, by decide, e⟩
  generalize 2 ^ 53 * 2 ^ g = B at *
  rcases Int.lt_or_le n 0 with h3 | h3
  ·have := rn_le (f := -(B : Int)) (n := n) hB.neg (by omega)
   omega
  ·have := le_rn (f := (B : Int)) (n := n) hB (by omega)
   omega
theorem Fl.grid {n : Int} (h : Fl n) : ∃ g : Nat, (2 : Int) ^ g ∣ n ∧ n.natAbs ≤ 2 ^ 53 * 2 ^ g := by
 obtain ⟨m, k, h1, rfl⟩ := h
 refine ⟨k, Int.dvd_mul_left _ _, ?_⟩
 rw [Int.natAbs_mul, Int.natAbs_pow]
 exact Nat.mul_le_mul_right _ h1
theorem dvd_less {g k : Nat} {n : Int} (h : g ≤ k) (h1 : (2 : Int) ^ k ∣ n) : (2 : Int) ^ g ∣ n :=
 Int.dvd_trans ⟨2 ^ (k - g), by rw [← Int.pow_add]; congr 1; omega⟩ h1
theorem two_grid {a b : Int} (ha : Fl a) (hb : Fl b) : ∃ g : Nat, (2 : Int) ^ g ∣ a ∧ (2 : Int) ^ g ∣ b ∧ (a.natAbs ≤ 2 ^ 53 * 2 ^ g ∨ b.natAbs ≤ 2 ^ 53 * 2 ^ g) := by
 obtain ⟨k, a1, a2⟩ := ha.grid
 obtain ⟨l, b1, b2⟩ := hb.grid
 rcases Nat.le_total k l with h | h
 ·exact ⟨k, a1, dvd_less h b1, .inl a2⟩
 ·exact ⟨l, dvd_less h a1, b1, .inr b2⟩
theorem fl_err {a b : Int} (ha : Fl a) (hb : Fl b) : Fl (a + b - rn (a + b)) ∧ (a + b - rn (a + b)).natAbs ≤ a.natAbs ∧ (a + b - rn (a + b)).natAbs ≤ b.natAbs := by
 have h1 := rn_near (n := a + b) ha
 have h2 := rn_near (n := a + b) hb
 have e1 : (a + b - a).natAbs = b.natAbs := by congr 1; omega
 have e2 : (a + b - b).natAbs = a.natAbs := by congr 1; omega
 rw [e1] at h1; rw [e2] at h2
 refine ⟨?_, h2, h1⟩
 obtain ⟨g, g1, g2, g3⟩ := two_grid ha hb
 refine fl_grid (g := g) (Int.dvd_sub (Int.dvd_add g1 g2) (rn_grid (Int.dvd_add g1 g2))) ?_
 rcases g3 with h | h
 ·exact Nat.le_trans h2 h
 ·exact Nat.le_trans h1 h
theorem sterbenz {x y : Int} (hx : Fl x) (hy : Fl y) (h1 : y ≤ 2 * x) (h2 : x ≤ 2 * y) : Fl (x - y) := by
 obtain ⟨g, g1, g2, g3⟩ := two_grid hx hy
 refine fl_grid (g := g) (Int.dvd_sub g1 g2) ?_
 rcases g3 with h | h
 ·refine Nat.le_trans ?_ h; omega
 ·refine Nat.le_trans ?_ h; omega
theorem Fl.twice {a : Int} (h : Fl a) : Fl (2 * a) := by
 obtain ⟨m, k, h1, rfl⟩ := h
 exact ⟨m, k + 1, h1, by rw [Int.pow_succ]; grind⟩
theorem Fl.half {a : Int} (h : Fl a) : Fl ((a + 1) / 2) := by
 obtain ⟨m, k, h1, rfl⟩ := h
 cases k with
 | zero => exact ⟨(m + 1) / 2, 0, by omega, by simp⟩
 | succ k =>
  refine ⟨m, k, h1, ?_⟩
  have : m * 2 ^ (k + 1) = 2 * (m * 2 ^ k) := by rw [Int.pow_succ]; grind
  rw [this]; omega
theorem fast_pos {a b : Int} (ha : Fl a) (hb : Fl b) (h1 : b ≤ a) (h2 : -a ≤ b) : Fl (rn (a + b) - a) := by
 by_cases h : 0 ≤ b
 ·have s1 := le_rn (n := a + b) ha (by omega)
  have s2 := rn_le (n := a + b) ha.twice (by omega)
  exact sterbenz (fl_rn _) ha (by omega) (by omega)
 ·by_cases h3 : a ≤ -(2 * b)
  ·have := sterbenz ha hb.neg (by omega) (by omega)
   have e : a - -b = a + b := by omega
   rw [e] at this
   rw [this.rn]
   have e2 : a + b - a = b := by omega
   rw [e2]; exact hb
  ·have s1 := rn_le (n := a + b) ha (by omega)
   have s2 := le_rn (n := a + b) ha.half (by omega)
   exact sterbenz (fl_rn _) ha (by omega) (by omega)
theorem fast {a b : Int} (ha : Fl a) (hb : Fl b) (h : b.natAbs ≤ a.natAbs) : Fl (rn (a + b) - a) := by
 rcases Int.lt_or_le a 0 with h1 | h1
 ·have := (fast_pos ha.neg hb.neg (by omega) (by omega)).neg
  have e : -a + -b = -(a + b) := by omega
  rw [e, rn_neg] at this
  have e2 : -(-rn (a + b) - -a) = rn (a + b) - a := by omega
  rw [e2] at this; exact this
 ·exact fast_pos ha hb (by omega) (by omega)
theorem err_half {a b : Int} (ha : Fl a) (hb : Fl b) (b0 : 0 < b) (h : a.natAbs ≤ b.natAbs) : 2 * (a + b - rn (a + b)).natAbs ≤ b.natAbs := by
 obtain ⟨-, e1, -⟩ := fl_err ha hb
 by_cases h1 : 2 * a.natAbs ≤ b.natAbs
 ·omega
 ·rcases Int.lt_or_le a 0 with h2 | h2
  ·have := sterbenz hb ha.neg (by omega) (by omega)
   have e : b - -a = a + b := by omega
   rw [e] at this
   rw [this.rn]; omega
  ·have k1 := rn_near (n := a + b) hb
   have k2 := rn_near (n := a + b) hb.twice
   omega
theorem two_sum_pos {a b : Int} (ha : Fl a) (hb : Fl b) (b0 : 0 < b) {s c : Int} (hs : s = rn (a + b)) (hc : c = rn (s - a)) :
  rn (s - c) = s - c ∧ rn (a - (s - c)) = a - (s - c) ∧ rn (b - c) = b - c ∧ rn (a - (s - c) + (b - c)) = a + b - s := by
 have fs : Fl s := by rw [hs]; exact fl_rn _
 obtain ⟨fe, e1, e2⟩ := fl_err ha hb
 rw [← hs] at fe e1 e2
 have last : a - (s - c) + (b - c) = a + b - s := by omega
 rw [last]
 by_cases hx : Fl (s - a)
 ·have ec : c = s - a := by rw [hc, hx.rn]
  have k1 : s - c = a := by omega
  have k2 : b - c = a + b - s := by omega
  rw [k1, k2]
  have z0 : Fl 0 := ⟨0, 0, by decide, by decide⟩
  exact ⟨ha.rn, by rw [Int.sub_self]; exact z0.rn, fe.rn, fe.rn⟩
 ·have hab : a.natAbs < b.natAbs := by
   rcases Nat.lt_or_ge a.natAbs b.natAbs with h | h
   ·exact h
   ·exfalso; apply hx; rw [hs]; exact fast ha hb h
  have hsa : a.natAbs ≤ s.natAbs := by
   rcases Nat.lt_or_ge s.natAbs a.natAbs with h | h
   ·exfalso; apply hx
    rcases Int.lt_or_le a 0 with h1 | h1
    ·have h3 : a + b < -a := by
      rcases Int.lt_or_le (a + b) (-a) with h4 | h4
      ·exact h4
      ·have := le_rn (n := a + b) ha.neg h4; omega
     have := sterbenz hb ha.neg (by omega) (by omega)
     have e : b - -a = a + b := by omega
     rw [e] at this
     rw [hs, this.rn]
     have e2 : a + b - a = b := by omega
     rw [e2]; exact hb
    ·have := le_rn (n := a + b) ha (by omega); omega
   ·exact h
  have es : s - a = s + -a := by omega
  have f1 : Fl (c - s) := by rw [hc, es]; exact fast fs ha.neg (by omega)
  obtain ⟨f2, -, -⟩ := fl_err fs ha.neg
  rw [← es, ← hc] at f2
  have hh := err_half ha hb b0 (by omega)
  rw [← hs] at hh
  have c1 : c ≤ 2 * b := by rw [hc]; exact rn_le hb.twice (by omega)
  have c2 : (b + 1) / 2 ≤ c := by rw [hc]; exact le_rn hb.half (by omega)
  have f3 : Fl (b - c) := sterbenz hb (by rw [hc]; exact fl_rn _) (by omega) (by omega)
  have f4 : Fl (s - c) := by have := f1.neg; rwa [show -(c - s) = s - c by omega] at this
  have f5 : Fl (a - (s - c)) := by have := f2.neg; rwa [show -(s - a - c) = a - (s - c) by omega] at this
  exact ⟨f4.rn, f5.rn, f3.rn, fe.rn⟩
theorem two_sum {a b : Int} (ha : Fl a) (hb : Fl b) {s c : Int} (hs : s = rn (a + b)) (hc : c = rn (s - a)) :
  rn (s - c) = s - c ∧ rn (a - (s - c)) = a - (s - c) ∧ rn (b - c) = b - c ∧ rn (a - (s - c) + (b - c)) = a + b - s := by
 rcases Int.lt_trichotomy b 0 with h | h | h
 ·have e1 : -s = rn (-a + -b) := by rw [show -a + -b = -(a + b) by omega, rn_neg, hs]
  have e2 : -c = rn (-s - -a) := by rw [show -s - -a = -(s - a) by omega, rn_neg, hc]
  obtain ⟨k1, k2, k3, k4⟩ := two_sum_pos ha.neg hb.neg (by omega) e1 e2
  rw [show -s - -c = -(s - c) by omega] at k1 k2 k4
  rw [show -a - -(s - c) = -(a - (s - c)) by omega] at k2 k4
  rw [show -b - -c = -(b - c) by omega] at k3 k4
  rw [show -(a - (s - c)) + -(b - c) = -(a - (s - c) + (b - c)) by omega] at k4
  rw [rn_neg] at k1 k2 k3 k4
  exact ⟨by omega, by omega, by omega, by omega⟩
 ·subst h
  have z0 : Fl 0 := ⟨0, 0, by decide, by decide⟩
  have h1 : s = a := by rw [hs, Int.add_zero, ha.rn]
  have h2 : c = 0 := by rw [hc, h1, Int.sub_self, z0.rn]
  rw [h1, h2]
  simp only [Int.sub_zero, Int.sub_self, Int.add_zero]
  exact ⟨ha.rn, z0.rn, z0.rn, z0.rn⟩
 ·exact two_sum_pos ha hb h hs hc
end Go.Dy
