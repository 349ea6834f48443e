/- Walks: burnishref01.far: sums that are great. -/
import Derived.Test.YtnbdjpnnagpldaaTi
import Derived.Test.YtnbdjpnnagpldaaTh
namespace Go.Dy
open Ieee
/-- A nearest number of what is doubled k times. -/
theorem rn_scale_pos {q : Nat} (k : Nat) : rn ((q * 2 ^ k : Nat) : Int) = rn (q : Int) * 2 ^ k := by
  rcases form_of q with h | ⟨j, m, x, h1, h2, h3, e⟩
  · have f1 : Fl (q : Int) := ⟨q, 0, by omega, by simp⟩
    have f2 : Fl ((q * 2 ^ k : Nat) : Int) := ⟨q, k, by omega, by rw [Int.natCast_mul, Int.natCast_pow]; rfl⟩
    rw [f1.rn, f2.rn, Int.natCast_mul, Int.natCast_pow]; rfl
  · have e1 : ∀ n : Nat, rn (n : Int) = mag (nr n 0) := fun n => by
      unfold rn nz; rw [if_neg (by omega), Int.natAbs_natCast, V_nat]
    have pk : 0 < 2 ^ k := Nat.two_pow_pos k
    have e2 : q * 2 ^ k = m * 2 ^ (j + k) + x * 2 ^ k := by rw [e, Nat.add_mul, Nat.pow_add, Nat.mul_assoc]
    have hx : x * 2 ^ k < 2 ^ (j + k) := by rw [Nat.pow_add]; exact Nat.mul_lt_mul_of_pos_right h3 pk
    have r1 : rdn q = j * 2 ^ 52 + m := by rw [e]; exact rdn_form h1 h2 h3
    have r2 : rdn (q * 2 ^ k) = (j + k) * 2 ^ 52 + m := by rw [e2]; exact rdn_form h1 h2 hx
    have mf : ∀ i, mag (i * 2 ^ 52 + m) = m * 2 ^ i := fun i => by
      have := mag_form i (m - 2 ^ 52) (by omega)
      have e5 : 2 ^ 52 + (m - 2 ^ 52) = m := by omega
      rw [e5] at this; exact this
    have ms : ∀ i, mag (i * 2 ^ 52 + m + 1) = (m + 1) * 2 ^ i := fun i => by
      rw [mag_succ, mf i, Nat.add_mul, Nat.one_mul]
      have : (i * 2 ^ 52 + m) / 2 ^ 52 - 1 = i := by omega
      rw [this]
    rw [e1, e1]
    have hn : ∀ n : Nat, nr n 0 = if mag (rdn n) + mag (rdn n + 1) < 2 * n then rdn n + 1 else if 2 * n = mag (rdn n) + mag (rdn n + 1) ∧ rdn n % 2 = 1 then rdn n + 1 else rdn n := fun n => by
      have e : n / 2 ^ 0 = n := by rw [Nat.pow_zero, Nat.div_one]
      unfold nr; rw [e]; dsimp only; rw [Nat.pow_zero, Nat.mul_one]
    rw [hn, hn, r1, r2, mf, ms, mf, ms]
    have c1 : m * 2 ^ (j + k) + (m + 1) * 2 ^ (j + k) = (m * 2 ^ j + (m + 1) * 2 ^ j) * 2 ^ k := by rw [Nat.pow_add]; grind
    have c2 : 2 * (q * 2 ^ k) = 2 * q * 2 ^ k := by rw [Nat.mul_assoc]
    have c3 : ((j + k) * 2 ^ 52 + m) % 2 = (j * 2 ^ 52 + m) % 2 := by omega
    have c4 : (m * 2 ^ (j + k) + (m + 1) * 2 ^ (j + k) < 2 * (q * 2 ^ k)) ↔ (m * 2 ^ j + (m + 1) * 2 ^ j < 2 * q) := by
      rw [c1, c2]; exact Nat.mul_lt_mul_right pk
    have c5 : (2 * (q * 2 ^ k) = m * 2 ^ (j + k) + (m + 1) * 2 ^ (j + k)) ↔ (2 * q = m * 2 ^ j + (m + 1) * 2 ^ j) := by
      rw [c1, c2]; exact ⟨fun h => Nat.eq_of_mul_eq_mul_right pk h, fun h => by rw [h]⟩
    have up : ∀ i, mag (i * 2 ^ 52 + m + 1) = (m + 1) * 2 ^ i := ms
    by_cases g1 : m * 2 ^ j + (m + 1) * 2 ^ j < 2 * q
    · rw [if_pos g1, if_pos (c4.2 g1), ms, ms, Nat.pow_add, ← Nat.mul_assoc, Int.natCast_mul, Int.natCast_pow]; rfl
    · rw [if_neg g1, if_neg (fun h => g1 (c4.1 h))]
      by_cases g2 : 2 * q = m * 2 ^ j + (m + 1) * 2 ^ j ∧ (j * 2 ^ 52 + m) % 2 = 1
      · rw [if_pos g2, if_pos ⟨c5.2 g2.1, by rw [c3]; exact g2.2⟩, ms, ms, Nat.pow_add, ← Nat.mul_assoc, Int.natCast_mul, Int.natCast_pow]; rfl
      · rw [if_neg g2, if_neg (fun h => g2 ⟨c5.1 h.1, by rw [← c3]; exact h.2⟩), mf, mf, Nat.pow_add, ← Nat.mul_assoc, Int.natCast_mul, Int.natCast_pow]; rfl
theorem rn_scale (n : Int) (k : Nat) : rn (n * 2 ^ k) = rn n * 2 ^ k := by
  rcases Int.lt_or_le n 0 with h | h
  · obtain ⟨q, hq⟩ : ∃ q : Nat, n = -(q : Int) := ⟨n.natAbs, by omega⟩
    have := rn_scale_pos (q := q) k
    rw [Int.natCast_mul, Int.natCast_pow] at this
    rw [hq, Int.neg_mul, rn_neg, rn_neg, Int.neg_mul]
    exact congrArg _ this
  · obtain ⟨q, hq⟩ : ∃ q : Nat, n = (q : Int) := ⟨n.natAbs, by omega⟩
    have := rn_scale_pos (q := q) k
    rw [Int.natCast_mul, Int.natCast_pow] at this
    rw [hq]; exact this
/-- A number that is not small, by 2^60. -/
theorem ldx60 {z : Int} (o : ok z) (h : (one : Int) * 2 ^ 59 ≤ (V z).natAbs) : ∃ x : Int, ok x ∧ ldx (enc z) (-60) = enc x ∧ V z = V x * 2 ^ 60 := by
  have tp := top_eq
  have hg : (2 : Int) ^ 60 ∣ V z := by
    refine grid_of (Fl.ofV z) ?_
    have ob : (2 : Int) ^ 53 * 2 ^ 60 ≤ one * 2 ^ 59 := by
      have : (2 : Int) ^ 53 * 2 ^ 60 ≤ (one : Int) * 2 ^ 59 := by decide +kernel
      exact this
    have : ((2 ^ 53 * 2 ^ 60 : Nat) : Int) = (2 : Int) ^ 53 * 2 ^ 60 := by decide
    omega
  obtain ⟨m, hm⟩ := hg
  have fm : Fl m := by
    obtain ⟨m', k', h1, h2⟩ := Fl.ofV z
    have := rn_scale m 60
    rw [Int.mul_comm m, ← hm, (Fl.ofV z).rn, hm, Int.mul_comm] at this
    have p : (2 : Int) ^ 60 ≠ 0 := by decide
    have e := Int.eq_of_mul_eq_mul_right p this
    rw [e]; exact fl_rn m
  obtain ⟨x, hx⟩ := fm.rank
  have e0 : V z = V x * 2 ^ 60 := by rw [hm, hx, Int.mul_comm]
  have vx : (V x).natAbs ≤ (V z).natAbs := by
    have p60 : ((2 : Int) ^ 60).natAbs = 2 ^ 60 := by decide
    rw [e0, Int.natAbs_mul, p60]; omega
  have lx : x.natAbs ≤ z.natAbs := by
    rw [V_natAbs, V_natAbs] at vx
    exact mag_le_iff.1 vx
  have ox : ok x := by unfold ok at *; omega
  refine ⟨x, ox, ?_, e0⟩
  have z0 : z ≠ 0 := by
    intro h0; subst h0; rw [V_zero] at h
    have : (0 : Int) < one * 2 ^ 59 := by decide +kernel
    omega
  have x0 : x ≠ 0 := by
    intro h0; subst h0; rw [V_zero] at e0
    have e9 : V z = 0 := by omega
    have : (V z).natAbs = mag z.natAbs := V_natAbs z
    rw [e9] at this
    have := @mag_lt 0 z.natAbs (by omega)
    rw [mag_zero] at this; omega
  have eb : enc z % 2 ^ 63 = z.natAbs := by unfold enc; unfold ok at o; split <;> omega
  have sb : sgn (enc z) = decide (z < 0) := by
    unfold sgn enc; unfold ok at o; congr 1; rw [eq_iff_iff]; split <;> omega
  have sx : x < 0 ↔ z < 0 := by
    have h1 : 0 ≤ x ↔ 0 ≤ V x := V_nonneg.symm
    have h2 : 0 ≤ z ↔ 0 ≤ V z := V_nonneg.symm
    rw [e0] at h2
    omega
  unfold ldx
  have hmag : mag z.natAbs = mag x.natAbs * 2 ^ 60 := by
    rw [← V_natAbs, ← V_natAbs, e0, Int.natAbs_mul]; rfl
  rw [eb, if_pos (by unfold ok at o; omega), sb]
  have e1 : (-60 : Int).toNat = 0 := by decide
  have e2 : (-(-60 : Int)).toNat = 60 := by decide
  rw [e1, e2, Nat.pow_zero, Nat.mul_one, nr_exact hmag, Nat.min_eq_left (by unfold ok at ox; omega)]
  unfold word enc
  by_cases c : z < 0
  · rw [decide_eq_true c, if_pos rfl, if_neg (by omega)]; omega
  · rw [decide_eq_false c, if_neg (by decide), if_pos (by omega)]; omega
theorem half_one : (one : Int) * 2 ^ 59 ≤ ((mag 4607182418800017407 * 2 ^ 60 : Nat) : Int) := by decide +kernel
/-- A number by 2^60 that is less than 1, or not. -/
theorem ldx60_small {z : Int} (o : ok z) : (flt (abs (ldx (enc z) (-60))) 4607182418800017408 = true → (V z).natAbs < (one : Int) * 2 ^ 60) ∧ (flt (abs (ldx (enc z) (-60))) 4607182418800017408 = false → (one : Int) * 2 ^ 59 ≤ (V z).natAbs) := by
  have tp := top_eq
  have eb : enc z % 2 ^ 63 = z.natAbs := by unfold enc; unfold ok at o; split <;> omega
  have e1 : (-60 : Int).toNat = 0 := by decide
  have e2 : (-(-60 : Int)).toNat = 60 := by decide
  obtain ⟨r, hr⟩ : ∃ r, nr (mag z.natAbs) 60 = r := ⟨_, rfl⟩
  have hrl : r ≤ z.natAbs := by
    rw [← hr]; refine nr_le ?_
    have : 1 ≤ 2 ^ 60 := by decide
    exact Nat.le_mul_of_pos_right _ (by omega)
  have rt : r < top := by unfold ok at o; omega
  have ea : abs (ldx (enc z) (-60)) = r := by
    unfold ldx
    rw [eb, if_pos (by unfold ok at o; omega), e1, e2, Nat.pow_zero, Nat.mul_one, hr, Nat.min_eq_left (by omega)]
    unfold abs
    exact word_abs (by omega)
  rw [ea]
  have or : ok (r : Int) := by unfold ok; omega
  have er : enc (r : Int) = r := by unfold enc; rw [if_pos (by omega)]; omega
  have e3 : flt r 4607182418800017408 = decide ((r : Int) < I1) := by
    have h := flt_dec (W_enc or) (W_enc ok_I1) (right_enc or) (right_enc ok_I1)
    have e5 : enc I1 = 4607182418800017408 := by decide
    rw [dec_enc or, dec_enc ok_I1, er, e5] at h; exact h
  rw [e3]
  have vz := V_natAbs z
  have m1 : (mag 4607182418800017408 : Int) = one := by have := V_one; unfold I1 at this; rw [show (4607182418800017408 : Int) = ((4607182418800017408 : Nat) : Int) from rfl, V_nat] at this; exact this
  constructor
  · intro h
    rw [decide_eq_true_eq] at h
    unfold I1 at h
    rcases Nat.lt_or_ge (mag z.natAbs) (mag 4607182418800017408 * 2 ^ 60) with h1 | h1
    · rw [vz]
      have : ((mag 4607182418800017408 * 2 ^ 60 : Nat) : Int) = one * 2 ^ 60 := by rw [Int.natCast_mul, m1]; rfl
      omega
    · have := le_nr h1; omega
  · intro h
    rw [decide_eq_false_iff_not] at h
    unfold I1 at h
    rcases Nat.lt_or_ge (mag z.natAbs) (mag 4607182418800017407 * 2 ^ 60) with h1 | h1
    · have := nr_le (r := 4607182418800017407) (n := mag z.natAbs) (j := 60) (by omega); omega
    · rw [vz]
      have k := half_one
      obtain ⟨M, hM⟩ : ∃ M, mag 4607182418800017407 * 2 ^ 60 = M := ⟨_, rfl⟩
      rw [hM] at h1 k
      omega
end Go.Dy
