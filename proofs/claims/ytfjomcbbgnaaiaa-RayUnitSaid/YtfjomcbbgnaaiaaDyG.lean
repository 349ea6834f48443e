/-
  Plain facts: products and sums to the nearest number; a number times a power of two, as math.Ldexp works it out.
-/
import Derived.Test.YtfjomcbbgnaaiaaDyF
import Derived.Laws.BitsAllLaws
namespace Go.Dy
open Ieee

/-- The word of a sign and a rung. -/
def word (s : Bool) (r : Nat) : Nat := if s then 2 ^ 63 + r else r
theorem word_eq (s : Bool) (r : Nat) : double.word s r = word s r := rfl
theorem word_abs {s : Bool} {r : Nat} (h : r < 2 ^ 63) : word s r % 2 ^ 63 = r := by unfold word; split <;> omega
theorem word_sgn {s : Bool} {r : Nat} (h : r < 2 ^ 63) : sgn (word s r) = s := by
  unfold word sgn; cases s
  · simp; omega
  · simp
theorem word_lt {s : Bool} {r : Nat} (h : r < 2 ^ 63) : word s r < 2 ^ 64 := by unfold word; split <;> omega
theorem word_of {b : Nat} (hb : b < 2 ^ 64) : word (sgn b) (b % 2 ^ 63) = b := by
  unfold word sgn
  split
  · rename_i h; simp at h; omega
  · rename_i h; simp at h; omega
theorem min_top_lt (r : Nat) : min r top < 2 ^ 63 := by rw [top_eq]; omega

theorem nr_scale (n j k : Nat) : nr (n * 2 ^ k) (j + k) = nr n j := by
  unfold nr
  have pk := Nat.two_pow_pos k
  have e1 : n * 2 ^ k / 2 ^ (j + k) = n / 2 ^ j := by rw [Nat.pow_add, Nat.mul_div_mul_right _ _ pk]
  rw [e1]
  dsimp only
  rw [Nat.pow_add]
  generalize mag (rdn (n / 2 ^ j)) + mag (rdn (n / 2 ^ j) + 1) = s
  have e2 : s * (2 ^ j * 2 ^ k) < 2 * (n * 2 ^ k) ↔ s * 2 ^ j < 2 * n := by
    rw [← Nat.mul_assoc, ← Nat.mul_assoc]; exact Nat.mul_lt_mul_right pk
  have e3 : 2 * (n * 2 ^ k) = s * (2 ^ j * 2 ^ k) ↔ 2 * n = s * 2 ^ j := by
    rw [← Nat.mul_assoc, ← Nat.mul_assoc]; exact Nat.mul_left_inj (by omega)
  simp only [e2, e3]

theorem nr_congr {n j n' j' : Nat} (k k' : Nat) (hj : j + k = j' + k') (h : n * 2 ^ k = n' * 2 ^ k') : nr n j = nr n' j' := by
  rw [← nr_scale n j k, ← nr_scale n' j' k', h, hj]

theorem one_eq : one = 2 ^ 1074 := by decide +kernel
/-- 2^1021. -/
def big : Nat := 2 ^ 1021
theorem big_eq : big = 2 ^ 1021 := by decide +kernel
theorem nr_exact' {r n j p : Nat} (hp : p = 2 ^ j) (h : n = mag r * p) : nr n j = r := nr_exact (by rw [h, hp])
theorem nr_scale' {n j j' k p : Nat} (hp : p = 2 ^ k) (hj : j' = j + k) : nr (n * p) j' = nr n j := by rw [hp, hj, nr_scale]

/-- The nearest word, the number told in units of 2^-1074: m by 2^t. -/
theorem nearest_units (neg : Bool) {m n j : Nat} {place : Int} {e : Nat} (h : place + 1074 = (e : Int) - j) (hn : n = m * 2 ^ e) :
    double.nearest neg m place = word neg (min (nr n j) top) := by
  rw [nearest_eq, word_eq, hn]
  have : nr (m * 2 ^ (place + 1074).toNat) (-(place + 1074)).toNat = nr (m * 2 ^ e) j := by
    refine nr_congr j (-(place + 1074)).toNat (by omega) ?_
    rw [Nat.mul_assoc, Nat.mul_assoc, ← Nat.pow_add, ← Nat.pow_add]
    have l2 : (place + 1074).toNat + j = e + (-(place + 1074)).toNat := by omega
    rw [l2]
  rw [this]

def fmul (x y : Nat) : Nat := word (sgn x ^^ sgn y) (min (nr (mag (x % 2 ^ 63) * mag (y % 2 ^ 63)) 1074) top)

theorem mul_eq {x y : Nat} (hx : x < 2 ^ 64) (hy : y < 2 ^ 64) (fx : x % 2 ^ 63 < top) (fy : y % 2 ^ 63 < top) : double.mul x y = some (fmul x y) := by
  obtain ⟨m, e, r1, m1⟩ := read_num hx fx
  obtain ⟨n, f, r2, m2⟩ := read_num hy fy
  unfold Format.mul fmul
  rw [r1, r2]
  simp only [Datum.product, Option.map, Format.write]
  rw [nearest_units (e := e + f) (j := 1074) (n := mag (x % 2 ^ 63) * mag (y % 2 ^ 63)) _ (by omega) (by rw [m1, m2, Nat.pow_add, Nat.mul_mul_mul_comm])]

/-- x by 2^e, the nearest one. -/
def ldx (b : Nat) (e : Int) : Nat := if b % 2 ^ 63 < top then word (sgn b) (min (nr (mag (b % 2 ^ 63) * 2 ^ e.toNat) (-e).toNat) top) else b

/-- As math.normalize has it. -/
def norm1 (b : Nat) : Nat := if abs b < 2 ^ 52 then fmul b 4841369599423283200 else b
def norm2 (b : Nat) : Int := if abs b < 2 ^ 52 then -52 else 0

/-- The exponent that math.ldexp works out, and the fraction. -/
def lexp (b : Nat) (e : Int) : Int := e + norm2 b + ((norm1 b / 2 ^ 52 % 2048 : Nat) - 1023)

/-- A word that is put together. -/
def built (b : Nat) (E : Int) : Nat := word (sgn b) ((E + 1023).toNat * 2 ^ 52 + norm1 b % 2 ^ 52)

theorem norm_spec {b : Nat} (_hb : b < 2 ^ 64) (hf : b % 2 ^ 63 < top) (h0 : b % 2 ^ 63 ≠ 0) :
    ∃ r : Nat, norm1 b = word (sgn b) r ∧ 2 ^ 52 ≤ r ∧ r < top ∧ (abs b < 2 ^ 52 → mag r = mag (b % 2 ^ 63) * 2 ^ 52) ∧ (¬ abs b < 2 ^ 52 → r = b % 2 ^ 63) := by
  unfold norm1
  by_cases h : abs b < 2 ^ 52
  · rw [if_pos h]
    have ha : b % 2 ^ 63 < 2 ^ 52 := h
    have em : mag (b % 2 ^ 63) = b % 2 ^ 63 := mag_low (by omega)
    rw [em]
    generalize hq : b % 2 ^ 63 = q at *
    -- q by 2^52 is a number
    obtain ⟨r, hr1, hr2, hr3⟩ : ∃ r, mag r = q * 2 ^ 52 ∧ 2 ^ 52 ≤ r ∧ r < top := by
      refine ⟨rdn (q * 2 ^ 52), ?_, ?_, ?_⟩
      · have hl1 : 2 ^ q.log2 ≤ q := Nat.log2_self_le h0
        have hl2 : q < 2 ^ (q.log2 + 1) := Nat.lt_log2_self
        have hl3 : q.log2 < 52 := (Nat.log2_lt h0).2 ha
        have e1 : q * 2 ^ 52 = q * 2 ^ (52 - q.log2) * 2 ^ q.log2 + 0 := by
          rw [Nat.mul_assoc, ← Nat.pow_add]
          have : 52 - q.log2 + q.log2 = 52 := by omega
          rw [this, Nat.add_zero]
        have b1 : 2 ^ 52 ≤ q * 2 ^ (52 - q.log2) := by
          have : 2 ^ 52 = 2 ^ q.log2 * 2 ^ (52 - q.log2) := by
            rw [← Nat.pow_add]; congr 1; omega
          rw [this]; exact Nat.mul_le_mul_right _ hl1
        have b2 : q * 2 ^ (52 - q.log2) < 2 ^ 53 := by
          have : 2 ^ 53 = 2 ^ (q.log2 + 1) * 2 ^ (52 - q.log2) := by
            rw [← Nat.pow_add]; congr 1; omega
          rw [this]; exact Nat.mul_lt_mul_of_pos_right hl2 (Nat.two_pow_pos _)
        rw [e1, rdn_form b1 b2 (Nat.two_pow_pos _)]
        generalize q * 2 ^ (52 - q.log2) = v at *
        obtain ⟨n, rfl⟩ : ∃ n, v = 2 ^ 52 + n := ⟨v - 2 ^ 52, by omega⟩
        rw [mag_form _ n (by omega)]
        rfl
      · rw [le_rdn, mag_low (by omega)]
        omega
      · have h1 : mag (rdn (q * 2 ^ 52)) < mag (100 * 2 ^ 52) := by
          refine Nat.lt_of_le_of_lt (rdn_le _) ?_
          have : mag (100 * 2 ^ 52) = (2 ^ 52 + 0) * 2 ^ 99 := mag_form 99 0 (by omega)
          rw [this]
          omega
        have := mag_lt_iff.1 h1
        rw [top_eq]; omega
    refine ⟨r, ?_, hr2, hr3, fun _ => hr1, fun hn => absurd h hn⟩
    unfold fmul
    have c1 : (4841369599423283200 : Nat) % 2 ^ 63 = 4841369599423283200 := by decide
    have c2 : mag 4841369599423283200 = 2 ^ 52 * one := by decide +kernel
    have c3 : sgn 4841369599423283200 = false := by decide
    rw [c1, c2, c3, hq, em, ← Nat.mul_assoc, Bool.xor_false]
    have : nr (q * 2 ^ 52 * one) 1074 = r := nr_exact' one_eq (by rw [hr1])
    rw [this, Nat.min_eq_left (Nat.le_of_lt hr3)]
  · rw [if_neg h]
    refine ⟨b % 2 ^ 63, (word_of _hb).symm, ?_, hf, fun hn => absurd hn h, fun _ => rfl⟩
    unfold abs at h; omega

/-- A rung of the normal numbers, of its parts. -/
theorem mag_parts {r : Nat} (h : 2 ^ 52 ≤ r) : mag r = (2 ^ 52 + r % 2 ^ 52) * 2 ^ (r / 2 ^ 52 - 1) := by
  unfold mag; rw [if_neg (by omega)]

/-- The exact number, by the exponent. -/
theorem ldx_parts {b : Nat} {e : Int} (hb : b < 2 ^ 64) (hf : b % 2 ^ 63 < top) (h0 : b % 2 ^ 63 ≠ 0) :
    ∃ f : Nat, f < 2 ^ 52 ∧ norm1 b % 2 ^ 52 = f ∧ sgn (norm1 b) = sgn b ∧ norm1 b < 2 ^ 64 ∧
      (∀ j i : Nat, (lexp b e + 1022 = (i : Int) - j) → nr (mag (b % 2 ^ 63) * 2 ^ e.toNat) (-e).toNat = nr ((2 ^ 52 + f) * 2 ^ i) j) := by
  obtain ⟨r, h1, h2, h3, h4, h5⟩ := norm_spec hb hf h0
  have hr63 : r < 2 ^ 63 := by rw [top_eq] at h3; omega
  have e1 : norm1 b % 2 ^ 63 = r := by rw [h1, word_abs hr63]
  have e2 : norm1 b % 2 ^ 52 = r % 2 ^ 52 := by
    have : norm1 b % 2 ^ 63 % 2 ^ 52 = norm1 b % 2 ^ 52 := Nat.mod_mod_of_dvd _ ⟨2 ^ 11, by decide⟩
    rw [← this, e1]
  have e3 : norm1 b / 2 ^ 52 % 2048 = r / 2 ^ 52 := by
    have hw : norm1 b = r ∨ norm1 b = 2 ^ 63 + r := by
      rw [h1]; unfold word; split
      · exact Or.inr rfl
      · exact Or.inl rfl
    rw [top_eq] at h3
    rcases hw with hw | hw <;> rw [hw] <;> omega
  refine ⟨r % 2 ^ 52, Nat.mod_lt _ (by omega), e2, by rw [h1, word_sgn hr63], by rw [h1]; exact word_lt hr63, ?_⟩
  intro j i hij
  unfold lexp norm2 at hij
  rw [e3] at hij
  have hk : 1 ≤ r / 2 ^ 52 := by omega
  have mp := mag_parts h2
  generalize hK : r / 2 ^ 52 - 1 = K at mp
  have hK2 : ((r / 2 ^ 52 : Nat) : Int) = K + 1 := by omega
  rw [hK2] at hij
  generalize 2 ^ 52 + r % 2 ^ 52 = M at mp ⊢
  by_cases hs : abs b < 2 ^ 52
  · rw [if_pos hs] at hij
    have m1 := h4 hs
    rw [mp] at m1
    -- M 2^K = mag 2^52
    generalize mag (b % 2 ^ 63) = A at m1 ⊢
    refine nr_congr (52 + j) ((-e).toNat + 52) (by omega) ?_
    have l1 : A * 2 ^ e.toNat * 2 ^ (52 + j) = A * 2 ^ 52 * 2 ^ (e.toNat + j) := by
      rw [Nat.pow_add, Nat.pow_add, Nat.mul_assoc, Nat.mul_assoc, Nat.mul_left_comm (2 ^ e.toNat)]
    rw [l1, ← m1, Nat.mul_assoc, Nat.mul_assoc, ← Nat.pow_add, ← Nat.pow_add]
    have l2 : K + (e.toNat + j) = i + ((-e).toNat + 52) := by omega
    rw [l2]
  · rw [if_neg hs] at hij
    have m1 := h5 hs
    rw [m1] at mp
    rw [mp]
    refine nr_congr j (-e).toNat (by omega) ?_
    rw [Nat.mul_assoc, Nat.mul_assoc, Nat.mul_assoc, ← Nat.pow_add, ← Nat.pow_add, ← Nat.pow_add]
    have l2 : K + (e.toNat + j) = i + (-e).toNat := by omega
    rw [l2]

/-- Far below: nothing. -/
theorem ldx_low {b : Nat} {e : Int} (hb : b < 2 ^ 64) (hf : b % 2 ^ 63 < top) (h0 : b % 2 ^ 63 ≠ 0) (h : lexp b e < -1075) : ldx b e = word (sgn b) 0 := by
  obtain ⟨f, hf1, _, _, _, h6⟩ := ldx_parts (e := e) hb hf h0
  have h7 := h6 (-(lexp b e + 1022)).toNat 0 (by omega)
  unfold ldx
  rw [if_pos hf, h7]
  congr 1
  have hj : 54 ≤ (-(lexp b e + 1022)).toNat := by omega
  generalize (-(lexp b e + 1022)).toNat = j at hj
  have pj : 2 ^ 54 ≤ 2 ^ j := Nat.pow_le_pow_right (by omega) hj
  have : nr ((2 ^ 52 + f) * 2 ^ 0) j = 0 := by
    unfold nr
    have e1 : (2 ^ 52 + f) * 2 ^ 0 / 2 ^ j = 0 := by
      rw [Nat.pow_zero, Nat.mul_one]; exact Nat.div_eq_of_lt (by omega)
    rw [e1]
    have e2 : rdn 0 = 0 := by decide
    have e3 : mag (0 + 1) = 1 := by decide
    dsimp only
    rw [e2, e3, mag_zero, Nat.pow_zero, Nat.mul_one, if_neg (by omega), if_neg (by omega)]
  rw [this]; exact Nat.min_eq_left (by omega)

/-- Far above: infinity. -/
theorem ldx_high {b : Nat} {e : Int} (hb : b < 2 ^ 64) (hf : b % 2 ^ 63 < top) (h0 : b % 2 ^ 63 ≠ 0) (h : 1023 < lexp b e) : ldx b e = word (sgn b) top := by
  obtain ⟨f, hf1, _, _, _, h6⟩ := ldx_parts (e := e) hb hf h0
  have h7 := h6 0 (lexp b e + 1022).toNat (by omega)
  unfold ldx
  rw [if_pos hf, h7]
  congr 1
  have hi : 2046 ≤ (lexp b e + 1022).toNat := by omega
  generalize (lexp b e + 1022).toNat = i at hi
  refine Nat.min_eq_right (le_nr ?_)
  rw [Nat.pow_zero, Nat.mul_one]
  have : mag top ≤ (2 ^ 52 + 0) * 2 ^ i := by
    rw [← mag_form i 0 (by omega), mag_le_iff, top_eq]
    omega
  exact Nat.le_trans this (Nat.mul_le_mul_right _ (by omega))

theorem mag_built {f : Nat} {k : Nat} (hf : f < 2 ^ 52) : mag ((k + 1) * 2 ^ 52 + f) = (2 ^ 52 + f) * 2 ^ k := by
  have : (k + 1) * 2 ^ 52 + f = k * 2 ^ 52 + (2 ^ 52 + f) := by omega
  rw [this, mag_form k f hf]

/-- In between: a word that is put together, times 1. -/
theorem ldx_mid {b : Nat} {e : Int} (hb : b < 2 ^ 64) (hf : b % 2 ^ 63 < top) (h0 : b % 2 ^ 63 ≠ 0) (h1 : -1022 ≤ lexp b e) (h2 : lexp b e ≤ 1023) :
    ldx b e = fmul 4607182418800017408 (built b (lexp b e)) := by
  obtain ⟨f, hf1, hf2, _, _, h6⟩ := ldx_parts (e := e) hb hf h0
  have h7 := h6 0 (lexp b e + 1022).toNat (by omega)
  unfold ldx fmul built
  rw [if_pos hf, h7, hf2]
  obtain ⟨k, hk⟩ : ∃ k : Nat, (lexp b e + 1022).toNat = k := ⟨_, rfl⟩
  have hk2 : (lexp b e + 1023).toNat = k + 1 := by omega
  rw [hk, hk2]
  have c1 : (4607182418800017408 : Nat) % 2 ^ 63 = 4607182418800017408 := by decide
  have c2 : mag 4607182418800017408 = one := by decide +kernel
  have c3 : sgn 4607182418800017408 = false := by decide
  have hr : (k + 1) * 2 ^ 52 + f < 2 ^ 63 := by omega
  rw [c1, c2, c3, word_abs hr, word_sgn hr, mag_built hf1, Bool.false_xor, Nat.mul_comm one, nr_scale' (n := (2 ^ 52 + f) * 2 ^ k) (j := 0) one_eq (by omega)]

/-- And of the least ones: times 2^-53. -/
theorem ldx_sub {b : Nat} {e : Int} (hb : b < 2 ^ 64) (hf : b % 2 ^ 63 < top) (h0 : b % 2 ^ 63 ≠ 0) (h1 : -1075 ≤ lexp b e) (h2 : lexp b e < -1022) :
    ldx b e = fmul 4368491638549381120 (built b (lexp b e + 53)) := by
  obtain ⟨f, hf1, hf2, _, _, h6⟩ := ldx_parts (e := e) hb hf h0
  obtain ⟨k, hk⟩ : ∃ k : Nat, (lexp b e + 53 + 1022).toNat = k := ⟨_, rfl⟩
  have h7 := h6 53 k (by omega)
  unfold ldx fmul built
  rw [if_pos hf, h7, hf2]
  have hk2 : (lexp b e + 53 + 1023).toNat = k + 1 := by omega
  rw [hk2]
  have c1 : (4368491638549381120 : Nat) % 2 ^ 63 = 4368491638549381120 := by decide
  have c2 : mag 4368491638549381120 = big := by decide +kernel
  have c3 : sgn 4368491638549381120 = false := by decide
  have hr : (k + 1) * 2 ^ 52 + f < 2 ^ 63 := by omega
  rw [c1, c2, c3, word_abs hr, word_sgn hr, mag_built hf1, Bool.false_xor, Nat.mul_comm big, nr_scale' (n := (2 ^ 52 + f) * 2 ^ k) (j := 53) big_eq (by omega)]

theorem flt_abs_least {b : Nat} (_hb : b < 2 ^ 64) (hf : b % 2 ^ 63 < top) : flt (abs b) 4503599627370496 = decide (abs b < 2 ^ 52) := by
  have h1 : abs b < 2 ^ 64 := by unfold abs; omega
  rw [flt_eq h1 (by decide)]
  have e1 : nan 4503599627370496 = false := by decide
  have e2 : dec 4503599627370496 = 4503599627370496 := by decide
  rw [e1, e2, Bool.eq_iff_iff]
  unfold nan dec abs
  unfold top at hf ⊢
  simp
  split <;> omega

/-- A number that is finite. -/
def fin (b : Nat) : Prop := b % 2 ^ 63 < top

theorem norm2_sub {b : Nat} (h : abs b < 2 ^ 52) : norm2 b = -52 := by unfold norm2; rw [if_pos h]
theorem norm2_nor {b : Nat} (h : ¬ abs b < 2 ^ 52) : norm2 b = 0 := by unfold norm2; rw [if_neg h]
theorem norm1_sub {b : Nat} (h : abs b < 2 ^ 52) : norm1 b = fmul b 4841369599423283200 := by unfold norm1; rw [if_pos h]
theorem norm1_nor {b : Nat} (h : ¬ abs b < 2 ^ 52) : norm1 b = b := by unfold norm1; rw [if_neg h]

/-- The exponent's field. -/
def field (b : Nat) : Nat := b / 2 ^ 52 % 2048

theorem lexp_field (b : Nat) (e : Int) : lexp b e = e + norm2 b + ((field (norm1 b) : Nat) - 1023) := rfl
theorem norm2_bounds (b : Nat) : -52 ≤ norm2 b ∧ norm2 b ≤ 0 := by unfold norm2; split <;> omega
theorem field_lt (b : Nat) : field b ≤ 2047 := by unfold field; omega

theorem fin_built {b : Nat} {E : Int} (h1 : -1022 ≤ E) (h2 : E ≤ 1023) : fin (built b E) ∧ W (built b E) := by
  unfold fin W built
  have : (E + 1023).toNat * 2 ^ 52 + norm1 b % 2 ^ 52 < 2047 * 2 ^ 52 := by omega
  have h63 : (E + 1023).toNat * 2 ^ 52 + norm1 b % 2 ^ 52 < 2 ^ 63 := by omega
  rw [word_abs h63]
  exact ⟨this, word_lt h63⟩

theorem fin_facts {b : Nat} (hb : W b) (hf : fin b) (h0 : b % 2 ^ 63 ≠ 0) : feq b 0 = false ∧ nan b = false ∧ inf b = false ∧ W (norm1 b) ∧ sgn (norm1 b) = sgn b := by
  have hf' : b % 2 ^ 63 < top := hf
  obtain ⟨r, n1, n2, n3, _, _⟩ := norm_spec hb hf h0
  rw [top_eq] at n3 hf'
  refine ⟨?_, ?_, ?_, ?_, ?_⟩
  · rw [feq_zero hb]; exact decide_eq_false h0
  · unfold nan; rw [top_eq]; exact decide_eq_false (by omega)
  · unfold inf; rw [top_eq]; exact decide_eq_false (by omega)
  · rw [n1]; exact word_lt (by omega)
  · rw [n1]; exact word_sgn (by omega)

theorem built_or {b N : Nat} {E : Int} (hN : norm1 b = N) (hb : W b) (hf : fin b) (h0 : b % 2 ^ 63 ≠ 0) (h1 : -1022 ≤ E) (h2 : E ≤ 1023) :
    (N &&& (2 ^ 64 - 1 - 2047 * 2 ^ 52)) ||| ((E + 1023).toNat * 2 ^ 52) = built b E := by
  obtain ⟨_, _, _, w1, s1⟩ := fin_facts hb hf h0
  rw [hN] at w1 s1
  have hw := w1.lt
  -- the parts of N
  have m1 : N &&& (2 ^ 64 - 1 - 2047 * 2 ^ 52) = N / 2 ^ 63 * 2 ^ 63 + N % 2 ^ 52 := by
    have e1 : 2 ^ 64 - 1 - 2047 * 2 ^ 52 = 2 ^ 63 ||| (2 ^ 52 - 1) := by decide
    rw [e1, Nat.and_or_distrib_left, Nat.and_two_pow_sub_one_eq_mod]
    have e2 : N &&& 2 ^ 63 = N / 2 ^ 63 * 2 ^ 63 := by
      rw [nat_bit]
      have : N / 2 ^ 63 % 2 = N / 2 ^ 63 := by omega
      rw [this]
    rw [e2, Nat.mul_comm]
    exact (Nat.two_pow_add_eq_or_of_lt (by omega) _).symm
  rw [m1]
  unfold built
  rw [hN]
  obtain ⟨k, hk⟩ : ∃ k : Nat, (E + 1023).toNat = k := ⟨_, rfl⟩
  rw [hk]
  have hk2 : k < 2048 := by omega
  have sg : N / 2 ^ 63 = (sgn b).toNat := by
    rw [← s1]; unfold sgn
    by_cases h : 2 ^ 63 ≤ N
    · simp [h]; omega
    · simp [h]; omega
  rw [sg]
  have j1 : (sgn b).toNat * 2 ^ 63 + N % 2 ^ 52 ||| k * 2 ^ 52 = (sgn b).toNat * 2 ^ 63 + (k * 2 ^ 52 + N % 2 ^ 52) := by
    have a1 : (sgn b).toNat * 2 ^ 63 + N % 2 ^ 52 = 2 ^ 63 * (sgn b).toNat ||| N % 2 ^ 52 := by
      rw [Nat.mul_comm]; exact Nat.two_pow_add_eq_or_of_lt (by omega) _
    have a2 : N % 2 ^ 52 ||| k * 2 ^ 52 = k * 2 ^ 52 + N % 2 ^ 52 := by
      rw [Nat.or_comm, Nat.mul_comm]; exact (Nat.two_pow_add_eq_or_of_lt (by omega) _).symm
    rw [a1, Nat.or_assoc, a2]
    rw [Nat.mul_comm]
    rw [Nat.mul_comm _ (2 ^ 63)]
    exact (Nat.two_pow_add_eq_or_of_lt (by omega) _).symm
  rw [j1]
  unfold word
  cases sgn b
  · simp
  · simp

theorem ldx_zero {b : Nat} {e : Int} (hb : W b) (h0 : b % 2 ^ 63 = 0) : ldx b e = b := by
  unfold ldx
  rw [h0, if_pos (by rw [top_eq]; omega), mag_zero, Nat.zero_mul, nr_exact (r := 0) (by rw [mag_zero]; omega), Nat.min_eq_left (by omega)]
  have := word_of hb.lt
  rw [h0] at this
  exact this

theorem flt_norm1 {b : Nat} (hb : W b) (hf : fin b) (h0 : b % 2 ^ 63 ≠ 0) : flt (norm1 b) 0 = sgn b := by
  obtain ⟨r, n1, n2, n3, _, _⟩ := norm_spec hb hf h0
  obtain ⟨_, _, _, w1, s1⟩ := fin_facts hb hf h0
  rw [flt_eq w1.lt (by decide)]
  have e1 : nan 0 = false := by decide
  have e2 : dec 0 = 0 := by decide
  have e3 : nan (norm1 b) = false := by
    unfold nan; rw [n1, word_abs (by rw [top_eq] at n3; omega)]; exact decide_eq_false (by omega)
  rw [e1, e2, e3, n1]
  unfold dec word
  cases sgn b
  · simp; rw [top_eq] at n3; omega
  · simp; omega

end Go.Dy
