/-
  Plain facts: what package dir's 'rounded' works out, and that it is the number rounded, of a sign and a magnitude.
-/
import Derived.Test.YtfjomcbbgnaaiaaDyG
namespace Go.Dy
open Ieee

/-- 'float64(m)'. -/
def fi (m : Nat) : Nat := double.nearest false m 0

theorem mag_rdn_mul {m K : Nat} (h : m ≤ 2 ^ 53) : mag (rdn (m * 2 ^ K)) = m * 2 ^ K := by
  have key : ∀ m K : Nat, m < 2 ^ 53 → mag (rdn (m * 2 ^ K)) = m * 2 ^ K := by
    intro m K h
    by_cases h0 : m = 0
    · subst h0; rw [Nat.zero_mul]; decide
    · have h1 : 2 ^ m.log2 ≤ m := Nat.log2_self_le h0
      have h2 : m < 2 ^ (m.log2 + 1) := Nat.lt_log2_self
      have h3 : m.log2 < 53 := (Nat.log2_lt h0).2 h
      -- m by 2^(52 - log2 m) has 53 digits
      by_cases hk : 52 - m.log2 ≤ K
      · have e1 : m * 2 ^ K = m * 2 ^ (52 - m.log2) * 2 ^ (K - (52 - m.log2)) + 0 := by
          rw [Nat.mul_assoc, ← Nat.pow_add, Nat.add_zero]
          have : 52 - m.log2 + (K - (52 - m.log2)) = K := by omega
          rw [this]
        have b1 : 2 ^ 52 ≤ m * 2 ^ (52 - m.log2) := by
          have : 2 ^ 52 = 2 ^ m.log2 * 2 ^ (52 - m.log2) := by rw [← Nat.pow_add]; congr 1; omega
          rw [this]; exact Nat.mul_le_mul_right _ h1
        have b2 : m * 2 ^ (52 - m.log2) < 2 ^ 53 := by
          have : 2 ^ 53 = 2 ^ (m.log2 + 1) * 2 ^ (52 - m.log2) := by rw [← Nat.pow_add]; congr 1; omega
          rw [this]; exact Nat.mul_lt_mul_of_pos_right h2 (Nat.two_pow_pos _)
        rw [e1, rdn_form b1 b2 (Nat.two_pow_pos _)]
        generalize m * 2 ^ (52 - m.log2) = v at *
        obtain ⟨n, rfl⟩ : ∃ n, v = 2 ^ 52 + n := ⟨v - 2 ^ 52, by omega⟩
        rw [mag_form _ n (by omega), Nat.add_zero]
      · have b2 : m * 2 ^ K < 2 ^ 53 := by
          have p1 : m * 2 ^ K < 2 ^ (m.log2 + 1) * 2 ^ K := Nat.mul_lt_mul_of_pos_right h2 (Nat.two_pow_pos _)
          rw [← Nat.pow_add] at p1
          exact Nat.lt_of_lt_of_le p1 (Nat.pow_le_pow_right (by omega) (by omega))
        rw [rdn_low b2, mag_low b2]
  by_cases h1 : m < 2 ^ 53
  · exact key m K h1
  · have : m = 2 ^ 52 * 2 := by omega
    rw [this, Nat.mul_assoc, Nat.mul_comm 2, ← Nat.pow_succ]
    exact key (2 ^ 52) (K + 1) (by omega)

theorem mag_top : ∃ T, T = 2046 ∧ mag top = 2 ^ 52 * 2 ^ T := ⟨2046, rfl, by decide +kernel⟩
theorem one_pow : ∃ T, T = 1074 ∧ one = 2 ^ T := ⟨1074, rfl, one_eq⟩

theorem mag_rdn_one {m : Nat} (h : m ≤ 2 ^ 53) : mag (rdn (m * one)) = m * one := by
  obtain ⟨S, _, e⟩ := one_pow
  rw [e]; exact mag_rdn_mul h

theorem fi_spec {m : Nat} (h : m ≤ 2 ^ 53) : fin (fi m) ∧ W (fi m) ∧ sgn (fi m) = false ∧ mag (fi m % 2 ^ 63) = m * one := by
  have h1 : fi m = word false (min (nr (m * one) 0) top) := nearest_units false (e := 1074) (by omega) (by rw [one_eq])
  have h2 : nr (m * one) 0 = rdn (m * one) := nr_exact (by rw [mag_rdn_one h, Nat.pow_zero, Nat.mul_one])
  have h3 : rdn (m * one) < top := by
    have h4 : mag (rdn (m * one)) < mag top := by
      refine Nat.lt_of_le_of_lt (rdn_le _) ?_
      obtain ⟨T, hT, e1⟩ := mag_top
      obtain ⟨S, hS, e2⟩ := one_pow
      rw [e1, e2]
      have : m * 2 ^ S ≤ 2 ^ 53 * 2 ^ S := Nat.mul_le_mul_right _ h
      refine Nat.lt_of_le_of_lt this ?_
      rw [← Nat.pow_add, ← Nat.pow_add]
      exact Nat.pow_lt_pow_right (by omega) (by omega)
    exact mag_lt_iff.1 h4
  rw [h2, Nat.min_eq_left (Nat.le_of_lt h3)] at h1
  have h5 : rdn (m * one) < 2 ^ 63 := by rw [top_eq] at h3; omega
  refine ⟨?_, ?_, ?_, ?_⟩
  · unfold fin; rw [h1, word_abs h5]; exact h3
  · rw [h1]; exact word_lt h5
  · rw [h1, word_sgn h5]
  · rw [h1, word_abs h5, mag_rdn_one h]

/-- A whole number of at most 53 digits by a power of two: there is no rounding. -/
theorem ldx_fi {m K : Nat} {e : Int} (h : m ≤ 2 ^ 53) (he : e + 1074 = K) : ldx (fi m) e = min (rdn (m * 2 ^ K)) top := by
  obtain ⟨h1, h2, h3, h4⟩ := fi_spec h
  unfold ldx
  rw [if_pos (show fi m % 2 ^ 63 < top from h1), h3, h4]
  have : nr (m * one * 2 ^ e.toNat) (-e).toNat = rdn (m * 2 ^ K) := by
    rw [show rdn (m * 2 ^ K) = nr (m * 2 ^ K) 0 from (nr_exact (by rw [mag_rdn_mul h, Nat.pow_zero, Nat.mul_one])).symm]
    refine nr_congr 0 (-e).toNat (by omega) ?_
    obtain ⟨S, hS, e2⟩ := one_pow
    rw [e2, Nat.mul_assoc, Nat.mul_assoc, Nat.mul_assoc, ← Nat.pow_add, ← Nat.pow_add, ← Nat.pow_add]
    have l2 : S + (e.toNat + 0) = K + (-e).toNat := by omega
    rw [l2]
  rw [this]
  exact if_neg (by decide)

/-- The places that are cut off. -/
def cut (N : Nat) (e : Int) : Int := max (max ((blen N : Int) - 53) (-1074 - e)) 0
/-- The digits that are kept; with one more, where it is rounded away from 0. -/
def kept (N : Nat) (e : Int) : Nat := N / 2 ^ (cut N e).toNat
def inexact (N : Nat) (more : Bool) (e : Int) : Bool := lost N (cut N e).toNat || more
def mant (minus : Bool) (N : Nat) (more : Bool) (e : Int) (up : Bool) : Nat := kept N e + (if (up != minus) && inexact N more e then 1 else 0)

/-- Of the other sign. -/
def flip (b : Nat) : Nat := b ^^^ 2 ^ 63
theorem flip_low {r : Nat} (h : r < 2 ^ 63) : flip r = 2 ^ 63 + r := by
  have h1 : 2 ^ 63 + r = 2 ^ 63 ||| r := by
    have := Nat.two_pow_add_eq_or_of_lt h 1
    rw [Nat.mul_one] at this
    exact this
  unfold flip
  rw [h1]
  apply Nat.eq_of_testBit_eq
  intro i
  rw [Nat.testBit_xor, Nat.testBit_or, Nat.testBit_two_pow]
  by_cases hi : 63 = i
  · subst hi
    rw [Nat.testBit_lt_two_pow h]
    simp
  · simp [hi]
theorem flip_high {r : Nat} (h : r < 2 ^ 63) : flip (2 ^ 63 + r) = r := by
  rw [← flip_low h]
  unfold flip
  rw [Nat.xor_assoc, Nat.xor_self, Nat.xor_zero]

/-- dir.rounded. -/
def rnd (minus : Bool) (N : Nat) (more : Bool) (e : Int) (up : Bool) : Nat × Int :=
  let m := mant minus N more e up
  let f := e + cut N e
  if m = 0 then (0, 0)
  else if 1024 < (blen m : Int) + f then (if up != minus then (0, 10) else ((if minus then flip (ldx (fi 9007199254740991) 971) else ldx (fi 9007199254740991) 971), 0))
  else ((if minus then flip (ldx (fi m) f) else ldx (fi m) f), 0)

theorem kept_lt (N : Nat) (e : Int) : kept N e < 2 ^ 53 := by
  unfold kept
  rw [Nat.div_lt_iff_lt_mul (Nat.two_pow_pos _), ← Nat.pow_add, ← blen_le]
  unfold cut; omega

theorem mant_le (minus : Bool) (N : Nat) (more : Bool) (e : Int) (up : Bool) : mant minus N more e up ≤ 2 ^ 53 := by
  have := kept_lt N e
  unfold mant; split <;> omega

theorem enc_nat (r : Nat) : enc (r : Int) = r := by unfold enc; rw [if_pos (by omega)]; omega
theorem enc_neg {r : Nat} (h : r ≠ 0) (h2 : r < 2 ^ 63) : enc (-(r : Int)) = flip r := by
  unfold enc; rw [if_neg (by omega), flip_low h2]; omega

theorem big_test {m K : Nat} {f : Int} (h0 : m ≠ 0) (hf : f + 1074 = K) : 1024 < (blen m : Int) + f ↔ top ≤ rdn (m * 2 ^ K) := by
  obtain ⟨T, hT, e1⟩ := mag_top
  rw [le_rdn, e1]
  have hb : blen m = m.log2 + 1 := by unfold blen; rw [if_neg h0]
  have h1 : 2 ^ m.log2 ≤ m := Nat.log2_self_le h0
  have h2 : m < 2 ^ (m.log2 + 1) := Nat.lt_log2_self
  rw [hb, ← Nat.pow_add]
  constructor
  · intro h
    have h3 : 52 + T ≤ m.log2 + K := by omega
    refine Nat.le_trans (Nat.pow_le_pow_right (by omega) h3) ?_
    rw [Nat.pow_add]
    exact Nat.mul_le_mul_right _ h1
  · intro h
    have h4 : m * 2 ^ K < 2 ^ (m.log2 + 1 + K) := by
      rw [Nat.pow_add]; exact Nat.mul_lt_mul_of_pos_right h2 (Nat.two_pow_pos _)
    have h5 : 2 ^ (52 + T) < 2 ^ (m.log2 + 1 + K) := Nat.lt_of_le_of_lt h h4
    have h6 := (Nat.pow_lt_pow_iff_right (a := 2) (by omega)).1 h5
    omega

theorem ldx_top : ldx (fi 9007199254740991) 971 = top - 1 := by
  rw [ldx_fi (K := 2045) (by omega) (by omega)]
  have : rdn (9007199254740991 * 2 ^ 2045) = top - 1 := by decide +kernel
  rw [this]; decide

theorem out_top {z : Int} {up : Bool} (h : (top : Int) ≤ z) : out z up = if up then (0, 10) else (enc ((top - 1 : Nat) : Int), 0) := by
  unfold out; rw [if_pos h]; rfl
theorem out_bot {z : Int} {up : Bool} (h : z ≤ -(top : Int)) : out z up = if up then (enc (1 - (top : Int)), 0) else (0, 10) := by
  unfold out; rw [if_neg (by rw [top_eq] at *; omega), if_pos h]
theorem out_mid {z : Int} {up : Bool} (h : ok z) : out z up = (enc z, 0) := by
  unfold ok at h
  unfold out; rw [if_neg (by omega), if_neg (by omega)]

/-- What it is, by the rung of what is kept. -/
theorem rnd_out {minus : Bool} {N : Nat} {more : Bool} {e : Int} {up : Bool} {K : Nat} (hK : e + cut N e + 1074 = K) :
    rnd minus N more e up = out (if minus then -(rdn (mant minus N more e up * 2 ^ K) : Int) else (rdn (mant minus N more e up * 2 ^ K) : Int)) up := by
  have hm := mant_le minus N more e up
  unfold rnd
  dsimp only
  generalize mant minus N more e up = m at *
  generalize e + cut N e = f at *
  by_cases h0 : m = 0
  · subst h0
    rw [if_pos rfl, Nat.zero_mul]
    have : rdn 0 = 0 := by decide
    rw [this]
    cases minus <;> cases up <;> decide
  · rw [if_neg h0]
    have hR0 : rdn (m * 2 ^ K) ≠ 0 := by
      intro h
      have e1 := mag_rdn_mul (K := K) hm
      rw [h, mag_zero] at e1
      have := Nat.mul_pos (Nat.pos_of_ne_zero h0) (Nat.two_pow_pos K)
      omega
    have hb := big_test h0 hK
    have hl := ldx_fi hm hK
    rw [ldx_top, hl]
    generalize rdn (m * 2 ^ K) = R at *
    by_cases ht : top ≤ R
    · rw [if_pos (hb.2 ht)]
      cases minus
      · simp only [Bool.false_eq_true, if_false]
        rw [out_top (by omega)]
        cases up
        · exact congrArg (fun x => (x, (0 : Int))) (enc_nat (top - 1)).symm
        · rfl
      · simp only [if_true]
        rw [out_bot (by omega)]
        cases up
        · rfl
        · refine congrArg (fun x => (x, (0 : Int))) ?_
          have := enc_neg (r := top - 1) (by rw [top_eq]; omega) (by rw [top_eq]; omega)
          rw [← this]
          congr 1
    · rw [if_neg (fun h => ht (hb.1 h)), Nat.min_eq_left (by omega)]
      cases minus
      · simp only [Bool.false_eq_true, if_false]
        rw [out_mid ⟨by rw [top_eq]; omega, by omega⟩, enc_nat]
      · simp only [if_true]
        rw [out_mid ⟨by omega, by rw [top_eq]; omega⟩, enc_neg hR0 (by rw [top_eq] at ht; omega)]

/-- N (and something more) by 2^(i - j) is num by den. -/
def Is (N : Nat) (more : Bool) (i j num den : Nat) : Prop :=
  if more then N * 2 ^ i * den < num * 2 ^ j ∧ num * 2 ^ j < (N + 1) * 2 ^ i * den else N * 2 ^ i * den = num * 2 ^ j

theorem rnd_core {N : Nat} {more : Bool} {e : Int} {num den i j K : Nat} (hd : 0 < den) (he : e + 1074 = (i : Int) - j) (hK : e + cut N e + 1074 = K)
    (hIs : Is N more i j num den) (hmore : more = true → 53 ≤ blen N ∨ e ≤ -1074) :
    rdn (kept N e * 2 ^ K) = rdn (num / den) ∧
    (inexact N more e = false → num = mag (rdn (num / den)) * den) ∧
    (inexact N more e = true → mag (rdn (num / den)) * den < num ∧ rdn ((kept N e + 1) * 2 ^ K) = rdn (num / den) + 1) := by
  have hk53 := kept_lt N e
  obtain ⟨c, hc⟩ : ∃ c : Nat, cut N e = (c : Int) := ⟨(cut N e).toNat, by unfold cut; omega⟩
  have hcc : (cut N e).toNat = c := by omega
  have hsz : c = 0 ∨ K = 0 ∨ 2 ^ 52 ≤ kept N e := by
    by_cases h0 : c = 0
    · exact Or.inl h0
    · by_cases hk : K = 0
      · exact Or.inr (Or.inl hk)
      · right; right
        have hbl : (blen N : Int) - 53 = c := by unfold cut at hc; omega
        have : 2 ^ (52 + c) ≤ N := lt_blen.1 (by omega)
        unfold kept
        rw [hcc, Nat.le_div_iff_mul_le (Nat.two_pow_pos _), ← Nat.pow_add]
        exact this
  have hnorm : inexact N more e = true → K = 0 ∨ 2 ^ 52 ≤ kept N e := by
    intro hi
    rcases hsz with h | h | h
    · -- nothing is cut: then there is more
      unfold inexact lost at hi
      rw [hcc, h, Nat.pow_zero, Nat.mod_one] at hi
      simp at hi
      rcases hmore hi with h1 | h1
      · right
        have h2 : 2 ^ 52 ≤ N := lt_blen.1 (by omega)
        unfold kept; rw [hcc, h, Nat.pow_zero, Nat.div_one]; exact h2
      · left; rw [h] at hc; omega
    · exact Or.inl h
    · exact Or.inr h
  -- N = kept 2^c + rest
  have eN : N = kept N e * 2 ^ c + N % 2 ^ c := by
    unfold kept; rw [hcc, Nat.mul_comm]; exact (Nat.div_add_mod N (2 ^ c)).symm
  have hrest := Nat.mod_lt N (Nat.two_pow_pos c)
  have hinx : inexact N more e = (decide (N % 2 ^ c ≠ 0) || more) := by unfold inexact lost; rw [hcc]
  rw [hinx] at hnorm ⊢
  generalize N % 2 ^ c = x at *
  generalize kept N e = m at *
  have hij : c + i = K + j := by omega
  have p2 : 2 ^ c * 2 ^ i = 2 ^ K * 2 ^ j := by rw [← Nat.pow_add, ← Nat.pow_add, hij]
  have pj := Nat.two_pow_pos j
  -- bounds of num in units
  have lo : m * 2 ^ K * den ≤ num := by
    have h1 : m * 2 ^ K * den * 2 ^ j ≤ num * 2 ^ j := by
      have e1 : m * 2 ^ K * den * 2 ^ j = m * 2 ^ c * 2 ^ i * den := by
        rw [Nat.mul_assoc m, Nat.mul_assoc m, Nat.mul_assoc m, Nat.mul_assoc m]
        congr 1
        rw [p2, Nat.mul_right_comm]
      rw [e1]
      have e2 : m * 2 ^ c * 2 ^ i * den ≤ N * 2 ^ i * den := Nat.mul_le_mul_right _ (Nat.mul_le_mul_right _ (by omega))
      unfold Is at hIs
      split at hIs
      · omega
      · omega
    exact Nat.le_of_mul_le_mul_right h1 pj
  have hi : num < (m + 1) * 2 ^ K * den := by
    have h1 : num * 2 ^ j < (m + 1) * 2 ^ K * den * 2 ^ j := by
      have e1 : (m + 1) * 2 ^ K * den * 2 ^ j = (m + 1) * 2 ^ c * 2 ^ i * den := by
        rw [Nat.mul_assoc (m + 1), Nat.mul_assoc (m + 1), Nat.mul_assoc (m + 1), Nat.mul_assoc (m + 1)]
        congr 1
        rw [p2, Nat.mul_right_comm]
      rw [e1]
      have e2 : (N + 1) * 2 ^ i * den ≤ (m + 1) * 2 ^ c * 2 ^ i * den := by
        refine Nat.mul_le_mul_right _ (Nat.mul_le_mul_right _ ?_)
        rw [Nat.succ_mul]; omega
      unfold Is at hIs
      split at hIs
      · omega
      · have e3 : N * 2 ^ i * den < (N + 1) * 2 ^ i * den := Nat.mul_lt_mul_of_pos_right (Nat.mul_lt_mul_of_pos_right (by omega) (Nat.two_pow_pos _)) hd
        omega
    exact Nat.lt_of_mul_lt_mul_right h1
  have m53 : m ≤ 2 ^ 53 := by omega
  have exm := mag_rdn_mul (K := K) m53
  -- exact: equality
  have hex : (decide (x ≠ 0) || more) = false → num = m * 2 ^ K * den := by
    intro h
    simp at h
    obtain ⟨hx, hmo⟩ := h
    unfold Is at hIs
    rw [hmo] at hIs
    simp only [Bool.false_eq_true, if_false] at hIs
    have h1 : m * 2 ^ K * den * 2 ^ j = num * 2 ^ j := by
      rw [← hIs, eN, hx, Nat.add_zero, Nat.mul_assoc m, Nat.mul_assoc m, Nat.mul_assoc m, Nat.mul_assoc m]
      congr 1
      rw [p2, Nat.mul_right_comm]
    exact (Nat.eq_of_mul_eq_mul_right pj h1).symm
  have hin : (decide (x ≠ 0) || more) = true → m * 2 ^ K * den < num := by
    intro h
    rcases Nat.lt_or_eq_of_le lo with h1 | h1
    · exact h1
    · exfalso
      have e1 : m * 2 ^ c * 2 ^ i * den = num * 2 ^ j := by
        rw [← h1, Nat.mul_assoc m, Nat.mul_assoc m, Nat.mul_assoc m, Nat.mul_assoc m]
        congr 1
        rw [p2, Nat.mul_right_comm]
      have e2 : m * 2 ^ c * 2 ^ i * den ≤ N * 2 ^ i * den := Nat.mul_le_mul_right _ (Nat.mul_le_mul_right _ (by omega))
      unfold Is at hIs
      split at hIs
      · omega
      · rename_i hmo
        have hx : x ≠ 0 := by simpa [hmo] using h
        have e3 : m * 2 ^ c * 2 ^ i * den < N * 2 ^ i * den := Nat.mul_lt_mul_of_pos_right (Nat.mul_lt_mul_of_pos_right (by omega) (Nat.two_pow_pos _)) hd
        omega
  have q1 : rdn (m * 2 ^ K) ≤ rdn (num / den) := by
    rw [le_rdn, exm, Nat.le_div_iff_mul_le hd]; exact lo
  cases hi0 : (decide (x ≠ 0) || more)
  · have h1 := hex hi0
    have h2 : num / den = m * 2 ^ K := by rw [h1]; exact Nat.mul_div_cancel _ hd
    rw [h2]
    exact ⟨rfl, fun _ => by rw [exm]; exact h1, fun h => by cases h⟩
  · have h1 := hin hi0
    have hnm := hnorm hi0
    -- the next one
    have hsucc : rdn ((m + 1) * 2 ^ K) = rdn (m * 2 ^ K) + 1 := by
      have e1 := mag_rdn_mul (m := m + 1) (K := K) (by omega)
      have e2 := mag_succ (rdn (m * 2 ^ K))
      have e3 : 2 ^ (rdn (m * 2 ^ K) / 2 ^ 52 - 1) = 2 ^ K := by
        congr 1
        rcases hnm with h | h
        · subst h
          rw [Nat.pow_zero, Nat.mul_one, rdn_low hk53]
          omega
        · have := rdn_form (k := K) (m := m) (x := 0) h hk53 (Nat.two_pow_pos _)
          rw [Nat.add_zero] at this
          rw [this]; omega
      rw [e3, exm] at e2
      have e4 : mag (rdn ((m + 1) * 2 ^ K)) = mag (rdn (m * 2 ^ K) + 1) := by rw [e1, e2, Nat.succ_mul]
      have a := mag_le_iff.1 (Nat.le_of_eq e4)
      have b := mag_le_iff.1 (Nat.le_of_eq e4.symm)
      omega
    have q2 : rdn (num / den) = rdn (m * 2 ^ K) := by
      have e1 := mag_rdn_mul (m := m + 1) (K := K) (by omega)
      rw [hsucc] at e1
      have : ¬ (rdn (m * 2 ^ K) + 1 ≤ rdn (num / den)) := by
        rw [le_rdn, e1, Nat.le_div_iff_mul_le hd]; omega
      omega
    rw [q2]
    exact ⟨rfl, (fun h => by cases h), fun _ => ⟨by rw [exm]; exact h1, hsucc⟩⟩

/-- WHAT 'rounded' IS: the sign, and the magnitude, rounded. -/
theorem rnd_eq {minus : Bool} {N : Nat} {more : Bool} {e : Int} {up : Bool} {num den i j : Nat} (hd : 0 < den) (he : e + 1074 = (i : Int) - j)
    (hIs : Is N more i j num den) (hmore : more = true → 53 ≤ blen N ∨ e ≤ -1074) :
    rnd minus N more e up = out (rnk minus (num / den) (decide (num % den ≠ 0)) up) up := by
  obtain ⟨K, hK⟩ : ∃ K : Nat, e + cut N e + 1074 = K := ⟨(e + cut N e + 1074).toNat, by unfold cut; omega⟩
  obtain ⟨h1, h2, h3⟩ := rnd_core hd he hK hIs hmore
  rw [rnd_out hK]
  congr 1
  unfold rnk mant
  have hr : rdn ((kept N e + if (up != minus) && inexact N more e then 1 else 0) * 2 ^ K) = if up == minus then rdn (num / den) else rup (num / den) (decide (num % den ≠ 0)) := by
    by_cases hu : up = minus
    · subst hu
      simp [h1]
    · have e1 : (up != minus) = true := by simpa using hu
      have e2 : (up == minus) = false := by simpa using hu
      rw [e1, e2]
      simp only [Bool.true_and, Bool.false_eq_true, if_false]
      have emod := Nat.div_add_mod num den
      cases hi : inexact N more e
      · simp only [Bool.false_eq_true, if_false, Nat.add_zero]
        have hx := h2 hi
        have hq : num / den = mag (rdn (num / den)) := by
          conv => lhs; rw [hx]
          exact Nat.mul_div_cancel _ hd
        have hm0 : num % den = 0 := by rw [hx]; exact Nat.mul_mod_left _ _
        rw [h1, hm0]
        unfold rup
        rw [← hq]
        simp
      · simp only [if_true]
        obtain ⟨h4, h5⟩ := h3 hi
        rw [h5]
        unfold rup
        by_cases hm0 : num % den = 0
        · have : mag (rdn (num / den)) ≠ num / den := by
            intro h
            rw [h, Nat.mul_comm] at h4
            omega
          simp [hm0, this]
        · simp [hm0]
  rw [hr]

theorem wide_small {p q n : Nat} (h : Wide p q n) (hn : n < 2 ^ 53) : q = n := by
  obtain ⟨_, _, e⟩ := h
  unfold wd at e; omega

/-- dir.rounded, of what is kept. -/
def rnd' (minus up inx : Bool) (M : Nat) (f : Int) : Nat × Int :=
  let m := M + (if (up != minus) && inx then 1 else 0)
  if m = 0 then (0, 0)
  else if 1024 < (blen m : Int) + f then (if up != minus then (0, 10) else ((if minus then flip (ldx (fi 9007199254740991) 971) else ldx (fi 9007199254740991) 971), 0))
  else ((if minus then flip (ldx (fi m) f) else ldx (fi m) f), 0)

theorem rnd_rnd' (minus : Bool) (N : Nat) (more : Bool) (e : Int) (up : Bool) :
    rnd minus N more e up = rnd' minus up (lost N (cut N e).toNat || more) (kept N e) (e + cut N e) := rfl

theorem W_ldx {b : Nat} {e : Int} (h : W b) : W (ldx b e) := by
  unfold ldx
  split
  · exact word_lt (min_top_lt _)
  · exact h

section
variable {minus up L more : Bool} {M : Nat} {f : Int}
theorem r_z (h : up = minus) (z : ((M : Int) == 0) = true) : rnd' minus up (L || more) M f = (0, 0) := by
  subst h; unfold rnd'; simp at z; simp [z]
theorem r_bt (h : up = minus) (z : ((M : Int) == 0) = false) (b : 1024 < (blen M : Int) + f) (m : minus = true) : rnd' minus up (L || more) M f = (flip (ldx (fi 9007199254740991) 971), 0) := by
  subst h; unfold rnd'; simp at z; simp [z, b, m]
theorem r_bf (h : up = minus) (z : ((M : Int) == 0) = false) (b : 1024 < (blen M : Int) + f) (m : minus = false) : rnd' minus up (L || more) M f = (ldx (fi 9007199254740991) 971, 0) := by
  subst h; unfold rnd'; simp at z; simp [z, b, m]
theorem r_mt (h : up = minus) (z : ((M : Int) == 0) = false) (b : (blen M : Int) + f ≤ 1024) (m : minus = true) : rnd' minus up (L || more) M f = (flip (ldx (fi M) f), 0) := by
  subst h; unfold rnd'; have := Int.not_lt.2 b; simp at z; simp [z, this, m]
theorem r_mf (h : up = minus) (z : ((M : Int) == 0) = false) (b : (blen M : Int) + f ≤ 1024) (m : minus = false) : rnd' minus up (L || more) M f = (ldx (fi M) f, 0) := by
  subst h; unfold rnd'; have := Int.not_lt.2 b; simp at z; simp [z, this, m]
theorem r_no (h : ¬ up = minus) (c : (!(up == minus)) = false) : False := by simp at c; exact h c
theorem a_b (h : ¬ up = minus) (l : L = true) (b : 1024 < (blen (M + 1) : Int) + f) : rnd' minus up (L || more) M f = (0, 10) := by
  unfold rnd'; simp [h, l, b]
theorem a_mt (h : ¬ up = minus) (l : L = true) (b : (blen (M + 1) : Int) + f ≤ 1024) (m : minus = true) : rnd' minus up (L || more) M f = (flip (ldx (fi (M + 1)) f), 0) := by
  unfold rnd'; have := Int.not_lt.2 b; simp [h, l, this]; simp [m]
theorem a_mf (h : ¬ up = minus) (l : L = true) (b : (blen (M + 1) : Int) + f ≤ 1024) (m : minus = false) : rnd' minus up (L || more) M f = (ldx (fi (M + 1)) f, 0) := by
  unfold rnd'; have := Int.not_lt.2 b; simp [h, l, this]; simp [m]
theorem b_b (h : ¬ up = minus) (l : more = true) (b : 1024 < (blen (M + 1) : Int) + f) : rnd' minus up (L || more) M f = (0, 10) := by
  unfold rnd'; simp [h, l, b]
theorem b_mt (h : ¬ up = minus) (l : more = true) (b : (blen (M + 1) : Int) + f ≤ 1024) (m : minus = true) : rnd' minus up (L || more) M f = (flip (ldx (fi (M + 1)) f), 0) := by
  unfold rnd'; have := Int.not_lt.2 b; simp [h, l, this]; simp [m]
theorem b_mf (h : ¬ up = minus) (l : more = true) (b : (blen (M + 1) : Int) + f ≤ 1024) (m : minus = false) : rnd' minus up (L || more) M f = (ldx (fi (M + 1)) f, 0) := by
  unfold rnd'; have := Int.not_lt.2 b; simp [h, l, this]; simp [m]
theorem c_z (_h : ¬ up = minus) (l : L = false) (c : more = false) (z : ((M : Int) == 0) = true) : rnd' minus up (L || more) M f = (0, 0) := by
  unfold rnd'; simp at z; simp [l, c, z]
theorem c_b (h : ¬ up = minus) (l : L = false) (c : more = false) (z : ((M : Int) == 0) = false) (b : 1024 < (blen M : Int) + f) : rnd' minus up (L || more) M f = (0, 10) := by
  unfold rnd'; simp at z; simp [h, l, c, z, b]
theorem c_mt (_h : ¬ up = minus) (l : L = false) (c : more = false) (z : ((M : Int) == 0) = false) (b : (blen M : Int) + f ≤ 1024) (m : minus = true) : rnd' minus up (L || more) M f = (flip (ldx (fi M) f), 0) := by
  unfold rnd'; have := Int.not_lt.2 b; simp at z; simp [*]
theorem c_mf (_h : ¬ up = minus) (l : L = false) (c : more = false) (z : ((M : Int) == 0) = false) (b : (blen M : Int) + f ≤ 1024) (m : minus = false) : rnd' minus up (L || more) M f = (ldx (fi M) f, 0) := by
  unfold rnd'; have := Int.not_lt.2 b; simp at z; simp [*]
end

end Go.Dy
