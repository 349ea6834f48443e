/- Plain facts on float64 as ranks: rounding, sums, products, quotients, roots, next ones. -/
import Ieee.Arith
import Derived.Lib.BitFns
import Derived.Laws.BitsAllLaws
/-
  Plain facts on the numbers of a float64: ranks, the magnitude of a rank in units of 2^-1074, and rounding down or up to a rank. No program in sight.
-/
namespace Go.Dy

/-- The magnitude of rung r, in units of 2^-1074. -/
def mag (r : Nat) : Nat := if r < 2 ^ 52 then r else (2 ^ 52 + r % 2 ^ 52) * 2 ^ (r / 2 ^ 52 - 1)

/-- The rung of infinity. -/
def top : Nat := 2047 * 2 ^ 52

theorem mag_low {r : Nat} (h : r < 2 ^ 53) : mag r = r := by
  unfold mag
  split
  · rfl
  · rename_i h1
    have e1 : r / 2 ^ 52 = 1 := by omega
    rw [e1]
    show (2 ^ 52 + r % 2 ^ 52) * 1 = r
    omega

/-- A rung that is written out: (k + 1) binades, and n beyond. -/
theorem mag_form (k n : Nat) (hn : n < 2 ^ 52) : mag (k * 2 ^ 52 + (2 ^ 52 + n)) = (2 ^ 52 + n) * 2 ^ k := by
  unfold mag
  rw [if_neg (by omega)]
  have e1 : (k * 2 ^ 52 + (2 ^ 52 + n)) / 2 ^ 52 = k + 1 := by omega
  have e2 : (k * 2 ^ 52 + (2 ^ 52 + n)) % 2 ^ 52 = n := by omega
  rw [e1, e2]
  rfl

theorem mag_succ (r : Nat) : mag (r + 1) = mag r + 2 ^ (r / 2 ^ 52 - 1) := by
  by_cases h : r < 2 ^ 52
  · rw [mag_low (r := r) (by omega), mag_low (r := r + 1) (by omega)]
    have e1 : r / 2 ^ 52 = 0 := by omega
    rw [e1]
  · have hk : ∃ k n, n < 2 ^ 52 ∧ r = k * 2 ^ 52 + (2 ^ 52 + n) := ⟨r / 2 ^ 52 - 1, r % 2 ^ 52, by omega, by omega⟩
    obtain ⟨k, n, hn, rfl⟩ := hk
    have e1 : (k * 2 ^ 52 + (2 ^ 52 + n)) / 2 ^ 52 - 1 = k := by omega
    rw [e1, mag_form k n hn]
    by_cases hl : n + 1 < 2 ^ 52
    · have e2 : k * 2 ^ 52 + (2 ^ 52 + n) + 1 = k * 2 ^ 52 + (2 ^ 52 + (n + 1)) := by omega
      rw [e2, mag_form k (n + 1) hl, ← Nat.succ_mul]
      rfl
    · have e2 : k * 2 ^ 52 + (2 ^ 52 + n) + 1 = (k + 1) * 2 ^ 52 + (2 ^ 52 + 0) := by omega
      rw [e2, mag_form (k + 1) 0 (by omega), ← Nat.succ_mul, Nat.pow_succ]
      have e3 : (2 ^ 52 + n).succ = 2 ^ 52 * 2 := by omega
      rw [e3, Nat.mul_assoc, Nat.mul_comm 2 (2 ^ k)]
      rfl

theorem mag_lt_succ (r : Nat) : mag r < mag (r + 1) := by
  rw [mag_succ]
  have : 0 < 2 ^ (r / 2 ^ 52 - 1) := Nat.two_pow_pos _
  omega

theorem mag_lt {r s : Nat} (h : r < s) : mag r < mag s := by
  induction s with
  | zero => omega
  | succ s ih =>
    have := mag_lt_succ s
    by_cases e : r = s
    · rw [e]; exact this
    · exact Nat.lt_trans (ih (by omega)) this

theorem mag_lt_iff {r s : Nat} : mag r < mag s ↔ r < s := by
  constructor
  · intro h
    by_cases e : r < s
    · exact e
    · by_cases e2 : s = r
      · rw [e2] at h; omega
      · have := mag_lt (r := s) (s := r) (by omega); omega
  · exact mag_lt

theorem mag_le_iff {r s : Nat} : mag r ≤ mag s ↔ r ≤ s := by
  have := @mag_lt_iff s r
  omega

theorem mag_zero : mag 0 = 0 := by decide

/-- The rung at q, or the next one below. -/
def rdn (q : Nat) : Nat := (q.log2 - 52) * 2 ^ 52 + q >>> (q.log2 - 52)

theorem rdn_low {q : Nat} (h : q < 2 ^ 53) : rdn q = q := by
  unfold rdn
  have : q.log2 - 52 = 0 := by
    by_cases e : q = 0
    · subst e; decide
    · have := (Nat.log2_lt e (k := 53)).2 h; omega
  rw [this]
  simp

/-- q of more than 53 digits, its first ones m. -/
theorem log2_form {k m x : Nat} (hm : 2 ^ 52 ≤ m) (hm' : m < 2 ^ 53) (hx : x < 2 ^ k) : (m * 2 ^ k + x).log2 = 52 + k := by
  have hp : 0 < 2 ^ k := Nat.two_pow_pos _
  have ne : m * 2 ^ k + x ≠ 0 := by
    have : 1 * 1 ≤ m * 2 ^ k := Nat.mul_le_mul (by omega) hp
    omega
  have a1 : 2 ^ (52 + k) ≤ m * 2 ^ k + x := by
    rw [Nat.pow_add]
    exact Nat.le_trans (Nat.mul_le_mul_right _ hm) (Nat.le_add_right _ _)
  have a2 : m * 2 ^ k + x < 2 ^ (53 + k) := by
    rw [Nat.pow_add]
    have : (m + 1) * 2 ^ k ≤ 2 ^ 53 * 2 ^ k := Nat.mul_le_mul_right _ hm'
    rw [Nat.succ_mul] at this
    omega
  have b1 := (Nat.le_log2 ne (k := 52 + k)).2 a1
  have b2 := (Nat.log2_lt ne (k := 53 + k)).2 a2
  omega

theorem rdn_form {k m x : Nat} (hm : 2 ^ 52 ≤ m) (hm' : m < 2 ^ 53) (hx : x < 2 ^ k) : rdn (m * 2 ^ k + x) = k * 2 ^ 52 + m := by
  unfold rdn
  rw [log2_form hm hm' hx]
  have e1 : 52 + k - 52 = k := by omega
  rw [e1, Nat.shiftRight_eq_div_pow]
  have e2 : (m * 2 ^ k + x) / 2 ^ k = m := by
    rw [Nat.mul_comm, Nat.mul_add_div (Nat.two_pow_pos _), Nat.div_eq_of_lt hx]; rfl
  rw [e2]

/-- Each q is so. -/
theorem form_of (q : Nat) : q < 2 ^ 53 ∨ ∃ k m x, 2 ^ 52 ≤ m ∧ m < 2 ^ 53 ∧ x < 2 ^ k ∧ q = m * 2 ^ k + x := by
  by_cases h : q < 2 ^ 53
  · exact .inl h
  · refine .inr ⟨q.log2 - 52, q / 2 ^ (q.log2 - 52), q % 2 ^ (q.log2 - 52), ?_, ?_, Nat.mod_lt _ (Nat.two_pow_pos _), ?_⟩
    · have ne : q ≠ 0 := by omega
      have h52 : 52 ≤ q.log2 := (Nat.le_log2 ne).2 (by omega)
      rw [Nat.le_div_iff_mul_le (Nat.two_pow_pos _), ← Nat.pow_add]
      have : 52 + (q.log2 - 52) = q.log2 := by omega
      rw [this]
      exact Nat.log2_self_le ne
    · have ne : q ≠ 0 := by omega
      have h52 : 52 ≤ q.log2 := (Nat.le_log2 ne).2 (by omega)
      rw [Nat.div_lt_iff_lt_mul (Nat.two_pow_pos _), ← Nat.pow_add]
      have : 53 + (q.log2 - 52) = q.log2 + 1 := by omega
      rw [this]
      exact Nat.lt_log2_self
    · rw [Nat.mul_comm]; exact (Nat.div_add_mod _ _).symm

theorem rdn_le (q : Nat) : mag (rdn q) ≤ q := by
  rcases form_of q with h | ⟨k, m, x, h1, h2, h3, rfl⟩
  · rw [rdn_low h, mag_low h]; exact Nat.le_refl _
  · rw [rdn_form h1 h2 h3]
    obtain ⟨n, rfl⟩ : ∃ n, m = 2 ^ 52 + n := ⟨m - 2 ^ 52, by omega⟩
    rw [mag_form k n (by omega)]
    omega

theorem lt_rdn (q : Nat) : q < mag (rdn q + 1) := by
  rcases form_of q with h | ⟨k, m, x, h1, h2, h3, rfl⟩
  · rw [rdn_low h]
    have := mag_lt_succ q
    rw [mag_low h] at this
    exact this
  · rw [rdn_form h1 h2 h3, mag_succ]
    obtain ⟨n, rfl⟩ : ∃ n, m = 2 ^ 52 + n := ⟨m - 2 ^ 52, by omega⟩
    rw [mag_form k n (by omega)]
    have e1 : (k * 2 ^ 52 + (2 ^ 52 + n)) / 2 ^ 52 - 1 = k := by omega
    rw [e1]
    omega

theorem le_rdn {r q : Nat} : r ≤ rdn q ↔ mag r ≤ q := by
  constructor
  · intro h
    exact Nat.le_trans (mag_le_iff.2 h) (rdn_le q)
  · intro h
    have h1 := lt_rdn q
    have h2 : mag r < mag (rdn q + 1) := by omega
    have := mag_lt_iff.1 h2
    omega

theorem rdn_mag (r : Nat) : rdn (mag r) = r := by
  have h1 : r ≤ rdn (mag r) := le_rdn.2 (Nat.le_refl _)
  have h2 := mag_le_iff.1 (rdn_le (mag r))
  omega

/-- The rung of q and something more (if 's'), or the next one above. -/
def rup (q : Nat) (s : Bool) : Nat := if s || mag (rdn q) != q then rdn q + 1 else rdn q

theorem rup_le {r q : Nat} {s : Bool} : rup q s ≤ r ↔ (if s then q < mag r else q ≤ mag r) := by
  unfold rup
  have h1 := lt_rdn q
  have h2 := rdn_le q
  have h3 := @mag_le_iff (rdn q + 1) r
  have h4 := @mag_lt_iff (rdn q) r
  have h5 := @mag_le_iff (rdn q) r
  have h6 := @mag_lt_iff r (rdn q + 1)
  cases s
  · simp only [Bool.false_or, bne_iff_ne, ne_eq, Bool.false_eq_true, if_false]
    split
    · omega
    · omega
  · simp only [Bool.true_or, if_true]
    omega

/-- The number of a rank: minus of its rung for one below 0. -/
def V (z : Int) : Int := if 0 ≤ z then (mag z.toNat : Int) else -(mag (-z).toNat : Int)

theorem V_zero : V 0 = 0 := by decide

theorem V_nat (r : Nat) : V (r : Int) = (mag r : Int) := by
  unfold V
  rw [if_pos (by omega)]
  rfl

theorem V_neg (z : Int) : V (-z) = -V z := by
  unfold V
  by_cases h0 : z = 0
  · subst h0; decide
  · by_cases h : 0 ≤ z
    · rw [if_neg (by omega), if_pos h, Int.neg_neg]
    · rw [if_pos (by omega), if_neg h, Int.neg_neg]

theorem V_natAbs (z : Int) : (V z).natAbs = mag z.natAbs := by
  unfold V
  split
  · rename_i h
    have : z.toNat = z.natAbs := by omega
    rw [this]; omega
  · rename_i h
    have : (-z).toNat = z.natAbs := by omega
    rw [this]; omega

theorem V_lt {y z : Int} (h : y < z) : V y < V z := by
  unfold V
  by_cases h1 : 0 ≤ y
  · rw [if_pos h1, if_pos (by omega)]
    have := @mag_lt y.toNat z.toNat (by omega)
    omega
  · rw [if_neg h1]
    have p1 := @mag_lt 0 (-y).toNat (by omega)
    rw [mag_zero] at p1
    by_cases h2 : 0 ≤ z
    · rw [if_pos h2]
      omega
    · rw [if_neg h2]
      have := @mag_lt (-z).toNat (-y).toNat (by omega)
      omega

theorem V_lt_iff {y z : Int} : V y < V z ↔ y < z := by
  constructor
  · intro h
    by_cases e : y < z
    · exact e
    · by_cases e2 : z = y
      · rw [e2] at h; omega
      · have := @V_lt z y (by omega); omega
  · exact V_lt

theorem V_le_iff {y z : Int} : V y ≤ V z ↔ y ≤ z := by
  have := @V_lt_iff z y
  omega

theorem V_inj {y z : Int} (h : V y = V z) : y = z := by
  have h1 := (@V_le_iff y z).1 (by omega)
  have h2 := (@V_le_iff z y).1 (by omega)
  omega

theorem V_pos {z : Int} : 0 < V z ↔ 0 < z := by
  have := @V_lt_iff 0 z
  rw [V_zero] at this
  exact this

theorem V_nonneg {z : Int} : 0 ≤ V z ↔ 0 ≤ z := by
  have := @V_le_iff 0 z
  rw [V_zero] at this
  exact this

theorem V_eq_zero {z : Int} : V z = 0 ↔ z = 0 := by
  constructor
  · intro h
    have : V z = V 0 := by rw [V_zero]; exact h
    exact V_inj this
  · intro h; rw [h, V_zero]

/-- The rank of a sign and a magnitude q (and something more, if 's'), rounded up, or down. -/
def rnk (neg : Bool) (q : Nat) (s : Bool) (up : Bool) : Int :=
  let r : Nat := if up == neg then rdn q else rup q s
  if neg then -(r : Int) else (r : Int)

/-- num by den, rounded to a rank. -/
def fl (num : Int) (den : Nat) (up : Bool) : Int :=
  rnk (decide (num < 0)) (num.natAbs / den) (decide (num.natAbs % den ≠ 0)) up

end Go.Dy

/-
  Plain facts: rounding down and up to a rank, as an order tells it; the bits of a rank; what is a number.
-/
namespace Go.Dy

theorem V_ofNat_neg (r : Nat) : V (-(r : Int)) = -(mag r : Int) := by rw [V_neg, V_nat]

theorem le_of_nat {z : Int} {r : Nat} : z ≤ (r : Int) ↔ (z < 0 ∨ z.toNat ≤ r) := by omega

theorem ceil_cases (n den : Nat) (hd : 0 < den) : n = den * (n / den) + n % den ∧ n % den < den := ⟨(Nat.div_add_mod n den).symm, Nat.mod_lt _ hd⟩

theorem mul_le_div {a n den : Nat} (hd : 0 < den) : a ≤ n / den ↔ a * den ≤ n := Nat.le_div_iff_mul_le hd

/-- Of magnitudes: above the floor (or at it, if nothing is left) is above the quotient. -/
theorem rup_le_div {r n den : Nat} (hd : 0 < den) : rup (n / den) (decide (n % den ≠ 0)) ≤ r ↔ n ≤ mag r * den := by
  rw [rup_le]
  obtain ⟨h1, h2⟩ := ceil_cases n den hd
  by_cases hz : n % den = 0
  · simp only [hz, ne_eq, not_true_eq_false, decide_false, Bool.false_eq_true, if_false]
    rw [hz] at h1
    constructor
    · intro h
      have := Nat.mul_le_mul_left den h
      rw [Nat.mul_comm (mag r)]; omega
    · intro h
      have h3 : n / den * den ≤ mag r * den := by rw [Nat.mul_comm (n / den)]; omega
      exact Nat.le_of_mul_le_mul_right h3 hd
  · simp only [hz, ne_eq, not_false_eq_true, decide_true, if_true]
    constructor
    · intro h
      have := Nat.mul_le_mul_left den (Nat.succ_le_of_lt h)
      rw [Nat.mul_succ] at this
      rw [Nat.mul_comm (mag r)]; omega
    · intro h
      have : ¬ (mag r ≤ n / den) := by
        intro h4
        have := Nat.mul_le_mul_left den h4
        rw [Nat.mul_comm (mag r)] at h
        omega
      omega

theorem le_rdn_div {r n den : Nat} (hd : 0 < den) : r ≤ rdn (n / den) ↔ mag r * den ≤ n := by
  rw [le_rdn, mul_le_div hd]

theorem fl_down {z num : Int} {den : Nat} (hd : 0 < den) : z ≤ fl num den false ↔ V z * den ≤ num := by
  unfold fl rnk
  have hdi : (0 : Int) < den := by omega
  by_cases hn : num < 0
  · simp only [hn, decide_true, if_true]
    have e0 : (false == true) = false := rfl
    simp only [e0, Bool.false_eq_true, if_false]
    by_cases hz : 0 ≤ z
    · have h1 : ¬ z ≤ -((rup (num.natAbs / den) (decide (num.natAbs % den ≠ 0)) : Nat) : Int) ∨ (z = 0 ∧ rup (num.natAbs / den) (decide (num.natAbs % den ≠ 0)) = 0) := by omega
      have h2 : ¬ (V z * den ≤ num) := by
        have := V_nonneg.2 hz
        have := Int.mul_nonneg this (Int.le_of_lt hdi)
        omega
      rcases h1 with h1 | ⟨_, h1⟩
      · exact iff_of_false h1 h2
      · have := (rup_le_div (r := 0) (n := num.natAbs) hd).1 (by omega)
        rw [mag_zero] at this
        omega
    · obtain ⟨m, rfl⟩ : ∃ m : Nat, z = -(m : Int) := ⟨z.natAbs, by omega⟩
      rw [V_ofNat_neg]
      have := rup_le_div (r := m) (n := num.natAbs) hd
      have e : -(mag m : Int) * den = -((mag m * den : Nat) : Int) := by rw [Int.neg_mul]; simp
      rw [e]
      omega
  · simp only [hn, decide_false, Bool.false_eq_true, if_false]
    have e0 : (false == false) = true := rfl
    simp only [e0, if_true]
    by_cases hz : 0 ≤ z
    · obtain ⟨m, rfl⟩ : ∃ m : Nat, z = (m : Int) := ⟨z.toNat, by omega⟩
      rw [V_nat]
      have := le_rdn_div (r := m) (n := num.natAbs) hd
      have e : (mag m : Int) * den = ((mag m * den : Nat) : Int) := by simp
      rw [e]
      omega
    · have h2 : V z * den ≤ num := by
        have h3 : V z ≤ 0 := by
          have := (@V_le_iff z 0).2 (by omega)
          rw [V_zero] at this; exact this
        have := Int.mul_le_mul_of_nonneg_right h3 (Int.le_of_lt hdi)
        omega
      exact iff_of_true (by omega) h2

theorem fl_neg (num : Int) (den : Nat) (up : Bool) : fl (-num) den up = -fl num den (!up) := by
  unfold fl rnk
  rw [Int.natAbs_neg]
  by_cases h0 : num = 0
  · subst h0
    have e1 : (0 : Int).natAbs / den = 0 := by simp
    have e2 : (0 : Int).natAbs % den = 0 := by simp
    rw [e1, e2]
    cases up <;> decide
  · by_cases hn : num < 0
    · have h1 : ¬ (-num < 0) := by omega
      simp only [hn, h1, decide_true, decide_false, if_true, Bool.false_eq_true, if_false]
      cases up <;> simp
    · have h1 : (-num < 0) := by omega
      simp only [hn, h1, decide_true, decide_false, if_true, Bool.false_eq_true, if_false]
      cases up <;> simp

theorem fl_up {z num : Int} {den : Nat} (hd : 0 < den) : fl num den true ≤ z ↔ num ≤ V z * den := by
  have h1 := fl_neg (-num) den true
  rw [Int.neg_neg] at h1
  rw [h1]
  have h2 := @fl_down (-z) (-num) den hd
  rw [V_neg, Int.neg_mul] at h2
  have e : (!true) = false := rfl
  rw [e]
  omega

/-- What is a number rounds to itself. -/
theorem fl_V (z : Int) (den : Nat) (hd : 0 < den) (up : Bool) : fl (V z * den) den up = z := by
  have hdi : (0 : Int) < den := by omega
  cases up
  · have h1 := (@fl_down z (V z * den) den hd).2 (Int.le_refl _)
    have h2 := (@fl_down (fl (V z * den) den false) (V z * den) den hd).1 (Int.le_refl _)
    have h3 := V_le_iff.1 (Int.le_of_mul_le_mul_right h2 hdi)
    omega
  · have h1 := (@fl_up z (V z * den) den hd).2 (Int.le_refl _)
    have h2 := (@fl_up (fl (V z * den) den true) (V z * den) den hd).1 (Int.le_refl _)
    have h3 := V_le_iff.1 (Int.le_of_mul_le_mul_right h2 hdi)
    omega

theorem fl_le_up {num : Int} {den : Nat} (hd : 0 < den) : fl num den false ≤ fl num den true := by
  have hdi : (0 : Int) < den := by omega
  have h1 := (@fl_down (fl num den false) num den hd).1 (Int.le_refl _)
  have h2 := (@fl_up (fl num den true) num den hd).1 (Int.le_refl _)
  exact V_le_iff.1 (Int.le_of_mul_le_mul_right (Int.le_trans h1 h2) hdi)

theorem fl_up_le {num : Int} {den : Nat} (hd : 0 < den) : fl num den true ≤ fl num den false + 1 := by
  refine (fl_up hd).2 ?_
  have h1 : ¬ (fl num den false + 1 ≤ fl num den false) := by omega
  rw [fl_down hd] at h1
  omega

/-- The bits of a rank. -/
def enc (z : Int) : Nat := if 0 ≤ z then z.toNat else 2 ^ 63 + (-z).toNat

/-- The rank of bits. -/
def dec (b : Nat) : Int := if b < 2 ^ 63 then (b : Int) else -((b - 2 ^ 63 : Nat) : Int)

/-- Is it a number: finite, and not minus 0? -/
def right (b : Nat) : Bool := decide (b % 2 ^ 63 < top ∧ b ≠ 2 ^ 63)

/-- A rank of a number. -/
def ok (z : Int) : Prop := -(top : Int) < z ∧ z < top

theorem top_eq : top = 9218868437227405312 := by decide

theorem enc_lt {z : Int} (h : ok z) : enc z < 2 ^ 64 := by
  unfold ok at h; rw [top_eq] at h
  unfold enc; split <;> omega

theorem right_enc {z : Int} (h : ok z) : right (enc z) = true := by
  unfold ok at h; rw [top_eq] at h
  unfold right enc; rw [top_eq, decide_eq_true_eq]
  split
  · constructor <;> omega
  · constructor <;> omega

theorem dec_enc {z : Int} (h : ok z) : dec (enc z) = z := by
  unfold ok at h; rw [top_eq] at h
  unfold dec enc
  split
  · rw [if_pos (by omega)]; omega
  · rw [if_neg (by omega)]; omega

theorem enc_dec {b : Nat} (hb : b < 2 ^ 64) (h : right b = true) : enc (dec b) = b ∧ ok (dec b) := by
  unfold right at h; rw [decide_eq_true_eq, top_eq] at h
  unfold dec enc ok; rw [top_eq]
  split
  · rw [if_pos (by omega)]
    exact ⟨by omega, by omega, by omega⟩
  · rw [if_neg (by omega)]
    exact ⟨by omega, by omega, by omega⟩

theorem enc_inj {y z : Int} (hy : ok y) (hz : ok z) (h : enc y = enc z) : y = z := by
  rw [← dec_enc hy, ← dec_enc hz, h]

/-- The answer of a rank: the number and no error, or the least or greatest number, or that there is none (10). -/
def out (z : Int) (up : Bool) : Nat × Int :=
  if (top : Int) ≤ z then (if up then (0, 10) else (enc (top - 1), 0))
  else if z ≤ -(top : Int) then (if up then (enc (1 - (top : Int)), 0) else (0, 10))
  else (enc z, 0)

/-- One of it: 2^1074 units. -/
def one : Nat := 2 ^ 1074

def addR (a b : Int) (up : Bool) : Int := fl (V a + V b) 1 up
def mulR (a b : Int) (up : Bool) : Int := fl (V a * V b) one up
def divR (a b : Int) (up : Bool) : Int := if b < 0 then fl (-(V a * one)) (V b).natAbs up else fl (V a * one) (V b).natAbs up

/-- dir.Add .. as functions of bits. -/
def dAdd (a b : Nat) (up : Bool) : Nat × Int := if right a && right b then out (addR (dec a) (dec b) up) up else (0, 13)
def minus (b : Nat) : Nat := if b = 0 then 0 else if b < 2 ^ 63 then b + 2 ^ 63 else b - 2 ^ 63
def dSub (a b : Nat) (up : Bool) : Nat × Int := if right b then dAdd a (minus b) up else (0, 13)
def dMul (a b : Nat) (up : Bool) : Nat × Int := if right a && right b then out (mulR (dec a) (dec b) up) up else (0, 13)
def dDiv (a b : Nat) (up : Bool) : Nat × Int :=
  if !(right a && right b) then (0, 13) else if b = 0 then (0, 11) else out (divR (dec a) (dec b) up) up
def dNext (a : Nat) (up : Bool) : Nat × Int :=
  if right a then out (if up then dec a + 1 else dec a - 1) up else (0, 13)

end Go.Dy

/-
  Plain facts: what the words of a float64 stand for, and how two of them stand to each other, told by ranks.
-/
namespace Go.Dy
open Ieee

theorem d_signWeight : double.signWeight = 2 ^ 63 := rfl
theorem d_binade : double.binade = 2 ^ 52 := rfl
theorem d_infRung : double.infRung = top := rfl
theorem d_leastPlace : double.leastPlace = -1074 := rfl
theorem d_fractionBits : double.fractionBits = 52 := rfl

def sgn (b : Nat) : Bool := decide (2 ^ 63 ≤ b)
def nan (b : Nat) : Bool := decide (top < b % 2 ^ 63)
def inf (b : Nat) : Bool := decide (b % 2 ^ 63 = top)

theorem sgn_eq {b : Nat} (hb : b < 2 ^ 64) : (b / double.signWeight % 2 == 1) = sgn b := by
  rw [d_signWeight]
  unfold sgn
  rw [Bool.eq_iff_iff]
  simp only [beq_iff_eq, decide_eq_true_eq]
  omega

/-- A finite word: its magnitude is m times 2^e units. -/
theorem read_num {b : Nat} (hb : b < 2 ^ 64) (h : b % 2 ^ 63 < top) :
    ∃ m e : Nat, double.read b = .number (sgn b) m (-1074 + (e : Int)) ∧ mag (b % 2 ^ 63) = m * 2 ^ e := by
  unfold Format.read
  rw [sgn_eq hb, d_signWeight, d_binade, d_infRung, d_leastPlace]
  dsimp only
  by_cases h1 : b % 2 ^ 63 < 2 ^ 52
  · rw [if_pos h1]
    refine ⟨b % 2 ^ 63, 0, rfl, ?_⟩
    rw [mag_low (by omega), Nat.pow_zero, Nat.mul_one]
  · rw [if_neg h1, if_pos h]
    refine ⟨_, _, rfl, ?_⟩
    unfold mag
    rw [if_neg h1]

theorem read_inf {b : Nat} (hb : b < 2 ^ 64) (h : b % 2 ^ 63 = top) : double.read b = .infinity (sgn b) := by
  unfold Format.read
  rw [sgn_eq hb, d_signWeight, d_binade, d_infRung, d_leastPlace]
  dsimp only
  rw [h, top_eq, if_neg (by omega), if_neg (by omega), if_pos rfl]

theorem read_nan {b : Nat} (hb : b < 2 ^ 64) (h : top < b % 2 ^ 63) : double.read b = .nan (sgn b) (b % 2 ^ 63 - top) := by
  unfold Format.read
  rw [sgn_eq hb, d_signWeight, d_binade, d_infRung, d_leastPlace]
  dsimp only
  rw [top_eq] at h
  rw [top_eq, if_neg (by omega), if_neg (by omega), if_neg (by omega)]

theorem V_dec {b : Nat} (hb : b < 2 ^ 64) : V (dec b) = if sgn b then -(mag (b % 2 ^ 63) : Int) else (mag (b % 2 ^ 63) : Int) := by
  unfold dec sgn
  by_cases h : b < 2 ^ 63
  · have e : b % 2 ^ 63 = b := by omega
    rw [if_pos h, V_nat, e, if_neg (by simp only [decide_eq_true_eq]; omega)]
  · have e : b % 2 ^ 63 = b - 2 ^ 63 := by omega
    rw [if_neg h, V_ofNat_neg, e, if_pos (by simp only [decide_eq_true_eq]; omega)]

theorem signed_eq (s : Bool) (m k : Nat) : signed s m k = (if s then -1 else 1) * ((m * 2 ^ k : Nat) : Int) := by
  unfold signed
  rw [Nat.shiftLeft_eq]
  cases s
  · simp
  · simp

theorem cmp_int (x y : Int) : compare x y = if x < y then .lt else if x = y then .eq else .gt := rfl

theorem cmp_scale (x y : Int) (c : Int) (hc : 0 < c) : compare (x * c) (y * c) = compare x y := by
  rw [cmp_int, cmp_int]
  have h1 : x * c < y * c ↔ x < y := ⟨fun h => Int.lt_of_mul_lt_mul_right h (Int.le_of_lt hc), fun h => Int.mul_lt_mul_of_pos_right h hc⟩
  have h2 : x * c = y * c ↔ x = y := ⟨fun h => Int.eq_of_mul_eq_mul_right (by omega) h, fun h => by rw [h]⟩
  simp only [h1, h2]

theorem cmp_V (x y : Int) : compare (V x) (V y) = compare x y := by
  rw [cmp_int, cmp_int]
  have h1 := @V_lt_iff x y
  have h2 : V x = V y ↔ x = y := ⟨V_inj, fun h => by rw [h]⟩
  simp only [h1, h2]

theorem order_eq {a b : Nat} (ha : a < 2 ^ 64) (hb : b < 2 ^ 64) :
    double.order a b = if nan a || nan b then none else some (compare (dec a) (dec b)) := by
  unfold Format.order
  by_cases na : top < a % 2 ^ 63
  · rw [read_nan ha na, if_pos (by simp [nan, na])]
    rfl
  by_cases nb : top < b % 2 ^ 63
  · rw [read_nan hb nb, if_pos (by simp [nan, nb])]
    cases double.read a <;> rfl
  rw [if_neg (by simp [nan, na, nb])]
  have ea : a % 2 ^ 63 = top ∨ a % 2 ^ 63 < top := by omega
  have eb : b % 2 ^ 63 = top ∨ b % 2 ^ 63 < top := by omega
  rw [top_eq] at na nb
  rcases ea with ea | ea
  · rw [read_inf ha ea]
    rw [top_eq] at ea
    rcases eb with eb | eb
    · rw [read_inf hb eb]
      rw [top_eq] at eb
      show some (compare (sgn b).toNat (sgn a).toNat) = _
      unfold dec sgn
      by_cases p : a < 2 ^ 63 <;> by_cases q : b < 2 ^ 63
      · have := Nat.mod_eq_of_lt p; have := Nat.mod_eq_of_lt q
        obtain rfl : a = 9218868437227405312 := by omega
        obtain rfl : b = 9218868437227405312 := by omega
        decide
      · obtain rfl : a = 9218868437227405312 := by omega
        obtain rfl : b = 9218868437227405312 + 2 ^ 63 := by omega
        decide
      · obtain rfl : a = 9218868437227405312 + 2 ^ 63 := by omega
        obtain rfl : b = 9218868437227405312 := by omega
        decide
      · obtain rfl : a = 9218868437227405312 + 2 ^ 63 := by omega
        obtain rfl : b = 9218868437227405312 + 2 ^ 63 := by omega
        decide
    · obtain ⟨n, f, e2, _⟩ := read_num hb eb
      rw [e2]
      rw [top_eq] at eb
      show some (if sgn a then Ordering.lt else Ordering.gt) = _
      rw [cmp_int]
      unfold dec sgn
      by_cases p : a < 2 ^ 63 <;> by_cases q : b < 2 ^ 63
      · rw [if_pos p, if_pos q, if_neg (by simp only [decide_eq_true_eq]; omega), if_neg (by omega), if_neg (by omega)]
      · rw [if_pos p, if_neg q, if_neg (by simp only [decide_eq_true_eq]; omega), if_neg (by omega), if_neg (by omega)]
      · rw [if_neg p, if_pos q, if_pos (by simp only [decide_eq_true_eq]; omega), if_pos (by omega)]
      · rw [if_neg p, if_neg q, if_pos (by simp only [decide_eq_true_eq]; omega), if_pos (by omega)]
  · obtain ⟨m, e, e1, e1'⟩ := read_num ha ea
    rw [e1]
    rw [top_eq] at ea
    rcases eb with eb | eb
    · rw [read_inf hb eb]
      rw [top_eq] at eb
      show some (if sgn b then Ordering.gt else Ordering.lt) = _
      rw [cmp_int]
      unfold dec sgn
      by_cases p : a < 2 ^ 63 <;> by_cases q : b < 2 ^ 63
      · rw [if_pos p, if_pos q, if_neg (by simp only [decide_eq_true_eq]; omega), if_pos (by omega)]
      · rw [if_pos p, if_neg q, if_pos (by simp only [decide_eq_true_eq]; omega), if_neg (by omega), if_neg (by omega)]
      · rw [if_neg p, if_pos q, if_neg (by simp only [decide_eq_true_eq]; omega), if_pos (by omega)]
      · rw [if_neg p, if_neg q, if_pos (by simp only [decide_eq_true_eq]; omega), if_neg (by omega), if_neg (by omega)]
    · obtain ⟨n, f, e2, e2'⟩ := read_num hb eb
      rw [e2]
      show some (compare (signed (sgn a) m (-1074 + (e : Int) - min (-1074 + (e : Int)) (-1074 + (f : Int))).toNat) (signed (sgn b) n (-1074 + (f : Int) - min (-1074 + (e : Int)) (-1074 + (f : Int))).toNat)) = _
      congr 1
      rw [← cmp_V (dec a) (dec b), V_dec ha, V_dec hb, e1', e2', signed_eq, signed_eq]
      have k1 : (-1074 + (e : Int) - min (-1074 + (e : Int)) (-1074 + (f : Int))).toNat = e - min e f := by omega
      have k2 : (-1074 + (f : Int) - min (-1074 + (e : Int)) (-1074 + (f : Int))).toNat = f - min e f := by omega
      rw [k1, k2, ← cmp_scale _ _ ((2 ^ min e f : Nat) : Int) (by have := Nat.two_pow_pos (min e f); omega)]
      have p1 : m * 2 ^ (e - min e f) * 2 ^ min e f = m * 2 ^ e := by
        rw [Nat.mul_assoc, ← Nat.pow_add]
        have : e - min e f + min e f = e := by omega
        rw [this]
      have p2 : n * 2 ^ (f - min e f) * 2 ^ min e f = n * 2 ^ f := by
        rw [Nat.mul_assoc, ← Nat.pow_add]
        have : f - min e f + min e f = f := by omega
        rw [this]
      rw [Int.mul_assoc, Int.mul_assoc, ← Int.natCast_mul, ← Int.natCast_mul, p1, p2]
      congr 1
      · cases sgn a <;> simp
      · cases sgn b <;> simp

end Go.Dy

/-
  Plain facts: the comparisons of two words, by names.
-/
namespace Go.Dy
open Ieee

def feq (a b : Nat) : Bool := double.order a b == some .eq
def fne (a b : Nat) : Bool := double.order a b != some .eq
def flt (a b : Nat) : Bool := double.order a b == some .lt
def fgt (a b : Nat) : Bool := double.order a b == some .gt

theorem feq_eq {a b : Nat} (ha : a < 2 ^ 64) (hb : b < 2 ^ 64) : feq a b = (!nan a && !nan b && decide (dec a = dec b)) := by
  unfold feq
  rw [order_eq ha hb, cmp_int]
  cases nan a <;> cases nan b <;> simp
  split
  · rename_i h; simp; omega
  · split
    · rename_i h1 h2; simp [h2]
    · rename_i h1 h2; simp [h2]

theorem fne_eq (a b : Nat) : fne a b = !feq a b := rfl

theorem flt_eq {a b : Nat} (ha : a < 2 ^ 64) (hb : b < 2 ^ 64) : flt a b = (!nan a && !nan b && decide (dec a < dec b)) := by
  unfold flt
  rw [order_eq ha hb, cmp_int]
  cases nan a <;> cases nan b <;> simp
  split
  · rename_i h; simp [h]
  · split
    · rename_i h1 h2; simp [h2]
    · rename_i h1 h2; simp; omega

theorem fgt_eq {a b : Nat} (ha : a < 2 ^ 64) (hb : b < 2 ^ 64) : fgt a b = (!nan a && !nan b && decide (dec b < dec a)) := by
  unfold fgt
  rw [order_eq ha hb, cmp_int]
  cases nan a <;> cases nan b <;> simp
  split
  · rename_i h; simp; omega
  · split
    · rename_i h1 h2; simp [h2]
    · rename_i h1 h2; simp; omega

theorem nan_of_right {b : Nat} (h : right b = true) : nan b = false := by
  unfold right at h; unfold nan
  rw [decide_eq_true_eq] at h
  simp; omega

theorem nan_enc {z : Int} (h : ok z) : nan (enc z) = false := nan_of_right (right_enc h)

theorem feq_enc {y z : Int} (hy : ok y) (hz : ok z) : feq (enc y) (enc z) = decide (y = z) := by
  rw [feq_eq (enc_lt hy) (enc_lt hz), nan_enc hy, nan_enc hz, dec_enc hy, dec_enc hz]; rfl
theorem flt_enc {y z : Int} (hy : ok y) (hz : ok z) : flt (enc y) (enc z) = decide (y < z) := by
  rw [flt_eq (enc_lt hy) (enc_lt hz), nan_enc hy, nan_enc hz, dec_enc hy, dec_enc hz]; rfl
theorem fgt_enc {y z : Int} (hy : ok y) (hz : ok z) : fgt (enc y) (enc z) = decide (z < y) := by
  rw [fgt_eq (enc_lt hy) (enc_lt hz), nan_enc hy, nan_enc hz, dec_enc hy, dec_enc hz]; rfl

theorem fne_self {b : Nat} (hb : b < 2 ^ 64) : fne b b = nan b := by
  rw [fne_eq, feq_eq hb hb]
  cases nan b <;> simp

theorem fgt_max {b : Nat} (hb : b < 2 ^ 64) : fgt b 9218868437227405311 = (inf b && !sgn b) := by
  rw [fgt_eq hb (by decide)]
  have e1 : nan 9218868437227405311 = false := by decide
  have e2 : dec 9218868437227405311 = 9218868437227405311 := by decide
  rw [e1, e2, Bool.eq_iff_iff]
  unfold nan inf sgn dec
  rw [top_eq]
  simp
  split <;> omega

theorem flt_min {b : Nat} (hb : b < 2 ^ 64) : flt b 18442240474082181119 = (inf b && sgn b) := by
  rw [flt_eq hb (by decide)]
  have e1 : nan 18442240474082181119 = false := by decide
  have e2 : dec 18442240474082181119 = -9218868437227405311 := by decide
  rw [e1, e2, Bool.eq_iff_iff]
  unfold nan inf sgn dec
  rw [top_eq]
  simp
  split <;> omega

theorem feq_zero {b : Nat} (hb : b < 2 ^ 64) : feq b 0 = decide (b % 2 ^ 63 = 0) := by
  rw [feq_eq hb (by decide)]
  have e1 : nan 0 = false := by decide
  have e2 : dec 0 = 0 := by decide
  rw [e1, e2, Bool.eq_iff_iff]
  unfold nan dec
  rw [top_eq]
  simp
  split <;> omega

theorem right_parts {b : Nat} (hb : b < 2 ^ 64) : right b = (!nan b && !inf b && !(decide (b % 2 ^ 63 = 0) && sgn b)) := by
  rw [Bool.eq_iff_iff]
  unfold right nan inf sgn
  rw [top_eq]
  simp
  omega


/-- Without its sign. -/
def abs (b : Nat) : Nat := b % 2 ^ 63

theorem fgt_abs_max {b : Nat} (_hb : b < 2 ^ 64) : fgt (abs b) 9218868437227405311 = inf b := by
  have h1 : abs b < 2 ^ 64 := by unfold abs; omega
  rw [fgt_max h1, Bool.eq_iff_iff]
  unfold inf sgn abs
  simp
  omega

/-- A word of 64 bits. (Behind a name: a walk does not return where so great a number stands open.) -/
def W (b : Nat) : Prop := b < 2 ^ 64
theorem W.lt {b : Nat} (h : W b) : b < 2 ^ 64 := h

end Go.Dy

/-
  Plain facts: the length of a word; whole numbers of 128 bits by two words.
-/
namespace Go.Dy

/-- How many digits a number has. -/
def blen (x : Nat) : Nat := if x = 0 then 0 else x.log2 + 1

theorem blen_le {x k : Nat} : blen x ≤ k ↔ x < 2 ^ k := by
  unfold blen
  split
  · rename_i h
    have := Nat.two_pow_pos k
    omega
  · rename_i h
    have := Nat.log2_lt h (k := k)
    omega

theorem lt_blen {x k : Nat} : k < blen x ↔ 2 ^ k ≤ x := by
  have := @blen_le x k
  omega

theorem bitLenAux_blen : ∀ f x : Nat, x < 2 ^ f → Lib.bitLenAux f x = blen x
  | 0, x, h => by
    have : x = 0 := by simp at h; exact h
    subst this; rfl
  | f + 1, x, h => by
    unfold Lib.bitLenAux
    split
    · rename_i h0; subst h0; rfl
    · rename_i h0
      rw [bitLenAux_blen f (x / 2) (by rw [Nat.pow_succ] at h; omega)]
      unfold blen
      rw [if_neg h0, Nat.log2_def x]
      by_cases h2 : 2 ≤ x
      · rw [if_pos h2, if_neg (by omega)]; omega
      · rw [if_neg h2, if_pos (by omega)]

theorem bitLen_blen {x : Nat} (h : x < 2 ^ 64) : Lib.bitLen x = blen x := bitLenAux_blen 64 x h

/-- The number of two words. -/
def wd (h l : Nat) : Nat := h * 2 ^ 64 + l

/-- Two words, and the number that they are. -/
structure Wide (h l n : Nat) : Prop where
  hh : W h
  hl : W l
  eq : wd h l = n

theorem blen_zero : blen 0 = 0 := rfl

theorem blen_eq {x k : Nat} (h1 : 2 ^ k ≤ x) (h2 : x < 2 ^ (k + 1)) : blen x = k + 1 := by
  have a := (@blen_le x (k + 1)).2 h2
  have b := (@lt_blen x k).2 h1
  omega

theorem blen_mul_add {h l k : Nat} (hl : l < 2 ^ k) (h0 : 0 < h) : blen (h * 2 ^ k + l) = k + blen h := by
  have e : blen h = h.log2 + 1 := by unfold blen; rw [if_neg (by omega)]
  have h1 : 2 ^ h.log2 ≤ h := Nat.log2_self_le (by omega)
  have h2 : h + 1 ≤ 2 ^ (h.log2 + 1) := Nat.lt_log2_self
  have k1 : 2 ^ h.log2 * 2 ^ k ≤ h * 2 ^ k := Nat.mul_le_mul_right _ h1
  have k2 : (h + 1) * 2 ^ k ≤ 2 ^ (h.log2 + 1) * 2 ^ k := Nat.mul_le_mul_right _ h2
  rw [← Nat.pow_add] at k1 k2
  rw [Nat.succ_mul] at k2
  have e2 : h.log2 + 1 + k = h.log2 + k + 1 := by omega
  rw [e2] at k2
  have := @blen_eq (h * 2 ^ k + l) (h.log2 + k) (by omega) (by omega)
  omega

theorem blen_wd {h l : Nat} (hl : W l) (h0 : 0 < h) : blen (wd h l) = 64 + blen h := blen_mul_add hl.lt h0

theorem wd_zero (l : Nat) : wd 0 l = l := by unfold wd; omega

theorem wd_lt {h l : Nat} (hh : W h) (hl : W l) : wd h l < 2 ^ 128 := by
  have h1 := hh.lt; have h2 := hl.lt
  unfold wd
  omega

theorem wd_eq_zero {h l : Nat} : wd h l = 0 ↔ h = 0 ∧ l = 0 := by unfold wd; omega

theorem wd_inj {h l h' l' : Nat} (hl : W l) (hl' : W l') : wd h l = wd h' l' ↔ h = h' ∧ l = l' := by
  have h1 := hl.lt; have h2 := hl'.lt
  unfold wd; omega

theorem wd_lt_iff {h l h' l' : Nat} (hl : W l) (hl' : W l') : wd h l < wd h' l' ↔ h < h' ∨ h = h' ∧ l < l' := by
  have h1 := hl.lt; have h2 := hl'.lt
  unfold wd; omega

/-- The lower and the upper word of a number. -/
def lo64 (n : Nat) : Nat := n % 2 ^ 64
def hi64 (n : Nat) : Nat := n / 2 ^ 64
theorem W_lo64 (n : Nat) : W (lo64 n) := by unfold lo64 W; omega
theorem wd_hilo (n : Nat) : wd (hi64 n) (lo64 n) = n := by unfold wd hi64 lo64; omega
theorem W_hi64 {n : Nat} (h : n < 2 ^ 128) : W (hi64 n) := by
  unfold hi64 W
  omega

/-- A difference of words, and what is borrowed. -/
def subl (x y b : Nat) : Nat := (x + 2 ^ 64 - y - b) % 2 ^ 64
def subb (x y b : Nat) : Nat := if x < y + b then 1 else 0

theorem hi64_le {x y : Nat} (hx : W x) (hy : W y) : hi64 (x + y) ≤ 1 := by
  have h1 := hx.lt; have h2 := hy.lt
  unfold hi64; omega

theorem subb_le (x y b : Nat) : subb x y b ≤ 1 := by unfold subb; split <;> omega

theorem add_wide {h l h' l' n m : Nat} (a : Wide h l n) (b : Wide h' l' m) (hs : n + m < 2 ^ 128) :
    Wide (lo64 (h + h' + hi64 (l + l'))) (lo64 (l + l')) (n + m) := by
  refine ⟨W_lo64 _, W_lo64 _, ?_⟩
  obtain ⟨_, _, rfl⟩ := a
  obtain ⟨_, _, rfl⟩ := b
  have e : 2 ^ 128 = 18446744073709551616 * 18446744073709551616 := rfl
  rw [e] at hs
  unfold wd at hs
  unfold wd lo64 hi64
  have : h + h' + (l + l') / 2 ^ 64 < 2 ^ 64 := by omega
  omega

theorem sub_wide {h l h' l' n m : Nat} (a : Wide h l n) (b : Wide h' l' m) (hs : m ≤ n) :
    Wide (subl h h' (subb l l' 0)) (subl l l' 0) (n - m) := by
  obtain ⟨a1, a2, rfl⟩ := a
  obtain ⟨b1, b2, rfl⟩ := b
  have := a1.lt; have := a2.lt; have := b1.lt; have := b2.lt
  refine ⟨by unfold subl W; omega, by unfold subl W; omega, ?_⟩
  unfold wd at hs
  unfold wd subl subb
  split <;> omega

/-- Shifts of a word, by names. -/
def shr (a j : Nat) : Nat := a / 2 ^ j
def shl (a j : Nat) : Nat := lo64 (a * 2 ^ j)
theorem W_shr {a : Nat} (h : W a) (j : Nat) : W (shr a j) := Nat.lt_of_le_of_lt (Nat.div_le_self _ _) h.lt
theorem W_shl (a j : Nat) : W (shl a j) := W_lo64 _

theorem up_great {h l k : Nat} (hk : 64 ≤ k) : Wide (shl l (k - 64)) 0 (wd h l * 2 ^ k % 2 ^ 128) := by
  unfold shl
  refine ⟨W_lo64 _, by unfold W; omega, ?_⟩
  obtain ⟨j, rfl⟩ : ∃ j, k = j + 64 := ⟨k - 64, by omega⟩
  have e1 : j + 64 - 64 = j := by omega
  rw [e1, Nat.pow_add]
  unfold wd lo64
  have e2 : (h * 2 ^ 64 + l) * (2 ^ j * 2 ^ 64) = h * 2 ^ j * (2 ^ 64 * 2 ^ 64) + l * 2 ^ j * 2 ^ 64 := by
    rw [Nat.add_mul, Nat.mul_mul_mul_comm, ← Nat.mul_assoc l]
  rw [e2]
  generalize h * 2 ^ j = a
  generalize l * 2 ^ j = b
  omega

theorem pow_split {k n : Nat} (h : k ≤ n) : 2 ^ n = 2 ^ (n - k) * 2 ^ k := by rw [← Nat.pow_add]; congr 1; omega

theorem up_small {h l k : Nat} (hh : W h) (hl : W l) (hk : k < 64) :
    Wide (shl h k ||| shr l (64 - k)) (shl l k) (wd h l * 2 ^ k % 2 ^ 128) := by
  unfold shl shr
  have h1 := hh.lt; have h2 := hl.lt
  have p1 : 2 ^ 64 = 2 ^ (64 - k) * 2 ^ k := pow_split (by omega)
  have q1 : l / 2 ^ (64 - k) < 2 ^ k := by
    rw [Nat.div_lt_iff_lt_mul (Nat.two_pow_pos _), Nat.mul_comm, ← p1]; exact h2
  have m1 : lo64 (h * 2 ^ k) % 2 ^ k = 0 := by
    unfold lo64
    have : 2 ^ k ∣ h * 2 ^ k % 2 ^ 64 := (Nat.dvd_mod_iff (by rw [p1]; exact Nat.dvd_mul_left _ _)).2 (Nat.dvd_mul_left _ _)
    exact Nat.mod_eq_zero_of_dvd this
  have j1 : lo64 (h * 2 ^ k) ||| l / 2 ^ (64 - k) = lo64 (h * 2 ^ k) + l / 2 ^ (64 - k) := by
    have := Nat.two_pow_add_eq_or_of_lt q1 (lo64 (h * 2 ^ k) / 2 ^ k)
    have e := Nat.div_add_mod (lo64 (h * 2 ^ k)) (2 ^ k)
    rw [m1, Nat.add_zero] at e
    rw [e] at this
    exact this.symm
  have j2 : l * 2 ^ k / 2 ^ 64 = l / 2 ^ (64 - k) := by rw [p1, Nat.mul_div_mul_right _ _ (Nat.two_pow_pos _)]
  have j3 : lo64 (h * 2 ^ k) ||| l / 2 ^ (64 - k) < 2 ^ 64 := by
    refine Nat.or_lt_two_pow (W_lo64 _).lt ?_
    exact Nat.lt_of_le_of_lt (Nat.div_le_self _ _) h2
  refine ⟨j3, W_lo64 _, ?_⟩
  rw [j1] at j3 ⊢
  rw [← j2] at j3 ⊢
  unfold wd lo64 at *
  rw [Nat.add_mul (h * 2 ^ 64), Nat.mul_right_comm h]
  generalize h * 2 ^ k = a at *
  generalize l * 2 ^ k = b at *
  omega

theorem down_great {h l k : Nat} (hh : W h) (hl : W l) (hk : 64 ≤ k) : Wide 0 (shr h (k - 64)) (wd h l / 2 ^ k) := by
  unfold shr
  have h1 := hh.lt; have h2 := hl.lt
  refine ⟨by unfold W; omega, Nat.lt_of_le_of_lt (Nat.div_le_self _ _) h1, ?_⟩
  obtain ⟨j, rfl⟩ : ∃ j, k = j + 64 := ⟨k - 64, by omega⟩
  have e1 : j + 64 - 64 = j := by omega
  rw [e1, wd_zero, Nat.pow_add, Nat.mul_comm (2 ^ j), ← Nat.div_div_eq_div_mul]
  congr 1
  unfold wd; omega

theorem split_div (h l c P B : Nat) (hP : 0 < P) (hB : B = c * P) : (h * B + l) / P = h / P * B + (c * (h % P) + l / P) := by
  subst hB
  have e := Nat.div_add_mod h P
  have e3 : h * (c * P) + l = P * (h / P * (c * P) + c * (h % P)) + l := by
    have : h * (c * P) = P * (h / P * (c * P) + c * (h % P)) := by
      calc h * (c * P) = (P * (h / P) + h % P) * (c * P) := by rw [e]
        _ = P * (h / P) * (c * P) + h % P * (c * P) := Nat.add_mul _ _ _
        _ = P * (h / P * (c * P)) + P * (c * (h % P)) := by
          rw [Nat.mul_assoc]
          congr 1
          rw [← Nat.mul_assoc, Nat.mul_comm, Nat.mul_comm (h % P) c]
        _ = P * (h / P * (c * P) + c * (h % P)) := (Nat.mul_add _ _ _).symm
    rw [this]
  rw [e3, Nat.mul_add_div hP, Nat.add_assoc]

theorem down_small {h l k : Nat} (hh : W h) (hl : W l) (hk : k < 64) :
    Wide (shr h k) (shr l k ||| shl h (64 - k)) (wd h l / 2 ^ k) := by
  unfold shl shr
  have h1 := hh.lt; have h2 := hl.lt
  have p1 : 2 ^ 64 = 2 ^ (64 - k) * 2 ^ k := pow_split (by omega)
  have q1 : l / 2 ^ k < 2 ^ (64 - k) := by
    rw [Nat.div_lt_iff_lt_mul (Nat.two_pow_pos _), ← p1]; exact h2
  have m2 : lo64 (h * 2 ^ (64 - k)) = 2 ^ (64 - k) * (h % 2 ^ k) := by
    unfold lo64
    rw [p1, Nat.mul_comm h, Nat.mul_mod_mul_left]
  have j1 : l / 2 ^ k ||| lo64 (h * 2 ^ (64 - k)) = lo64 (h * 2 ^ (64 - k)) + l / 2 ^ k := by
    rw [m2, Nat.or_comm]
    exact (Nat.two_pow_add_eq_or_of_lt q1 (h % 2 ^ k)).symm
  have j3 : l / 2 ^ k ||| lo64 (h * 2 ^ (64 - k)) < 2 ^ 64 := by
    refine Nat.or_lt_two_pow ?_ (W_lo64 _).lt
    exact Nat.lt_of_le_of_lt (Nat.div_le_self _ _) h2
  refine ⟨Nat.lt_of_le_of_lt (Nat.div_le_self _ _) h1, j3, ?_⟩
  rw [j1, m2]
  unfold wd
  rw [split_div h l (2 ^ (64 - k)) (2 ^ k) (2 ^ 64) (Nat.two_pow_pos _) p1]

theorem up_back {n k : Nat} (hn : n < 2 ^ 128) : (n / 2 ^ k * 2 ^ k % 2 ^ 128 ≠ n) ↔ n % 2 ^ k ≠ 0 := by
  have e := Nat.div_add_mod n (2 ^ k)
  rw [Nat.mul_comm] at e
  have : n / 2 ^ k * 2 ^ k ≤ n := by omega
  rw [Nat.mod_eq_of_lt (by omega)]
  omega

/-- What is lost by a shift; how it is told: shifted back it is another number. -/
def lost (n k : Nat) : Bool := decide (n % 2 ^ k ≠ 0)
theorem lost_out {n k : Nat} (h : n < 2 ^ 128) (hk : 128 ≤ k) : lost n k = decide (n ≠ 0) := by
  unfold lost
  have : 2 ^ 128 ≤ 2 ^ k := Nat.pow_le_pow_right (by omega) hk
  rw [Nat.mod_eq_of_lt (by omega)]
theorem div_out {n k : Nat} (h : n < 2 ^ 128) (hk : 128 ≤ k) : n / 2 ^ k = 0 := by
  have : 2 ^ 128 ≤ 2 ^ k := Nat.pow_le_pow_right (by omega) hk
  exact Nat.div_eq_of_lt (by omega)
theorem lost_back {h l p q p' q' k : Nat} (hh : W h) (hl : W l) (a : Wide p q (wd h l / 2 ^ k)) (b : Wide p' q' (wd p q * 2 ^ k % 2 ^ 128)) :
    (!((p' : Int) == h) || !((q' : Int) == l)) = lost (wd h l) k := by
  have e := up_back (k := k) (wd_lt hh hl)
  rw [← a.eq, ← b.eq] at e
  have e2 := wd_inj (h := p') (h' := h) b.hl hl
  unfold lost
  rw [Bool.eq_iff_iff]
  simp only [Bool.or_eq_true, Bool.not_eq_true', beq_eq_false_iff_ne, decide_eq_true_eq]
  rw [← e]
  have e3 : wd p' q' ≠ wd h l ↔ ¬ (p' = h ∧ q' = l) := not_congr e2
  rw [e3]
  omega

end Go.Dy

/-
  Plain facts: the word nearest to a number, told by rungs.
-/
namespace Go.Dy
open Ieee

/-- The rung nearest to n by 2^j units; between two, the even one. -/
def nr (n j : Nat) : Nat :=
  let r := rdn (n / 2 ^ j)
  let mid := (mag r + mag (r + 1)) * 2 ^ j
  if mid < 2 * n then r + 1 else if 2 * n = mid ∧ r % 2 = 1 then r + 1 else r

theorem rdn_le_nr (n j : Nat) : rdn (n / 2 ^ j) ≤ nr n j := by
  unfold nr; dsimp only; split
  · omega
  · split <;> omega

theorem nr_le_succ (n j : Nat) : nr n j ≤ rdn (n / 2 ^ j) + 1 := by
  unfold nr; dsimp only; split
  · omega
  · split <;> omega

theorem nr_exact {r n j : Nat} (h : n = mag r * 2 ^ j) : nr n j = r := by
  have e : n / 2 ^ j = mag r := by rw [h]; exact Nat.mul_div_cancel _ (Nat.two_pow_pos _)
  unfold nr
  rw [e, rdn_mag]
  dsimp only
  have h1 := Nat.mul_lt_mul_of_pos_right (mag_lt_succ r) (Nat.two_pow_pos j)
  rw [Nat.add_mul, if_neg (by omega), if_neg (by omega)]

/-- What is not above a number's exact one is not above the nearest; and likewise below. -/
theorem le_nr {r n j : Nat} (h : mag r * 2 ^ j ≤ n) : r ≤ nr n j := by
  have : r ≤ rdn (n / 2 ^ j) := le_rdn.2 ((Nat.le_div_iff_mul_le (Nat.two_pow_pos _)).2 h)
  exact Nat.le_trans this (rdn_le_nr n j)

theorem nr_le {r n j : Nat} (h : n ≤ mag r * 2 ^ j) : nr n j ≤ r := by
  by_cases e : n = mag r * 2 ^ j
  · rw [nr_exact e]; exact Nat.le_refl _
  · have h1 : n / 2 ^ j < mag r := (Nat.div_lt_iff_lt_mul (Nat.two_pow_pos _)).2 (by omega)
    have h2 : mag (rdn (n / 2 ^ j)) < mag r := Nat.lt_of_le_of_lt (rdn_le _) h1
    have h3 := mag_lt_iff.1 h2
    have h4 := nr_le_succ n j
    omega

/-- 'n / 2 ^ d', the even one between two. -/
def even (n d : Nat) : Nat := if 2 ^ d < 2 * (n % 2 ^ d) ∨ 2 ^ d = 2 * (n % 2 ^ d) ∧ n / 2 ^ d % 2 = 1 then n / 2 ^ d + 1 else n / 2 ^ d

theorem cut_zero (neg : Bool) (n : Nat) : Toward.even.cut neg n 0 = n := by
  unfold Toward.cut
  simp
  omega

theorem cut_even (neg : Bool) (n d : Nat) : Toward.even.cut neg n d = even n d := by
  unfold Toward.cut
  dsimp only
  by_cases hd : d ≤ n.log2 + 2
  · rw [Nat.min_eq_left hd, Nat.shiftLeft_eq, Nat.one_mul]
    unfold even
    by_cases h1 : 2 ^ d < 2 * (n % 2 ^ d)
    · rw [if_pos (Or.inl h1)]; simp [h1]
    · by_cases h2 : 2 ^ d = 2 * (n % 2 ^ d) ∧ n / 2 ^ d % 2 = 1
      · rw [if_pos (Or.inr h2)]
        have : (2 ^ d == 2 * (n % 2 ^ d) && n / 2 ^ d % 2 == 1) = true := by simp [← h2.1, h2.2]
        rw [this]; simp
      · rw [if_neg (by intro h; rcases h with h | h <;> contradiction)]
        have : (2 ^ d == 2 * (n % 2 ^ d) && n / 2 ^ d % 2 == 1) = false := by
          rw [Bool.eq_false_iff]; intro h3; apply h2; simpa using h3
        rw [this]; simp [h1]
  · rw [Nat.min_eq_right (by omega), Nat.shiftLeft_eq, Nat.one_mul]
    have a1 : n < 2 ^ (n.log2 + 1) := Nat.lt_log2_self
    have a2 : 2 ^ (n.log2 + 2) ≤ 2 ^ d := Nat.pow_le_pow_right (by omega) (by omega)
    have a3 : 2 ^ (n.log2 + 2) = 2 * 2 ^ (n.log2 + 1) := by rw [Nat.pow_succ, Nat.mul_comm]
    have b1 : n < 2 ^ (n.log2 + 2) := by omega
    have b2 : n < 2 ^ d := by omega
    unfold even
    rw [Nat.mod_eq_of_lt b1, Nat.mod_eq_of_lt b2, Nat.div_eq_of_lt b1, Nat.div_eq_of_lt b2]
    rw [if_neg (by omega)]
    have c1 : ¬ 2 ^ (n.log2 + 2) < 2 * n := by omega
    simp [c1]

/-- The core: m by 2^d, at the binade K, where the first digits lie right. -/
theorem nr_core {m d K a j : Nat} (h1 : m / 2 ^ d < 2 ^ 53) (h2 : K = 0 ∨ 2 ^ 52 ≤ m / 2 ^ d) (ha : K + j = d + a) :
    nr (m * 2 ^ a) j = K * 2 ^ 52 + even m d := by
  have pd : 0 < 2 ^ d := Nat.two_pow_pos _
  have pa : 0 < 2 ^ a := Nat.two_pow_pos _
  have pj : 0 < 2 ^ j := Nat.two_pow_pos _
  have pK : 0 < 2 ^ K := Nat.two_pow_pos _
  have e1 : 2 ^ K * 2 ^ j = 2 ^ d * 2 ^ a := by rw [← Nat.pow_add, ← Nat.pow_add, ha]
  have em := Nat.div_add_mod m (2 ^ d)
  have hr := Nat.mod_lt m pd
  generalize hlow : m / 2 ^ d = low at *
  generalize hrest : m % 2 ^ d = rest at *
  have mr : ∀ x : Nat, x ≤ 2 ^ 53 → (x < 2 ^ 52 → K = 0) → mag (K * 2 ^ 52 + x) = x * 2 ^ K := by
    intro x hx hk
    by_cases hx2 : x < 2 ^ 52
    · rw [hk hx2, mag_low (by omega)]; simp
    · by_cases hx3 : x < 2 ^ 53
      · obtain ⟨y, rfl⟩ : ∃ y, x = 2 ^ 52 + y := ⟨x - 2 ^ 52, by omega⟩
        exact mag_form K y (by omega)
      · have : x = 2 ^ 53 := by omega
        subst this
        have e : K * 2 ^ 52 + 2 ^ 53 = (K + 1) * 2 ^ 52 + (2 ^ 52 + 0) := by omega
        rw [e, mag_form (K + 1) 0 (by omega), Nat.pow_succ]
        have : 2 ^ 53 = 2 ^ 52 * 2 := rfl
        rw [this, Nat.mul_assoc, Nat.mul_comm 2]
        rfl
  have m0 := mr low (by omega) (by omega)
  have m1 := mr (low + 1) (by omega) (by omega)
  have en : m * 2 ^ a = low * (2 ^ K * 2 ^ j) + rest * 2 ^ a := by
    rw [e1, ← em, Nat.add_mul, Nat.mul_comm (2 ^ d) low, Nat.mul_assoc]
  have hr2 : rest * 2 ^ a < 2 ^ K * 2 ^ j := by rw [e1]; exact Nat.mul_lt_mul_of_pos_right hr pa
  have er : rdn (m * 2 ^ a / 2 ^ j) = K * 2 ^ 52 + low := by
    have b1 : K * 2 ^ 52 + low ≤ rdn (m * 2 ^ a / 2 ^ j) := by
      rw [le_rdn, Nat.le_div_iff_mul_le pj, m0, en, Nat.mul_assoc]; omega
    have b2 : ¬ (K * 2 ^ 52 + (low + 1) ≤ rdn (m * 2 ^ a / 2 ^ j)) := by
      rw [le_rdn, Nat.le_div_iff_mul_le pj, m1, en, Nat.mul_assoc, Nat.succ_mul]; omega
    omega
  unfold nr
  dsimp only
  rw [er]
  have m1' : mag (K * 2 ^ 52 + low + 1) = (low + 1) * 2 ^ K := by rw [Nat.add_assoc]; exact m1
  rw [m0, m1']
  have emid : (low * 2 ^ K + (low + 1) * 2 ^ K) * 2 ^ j = 2 * (low * (2 ^ K * 2 ^ j)) + 2 ^ K * 2 ^ j := by
    rw [← Nat.add_mul, Nat.mul_assoc, ← Nat.mul_assoc 2, ← Nat.succ_mul]
    congr 1; omega
  rw [emid]
  have k1 : 2 * (low * (2 ^ K * 2 ^ j)) + 2 ^ K * 2 ^ j < 2 * (m * 2 ^ a) ↔ 2 ^ d < 2 * rest := by
    rw [en, e1]
    have : 2 ^ d * 2 ^ a < 2 * rest * 2 ^ a ↔ 2 ^ d < 2 * rest := Nat.mul_lt_mul_right pa
    rw [Nat.mul_assoc 2 rest] at this
    omega
  have k2 : 2 * (m * 2 ^ a) = 2 * (low * (2 ^ K * 2 ^ j)) + 2 ^ K * 2 ^ j ↔ 2 ^ d = 2 * rest := by
    rw [en, e1]
    have : 2 ^ d * 2 ^ a = 2 * rest * 2 ^ a ↔ 2 ^ d = 2 * rest := Nat.mul_left_inj (by omega)
    rw [Nat.mul_assoc 2 rest] at this
    omega
  unfold even
  rw [hlow, hrest]
  simp only [k1, k2]
  have par : (K * 2 ^ 52 + low) % 2 = low % 2 := by omega
  rw [par]
  by_cases c1 : 2 ^ d < 2 * rest
  · rw [if_pos c1, if_pos (Or.inl c1)]; omega
  · rw [if_neg c1]
    by_cases c2 : 2 ^ d = 2 * rest ∧ low % 2 = 1
    · rw [if_pos c2, if_pos (Or.inr c2)]; omega
    · rw [if_neg c2, if_neg (by intro h; rcases h with h | h <;> contradiction)]

/-- The word nearest to m by 2^place. -/
theorem nearest_eq (neg : Bool) (m : Nat) (place : Int) :
    double.nearest neg m place = double.word neg (min (nr (m * 2 ^ (place + 1074).toNat) (-(place + 1074)).toNat) top) := by
  unfold Format.nearest
  by_cases hm : m = 0
  · subst hm
    rw [if_pos rfl, Nat.zero_mul, nr_exact (r := 0) (by rw [mag_zero]; omega)]
    rw [Nat.min_eq_left (by omega)]
  · rw [if_neg hm, d_fractionBits, d_leastPlace, d_binade, d_infRung]
    dsimp only
    rw [cut_even]
    congr 2
    have hl1 : 2 ^ m.log2 ≤ m := Nat.log2_self_le hm
    have hl2 : m < 2 ^ (m.log2 + 1) := Nat.lt_log2_self
    have e52 : ((52 : Nat) : Int) = 52 := rfl
    rw [e52]
    generalize hlast : max (place + (m.log2 : Int) - 52) (-1074) = last
    by_cases hp : last ≤ place
    · -- nothing is dropped
      have ed : (last - place).toNat = 0 := by omega
      rw [ed]
      obtain ⟨c, hc⟩ : ∃ c : Nat, (place - last).toNat = c := ⟨_, rfl⟩
      obtain ⟨K, hK⟩ : ∃ K : Nat, (last - -1074).toNat = K := ⟨_, rfl⟩
      rw [hc, hK, Nat.shiftLeft_eq]
      have ea : (place + 1074).toNat = K + c := by omega
      have ej : (-(place + 1074)).toNat = 0 := by omega
      rw [ea, ej, Nat.pow_add, Nat.mul_comm (2 ^ K), ← Nat.mul_assoc]
      symm
      refine nr_core (m := m * 2 ^ c) (d := 0) (K := K) ?_ ?_ (by omega)
      · rw [Nat.pow_zero, Nat.div_one]
        have hc2 : m.log2 + 1 + c ≤ 53 := by omega
        have : m * 2 ^ c < 2 ^ (m.log2 + 1 + c) := by
          rw [Nat.pow_add]; exact Nat.mul_lt_mul_of_pos_right hl2 (Nat.two_pow_pos _)
        exact Nat.lt_of_lt_of_le this (Nat.pow_le_pow_right (by omega) hc2)
      · rw [Nat.pow_zero, Nat.div_one]
        by_cases h0 : K = 0
        · exact Or.inl h0
        · right
          have hc2 : 52 ≤ m.log2 + c := by omega
          have : 2 ^ (m.log2 + c) ≤ m * 2 ^ c := by
            rw [Nat.pow_add]; exact Nat.mul_le_mul_right _ hl1
          exact Nat.le_trans (Nat.pow_le_pow_right (by omega) hc2) this
    · have ec : (place - last).toNat = 0 := by omega
      rw [ec]
      obtain ⟨d, hd⟩ : ∃ d : Nat, (last - place).toNat = d := ⟨_, rfl⟩
      obtain ⟨K, hK⟩ : ∃ K : Nat, (last - -1074).toNat = K := ⟨_, rfl⟩
      rw [hd, hK, Nat.shiftLeft_eq, Nat.pow_zero, Nat.mul_one]
      symm
      refine nr_core (m := m) (d := d) (K := K) ?_ ?_ (by omega)
      · rw [Nat.div_lt_iff_lt_mul (Nat.two_pow_pos _), ← Nat.pow_add]
        exact Nat.lt_of_lt_of_le hl2 (Nat.pow_le_pow_right (by omega) (by omega))
      · by_cases h0 : K = 0
        · exact Or.inl h0
        · right
          rw [Nat.le_div_iff_mul_le (Nat.two_pow_pos _), ← Nat.pow_add]
          exact Nat.le_trans (Nat.pow_le_pow_right (by omega) (by omega)) hl1

end Go.Dy

/-
  Plain facts: products and sums to the nearest number; a number times a power of two, as math.Ldexp works it out.
-/
namespace Go.Dy
open Ieee

/-- The word of a sign and a rung. -/
def word (s : Bool) (r : Nat) : Nat := if s then 2 ^ 63 + r else r
theorem word_eq (s : Bool) (r : Nat) : double.word s r = word s r := rfl
theorem word_abs {s : Bool} {r : Nat} (h : r < 2 ^ 63) : word s r % 2 ^ 63 = r := by unfold word; split <;> omega
theorem word_sgn {s : Bool} {r : Nat} (h : r < 2 ^ 63) : sgn (word s r) = s := by
  unfold word sgn; cases s
  · simp; omega
  · simp
theorem word_lt {s : Bool} {r : Nat} (h : r < 2 ^ 63) : word s r < 2 ^ 64 := by unfold word; split <;> omega
theorem word_of {b : Nat} (hb : b < 2 ^ 64) : word (sgn b) (b % 2 ^ 63) = b := by
  unfold word sgn
  split
  · rename_i h; simp at h; omega
  · rename_i h; simp at h; omega
theorem min_top_lt (r : Nat) : min r top < 2 ^ 63 := by rw [top_eq]; omega

theorem nr_scale (n j k : Nat) : nr (n * 2 ^ k) (j + k) = nr n j := by
  unfold nr
  have pk := Nat.two_pow_pos k
  have e1 : n * 2 ^ k / 2 ^ (j + k) = n / 2 ^ j := by rw [Nat.pow_add, Nat.mul_div_mul_right _ _ pk]
  rw [e1]
  dsimp only
  rw [Nat.pow_add]
  generalize mag (rdn (n / 2 ^ j)) + mag (rdn (n / 2 ^ j) + 1) = s
  have e2 : s * (2 ^ j * 2 ^ k) < 2 * (n * 2 ^ k) ↔ s * 2 ^ j < 2 * n := by
    rw [← Nat.mul_assoc, ← Nat.mul_assoc]; exact Nat.mul_lt_mul_right pk
  have e3 : 2 * (n * 2 ^ k) = s * (2 ^ j * 2 ^ k) ↔ 2 * n = s * 2 ^ j := by
    rw [← Nat.mul_assoc, ← Nat.mul_assoc]; exact Nat.mul_left_inj (by omega)
  simp only [e2, e3]

theorem nr_congr {n j n' j' : Nat} (k k' : Nat) (hj : j + k = j' + k') (h : n * 2 ^ k = n' * 2 ^ k') : nr n j = nr n' j' := by
  rw [← nr_scale n j k, ← nr_scale n' j' k', h, hj]

theorem one_eq : one = 2 ^ 1074 := by decide +kernel
/-- 2^1021. -/
def big : Nat := 2 ^ 1021
theorem big_eq : big = 2 ^ 1021 := by decide +kernel
theorem nr_exact' {r n j p : Nat} (hp : p = 2 ^ j) (h : n = mag r * p) : nr n j = r := nr_exact (by rw [h, hp])
theorem nr_scale' {n j j' k p : Nat} (hp : p = 2 ^ k) (hj : j' = j + k) : nr (n * p) j' = nr n j := by rw [hp, hj, nr_scale]

/-- The nearest word, the number told in units of 2^-1074: m by 2^t. -/
theorem nearest_units (neg : Bool) {m n j : Nat} {place : Int} {e : Nat} (h : place + 1074 = (e : Int) - j) (hn : n = m * 2 ^ e) :
    double.nearest neg m place = word neg (min (nr n j) top) := by
  rw [nearest_eq, word_eq, hn]
  have : nr (m * 2 ^ (place + 1074).toNat) (-(place + 1074)).toNat = nr (m * 2 ^ e) j := by
    refine nr_congr j (-(place + 1074)).toNat (by omega) ?_
    rw [Nat.mul_assoc, Nat.mul_assoc, ← Nat.pow_add, ← Nat.pow_add]
    have l2 : (place + 1074).toNat + j = e + (-(place + 1074)).toNat := by omega
    rw [l2]
  rw [this]

def fmul (x y : Nat) : Nat := word (sgn x ^^ sgn y) (min (nr (mag (x % 2 ^ 63) * mag (y % 2 ^ 63)) 1074) top)

theorem mul_eq {x y : Nat} (hx : x < 2 ^ 64) (hy : y < 2 ^ 64) (fx : x % 2 ^ 63 < top) (fy : y % 2 ^ 63 < top) : double.mul x y = some (fmul x y) := by
  obtain ⟨m, e, r1, m1⟩ := read_num hx fx
  obtain ⟨n, f, r2, m2⟩ := read_num hy fy
  unfold Format.mul fmul
  rw [r1, r2]
  simp only [Datum.product, Option.map, Format.write]
  rw [nearest_units (e := e + f) (j := 1074) (n := mag (x % 2 ^ 63) * mag (y % 2 ^ 63)) _ (by omega) (by rw [m1, m2, Nat.pow_add, Nat.mul_mul_mul_comm])]

/-- x by 2^e, the nearest one. -/
def ldx (b : Nat) (e : Int) : Nat := if b % 2 ^ 63 < top then word (sgn b) (min (nr (mag (b % 2 ^ 63) * 2 ^ e.toNat) (-e).toNat) top) else b

/-- As math.normalize has it. -/
def norm1 (b : Nat) : Nat := if abs b < 2 ^ 52 then fmul b 4841369599423283200 else b
def norm2 (b : Nat) : Int := if abs b < 2 ^ 52 then -52 else 0

/-- The exponent that math.ldexp works out, and the fraction. -/
def lexp (b : Nat) (e : Int) : Int := e + norm2 b + ((norm1 b / 2 ^ 52 % 2048 : Nat) - 1023)

/-- A word that is put together. -/
def built (b : Nat) (E : Int) : Nat := word (sgn b) ((E + 1023).toNat * 2 ^ 52 + norm1 b % 2 ^ 52)

theorem norm_spec {b : Nat} (_hb : b < 2 ^ 64) (hf : b % 2 ^ 63 < top) (h0 : b % 2 ^ 63 ≠ 0) :
    ∃ r : Nat, norm1 b = word (sgn b) r ∧ 2 ^ 52 ≤ r ∧ r < top ∧ (abs b < 2 ^ 52 → mag r = mag (b % 2 ^ 63) * 2 ^ 52) ∧ (¬ abs b < 2 ^ 52 → r = b % 2 ^ 63) := by
  unfold norm1
  by_cases h : abs b < 2 ^ 52
  · rw [if_pos h]
    have ha : b % 2 ^ 63 < 2 ^ 52 := h
    have em : mag (b % 2 ^ 63) = b % 2 ^ 63 := mag_low (by omega)
    rw [em]
    generalize hq : b % 2 ^ 63 = q at *
    -- q by 2^52 is a number
    obtain ⟨r, hr1, hr2, hr3⟩ : ∃ r, mag r = q * 2 ^ 52 ∧ 2 ^ 52 ≤ r ∧ r < top := by
      refine ⟨rdn (q * 2 ^ 52), ?_, ?_, ?_⟩
      · have hl1 : 2 ^ q.log2 ≤ q := Nat.log2_self_le h0
        have hl2 : q < 2 ^ (q.log2 + 1) := Nat.lt_log2_self
        have hl3 : q.log2 < 52 := (Nat.log2_lt h0).2 ha
        have e1 : q * 2 ^ 52 = q * 2 ^ (52 - q.log2) * 2 ^ q.log2 + 0 := by
          rw [Nat.mul_assoc, ← Nat.pow_add]
          have : 52 - q.log2 + q.log2 = 52 := by omega
          rw [this, Nat.add_zero]
        have b1 : 2 ^ 52 ≤ q * 2 ^ (52 - q.log2) := by
          have : 2 ^ 52 = 2 ^ q.log2 * 2 ^ (52 - q.log2) := by
            rw [← Nat.pow_add]; congr 1; omega
          rw [this]; exact Nat.mul_le_mul_right _ hl1
        have b2 : q * 2 ^ (52 - q.log2) < 2 ^ 53 := by
          have : 2 ^ 53 = 2 ^ (q.log2 + 1) * 2 ^ (52 - q.log2) := by
            rw [← Nat.pow_add]; congr 1; omega
          rw [this]; exact Nat.mul_lt_mul_of_pos_right hl2 (Nat.two_pow_pos _)
        rw [e1, rdn_form b1 b2 (Nat.two_pow_pos _)]
        generalize q * 2 ^ (52 - q.log2) = v at *
        obtain ⟨n, rfl⟩ : ∃ n, v = 2 ^ 52 + n := ⟨v - 2 ^ 52, by omega⟩
        rw [mag_form _ n (by omega)]
        rfl
      · rw [le_rdn, mag_low (by omega)]
        omega
      · have h1 : mag (rdn (q * 2 ^ 52)) < mag (100 * 2 ^ 52) := by
          refine Nat.lt_of_le_of_lt (rdn_le _) ?_
          have : mag (100 * 2 ^ 52) = (2 ^ 52 + 0) * 2 ^ 99 := mag_form 99 0 (by omega)
          rw [this]
          omega
        have := mag_lt_iff.1 h1
        rw [top_eq]; omega
    refine ⟨r, ?_, hr2, hr3, fun _ => hr1, fun hn => absurd h hn⟩
    unfold fmul
    have c1 : (4841369599423283200 : Nat) % 2 ^ 63 = 4841369599423283200 := by decide
    have c2 : mag 4841369599423283200 = 2 ^ 52 * one := by decide +kernel
    have c3 : sgn 4841369599423283200 = false := by decide
    rw [c1, c2, c3, hq, em, ← Nat.mul_assoc, Bool.xor_false]
    have : nr (q * 2 ^ 52 * one) 1074 = r := nr_exact' one_eq (by rw [hr1])
    rw [this, Nat.min_eq_left (Nat.le_of_lt hr3)]
  · rw [if_neg h]
    refine ⟨b % 2 ^ 63, (word_of _hb).symm, ?_, hf, fun hn => absurd hn h, fun _ => rfl⟩
    unfold abs at h; omega

/-- A rung of the normal numbers, of its parts. -/
theorem mag_parts {r : Nat} (h : 2 ^ 52 ≤ r) : mag r = (2 ^ 52 + r % 2 ^ 52) * 2 ^ (r / 2 ^ 52 - 1) := by
  unfold mag; rw [if_neg (by omega)]

/-- The exact number, by the exponent. -/
theorem ldx_parts {b : Nat} {e : Int} (hb : b < 2 ^ 64) (hf : b % 2 ^ 63 < top) (h0 : b % 2 ^ 63 ≠ 0) :
    ∃ f : Nat, f < 2 ^ 52 ∧ norm1 b % 2 ^ 52 = f ∧ sgn (norm1 b) = sgn b ∧ norm1 b < 2 ^ 64 ∧
      (∀ j i : Nat, (lexp b e + 1022 = (i : Int) - j) → nr (mag (b % 2 ^ 63) * 2 ^ e.toNat) (-e).toNat = nr ((2 ^ 52 + f) * 2 ^ i) j) := by
  obtain ⟨r, h1, h2, h3, h4, h5⟩ := norm_spec hb hf h0
  have hr63 : r < 2 ^ 63 := by rw [top_eq] at h3; omega
  have e1 : norm1 b % 2 ^ 63 = r := by rw [h1, word_abs hr63]
  have e2 : norm1 b % 2 ^ 52 = r % 2 ^ 52 := by
    have : norm1 b % 2 ^ 63 % 2 ^ 52 = norm1 b % 2 ^ 52 := Nat.mod_mod_of_dvd _ ⟨2 ^ 11, by decide⟩
    rw [← this, e1]
  have e3 : norm1 b / 2 ^ 52 % 2048 = r / 2 ^ 52 := by
    have hw : norm1 b = r ∨ norm1 b = 2 ^ 63 + r := by
      rw [h1]; unfold word; split
      · exact Or.inr rfl
      · exact Or.inl rfl
    rw [top_eq] at h3
    rcases hw with hw | hw <;> rw [hw] <;> omega
  refine ⟨r % 2 ^ 52, Nat.mod_lt _ (by omega), e2, by rw [h1, word_sgn hr63], by rw [h1]; exact word_lt hr63, ?_⟩
  intro j i hij
  unfold lexp norm2 at hij
  rw [e3] at hij
  have hk : 1 ≤ r / 2 ^ 52 := by omega
  have mp := mag_parts h2
  generalize hK : r / 2 ^ 52 - 1 = K at mp
  have hK2 : ((r / 2 ^ 52 : Nat) : Int) = K + 1 := by omega
  rw [hK2] at hij
  generalize 2 ^ 52 + r % 2 ^ 52 = M at mp ⊢
  by_cases hs : abs b < 2 ^ 52
  · rw [if_pos hs] at hij
    have m1 := h4 hs
    rw [mp] at m1
    -- M 2^K = mag 2^52
    generalize mag (b % 2 ^ 63) = A at m1 ⊢
    refine nr_congr (52 + j) ((-e).toNat + 52) (by omega) ?_
    have l1 : A * 2 ^ e.toNat * 2 ^ (52 + j) = A * 2 ^ 52 * 2 ^ (e.toNat + j) := by
      rw [Nat.pow_add, Nat.pow_add, Nat.mul_assoc, Nat.mul_assoc, Nat.mul_left_comm (2 ^ e.toNat)]
    rw [l1, ← m1, Nat.mul_assoc, Nat.mul_assoc, ← Nat.pow_add, ← Nat.pow_add]
    have l2 : K + (e.toNat + j) = i + ((-e).toNat + 52) := by omega
    rw [l2]
  · rw [if_neg hs] at hij
    have m1 := h5 hs
    rw [m1] at mp
    rw [mp]
    refine nr_congr j (-e).toNat (by omega) ?_
    rw [Nat.mul_assoc, Nat.mul_assoc, Nat.mul_assoc, ← Nat.pow_add, ← Nat.pow_add, ← Nat.pow_add]
    have l2 : K + (e.toNat + j) = i + (-e).toNat := by omega
    rw [l2]

/-- Far below: nothing. -/
theorem ldx_low {b : Nat} {e : Int} (hb : b < 2 ^ 64) (hf : b % 2 ^ 63 < top) (h0 : b % 2 ^ 63 ≠ 0) (h : lexp b e < -1075) : ldx b e = word (sgn b) 0 := by
  obtain ⟨f, hf1, _, _, _, h6⟩ := ldx_parts (e := e) hb hf h0
  have h7 := h6 (-(lexp b e + 1022)).toNat 0 (by omega)
  unfold ldx
  rw [if_pos hf, h7]
  congr 1
  have hj : 54 ≤ (-(lexp b e + 1022)).toNat := by omega
  generalize (-(lexp b e + 1022)).toNat = j at hj
  have pj : 2 ^ 54 ≤ 2 ^ j := Nat.pow_le_pow_right (by omega) hj
  have : nr ((2 ^ 52 + f) * 2 ^ 0) j = 0 := by
    unfold nr
    have e1 : (2 ^ 52 + f) * 2 ^ 0 / 2 ^ j = 0 := by
      rw [Nat.pow_zero, Nat.mul_one]; exact Nat.div_eq_of_lt (by omega)
    rw [e1]
    have e2 : rdn 0 = 0 := by decide
    have e3 : mag (0 + 1) = 1 := by decide
    dsimp only
    rw [e2, e3, mag_zero, Nat.pow_zero, Nat.mul_one, if_neg (by omega), if_neg (by omega)]
  rw [this]; exact Nat.min_eq_left (by omega)

/-- Far above: infinity. -/
theorem ldx_high {b : Nat} {e : Int} (hb : b < 2 ^ 64) (hf : b % 2 ^ 63 < top) (h0 : b % 2 ^ 63 ≠ 0) (h : 1023 < lexp b e) : ldx b e = word (sgn b) top := by
  obtain ⟨f, hf1, _, _, _, h6⟩ := ldx_parts (e := e) hb hf h0
  have h7 := h6 0 (lexp b e + 1022).toNat (by omega)
  unfold ldx
  rw [if_pos hf, h7]
  congr 1
  have hi : 2046 ≤ (lexp b e + 1022).toNat := by omega
  generalize (lexp b e + 1022).toNat = i at hi
  refine Nat.min_eq_right (le_nr ?_)
  rw [Nat.pow_zero, Nat.mul_one]
  have : mag top ≤ (2 ^ 52 + 0) * 2 ^ i := by
    rw [← mag_form i 0 (by omega), mag_le_iff, top_eq]
    omega
  exact Nat.le_trans this (Nat.mul_le_mul_right _ (by omega))

theorem mag_built {f : Nat} {k : Nat} (hf : f < 2 ^ 52) : mag ((k + 1) * 2 ^ 52 + f) = (2 ^ 52 + f) * 2 ^ k := by
  have : (k + 1) * 2 ^ 52 + f = k * 2 ^ 52 + (2 ^ 52 + f) := by omega
  rw [this, mag_form k f hf]

/-- In between: a word that is put together, times 1. -/
theorem ldx_mid {b : Nat} {e : Int} (hb : b < 2 ^ 64) (hf : b % 2 ^ 63 < top) (h0 : b % 2 ^ 63 ≠ 0) (h1 : -1022 ≤ lexp b e) (h2 : lexp b e ≤ 1023) :
    ldx b e = fmul 4607182418800017408 (built b (lexp b e)) := by
  obtain ⟨f, hf1, hf2, _, _, h6⟩ := ldx_parts (e := e) hb hf h0
  have h7 := h6 0 (lexp b e + 1022).toNat (by omega)
  unfold ldx fmul built
  rw [if_pos hf, h7, hf2]
  obtain ⟨k, hk⟩ : ∃ k : Nat, (lexp b e + 1022).toNat = k := ⟨_, rfl⟩
  have hk2 : (lexp b e + 1023).toNat = k + 1 := by omega
  rw [hk, hk2]
  have c1 : (4607182418800017408 : Nat) % 2 ^ 63 = 4607182418800017408 := by decide
  have c2 : mag 4607182418800017408 = one := by decide +kernel
  have c3 : sgn 4607182418800017408 = false := by decide
  have hr : (k + 1) * 2 ^ 52 + f < 2 ^ 63 := by omega
  rw [c1, c2, c3, word_abs hr, word_sgn hr, mag_built hf1, Bool.false_xor, Nat.mul_comm one, nr_scale' (n := (2 ^ 52 + f) * 2 ^ k) (j := 0) one_eq (by omega)]

/-- And of the least ones: times 2^-53. -/
theorem ldx_sub {b : Nat} {e : Int} (hb : b < 2 ^ 64) (hf : b % 2 ^ 63 < top) (h0 : b % 2 ^ 63 ≠ 0) (h1 : -1075 ≤ lexp b e) (h2 : lexp b e < -1022) :
    ldx b e = fmul 4368491638549381120 (built b (lexp b e + 53)) := by
  obtain ⟨f, hf1, hf2, _, _, h6⟩ := ldx_parts (e := e) hb hf h0
  obtain ⟨k, hk⟩ : ∃ k : Nat, (lexp b e + 53 + 1022).toNat = k := ⟨_, rfl⟩
  have h7 := h6 53 k (by omega)
  unfold ldx fmul built
  rw [if_pos hf, h7, hf2]
  have hk2 : (lexp b e + 53 + 1023).toNat = k + 1 := by omega
  rw [hk2]
  have c1 : (4368491638549381120 : Nat) % 2 ^ 63 = 4368491638549381120 := by decide
  have c2 : mag 4368491638549381120 = big := by decide +kernel
  have c3 : sgn 4368491638549381120 = false := by decide
  have hr : (k + 1) * 2 ^ 52 + f < 2 ^ 63 := by omega
  rw [c1, c2, c3, word_abs hr, word_sgn hr, mag_built hf1, Bool.false_xor, Nat.mul_comm big, nr_scale' (n := (2 ^ 52 + f) * 2 ^ k) (j := 53) big_eq (by omega)]

theorem flt_abs_least {b : Nat} (_hb : b < 2 ^ 64) (hf : b % 2 ^ 63 < top) : flt (abs b) 4503599627370496 = decide (abs b < 2 ^ 52) := by
  have h1 : abs b < 2 ^ 64 := by unfold abs; omega
  rw [flt_eq h1 (by decide)]
  have e1 : nan 4503599627370496 = false := by decide
  have e2 : dec 4503599627370496 = 4503599627370496 := by decide
  rw [e1, e2, Bool.eq_iff_iff]
  unfold nan dec abs
  unfold top at hf ⊢
  simp
  split <;> omega

/-- A number that is finite. -/
def fin (b : Nat) : Prop := b % 2 ^ 63 < top

theorem norm2_sub {b : Nat} (h : abs b < 2 ^ 52) : norm2 b = -52 := by unfold norm2; rw [if_pos h]
theorem norm2_nor {b : Nat} (h : ¬ abs b < 2 ^ 52) : norm2 b = 0 := by unfold norm2; rw [if_neg h]
theorem norm1_sub {b : Nat} (h : abs b < 2 ^ 52) : norm1 b = fmul b 4841369599423283200 := by unfold norm1; rw [if_pos h]
theorem norm1_nor {b : Nat} (h : ¬ abs b < 2 ^ 52) : norm1 b = b := by unfold norm1; rw [if_neg h]

/-- The exponent's field. -/
def field (b : Nat) : Nat := b / 2 ^ 52 % 2048

theorem lexp_field (b : Nat) (e : Int) : lexp b e = e + norm2 b + ((field (norm1 b) : Nat) - 1023) := rfl
theorem norm2_bounds (b : Nat) : -52 ≤ norm2 b ∧ norm2 b ≤ 0 := by unfold norm2; split <;> omega
theorem field_lt (b : Nat) : field b ≤ 2047 := by unfold field; omega

theorem fin_built {b : Nat} {E : Int} (h1 : -1022 ≤ E) (h2 : E ≤ 1023) : fin (built b E) ∧ W (built b E) := by
  unfold fin W built
  have : (E + 1023).toNat * 2 ^ 52 + norm1 b % 2 ^ 52 < 2047 * 2 ^ 52 := by omega
  have h63 : (E + 1023).toNat * 2 ^ 52 + norm1 b % 2 ^ 52 < 2 ^ 63 := by omega
  rw [word_abs h63]
  exact ⟨this, word_lt h63⟩

theorem fin_facts {b : Nat} (hb : W b) (hf : fin b) (h0 : b % 2 ^ 63 ≠ 0) : feq b 0 = false ∧ nan b = false ∧ inf b = false ∧ W (norm1 b) ∧ sgn (norm1 b) = sgn b := by
  have hf' : b % 2 ^ 63 < top := hf
  obtain ⟨r, n1, n2, n3, _, _⟩ := norm_spec hb hf h0
  rw [top_eq] at n3 hf'
  refine ⟨?_, ?_, ?_, ?_, ?_⟩
  · rw [feq_zero hb]; exact decide_eq_false h0
  · unfold nan; rw [top_eq]; exact decide_eq_false (by omega)
  · unfold inf; rw [top_eq]; exact decide_eq_false (by omega)
  · rw [n1]; exact word_lt (by omega)
  · rw [n1]; exact word_sgn (by omega)

theorem built_or {b N : Nat} {E : Int} (hN : norm1 b = N) (hb : W b) (hf : fin b) (h0 : b % 2 ^ 63 ≠ 0) (h1 : -1022 ≤ E) (h2 : E ≤ 1023) :
    (N &&& (2 ^ 64 - 1 - 2047 * 2 ^ 52)) ||| ((E + 1023).toNat * 2 ^ 52) = built b E := by
  obtain ⟨_, _, _, w1, s1⟩ := fin_facts hb hf h0
  rw [hN] at w1 s1
  have hw := w1.lt
  -- the parts of N
  have m1 : N &&& (2 ^ 64 - 1 - 2047 * 2 ^ 52) = N / 2 ^ 63 * 2 ^ 63 + N % 2 ^ 52 := by
    have e1 : 2 ^ 64 - 1 - 2047 * 2 ^ 52 = 2 ^ 63 ||| (2 ^ 52 - 1) := by decide
    rw [e1, Nat.and_or_distrib_left, Nat.and_two_pow_sub_one_eq_mod]
    have e2 : N &&& 2 ^ 63 = N / 2 ^ 63 * 2 ^ 63 := by
      rw [nat_bit]
      have : N / 2 ^ 63 % 2 = N / 2 ^ 63 := by omega
      rw [this]
    rw [e2, Nat.mul_comm]
    exact (Nat.two_pow_add_eq_or_of_lt (by omega) _).symm
  rw [m1]
  unfold built
  rw [hN]
  obtain ⟨k, hk⟩ : ∃ k : Nat, (E + 1023).toNat = k := ⟨_, rfl⟩
  rw [hk]
  have hk2 : k < 2048 := by omega
  have sg : N / 2 ^ 63 = (sgn b).toNat := by
    rw [← s1]; unfold sgn
    by_cases h : 2 ^ 63 ≤ N
    · simp [h]; omega
    · simp [h]; omega
  rw [sg]
  have j1 : (sgn b).toNat * 2 ^ 63 + N % 2 ^ 52 ||| k * 2 ^ 52 = (sgn b).toNat * 2 ^ 63 + (k * 2 ^ 52 + N % 2 ^ 52) := by
    have a1 : (sgn b).toNat * 2 ^ 63 + N % 2 ^ 52 = 2 ^ 63 * (sgn b).toNat ||| N % 2 ^ 52 := by
      rw [Nat.mul_comm]; exact Nat.two_pow_add_eq_or_of_lt (by omega) _
    have a2 : N % 2 ^ 52 ||| k * 2 ^ 52 = k * 2 ^ 52 + N % 2 ^ 52 := by
      rw [Nat.or_comm, Nat.mul_comm]; exact (Nat.two_pow_add_eq_or_of_lt (by omega) _).symm
    rw [a1, Nat.or_assoc, a2]
    rw [Nat.mul_comm]
    rw [Nat.mul_comm _ (2 ^ 63)]
    exact (Nat.two_pow_add_eq_or_of_lt (by omega) _).symm
  rw [j1]
  unfold word
  cases sgn b
  · simp
  · simp

theorem ldx_zero {b : Nat} {e : Int} (hb : W b) (h0 : b % 2 ^ 63 = 0) : ldx b e = b := by
  unfold ldx
  rw [h0, if_pos (by rw [top_eq]; omega), mag_zero, Nat.zero_mul, nr_exact (r := 0) (by rw [mag_zero]; omega), Nat.min_eq_left (by omega)]
  have := word_of hb.lt
  rw [h0] at this
  exact this

theorem flt_norm1 {b : Nat} (hb : W b) (hf : fin b) (h0 : b % 2 ^ 63 ≠ 0) : flt (norm1 b) 0 = sgn b := by
  obtain ⟨r, n1, n2, n3, _, _⟩ := norm_spec hb hf h0
  obtain ⟨_, _, _, w1, s1⟩ := fin_facts hb hf h0
  rw [flt_eq w1.lt (by decide)]
  have e1 : nan 0 = false := by decide
  have e2 : dec 0 = 0 := by decide
  have e3 : nan (norm1 b) = false := by
    unfold nan; rw [n1, word_abs (by rw [top_eq] at n3; omega)]; exact decide_eq_false (by omega)
  rw [e1, e2, e3, n1]
  unfold dec word
  cases sgn b
  · simp; rw [top_eq] at n3; omega
  · simp; omega

end Go.Dy

/-
  Plain facts: what package dir's 'rounded' works out, and that it is the number rounded, of a sign and a magnitude.
-/
namespace Go.Dy
open Ieee

/-- 'float64(m)'. -/
def fi (m : Nat) : Nat := double.nearest false m 0

theorem mag_rdn_mul {m K : Nat} (h : m ≤ 2 ^ 53) : mag (rdn (m * 2 ^ K)) = m * 2 ^ K := by
  have key : ∀ m K : Nat, m < 2 ^ 53 → mag (rdn (m * 2 ^ K)) = m * 2 ^ K := by
    intro m K h
    by_cases h0 : m = 0
    · subst h0; rw [Nat.zero_mul]; decide
    · have h1 : 2 ^ m.log2 ≤ m := Nat.log2_self_le h0
      have h2 : m < 2 ^ (m.log2 + 1) := Nat.lt_log2_self
      have h3 : m.log2 < 53 := (Nat.log2_lt h0).2 h
      -- m by 2^(52 - log2 m) has 53 digits
      by_cases hk : 52 - m.log2 ≤ K
      · have e1 : m * 2 ^ K = m * 2 ^ (52 - m.log2) * 2 ^ (K - (52 - m.log2)) + 0 := by
          rw [Nat.mul_assoc, ← Nat.pow_add, Nat.add_zero]
          have : 52 - m.log2 + (K - (52 - m.log2)) = K := by omega
          rw [this]
        have b1 : 2 ^ 52 ≤ m * 2 ^ (52 - m.log2) := by
          have : 2 ^ 52 = 2 ^ m.log2 * 2 ^ (52 - m.log2) := by rw [← Nat.pow_add]; congr 1; omega
          rw [this]; exact Nat.mul_le_mul_right _ h1
        have b2 : m * 2 ^ (52 - m.log2) < 2 ^ 53 := by
          have : 2 ^ 53 = 2 ^ (m.log2 + 1) * 2 ^ (52 - m.log2) := by rw [← Nat.pow_add]; congr 1; omega
          rw [this]; exact Nat.mul_lt_mul_of_pos_right h2 (Nat.two_pow_pos _)
        rw [e1, rdn_form b1 b2 (Nat.two_pow_pos _)]
        generalize m * 2 ^ (52 - m.log2) = v at *
        obtain ⟨n, rfl⟩ : ∃ n, v = 2 ^ 52 + n := ⟨v - 2 ^ 52, by omega⟩
        rw [mag_form _ n (by omega), Nat.add_zero]
      · have b2 : m * 2 ^ K < 2 ^ 53 := by
          have p1 : m * 2 ^ K < 2 ^ (m.log2 + 1) * 2 ^ K := Nat.mul_lt_mul_of_pos_right h2 (Nat.two_pow_pos _)
          rw [← Nat.pow_add] at p1
          exact Nat.lt_of_lt_of_le p1 (Nat.pow_le_pow_right (by omega) (by omega))
        rw [rdn_low b2, mag_low b2]
  by_cases h1 : m < 2 ^ 53
  · exact key m K h1
  · have : m = 2 ^ 52 * 2 := by omega
    rw [this, Nat.mul_assoc, Nat.mul_comm 2, ← Nat.pow_succ]
    exact key (2 ^ 52) (K + 1) (by omega)

theorem mag_top : ∃ T, T = 2046 ∧ mag top = 2 ^ 52 * 2 ^ T := ⟨2046, rfl, by decide +kernel⟩
theorem one_pow : ∃ T, T = 1074 ∧ one = 2 ^ T := ⟨1074, rfl, one_eq⟩

theorem mag_rdn_one {m : Nat} (h : m ≤ 2 ^ 53) : mag (rdn (m * one)) = m * one := by
  obtain ⟨S, _, e⟩ := one_pow
  rw [e]; exact mag_rdn_mul h

theorem fi_spec {m : Nat} (h : m ≤ 2 ^ 53) : fin (fi m) ∧ W (fi m) ∧ sgn (fi m) = false ∧ mag (fi m % 2 ^ 63) = m * one := by
  have h1 : fi m = word false (min (nr (m * one) 0) top) := nearest_units false (e := 1074) (by omega) (by rw [one_eq])
  have h2 : nr (m * one) 0 = rdn (m * one) := nr_exact (by rw [mag_rdn_one h, Nat.pow_zero, Nat.mul_one])
  have h3 : rdn (m * one) < top := by
    have h4 : mag (rdn (m * one)) < mag top := by
      refine Nat.lt_of_le_of_lt (rdn_le _) ?_
      obtain ⟨T, hT, e1⟩ := mag_top
      obtain ⟨S, hS, e2⟩ := one_pow
      rw [e1, e2]
      have : m * 2 ^ S ≤ 2 ^ 53 * 2 ^ S := Nat.mul_le_mul_right _ h
      refine Nat.lt_of_le_of_lt this ?_
      rw [← Nat.pow_add, ← Nat.pow_add]
      exact Nat.pow_lt_pow_right (by omega) (by omega)
    exact mag_lt_iff.1 h4
  rw [h2, Nat.min_eq_left (Nat.le_of_lt h3)] at h1
  have h5 : rdn (m * one) < 2 ^ 63 := by rw [top_eq] at h3; omega
  refine ⟨?_, ?_, ?_, ?_⟩
  · unfold fin; rw [h1, word_abs h5]; exact h3
  · rw [h1]; exact word_lt h5
  · rw [h1, word_sgn h5]
  · rw [h1, word_abs h5, mag_rdn_one h]

/-- A whole number of at most 53 digits by a power of two: there is no rounding. -/
theorem ldx_fi {m K : Nat} {e : Int} (h : m ≤ 2 ^ 53) (he : e + 1074 = K) : ldx (fi m) e = min (rdn (m * 2 ^ K)) top := by
  obtain ⟨h1, h2, h3, h4⟩ := fi_spec h
  unfold ldx
  rw [if_pos (show fi m % 2 ^ 63 < top from h1), h3, h4]
  have : nr (m * one * 2 ^ e.toNat) (-e).toNat = rdn (m * 2 ^ K) := by
    rw [show rdn (m * 2 ^ K) = nr (m * 2 ^ K) 0 from (nr_exact (by rw [mag_rdn_mul h, Nat.pow_zero, Nat.mul_one])).symm]
    refine nr_congr 0 (-e).toNat (by omega) ?_
    obtain ⟨S, hS, e2⟩ := one_pow
    rw [e2, Nat.mul_assoc, Nat.mul_assoc, Nat.mul_assoc, ← Nat.pow_add, ← Nat.pow_add, ← Nat.pow_add]
    have l2 : S + (e.toNat + 0) = K + (-e).toNat := by omega
    rw [l2]
  rw [this]
  exact if_neg (by decide)

/-- The places that are cut off. -/
def cut (N : Nat) (e : Int) : Int := max (max ((blen N : Int) - 53) (-1074 - e)) 0
/-- The digits that are kept; with one more, where it is rounded away from 0. -/
def kept (N : Nat) (e : Int) : Nat := N / 2 ^ (cut N e).toNat
def inexact (N : Nat) (more : Bool) (e : Int) : Bool := lost N (cut N e).toNat || more
def mant (minus : Bool) (N : Nat) (more : Bool) (e : Int) (up : Bool) : Nat := kept N e + (if (up != minus) && inexact N more e then 1 else 0)

/-- Of the other sign. -/
def flip (b : Nat) : Nat := b ^^^ 2 ^ 63
theorem flip_low {r : Nat} (h : r < 2 ^ 63) : flip r = 2 ^ 63 + r := by
  have h1 : 2 ^ 63 + r = 2 ^ 63 ||| r := by
    have := Nat.two_pow_add_eq_or_of_lt h 1
    rw [Nat.mul_one] at this
    exact this
  unfold flip
  rw [h1]
  apply Nat.eq_of_testBit_eq
  intro i
  rw [Nat.testBit_xor, Nat.testBit_or, Nat.testBit_two_pow]
  by_cases hi : 63 = i
  · subst hi
    rw [Nat.testBit_lt_two_pow h]
    simp
  · simp [hi]
theorem flip_high {r : Nat} (h : r < 2 ^ 63) : flip (2 ^ 63 + r) = r := by
  rw [← flip_low h]
  unfold flip
  rw [Nat.xor_assoc, Nat.xor_self, Nat.xor_zero]

/-- dir.rounded. -/
def rnd (minus : Bool) (N : Nat) (more : Bool) (e : Int) (up : Bool) : Nat × Int :=
  let m := mant minus N more e up
  let f := e + cut N e
  if m = 0 then (0, 0)
  else if 1024 < (blen m : Int) + f then (if up != minus then (0, 10) else ((if minus then flip (ldx (fi 9007199254740991) 971) else ldx (fi 9007199254740991) 971), 0))
  else ((if minus then flip (ldx (fi m) f) else ldx (fi m) f), 0)

theorem kept_lt (N : Nat) (e : Int) : kept N e < 2 ^ 53 := by
  unfold kept
  rw [Nat.div_lt_iff_lt_mul (Nat.two_pow_pos _), ← Nat.pow_add, ← blen_le]
  unfold cut; omega

theorem mant_le (minus : Bool) (N : Nat) (more : Bool) (e : Int) (up : Bool) : mant minus N more e up ≤ 2 ^ 53 := by
  have := kept_lt N e
  unfold mant; split <;> omega

theorem enc_nat (r : Nat) : enc (r : Int) = r := by unfold enc; rw [if_pos (by omega)]; omega
theorem enc_neg {r : Nat} (h : r ≠ 0) (h2 : r < 2 ^ 63) : enc (-(r : Int)) = flip r := by
  unfold enc; rw [if_neg (by omega), flip_low h2]; omega

theorem big_test {m K : Nat} {f : Int} (h0 : m ≠ 0) (hf : f + 1074 = K) : 1024 < (blen m : Int) + f ↔ top ≤ rdn (m * 2 ^ K) := by
  obtain ⟨T, hT, e1⟩ := mag_top
  rw [le_rdn, e1]
  have hb : blen m = m.log2 + 1 := by unfold blen; rw [if_neg h0]
  have h1 : 2 ^ m.log2 ≤ m := Nat.log2_self_le h0
  have h2 : m < 2 ^ (m.log2 + 1) := Nat.lt_log2_self
  rw [hb, ← Nat.pow_add]
  constructor
  · intro h
    have h3 : 52 + T ≤ m.log2 + K := by omega
    refine Nat.le_trans (Nat.pow_le_pow_right (by omega) h3) ?_
    rw [Nat.pow_add]
    exact Nat.mul_le_mul_right _ h1
  · intro h
    have h4 : m * 2 ^ K < 2 ^ (m.log2 + 1 + K) := by
      rw [Nat.pow_add]; exact Nat.mul_lt_mul_of_pos_right h2 (Nat.two_pow_pos _)
    have h5 : 2 ^ (52 + T) < 2 ^ (m.log2 + 1 + K) := Nat.lt_of_le_of_lt h h4
    have h6 := (Nat.pow_lt_pow_iff_right (a := 2) (by omega)).1 h5
    omega

theorem ldx_top : ldx (fi 9007199254740991) 971 = top - 1 := by
  rw [ldx_fi (K := 2045) (by omega) (by omega)]
  have : rdn (9007199254740991 * 2 ^ 2045) = top - 1 := by decide +kernel
  rw [this]; decide

theorem out_top {z : Int} {up : Bool} (h : (top : Int) ≤ z) : out z up = if up then (0, 10) else (enc ((top - 1 : Nat) : Int), 0) := by
  unfold out; rw [if_pos h]; rfl
theorem out_bot {z : Int} {up : Bool} (h : z ≤ -(top : Int)) : out z up = if up then (enc (1 - (top : Int)), 0) else (0, 10) := by
  unfold out; rw [if_neg (by rw [top_eq] at *; omega), if_pos h]
theorem out_mid {z : Int} {up : Bool} (h : ok z) : out z up = (enc z, 0) := by
  unfold ok at h
  unfold out; rw [if_neg (by omega), if_neg (by omega)]

/-- What it is, by the rung of what is kept. -/
theorem rnd_out {minus : Bool} {N : Nat} {more : Bool} {e : Int} {up : Bool} {K : Nat} (hK : e + cut N e + 1074 = K) :
    rnd minus N more e up = out (if minus then -(rdn (mant minus N more e up * 2 ^ K) : Int) else (rdn (mant minus N more e up * 2 ^ K) : Int)) up := by
  have hm := mant_le minus N more e up
  unfold rnd
  dsimp only
  generalize mant minus N more e up = m at *
  generalize e + cut N e = f at *
  by_cases h0 : m = 0
  · subst h0
    rw [if_pos rfl, Nat.zero_mul]
    have : rdn 0 = 0 := by decide
    rw [this]
    cases minus <;> cases up <;> decide
  · rw [if_neg h0]
    have hR0 : rdn (m * 2 ^ K) ≠ 0 := by
      intro h
      have e1 := mag_rdn_mul (K := K) hm
      rw [h, mag_zero] at e1
      have := Nat.mul_pos (Nat.pos_of_ne_zero h0) (Nat.two_pow_pos K)
      omega
    have hb := big_test h0 hK
    have hl := ldx_fi hm hK
    rw [ldx_top, hl]
    generalize rdn (m * 2 ^ K) = R at *
    by_cases ht : top ≤ R
    · rw [if_pos (hb.2 ht)]
      cases minus
      · simp only [Bool.false_eq_true, if_false]
        rw [out_top (by omega)]
        cases up
        · exact congrArg (fun x => (x, (0 : Int))) (enc_nat (top - 1)).symm
        · rfl
      · simp only [if_true]
        rw [out_bot (by omega)]
        cases up
        · rfl
        · refine congrArg (fun x => (x, (0 : Int))) ?_
          have := enc_neg (r := top - 1) (by rw [top_eq]; omega) (by rw [top_eq]; omega)
          rw [← this]
          congr 1
    · rw [if_neg (fun h => ht (hb.1 h)), Nat.min_eq_left (by omega)]
      cases minus
      · simp only [Bool.false_eq_true, if_false]
        rw [out_mid ⟨by rw [top_eq]; omega, by omega⟩, enc_nat]
      · simp only [if_true]
        rw [out_mid ⟨by omega, by rw [top_eq]; omega⟩, enc_neg hR0 (by rw [top_eq] at ht; omega)]

/-- N (and something more) by 2^(i - j) is num by den. -/
def Is (N : Nat) (more : Bool) (i j num den : Nat) : Prop :=
  if more then N * 2 ^ i * den < num * 2 ^ j ∧ num * 2 ^ j < (N + 1) * 2 ^ i * den else N * 2 ^ i * den = num * 2 ^ j

theorem rnd_core {N : Nat} {more : Bool} {e : Int} {num den i j K : Nat} (hd : 0 < den) (he : e + 1074 = (i : Int) - j) (hK : e + cut N e + 1074 = K)
    (hIs : Is N more i j num den) (hmore : more = true → 53 ≤ blen N ∨ e ≤ -1074) :
    rdn (kept N e * 2 ^ K) = rdn (num / den) ∧
    (inexact N more e = false → num = mag (rdn (num / den)) * den) ∧
    (inexact N more e = true → mag (rdn (num / den)) * den < num ∧ rdn ((kept N e + 1) * 2 ^ K) = rdn (num / den) + 1) := by
  have hk53 := kept_lt N e
  obtain ⟨c, hc⟩ : ∃ c : Nat, cut N e = (c : Int) := ⟨(cut N e).toNat, by unfold cut; omega⟩
  have hcc : (cut N e).toNat = c := by omega
  have hsz : c = 0 ∨ K = 0 ∨ 2 ^ 52 ≤ kept N e := by
    by_cases h0 : c = 0
    · exact Or.inl h0
    · by_cases hk : K = 0
      · exact Or.inr (Or.inl hk)
      · right; right
        have hbl : (blen N : Int) - 53 = c := by unfold cut at hc; omega
        have : 2 ^ (52 + c) ≤ N := lt_blen.1 (by omega)
        unfold kept
        rw [hcc, Nat.le_div_iff_mul_le (Nat.two_pow_pos _), ← Nat.pow_add]
        exact this
  have hnorm : inexact N more e = true → K = 0 ∨ 2 ^ 52 ≤ kept N e := by
    intro hi
    rcases hsz with h | h | h
    · -- nothing is cut: then there is more
      unfold inexact lost at hi
      rw [hcc, h, Nat.pow_zero, Nat.mod_one] at hi
      simp at hi
      rcases hmore hi with h1 | h1
      · right
        have h2 : 2 ^ 52 ≤ N := lt_blen.1 (by omega)
        unfold kept; rw [hcc, h, Nat.pow_zero, Nat.div_one]; exact h2
      · left; rw [h] at hc; omega
    · exact Or.inl h
    · exact Or.inr h
  -- N = kept 2^c + rest
  have eN : N = kept N e * 2 ^ c + N % 2 ^ c := by
    unfold kept; rw [hcc, Nat.mul_comm]; exact (Nat.div_add_mod N (2 ^ c)).symm
  have hrest := Nat.mod_lt N (Nat.two_pow_pos c)
  have hinx : inexact N more e = (decide (N % 2 ^ c ≠ 0) || more) := by unfold inexact lost; rw [hcc]
  rw [hinx] at hnorm ⊢
  generalize N % 2 ^ c = x at *
  generalize kept N e = m at *
  have hij : c + i = K + j := by omega
  have p2 : 2 ^ c * 2 ^ i = 2 ^ K * 2 ^ j := by rw [← Nat.pow_add, ← Nat.pow_add, hij]
  have pj := Nat.two_pow_pos j
  -- bounds of num in units
  have lo : m * 2 ^ K * den ≤ num := by
    have h1 : m * 2 ^ K * den * 2 ^ j ≤ num * 2 ^ j := by
      have e1 : m * 2 ^ K * den * 2 ^ j = m * 2 ^ c * 2 ^ i * den := by
        rw [Nat.mul_assoc m, Nat.mul_assoc m, Nat.mul_assoc m, Nat.mul_assoc m]
        congr 1
        rw [p2, Nat.mul_right_comm]
      rw [e1]
      have e2 : m * 2 ^ c * 2 ^ i * den ≤ N * 2 ^ i * den := Nat.mul_le_mul_right _ (Nat.mul_le_mul_right _ (by omega))
      unfold Is at hIs
      split at hIs
      · omega
      · omega
    exact Nat.le_of_mul_le_mul_right h1 pj
  have hi : num < (m + 1) * 2 ^ K * den := by
    have h1 : num * 2 ^ j < (m + 1) * 2 ^ K * den * 2 ^ j := by
      have e1 : (m + 1) * 2 ^ K * den * 2 ^ j = (m + 1) * 2 ^ c * 2 ^ i * den := by
        rw [Nat.mul_assoc (m + 1), Nat.mul_assoc (m + 1), Nat.mul_assoc (m + 1), Nat.mul_assoc (m + 1)]
        congr 1
        rw [p2, Nat.mul_right_comm]
      rw [e1]
      have e2 : (N + 1) * 2 ^ i * den ≤ (m + 1) * 2 ^ c * 2 ^ i * den := by
        refine Nat.mul_le_mul_right _ (Nat.mul_le_mul_right _ ?_)
        rw [Nat.succ_mul]; omega
      unfold Is at hIs
      split at hIs
      · omega
      · have e3 : N * 2 ^ i * den < (N + 1) * 2 ^ i * den := Nat.mul_lt_mul_of_pos_right (Nat.mul_lt_mul_of_pos_right (by omega) (Nat.two_pow_pos _)) hd
        omega
    exact Nat.lt_of_mul_lt_mul_right h1
  have m53 : m ≤ 2 ^ 53 := by omega
  have exm := mag_rdn_mul (K := K) m53
  -- exact: equality
  have hex : (decide (x ≠ 0) || more) = false → num = m * 2 ^ K * den := by
    intro h
    simp at h
    obtain ⟨hx, hmo⟩ := h
    unfold Is at hIs
    rw [hmo] at hIs
    simp only [Bool.false_eq_true, if_false] at hIs
    have h1 : m * 2 ^ K * den * 2 ^ j = num * 2 ^ j := by
      rw [← hIs, eN, hx, Nat.add_zero, Nat.mul_assoc m, Nat.mul_assoc m, Nat.mul_assoc m, Nat.mul_assoc m]
      congr 1
      rw [p2, Nat.mul_right_comm]
    exact (Nat.eq_of_mul_eq_mul_right pj h1).symm
  have hin : (decide (x ≠ 0) || more) = true → m * 2 ^ K * den < num := by
    intro h
    rcases Nat.lt_or_eq_of_le lo with h1 | h1
    · exact h1
    · exfalso
      have e1 : m * 2 ^ c * 2 ^ i * den = num * 2 ^ j := by
        rw [← h1, Nat.mul_assoc m, Nat.mul_assoc m, Nat.mul_assoc m, Nat.mul_assoc m]
        congr 1
        rw [p2, Nat.mul_right_comm]
      have e2 : m * 2 ^ c * 2 ^ i * den ≤ N * 2 ^ i * den := Nat.mul_le_mul_right _ (Nat.mul_le_mul_right _ (by omega))
      unfold Is at hIs
      split at hIs
      · omega
      · rename_i hmo
        have hx : x ≠ 0 := by simpa [hmo] using h
        have e3 : m * 2 ^ c * 2 ^ i * den < N * 2 ^ i * den := Nat.mul_lt_mul_of_pos_right (Nat.mul_lt_mul_of_pos_right (by omega) (Nat.two_pow_pos _)) hd
        omega
  have q1 : rdn (m * 2 ^ K) ≤ rdn (num / den) := by
    rw [le_rdn, exm, Nat.le_div_iff_mul_le hd]; exact lo
  cases hi0 : (decide (x ≠ 0) || more)
  · have h1 := hex hi0
    have h2 : num / den = m * 2 ^ K := by rw [h1]; exact Nat.mul_div_cancel _ hd
    rw [h2]
    exact ⟨rfl, fun _ => by rw [exm]; exact h1, fun h => by cases h⟩
  · have h1 := hin hi0
    have hnm := hnorm hi0
    -- the next one
    have hsucc : rdn ((m + 1) * 2 ^ K) = rdn (m * 2 ^ K) + 1 := by
      have e1 := mag_rdn_mul (m := m + 1) (K := K) (by omega)
      have e2 := mag_succ (rdn (m * 2 ^ K))
      have e3 : 2 ^ (rdn (m * 2 ^ K) / 2 ^ 52 - 1) = 2 ^ K := by
        congr 1
        rcases hnm with h | h
        · subst h
          rw [Nat.pow_zero, Nat.mul_one, rdn_low hk53]
          omega
        · have := rdn_form (k := K) (m := m) (x := 0) h hk53 (Nat.two_pow_pos _)
          rw [Nat.add_zero] at this
          rw [this]; omega
      rw [e3, exm] at e2
      have e4 : mag (rdn ((m + 1) * 2 ^ K)) = mag (rdn (m * 2 ^ K) + 1) := by rw [e1, e2, Nat.succ_mul]
      have a := mag_le_iff.1 (Nat.le_of_eq e4)
      have b := mag_le_iff.1 (Nat.le_of_eq e4.symm)
      omega
    have q2 : rdn (num / den) = rdn (m * 2 ^ K) := by
      have e1 := mag_rdn_mul (m := m + 1) (K := K) (by omega)
      rw [hsucc] at e1
      have : ¬ (rdn (m * 2 ^ K) + 1 ≤ rdn (num / den)) := by
        rw [le_rdn, e1, Nat.le_div_iff_mul_le hd]; omega
      omega
    rw [q2]
    exact ⟨rfl, (fun h => by cases h), fun _ => ⟨by rw [exm]; exact h1, hsucc⟩⟩

/-- WHAT 'rounded' IS: the sign, and the magnitude, rounded. -/
theorem rnd_eq {minus : Bool} {N : Nat} {more : Bool} {e : Int} {up : Bool} {num den i j : Nat} (hd : 0 < den) (he : e + 1074 = (i : Int) - j)
    (hIs : Is N more i j num den) (hmore : more = true → 53 ≤ blen N ∨ e ≤ -1074) :
    rnd minus N more e up = out (rnk minus (num / den) (decide (num % den ≠ 0)) up) up := by
  obtain ⟨K, hK⟩ : ∃ K : Nat, e + cut N e + 1074 = K := ⟨(e + cut N e + 1074).toNat, by unfold cut; omega⟩
  obtain ⟨h1, h2, h3⟩ := rnd_core hd he hK hIs hmore
  rw [rnd_out hK]
  congr 1
  unfold rnk mant
  have hr : rdn ((kept N e + if (up != minus) && inexact N more e then 1 else 0) * 2 ^ K) = if up == minus then rdn (num / den) else rup (num / den) (decide (num % den ≠ 0)) := by
    by_cases hu : up = minus
    · subst hu
      simp [h1]
    · have e1 : (up != minus) = true := by simpa using hu
      have e2 : (up == minus) = false := by simpa using hu
      rw [e1, e2]
      simp only [Bool.true_and, Bool.false_eq_true, if_false]
      have emod := Nat.div_add_mod num den
      cases hi : inexact N more e
      · simp only [Bool.false_eq_true, if_false, Nat.add_zero]
        have hx := h2 hi
        have hq : num / den = mag (rdn (num / den)) := by
          conv => lhs; rw [hx]
          exact Nat.mul_div_cancel _ hd
        have hm0 : num % den = 0 := by rw [hx]; exact Nat.mul_mod_left _ _
        rw [h1, hm0]
        unfold rup
        rw [← hq]
        simp
      · simp only [if_true]
        obtain ⟨h4, h5⟩ := h3 hi
        rw [h5]
        unfold rup
        by_cases hm0 : num % den = 0
        · have : mag (rdn (num / den)) ≠ num / den := by
            intro h
            rw [h, Nat.mul_comm] at h4
            omega
          simp [hm0, this]
        · simp [hm0]
  rw [hr]

theorem wide_small {p q n : Nat} (h : Wide p q n) (hn : n < 2 ^ 53) : q = n := by
  obtain ⟨_, _, e⟩ := h
  unfold wd at e; omega

/-- dir.rounded, of what is kept. -/
def rnd' (minus up inx : Bool) (M : Nat) (f : Int) : Nat × Int :=
  let m := M + (if (up != minus) && inx then 1 else 0)
  if m = 0 then (0, 0)
  else if 1024 < (blen m : Int) + f then (if up != minus then (0, 10) else ((if minus then flip (ldx (fi 9007199254740991) 971) else ldx (fi 9007199254740991) 971), 0))
  else ((if minus then flip (ldx (fi m) f) else ldx (fi m) f), 0)

theorem rnd_rnd' (minus : Bool) (N : Nat) (more : Bool) (e : Int) (up : Bool) :
    rnd minus N more e up = rnd' minus up (lost N (cut N e).toNat || more) (kept N e) (e + cut N e) := rfl

theorem W_ldx {b : Nat} {e : Int} (h : W b) : W (ldx b e) := by
  unfold ldx
  split
  · exact word_lt (min_top_lt _)
  · exact h

section
variable {minus up L more : Bool} {M : Nat} {f : Int}
theorem r_z (h : up = minus) (z : ((M : Int) == 0) = true) : rnd' minus up (L || more) M f = (0, 0) := by
  subst h; unfold rnd'; simp at z; simp [z]
theorem r_bt (h : up = minus) (z : ((M : Int) == 0) = false) (b : 1024 < (blen M : Int) + f) (m : minus = true) : rnd' minus up (L || more) M f = (flip (ldx (fi 9007199254740991) 971), 0) := by
  subst h; unfold rnd'; simp at z; simp [z, b, m]
theorem r_bf (h : up = minus) (z : ((M : Int) == 0) = false) (b : 1024 < (blen M : Int) + f) (m : minus = false) : rnd' minus up (L || more) M f = (ldx (fi 9007199254740991) 971, 0) := by
  subst h; unfold rnd'; simp at z; simp [z, b, m]
theorem r_mt (h : up = minus) (z : ((M : Int) == 0) = false) (b : (blen M : Int) + f ≤ 1024) (m : minus = true) : rnd' minus up (L || more) M f = (flip (ldx (fi M) f), 0) := by
  subst h; unfold rnd'; have := Int.not_lt.2 b; simp at z; simp [z, this, m]
theorem r_mf (h : up = minus) (z : ((M : Int) == 0) = false) (b : (blen M : Int) + f ≤ 1024) (m : minus = false) : rnd' minus up (L || more) M f = (ldx (fi M) f, 0) := by
  subst h; unfold rnd'; have := Int.not_lt.2 b; simp at z; simp [z, this, m]
theorem r_no (h : ¬ up = minus) (c : (!(up == minus)) = false) : False := by simp at c; exact h c
theorem a_b (h : ¬ up = minus) (l : L = true) (b : 1024 < (blen (M + 1) : Int) + f) : rnd' minus up (L || more) M f = (0, 10) := by
  unfold rnd'; simp [h, l, b]
theorem a_mt (h : ¬ up = minus) (l : L = true) (b : (blen (M + 1) : Int) + f ≤ 1024) (m : minus = true) : rnd' minus up (L || more) M f = (flip (ldx (fi (M + 1)) f), 0) := by
  unfold rnd'; have := Int.not_lt.2 b; simp [h, l, this]; simp [m]
theorem a_mf (h : ¬ up = minus) (l : L = true) (b : (blen (M + 1) : Int) + f ≤ 1024) (m : minus = false) : rnd' minus up (L || more) M f = (ldx (fi (M + 1)) f, 0) := by
  unfold rnd'; have := Int.not_lt.2 b; simp [h, l, this]; simp [m]
theorem b_b (h : ¬ up = minus) (l : more = true) (b : 1024 < (blen (M + 1) : Int) + f) : rnd' minus up (L || more) M f = (0, 10) := by
  unfold rnd'; simp [h, l, b]
theorem b_mt (h : ¬ up = minus) (l : more = true) (b : (blen (M + 1) : Int) + f ≤ 1024) (m : minus = true) : rnd' minus up (L || more) M f = (flip (ldx (fi (M + 1)) f), 0) := by
  unfold rnd'; have := Int.not_lt.2 b; simp [h, l, this]; simp [m]
theorem b_mf (h : ¬ up = minus) (l : more = true) (b : (blen (M + 1) : Int) + f ≤ 1024) (m : minus = false) : rnd' minus up (L || more) M f = (ldx (fi (M + 1)) f, 0) := by
  unfold rnd'; have := Int.not_lt.2 b; simp [h, l, this]; simp [m]
theorem c_z (_h : ¬ up = minus) (l : L = false) (c : more = false) (z : ((M : Int) == 0) = true) : rnd' minus up (L || more) M f = (0, 0) := by
  unfold rnd'; simp at z; simp [l, c, z]
theorem c_b (h : ¬ up = minus) (l : L = false) (c : more = false) (z : ((M : Int) == 0) = false) (b : 1024 < (blen M : Int) + f) : rnd' minus up (L || more) M f = (0, 10) := by
  unfold rnd'; simp at z; simp [h, l, c, z, b]
theorem c_mt (_h : ¬ up = minus) (l : L = false) (c : more = false) (z : ((M : Int) == 0) = false) (b : (blen M : Int) + f ≤ 1024) (m : minus = true) : rnd' minus up (L || more) M f = (flip (ldx (fi M) f), 0) := by
  unfold rnd'; have := Int.not_lt.2 b; simp at z; simp [*]
theorem c_mf (_h : ¬ up = minus) (l : L = false) (c : more = false) (z : ((M : Int) == 0) = false) (b : (blen M : Int) + f ≤ 1024) (m : minus = false) : rnd' minus up (L || more) M f = (ldx (fi M) f, 0) := by
  unfold rnd'; have := Int.not_lt.2 b; simp at z; simp [*]
end

end Go.Dy

/-
  Plain facts: the parts of a number; sums and products by their parts.
-/
namespace Go.Dy

/-- dir.parts: the digits, and the place of the last one. -/
def pm (b : Nat) : Nat := if field b = 0 then b % 2 ^ 52 else 2 ^ 52 + b % 2 ^ 52
def pe (b : Nat) : Int := if field b = 0 then -1074 else (field b : Int) + -1074 - 1

theorem pm_lt (b : Nat) : pm b < 2 ^ 53 := by unfold pm; split <;> omega
theorem pe_bounds (b : Nat) : -1074 ≤ pe b ∧ pe b ≤ 972 := by
  have := field_lt b
  unfold pe; split <;> omega
theorem pm_norm {b : Nat} (h : -1074 < pe b) : 2 ^ 52 ≤ pm b := by
  unfold pe at h; unfold pm; split at h
  · omega
  · rename_i h1; rw [if_neg h1]; omega

theorem mag_pm {b : Nat} (_hf : b % 2 ^ 63 < top) : mag (b % 2 ^ 63) = pm b * 2 ^ (pe b + 1074).toNat := by
  have e1 : b % 2 ^ 63 / 2 ^ 52 = field b := by unfold field; omega
  have e2 : b % 2 ^ 63 % 2 ^ 52 = b % 2 ^ 52 := by omega
  unfold mag pm pe
  rw [e1, e2]
  by_cases h : field b = 0
  · have : b % 2 ^ 63 < 2 ^ 52 := by omega
    rw [if_pos this, if_pos h, if_pos h]
    have : b % 2 ^ 63 = b % 2 ^ 52 := by omega
    rw [this]
    simp
  · have : ¬ b % 2 ^ 63 < 2 ^ 52 := by omega
    rw [if_neg this, if_neg h, if_neg h]
    have : ((field b : Int) + -1074 - 1 + 1074).toNat = field b - 1 := by omega
    rw [this]

theorem right_fin {b : Nat} (h : right b = true) : fin b := by
  unfold right at h; rw [decide_eq_true_eq] at h; exact h.1

theorem rnk_zero (neg up : Bool) : rnk neg 0 false up = 0 := by cases neg <;> cases up <;> decide

theorem V_sgn {b : Nat} (hb : W b) : V (dec b) = if sgn b then -(mag (b % 2 ^ 63) : Int) else (mag (b % 2 ^ 63) : Int) := V_dec hb.lt

/-- Of a sign that is right wherever there is something. -/
theorem fl_rnk {num : Int} {den : Nat} {neg up : Bool} (h : num ≠ 0 → neg = decide (num < 0)) : fl num den up = rnk neg (num.natAbs / den) (decide (num.natAbs % den ≠ 0)) up := by
  unfold fl
  by_cases h0 : num = 0
  · subst h0
    have e1 : (0 : Int).natAbs / den = 0 := by simp
    have e2 : (0 : Int).natAbs % den = 0 := by simp
    rw [e1, e2]
    have : decide ((0 : Nat) ≠ 0) = false := by decide
    rw [this, rnk_zero, rnk_zero]
  · rw [h h0]

theorem one_pos : 0 < one := by decide +kernel

theorem mul_out {a b : Nat} {up : Bool} (ha : W a) (hb : W b) (ra : right a = true) (rb : right b = true) :
    rnd (sgn a != sgn b) (pm a * pm b) false (pe a + pe b) up = dMul a b up := by
  have fa := right_fin ra
  have fb := right_fin rb
  unfold dMul mulR
  rw [ra, rb, if_pos (by decide)]
  have ba := pe_bounds a
  have bb := pe_bounds b
  have h1 : (V (dec a) * V (dec b)).natAbs = mag (a % 2 ^ 63) * mag (b % 2 ^ 63) := by
    rw [V_sgn ha, V_sgn hb, Int.natAbs_mul]
    congr 1
    · split <;> simp
    · split <;> simp
  have h2 : V (dec a) * V (dec b) ≠ 0 → (sgn a != sgn b) = decide (V (dec a) * V (dec b) < 0) := by
    intro h0
    rw [V_sgn ha, V_sgn hb] at h0 ⊢
    generalize mag (a % 2 ^ 63) = x at *
    generalize mag (b % 2 ^ 63) = y at *
    have hx : x ≠ 0 := by intro h; subst h; apply h0; cases sgn a <;> simp
    have hy : y ≠ 0 := by intro h; subst h; apply h0; cases sgn b <;> simp
    have hp : 0 < (x : Int) * y := Int.mul_pos (by omega) (by omega)
    cases sgn a <;> cases sgn b <;> simp only [if_true, Bool.false_eq_true, if_false, Int.neg_mul, Int.mul_neg, Int.neg_neg]
    · symm; simp; omega
    · symm; simp; omega
    · symm; simp; omega
    · symm; simp; omega
  rw [fl_rnk h2, h1]
  obtain ⟨S, hS, eS⟩ := one_pow
  refine rnd_eq (i := (pe a + 1074).toNat + (pe b + 1074).toNat) (j := S) one_pos (by omega) ?_ (by intro h; cases h)
  unfold Is
  rw [if_neg (by decide), mag_pm fa, mag_pm fb, eS, Nat.pow_add]
  clear hS eS
  generalize 2 ^ S = T
  rw [Nat.mul_mul_mul_comm (pm a) (pm b)]

theorem dMul_wrong {a b : Nat} {up : Bool} (h : right a = false ∨ right b = false) : dMul a b up = (0, 13) := by
  unfold dMul
  rcases h with h | h <;> simp [h]

end Go.Dy

/-
  Plain facts: sums by their parts; the next one.
-/
namespace Go.Dy

theorem sgn_of {p : Bool} {S : Int} {X : Nat} (hS : S = if p then -(X : Int) else (X : Int)) : S.natAbs = X ∧ (S ≠ 0 → p = decide (S < 0)) := by
  subst hS
  cases p
  · refine ⟨by simp, fun _ => ?_⟩
    symm; rw [decide_eq_false_iff_not]; simp
  · refine ⟨by simp, fun h => ?_⟩
    symm; rw [decide_eq_true_eq]; simp at h ⊢; omega

theorem blen_ge {N : Nat} (h : 4503599627370496 ≤ N) : 53 ≤ blen N := lt_blen.2 h

section
variable {p q : Bool} {m n : Nat} {e f : Int} {up : Bool}

/-- What is given of two numbers, the greater one first. -/
structure Two (m n : Nat) (e f : Int) : Prop where
  hm : m < 2 ^ 53
  hn : n < 2 ^ 53
  he : -1074 ≤ e
  he2 : e ≤ 972
  hf : -1074 ≤ f
  hfe : f ≤ e
  same : f = e → n ≤ m
  norm : -1074 < e → 2 ^ 52 ≤ m

theorem Two.le (h : Two m n e f) : n * 2 ^ (f + 1074).toNat ≤ m * 2 ^ (e + 1074).toNat := by
  obtain ⟨h1, h2, h3, h4, h5, h6, h7, h8⟩ := h
  by_cases hfe : f = e
  · subst hfe; exact Nat.mul_le_mul_right _ (h7 rfl)
  · have a1 := h8 (by omega)
    have e1 : (e + 1074).toNat = 1 + ((e + 1074).toNat - (f + 1074).toNat - 1) + (f + 1074).toNat := by omega
    rw [e1, Nat.pow_add, Nat.pow_add, ← Nat.mul_assoc]
    refine Nat.mul_le_mul_right _ ?_
    have a2 : 1 ≤ 2 ^ ((e + 1074).toNat - (f + 1074).toNat - 1) := Nat.two_pow_pos _
    have a3 : m * (2 ^ 1 * 1) ≤ m * (2 ^ 1 * 2 ^ ((e + 1074).toNat - (f + 1074).toNat - 1)) := Nat.mul_le_mul_left _ (Nat.mul_le_mul_left _ a2)
    omega

/-- The lesser one, by the place of the greater one less 64. -/
def low (n d : Nat) : Nat := n * 2 ^ 64 / 2 ^ d

theorem low_eq (n d : Nat) : n * 2 ^ 64 = low n d * 2 ^ d + n * 2 ^ 64 % 2 ^ d := by
  unfold low; rw [Nat.mul_comm (n * 2 ^ 64 / 2 ^ d)]; exact (Nat.div_add_mod _ _).symm

theorem Two.scaled (h : Two m n e f) : n * 2 ^ (f + 1074).toNat * 2 ^ 64 = low n (e - f).toNat * 2 ^ (e + 1074).toNat + n * 2 ^ 64 % 2 ^ (e - f).toNat * 2 ^ (f + 1074).toNat ∧
    n * 2 ^ 64 % 2 ^ (e - f).toNat * 2 ^ (f + 1074).toNat < 2 ^ (e + 1074).toNat := by
  have h5 := h.hf; have h6 := h.hfe
  have e1 : (e + 1074).toNat = (e - f).toNat + (f + 1074).toNat := by omega
  rw [e1]
  have hx := Nat.mod_lt (n * 2 ^ 64) (Nat.two_pow_pos (e - f).toNat)
  have hl := low_eq n (e - f).toNat
  rw [Nat.mul_right_comm]
  generalize (e - f).toNat = d at *
  generalize (f + 1074).toNat = b at *
  generalize n * 2 ^ 64 % 2 ^ d = x at *
  refine ⟨?_, ?_⟩
  · rw [hl, Nat.add_mul, Nat.pow_add, Nat.mul_assoc]
  · rw [Nat.pow_add]; exact Nat.mul_lt_mul_of_pos_right hx (Nat.two_pow_pos _)

theorem lost_far {n d : Nat} (h : lost (n * 2 ^ 64) d = true) : 64 < d := by
  unfold lost at h
  rw [decide_eq_true_eq] at h
  apply Nat.lt_of_not_le
  intro hd
  apply h
  have : 2 ^ 64 = 2 ^ (64 - d) * 2 ^ d := pow_split hd
  rw [this, ← Nat.mul_assoc]
  exact Nat.mul_mod_left _ _

theorem low_far {n d : Nat} (hn : n < 2 ^ 53) (hd : 64 < d) : low n d < 2 ^ 52 := by
  unfold low
  rw [Nat.div_lt_iff_lt_mul (Nat.two_pow_pos _)]
  have : 2 ^ 65 ≤ 2 ^ d := Nat.pow_le_pow_right (by omega) hd
  have h2 : 2 ^ 52 * 2 ^ 65 ≤ 2 ^ 52 * 2 ^ d := Nat.mul_le_mul_left _ this
  omega

theorem Two.same_out (h : Two m n e f) {S : Int} (hS : S = if p then -((m * 2 ^ (e + 1074).toNat + n * 2 ^ (f + 1074).toNat : Nat) : Int) else ((m * 2 ^ (e + 1074).toNat + n * 2 ^ (f + 1074).toNat : Nat) : Int)) :
    rnd p (m * 2 ^ 64 + low n (e - f).toNat) (lost (n * 2 ^ 64) (e - f).toNat) (e - 64) up = out (fl S 1 up) up := by
  obtain ⟨s1, s2⟩ := h.scaled
  obtain ⟨hl, hs⟩ := sgn_of hS
  rw [fl_rnk hs, hl]
  have h3 := h.he
  refine rnd_eq (i := (e + 1074).toNat) (j := 64) (by omega) (by omega) ?_ ?_
  · unfold Is
    rw [Nat.mul_one, Nat.mul_one, Nat.add_mul, Nat.add_mul, Nat.add_mul, Nat.add_mul, Nat.one_mul, s1]
    obtain ⟨A, hA⟩ : ∃ A, A = m * 2 ^ (e + 1074).toNat * 2 ^ 64 := ⟨_, rfl⟩
    obtain ⟨B, hB⟩ : ∃ B, B = low n (e - f).toNat * 2 ^ (e + 1074).toNat := ⟨_, rfl⟩
    have hx : lost (n * 2 ^ 64) (e - f).toNat = true ↔ 0 < n * 2 ^ 64 % 2 ^ (e - f).toNat * 2 ^ (f + 1074).toNat := by
      unfold lost
      rw [decide_eq_true_eq]
      constructor
      · intro h0; exact Nat.mul_pos (Nat.pos_of_ne_zero h0) (Nat.two_pow_pos _)
      · intro h0 h1; rw [h1, Nat.zero_mul] at h0; omega
    obtain ⟨X, hX⟩ : ∃ X, X = n * 2 ^ 64 % 2 ^ (e - f).toNat * 2 ^ (f + 1074).toNat := ⟨_, rfl⟩
    obtain ⟨Y, hY⟩ : ∃ Y, Y = 2 ^ (e + 1074).toNat := ⟨_, rfl⟩
    rw [← hX] at hx s2
    rw [← hY] at s2
    rw [Nat.mul_right_comm m]
    rw [← hX, ← hB, ← hA, ← hY]
    clear hA hB hX hY s1 hl hS
    split
    · rename_i hlo
      have := hx.1 hlo
      omega
    · rename_i hlo
      have : ¬ 0 < X := fun h0 => hlo (hx.2 h0)
      omega
  · intro hlo
    left
    have hd := lost_far hlo
    have hn1 := h.norm (by have := h.hf; omega)
    have hn2 : 2 ^ 52 * 2 ^ 64 ≤ m * 2 ^ 64 := Nat.mul_le_mul_right _ hn1
    obtain ⟨A, hA⟩ : ∃ A, A = m * 2 ^ 64 := ⟨_, rfl⟩
    rw [← hA] at hn2 ⊢
    clear s1 s2 hl hS hA
    exact blen_ge (by omega)

theorem Two.diff_facts (h : Two m n e f) : low n (e - f).toNat ≤ m * 2 ^ 64 ∧ (lost (n * 2 ^ 64) (e - f).toNat = true → low n (e - f).toNat < m * 2 ^ 64) ∧
    (lost (n * 2 ^ 64) (e - f).toNat = true ↔ 0 < n * 2 ^ 64 % 2 ^ (e - f).toNat * 2 ^ (f + 1074).toNat) := by
  obtain ⟨s1, s2⟩ := h.scaled
  have hle := Nat.mul_le_mul_right (2 ^ 64) h.le
  rw [s1, Nat.mul_right_comm] at hle
  have hx : lost (n * 2 ^ 64) (e - f).toNat = true ↔ 0 < n * 2 ^ 64 % 2 ^ (e - f).toNat * 2 ^ (f + 1074).toNat := by
    unfold lost
    rw [decide_eq_true_eq]
    constructor
    · intro h0; exact Nat.mul_pos (Nat.pos_of_ne_zero h0) (Nat.two_pow_pos _)
    · intro h0 h1; rw [h1, Nat.zero_mul] at h0; omega
  refine ⟨?_, ?_, hx⟩
  · exact Nat.le_of_mul_le_mul_right (Nat.le_trans (Nat.le_add_right _ _) hle) (Nat.two_pow_pos _)
  · intro hlo
    have h0 := hx.1 hlo
    exact Nat.lt_of_mul_lt_mul_right (a := 2 ^ (e + 1074).toNat) (by omega)

theorem Two.diff_out (h : Two m n e f) {S : Int} (hS : S = if p then -((m * 2 ^ (e + 1074).toNat - n * 2 ^ (f + 1074).toNat : Nat) : Int) else ((m * 2 ^ (e + 1074).toNat - n * 2 ^ (f + 1074).toNat : Nat) : Int)) (hlo : lost (n * 2 ^ 64) (e - f).toNat = false) :
    rnd p (m * 2 ^ 64 - low n (e - f).toNat) false (e - 64) up = out (fl S 1 up) up := by
  obtain ⟨s1, s2⟩ := h.scaled
  obtain ⟨d1, d2, d3⟩ := h.diff_facts
  obtain ⟨hl, hs⟩ := sgn_of hS
  rw [fl_rnk hs, hl]
  have h3 := h.he
  have hle := h.le
  refine rnd_eq (i := (e + 1074).toNat) (j := 64) (by omega) (by omega) ?_ (by intro h0; cases h0)
  unfold Is
  rw [if_neg (by decide), Nat.mul_one, Nat.sub_mul, Nat.sub_mul, Nat.mul_right_comm m, s1]
  have : ¬ 0 < n * 2 ^ 64 % 2 ^ (e - f).toNat * 2 ^ (f + 1074).toNat := fun h0 => by
    have := d3.2 h0; rw [hlo] at this; cases this
  omega

theorem Two.less_out (h : Two m n e f) {S : Int} (hS : S = if p then -((m * 2 ^ (e + 1074).toNat - n * 2 ^ (f + 1074).toNat : Nat) : Int) else ((m * 2 ^ (e + 1074).toNat - n * 2 ^ (f + 1074).toNat : Nat) : Int)) (hlo : lost (n * 2 ^ 64) (e - f).toNat = true) :
    rnd p (m * 2 ^ 64 - low n (e - f).toNat - 1) true (e - 64) up = out (fl S 1 up) up := by
  obtain ⟨s1, s2⟩ := h.scaled
  obtain ⟨d1, d2, d3⟩ := h.diff_facts
  obtain ⟨hl, hs⟩ := sgn_of hS
  rw [fl_rnk hs, hl]
  have h3 := h.he
  have hle := h.le
  have hd := lost_far hlo
  have hlt := d2 hlo
  have hpos := d3.1 hlo
  refine rnd_eq (i := (e + 1074).toNat) (j := 64) (by omega) (by omega) ?_ ?_
  · unfold Is
    rw [if_pos rfl]
    have e1 : m * 2 ^ 64 - low n (e - f).toNat - 1 + 1 = m * 2 ^ 64 - low n (e - f).toNat := by omega
    rw [e1, Nat.mul_one, Nat.mul_one, Nat.sub_mul, Nat.sub_mul, Nat.sub_mul, s1, Nat.one_mul, Nat.mul_right_comm m]
    have hlt2 := Nat.mul_lt_mul_of_pos_right hlt (Nat.two_pow_pos (e + 1074).toNat)
    have hlt3 : (low n (e - f).toNat + 1) * 2 ^ (e + 1074).toNat ≤ m * 2 ^ 64 * 2 ^ (e + 1074).toNat := Nat.mul_le_mul_right _ hlt
    rw [Nat.succ_mul] at hlt3
    rw [Nat.mul_right_comm m] at hlt2 hlt3
    obtain ⟨A, hA⟩ : ∃ A, A = m * 2 ^ (e + 1074).toNat * 2 ^ 64 := ⟨_, rfl⟩
    obtain ⟨B, hB⟩ : ∃ B, B = low n (e - f).toNat * 2 ^ (e + 1074).toNat := ⟨_, rfl⟩
    obtain ⟨X, hX⟩ : ∃ X, X = n * 2 ^ 64 % 2 ^ (e - f).toNat * 2 ^ (f + 1074).toNat := ⟨_, rfl⟩
    obtain ⟨Y, hY⟩ : ∃ Y, Y = 2 ^ (e + 1074).toNat := ⟨_, rfl⟩
    rw [← hX, ← hY] at s2
    rw [← hX] at hpos
    rw [← hB, ← hA] at hlt2 hlt3
    rw [← hY] at hlt3
    rw [← hX, ← hB, ← hA, ← hY]
    clear hA hB hX hY s1 hl hS e1 hlt d1 d2 d3 hle
    omega
  · intro _
    left
    have hn1 := h.norm (by have := h.hf; omega)
    have hn2 : 2 ^ 52 * 2 ^ 64 ≤ m * 2 ^ 64 := Nat.mul_le_mul_right _ hn1
    have hlf := low_far h.hn hd
    obtain ⟨A, hA⟩ : ∃ A, A = m * 2 ^ 64 := ⟨_, rfl⟩
    obtain ⟨B, hB⟩ : ∃ B, B = low n (e - f).toNat := ⟨_, rfl⟩
    rw [← hA] at hn2 ⊢
    rw [← hB] at hlf ⊢
    clear s1 s2 hl hS hA hB hlt hpos d1 d2 d3 hle
    exact blen_ge (by omega)
end

/-- A sum, by the parts. -/
theorem add_sum {a b : Nat} (ha : W a) (hb : W b) (ra : right a = true) (rb : right b = true) :
    V (dec a) = (if sgn a then -((pm a * 2 ^ (pe a + 1074).toNat : Nat) : Int) else ((pm a * 2 ^ (pe a + 1074).toNat : Nat) : Int)) ∧
    V (dec b) = (if sgn b then -((pm b * 2 ^ (pe b + 1074).toNat : Nat) : Int) else ((pm b * 2 ^ (pe b + 1074).toNat : Nat) : Int)) := by
  rw [V_sgn ha, V_sgn hb, mag_pm (right_fin ra), mag_pm (right_fin rb)]
  exact ⟨rfl, rfl⟩

/-- Which one is greater, as dir.Add asks it. -/
def swapped (m n : Nat) (e f : Int) : Prop := e < f ∨ f = e ∧ m < n

theorem two_of {a b : Nat} (h : ¬ swapped (pm a) (pm b) (pe a) (pe b)) : Two (pm a) (pm b) (pe a) (pe b) := by
  have := pe_bounds a; have := pe_bounds b
  unfold swapped at h
  exact ⟨pm_lt a, pm_lt b, by omega, by omega, by omega, by omega, by omega, pm_norm⟩
theorem two_of' {a b : Nat} (h : swapped (pm a) (pm b) (pe a) (pe b)) : Two (pm b) (pm a) (pe b) (pe a) := by
  have := pe_bounds a; have := pe_bounds b
  unfold swapped at h
  exact ⟨pm_lt b, pm_lt a, by omega, by omega, by omega, by omega, by omega, pm_norm⟩

theorem dAdd_right {a b : Nat} {up : Bool} (ra : right a = true) (rb : right b = true) : dAdd a b up = out (fl (V (dec a) + V (dec b)) 1 up) up := by
  unfold dAdd addR; rw [ra, rb, if_pos (by decide)]
theorem dAdd_wrong {a b : Nat} {up : Bool} (h : right a = false ∨ right b = false) : dAdd a b up = (0, 13) := by
  unfold dAdd
  rcases h with h | h <;> simp [h]

/-- The three ways of dir.Add: of one sign; of two, with more, and without. -/
structure Sum (p q : Bool) (m n : Nat) (e f : Int) (up : Bool) (r : Nat × Int) : Prop where
  two : Two m n e f
  same : p = q → rnd p (m * 2 ^ 64 + low n (e - f).toNat) (lost (n * 2 ^ 64) (e - f).toNat) (e - 64) up = r
  less : p ≠ q → lost (n * 2 ^ 64) (e - f).toNat = true → rnd p (m * 2 ^ 64 - low n (e - f).toNat - 1) true (e - 64) up = r
  diff : p ≠ q → lost (n * 2 ^ 64) (e - f).toNat = false → rnd p (m * 2 ^ 64 - low n (e - f).toNat) false (e - 64) up = r

theorem sum_of {p q : Bool} {m n : Nat} {e f : Int} {up : Bool} {x y : Int} (h : Two m n e f)
    (hx : x = if p then -((m * 2 ^ (e + 1074).toNat : Nat) : Int) else ((m * 2 ^ (e + 1074).toNat : Nat) : Int))
    (hy : y = if q then -((n * 2 ^ (f + 1074).toNat : Nat) : Int) else ((n * 2 ^ (f + 1074).toNat : Nat) : Int)) :
    Sum p q m n e f up (out (fl (x + y) 1 up) up) := by
  have hle := h.le
  refine ⟨h, ?_, ?_, ?_⟩
  · intro hpq; subst hpq
    refine h.same_out ?_
    rw [hx, hy]; split <;> omega
  · intro hpq hlo
    refine h.less_out ?_ hlo
    have hc : (p = true ∧ q = false) ∨ (p = false ∧ q = true) := by cases p <;> cases q <;> simp at hpq ⊢
    rcases hc with ⟨rfl, rfl⟩ | ⟨rfl, rfl⟩
    · rw [hx, hy, if_pos rfl, if_neg (by decide), if_pos rfl]; omega
    · rw [hx, hy, if_neg (by decide), if_pos rfl, if_neg (by decide)]; omega
  · intro hpq hlo
    refine h.diff_out ?_ hlo
    have hc : (p = true ∧ q = false) ∨ (p = false ∧ q = true) := by cases p <;> cases q <;> simp at hpq ⊢
    rcases hc with ⟨rfl, rfl⟩ | ⟨rfl, rfl⟩
    · rw [hx, hy, if_pos rfl, if_neg (by decide), if_pos rfl]; omega
    · rw [hx, hy, if_neg (by decide), if_pos rfl, if_neg (by decide)]; omega

theorem sum_straight {a b : Nat} {up : Bool} (ha : W a) (hb : W b) (ra : right a = true) (rb : right b = true) (h : ¬ swapped (pm a) (pm b) (pe a) (pe b)) :
    Sum (sgn a) (sgn b) (pm a) (pm b) (pe a) (pe b) up (dAdd a b up) := by
  obtain ⟨h1, h2⟩ := add_sum ha hb ra rb
  rw [dAdd_right ra rb]
  exact sum_of (two_of h) h1 h2
theorem sum_swapped {a b : Nat} {up : Bool} (ha : W a) (hb : W b) (ra : right a = true) (rb : right b = true) (h : swapped (pm a) (pm b) (pe a) (pe b)) :
    Sum (sgn b) (sgn a) (pm b) (pm a) (pe b) (pe a) up (dAdd a b up) := by
  obtain ⟨h1, h2⟩ := add_sum ha hb ra rb
  rw [dAdd_right ra rb, Int.add_comm]
  exact sum_of (two_of' h) h2 h1

theorem W_flip {b : Nat} (h : W b) : W (flip b) := by
  unfold flip W
  exact Nat.xor_lt_two_pow h.lt (by omega)
theorem minus_flip {b : Nat} (_h : W b) (_r : right b = true) (h0 : b ≠ 0) : minus b = flip b := by
  unfold minus
  rw [if_neg h0]
  by_cases h1 : b < 2 ^ 63
  · rw [if_pos h1, flip_low h1]; omega
  · rw [if_neg h1]
    have := flip_high (r := b - 2 ^ 63) (by have := _h.lt; omega)
    have e : 2 ^ 63 + (b - 2 ^ 63) = b := by omega
    rw [e] at this
    exact this.symm
theorem fne_zero {b : Nat} (h : W b) (r : right b = true) (h0 : b ≠ 0) : fne b 0 = true := by
  rw [fne_eq, feq_zero h.lt]
  unfold right at r
  rw [decide_eq_true_eq] at r
  have := h.lt
  simp
  omega

end Go.Dy

/-
  Plain facts: the next one; quotients and roots by their parts.
-/
namespace Go.Dy

/-- What dir.Next hands to 'rounded'. -/
def nextMinus (b : Nat) (up : Bool) : Bool := if pm b = 0 then !up else sgn b
def nextM (b : Nat) (up : Bool) : Nat :=
  if pm b = 0 then 1 else if up != sgn b then pm b + 1 else if pm b = 4503599627370496 ∧ -1074 < pe b then 9007199254740991 else pm b - 1
def nextE (b : Nat) (up : Bool) : Int :=
  if pm b = 0 then pe b else if up != sgn b then pe b else if pm b = 4503599627370496 ∧ -1074 < pe b then pe b - 1 else pe b

theorem rung_pm {b : Nat} (hf : fin b) : b % 2 ^ 63 = (pe b + 1074).toNat * 2 ^ 52 + pm b := by
  have hf' : b % 2 ^ 63 < top := hf
  unfold pm pe field
  rw [top_eq] at hf'
  split
  · omega
  · omega

theorem rnd_exact {minus : Bool} {m : Nat} {e : Int} {up : Bool} {r : Nat} (he : -1074 ≤ e) (h : mag r = m * 2 ^ (e + 1074).toNat) :
    rnd minus m false e up = out (if minus then -(r : Int) else (r : Int)) up := by
  have h1 := rnd_eq (minus := minus) (N := m) (more := false) (e := e) (up := up) (num := mag r) (den := 1) (i := (e + 1074).toNat) (j := 0) (by omega) (by omega)
    (by unfold Is; rw [if_neg (by decide), h, Nat.pow_zero]) (by intro h; cases h)
  rw [h1, Nat.div_one, Nat.mod_one]
  congr 1
  unfold rnk rup
  rw [rdn_mag]
  cases minus <;> cases up <;> simp

theorem dec_rung {b : Nat} (hb : W b) : dec b = if sgn b then -((b % 2 ^ 63 : Nat) : Int) else ((b % 2 ^ 63 : Nat) : Int) := by
  have := hb.lt
  unfold dec sgn
  by_cases h : b < 2 ^ 63
  · rw [if_pos h, if_neg (by simp only [decide_eq_true_eq]; omega)]; omega
  · rw [if_neg h, if_pos (by simp only [decide_eq_true_eq]; omega)]; omega

theorem next_out {b : Nat} {up : Bool} (hb : W b) (r : right b = true) : rnd (nextMinus b up) (nextM b up) false (nextE b up) up = dNext b up := by
  have hf := right_fin r
  have hr := rung_pm hf
  have hp := pe_bounds b
  have hpl := pm_lt b
  have hn := @pm_norm b
  have hd := dec_rung hb
  have hmz := mag_pm hf
  unfold dNext
  rw [r, if_pos (by decide)]
  unfold nextMinus nextM nextE
  generalize b % 2 ^ 63 = x at *
  by_cases h0 : pm b = 0
  · -- 0
    have hpe : pe b = -1074 := by
      apply Int.le_antisymm _ hp.1
      apply Int.le_of_not_gt
      intro h; have := hn h; omega
    have hx : x = 0 := by
      have e0 : (pe b + 1074).toNat = 0 := by omega
      rw [e0, h0] at hr
      simpa using hr
    subst hx
    have hd0 : dec b = 0 := by rw [hd]; cases sgn b <;> simp
    rw [if_pos h0, if_pos h0, if_pos h0, hd0, hpe, rnd_exact (r := 1) (by omega) (by decide)]
    congr 1
    cases up <;> rfl
  · rw [if_neg h0, if_neg h0, if_neg h0]
    have hx0 : x ≠ 0 := by omega
    by_cases h1 : (up != sgn b) = true
    · rw [if_pos h1, if_pos h1]
      have e1 : mag (x + 1) = (pm b + 1) * 2 ^ (pe b + 1074).toNat := by
        rw [mag_succ, hmz, Nat.succ_mul]
        congr 2
        by_cases h2 : -1074 < pe b
        · have := hn h2; omega
        · omega
      rw [rnd_exact (r := x + 1) (by omega) e1]
      congr 1
      rw [hd]
      cases hs : sgn b <;> cases up <;> simp [hs] at h1 ⊢
      omega
    · rw [if_neg h1, if_neg h1]
      have h1' : up = sgn b := by simpa using h1
      have e2 : (if up then dec b + 1 else dec b - 1) = if sgn b then -((x - 1 : Nat) : Int) else ((x - 1 : Nat) : Int) := by
        rw [hd, h1']
        cases sgn b <;> simp <;> omega
      rw [e2]
      by_cases h2 : pm b = 4503599627370496 ∧ -1074 < pe b
      · rw [if_pos h2, if_pos h2]
        obtain ⟨k, hk⟩ : ∃ k : Nat, (pe b - 1 + 1074).toNat = k := ⟨_, rfl⟩
        refine rnd_exact (r := x - 1) (by omega) ?_
        have hx1 : x - 1 = k * 2 ^ 52 + (2 ^ 52 + (2 ^ 52 - 1)) ∨ (k = 0 ∧ x - 1 < 2 ^ 53) := by
          rw [h2.1] at hr; omega
        rw [hk]
        rcases hx1 with hx1 | ⟨hk0, hx1⟩
        · rw [hx1, mag_form k (2 ^ 52 - 1) (by omega)]
        · subst hk0
          rw [mag_low hx1, Nat.pow_zero]
          rw [h2.1] at hr
          omega
      · rw [if_neg h2, if_neg h2]
        refine rnd_exact (r := x - 1) (by omega) ?_
        have e3 := mag_succ (x - 1)
        have e4 : x - 1 + 1 = x := by omega
        rw [e4, hmz] at e3
        have e5 : (x - 1) / 2 ^ 52 - 1 = (pe b + 1074).toNat := by
          by_cases h3 : -1074 < pe b
          · have := hn h3
            have h4 : pm b ≠ 4503599627370496 := fun h => h2 ⟨h, h3⟩
            omega
          · omega
        rw [e5] at e3
        rw [Nat.sub_mul, Nat.one_mul]
        omega

theorem dNext_wrong {b : Nat} {up : Bool} (h : right b = false) : dNext b up = (0, 13) := by
  unfold dNext; rw [h]; rfl

end Go.Dy

/-
  Plain facts: the long division of math/bits.Div64; quotients by their parts.
-/
namespace Go.Dy

theorem mul_parts (q y : Nat) : q * y = q * (y / 4294967296) * 4294967296 + q * (y % 4294967296) := by
  rw [Nat.mul_assoc, ← Nat.mul_add, Nat.mul_comm (y / 4294967296), Nat.div_add_mod]

/-- One digit of the division, to the base 2^32: the guess is not less than the digit, nor more than it by two. -/
theorem guess {h u y : Nat} (hy : 9223372036854775808 ≤ y) (hy2 : y < 18446744073709551616) (hh : h < y) (hu : u < 4294967296) :
    (h * 4294967296 + u) / y ≤ h / (y / 4294967296) ∧ h / (y / 4294967296) ≤ 4294967297 := by
  have hp : 0 < y / 4294967296 := by omega
  have hyy := Nat.div_add_mod y 4294967296
  have hm := Nat.mod_lt y (show 0 < 4294967296 by omega)
  constructor
  · rw [Nat.le_div_iff_mul_le hp]
    have h1 : (h * 4294967296 + u) / y * y ≤ h * 4294967296 + u := Nat.div_mul_le_self _ _
    generalize (h * 4294967296 + u) / y = q at *
    have h2 : q * y = q * (y / 4294967296) * 4294967296 + q * (y % 4294967296) := mul_parts q y
    generalize q * (y % 4294967296) = z at *
    generalize q * (y / 4294967296) = v at *
    omega
  · have : h / (y / 4294967296) < 4294967298 := by
      rw [Nat.div_lt_iff_lt_mul hp]; omega
    omega

/-- The test: where the guess is too great it says so, and only there. -/
theorem guess_test {h u y Q R : Nat} (hy : 9223372036854775808 ≤ y) (hh : h < y) (hu : u < 4294967296) (hQ : Q * (y / 4294967296) + R = h) :
    ((4294967296 ≤ Q ∨ 4294967296 * R + u < Q * (y % 4294967296)) → (h * 4294967296 + u) / y < Q) ∧
    (¬ (4294967296 ≤ Q ∨ 4294967296 * R + u < Q * (y % 4294967296)) → Q ≤ (h * 4294967296 + u) / y) := by
  have hp : 0 < y := by omega
  have hyy := Nat.div_add_mod y 4294967296
  have h2 : Q * y = Q * (y / 4294967296) * 4294967296 + Q * (y % 4294967296) := mul_parts Q y
  constructor
  · intro ht
    rw [Nat.div_lt_iff_lt_mul hp]
    rcases ht with ht | ht
    · have : 4294967296 * y ≤ Q * y := Nat.mul_le_mul_right _ ht
      omega
    · rw [h2]
      generalize Q * (y % 4294967296) = z at *
      generalize Q * (y / 4294967296) = v at *
      omega
  · intro ht
    rw [Nat.le_div_iff_mul_le hp, h2]
    generalize Q * (y % 4294967296) = z at *
    generalize Q * (y / 4294967296) = v at *
    omega

/-- Where the rest has grown beyond the base the guess is right. -/
theorem guess_stop {h u y Q R : Nat} (hy : 9223372036854775808 ≤ y) (hQ : Q * (y / 4294967296) + R = h) (hR : 4294967296 ≤ R) (hQ2 : Q ≤ 4294967296) :
    Q ≤ (h * 4294967296 + u) / y := by
  have hp : 0 < y := by omega
  have hyy := Nat.div_add_mod y 4294967296
  have hm := Nat.mod_lt y (show 0 < 4294967296 by omega)
  have h2 : Q * y = Q * (y / 4294967296) * 4294967296 + Q * (y % 4294967296) := mul_parts Q y
  have h3 : Q * (y % 4294967296) ≤ 4294967296 * 4294967296 := Nat.mul_le_mul hQ2 (Nat.le_of_lt hm)
  rw [Nat.le_div_iff_mul_le hp, h2]
  generalize Q * (y % 4294967296) = z at *
  generalize Q * (y / 4294967296) = v at *
  omega

/-- The whole division by two digits. -/
theorem two_digits {h l y : Nat} (hy : 0 < y) :
    (h * 18446744073709551616 + l) / y = (h * 4294967296 + l / 4294967296) / y * 4294967296 + ((h * 4294967296 + l / 4294967296) % y * 4294967296 + l % 4294967296) / y ∧
    (h * 18446744073709551616 + l) % y = ((h * 4294967296 + l / 4294967296) % y * 4294967296 + l % 4294967296) % y := by
  have e1 := Nat.div_add_mod l 4294967296
  have e2 := Nat.div_add_mod (h * 4294967296 + l / 4294967296) y
  have e3 : h * 18446744073709551616 + l = y * ((h * 4294967296 + l / 4294967296) / y * 4294967296) + ((h * 4294967296 + l / 4294967296) % y * 4294967296 + l % 4294967296) := by
    rw [← Nat.mul_assoc]
    generalize y * ((h * 4294967296 + l / 4294967296) / y) = A at *
    omega
  rw [e3]
  constructor
  · rw [Nat.mul_add_div hy]
  · rw [Nat.mul_add_mod]

/-- The quotient and the rest of two words by one. -/
def quo64 (h l y : Nat) : Nat := (h * 18446744073709551616 + l) / y
def rem64 (h l y : Nat) : Nat := (h * 18446744073709551616 + l) % y

end Go.Dy

/-
  Plain facts: quotients by their parts.
-/
namespace Go.Dy

/-- How far the digits are from the upper end of a word; and put there. -/
def lz (m : Nat) : Nat := 64 - blen m
def nm (m : Nat) : Nat := m * 2 ^ lz m

theorem nm_bounds {m : Nat} (h0 : m ≠ 0) (h : m < 2 ^ 53) : 9223372036854775808 ≤ nm m ∧ W (nm m) ∧ lz m ≤ 63 := by
  have hb : blen m = m.log2 + 1 := by unfold blen; rw [if_neg h0]
  have h1 : 2 ^ m.log2 ≤ m := Nat.log2_self_le h0
  have h2 : m < 2 ^ (m.log2 + 1) := Nat.lt_log2_self
  have h3 : m.log2 < 53 := (Nat.log2_lt h0).2 h
  unfold nm lz W
  rw [hb]
  have e1 : 9223372036854775808 = 2 ^ m.log2 * 2 ^ (64 - (m.log2 + 1)) := by
    rw [← Nat.pow_add]
    have : m.log2 + (64 - (m.log2 + 1)) = 63 := by omega
    rw [this]
  have e2 : 2 ^ 64 = 2 ^ (m.log2 + 1) * 2 ^ (64 - (m.log2 + 1)) := by
    rw [← Nat.pow_add]
    have : m.log2 + 1 + (64 - (m.log2 + 1)) = 64 := by omega
    rw [this]
  refine ⟨?_, ?_, by omega⟩
  · rw [e1]; exact Nat.mul_le_mul_right _ h1
  · rw [e2]; exact Nat.mul_lt_mul_of_pos_right h2 (Nat.two_pow_pos _)

/-- The quotient of two words whose upper bits are set, by 2^63. -/
def dq (M N : Nat) : Nat := quo64 (M / 2) (lo64 (M * 2 ^ 63)) N
def dr (M N : Nat) : Nat := rem64 (M / 2) (lo64 (M * 2 ^ 63)) N
theorem half_up (M : Nat) : M / 2 * 18446744073709551616 + lo64 (M * 2 ^ 63) = M * 9223372036854775808 := by unfold lo64; omega
theorem dq_eq (M N : Nat) : dq M N = M * 9223372036854775808 / N := by unfold dq quo64; rw [half_up]
theorem dr_eq (M N : Nat) : dr M N = M * 9223372036854775808 % N := by unfold dr rem64; rw [half_up]
theorem dq_bounds {M N : Nat} (h1 : 9223372036854775808 ≤ M) (h2 : W M) (h3 : 9223372036854775808 ≤ N) (h4 : W N) : 4611686018427387904 ≤ dq M N ∧ W (dq M N) := by
  have := h2.lt; have := h4.lt
  rw [dq_eq]
  constructor
  · rw [Nat.le_div_iff_mul_le (by omega)]; omega
  · unfold W
    rw [Nat.div_lt_iff_lt_mul (by omega)]; omega

theorem divR_fl {a b : Nat} {up : Bool} (ha : W a) (hb : W b) (rb : right b = true) (hb0 : b ≠ 0) :
    divR (dec a) (dec b) up = rnk (sgn a != sgn b) (mag (a % 2 ^ 63) * one / mag (b % 2 ^ 63)) (decide (mag (a % 2 ^ 63) * one % mag (b % 2 ^ 63) ≠ 0)) up := by
  have hdb := dec_rung hb
  have hva := V_sgn ha
  have hvb := V_sgn hb
  have hb1 : b % 2 ^ 63 ≠ 0 := by
    unfold right at rb; rw [decide_eq_true_eq] at rb
    have := hb.lt
    omega
  have hneg : dec b < 0 ↔ sgn b = true := by
    rw [hdb]; cases sgn b <;> simp <;> omega
  have hvbn : (V (dec b)).natAbs = mag (b % 2 ^ 63) := by rw [hvb]; split <;> simp
  unfold divR
  rw [hvbn]
  have hone : (0 : Int) < one := by have := one_pos; omega
  have key : ∀ x : Int, x = V (dec a) ∨ x = -V (dec a) → (x * one).natAbs = mag (a % 2 ^ 63) * one := by
    intro x hx
    have : x.natAbs = mag (a % 2 ^ 63) := by
      rcases hx with rfl | rfl
      · rw [hva]; split <;> simp
      · rw [hva]; split <;> simp
    rw [Int.natAbs_mul, this]; simp
  have sg : ∀ x : Int, (x * one ≠ 0 → (decide (x * one < 0) = decide (x < 0))) := by
    intro x _
    have : x * one < 0 ↔ x < 0 := by
      constructor
      · intro h
        by_cases h2 : x < 0
        · exact h2
        · have := Int.mul_nonneg (Int.not_lt.1 h2) (Int.le_of_lt hone); omega
      · intro h; exact Int.mul_neg_of_neg_of_pos h hone
    simp only [this]
  cases hs : sgn b
  · have h1 : ¬ dec b < 0 := fun h => by have := hneg.1 h; rw [hs] at this; cases this
    rw [if_neg h1, fl_rnk (neg := (sgn a != false)), key _ (Or.inl rfl)]
    intro h0
    rw [sg _ h0]
    have hv0 : V (dec a) ≠ 0 := fun h => h0 (by rw [h]; simp)
    rw [hva] at hv0 ⊢
    cases sgn a
    · simp
    · simp at hv0 ⊢; omega
  · have h1 : dec b < 0 := hneg.2 hs
    rw [if_pos h1, ← Int.neg_mul, fl_rnk (neg := (sgn a != true)), key _ (Or.inr rfl)]
    intro h0
    rw [sg _ h0]
    have hv0 : -V (dec a) ≠ 0 := fun h => h0 (by rw [h]; simp)
    rw [hva] at hv0 ⊢
    cases sgn a
    · simp at hv0 ⊢; omega
    · simp

theorem pm_ne {b : Nat} (hb : W b) (r : right b = true) (h0 : b ≠ 0) : pm b ≠ 0 := by
  intro h
  have h1 := rung_pm (right_fin r)
  have h2 := pe_bounds b
  have h3 : pe b = -1074 := by
    apply Int.le_antisymm _ h2.1
    apply Int.le_of_not_gt
    intro hh; have := pm_norm hh; omega
  have e0 : (pe b + 1074).toNat = 0 := by omega
  rw [e0, h] at h1
  unfold right at r; rw [decide_eq_true_eq] at r
  have := hb.lt
  omega

theorem quo_out {a b : Nat} {up : Bool} (ha : W a) (hb : W b) (ra : right a = true) (rb : right b = true) (ha0 : a ≠ 0) (hb0 : b ≠ 0) :
    rnd (sgn a != sgn b) (dq (nm (pm a)) (nm (pm b))) (decide (0 < dr (nm (pm a)) (nm (pm b)))) (pe a - lz (pm a) - (pe b - lz (pm b)) - 63) up = dDiv a b up := by
  unfold dDiv
  rw [ra, rb, if_neg (by decide), if_neg hb0, divR_fl ha hb rb hb0]
  have fa := right_fin ra
  have fb := right_fin rb
  have pa := pm_ne ha ra ha0
  have pb := pm_ne hb rb hb0
  have ba := pe_bounds a
  have bb := pe_bounds b
  obtain ⟨a1, a2, a3⟩ := nm_bounds pa (pm_lt a)
  obtain ⟨b1, b2, b3⟩ := nm_bounds pb (pm_lt b)
  obtain ⟨q1, q2⟩ := dq_bounds a1 a2 b1 b2
  have hden : 0 < mag (b % 2 ^ 63) := by
    rw [mag_pm fb]; exact Nat.mul_pos (Nat.pos_of_ne_zero pb) (Nat.two_pow_pos _)
  obtain ⟨S, hS, eS⟩ := one_pow
  refine rnd_eq (i := (pe a + 1074).toNat + lz (pm b) + S) (j := (pe b + 1074).toNat + lz (pm a) + 63) hden (by omega) ?_ (fun _ => Or.inl (blen_ge (by omega)))
  rw [mag_pm fa, mag_pm fb, eS]
  clear hS eS
  have e1 := Nat.div_add_mod (nm (pm a) * 9223372036854775808) (nm (pm b))
  rw [← dq_eq, ← dr_eq] at e1
  have e2 : dr (nm (pm a)) (nm (pm b)) < nm (pm b) := by rw [dr_eq]; exact Nat.mod_lt _ (by omega)
  generalize dq (nm (pm a)) (nm (pm b)) = x at *
  generalize dr (nm (pm a)) (nm (pm b)) = y at *
  -- all by one power of two
  have eL : ∀ z, z * 2 ^ ((pe a + 1074).toNat + lz (pm b) + S) * (pm b * 2 ^ (pe b + 1074).toNat) = z * nm (pm b) * 2 ^ ((pe a + 1074).toNat + (pe b + 1074).toNat + S) := by
    intro z
    unfold nm
    generalize (pe a + 1074).toNat = u
    generalize (pe b + 1074).toNat = v
    rw [Nat.pow_add, Nat.pow_add, Nat.pow_add, Nat.pow_add]
    generalize 2 ^ u = U
    generalize 2 ^ v = V'
    generalize 2 ^ S = T
    generalize 2 ^ lz (pm b) = L
    generalize pm b = n
    simp only [Nat.mul_left_comm, Nat.mul_comm]
  have eR : pm a * 2 ^ (pe a + 1074).toNat * 2 ^ S * 2 ^ ((pe b + 1074).toNat + lz (pm a) + 63) = nm (pm a) * 9223372036854775808 * 2 ^ ((pe a + 1074).toNat + (pe b + 1074).toNat + S) := by
    unfold nm
    have e63 : (9223372036854775808 : Nat) = 2 ^ 63 := by decide
    rw [e63]
    generalize (pe a + 1074).toNat = u
    generalize (pe b + 1074).toNat = v
    rw [Nat.pow_add, Nat.pow_add, Nat.pow_add, Nat.pow_add]
    generalize 2 ^ u = U
    generalize 2 ^ v = V'
    generalize 2 ^ S = T
    generalize 2 ^ lz (pm a) = L
    generalize pm a = n
    generalize 2 ^ 63 = K
    simp only [Nat.mul_left_comm, Nat.mul_comm]
  unfold Is
  rw [eL, eL, eR]
  have pp : 0 < 2 ^ ((pe a + 1074).toNat + (pe b + 1074).toNat + S) := Nat.two_pow_pos _
  generalize 2 ^ ((pe a + 1074).toNat + (pe b + 1074).toNat + S) = T at pp ⊢
  rw [Nat.mul_comm (nm (pm b))] at e1
  split
  · rename_i hy
    rw [decide_eq_true_eq] at hy
    constructor
    · exact Nat.mul_lt_mul_of_pos_right (by omega) pp
    · refine Nat.mul_lt_mul_of_pos_right ?_ pp
      rw [Nat.succ_mul]; omega
  · rename_i hy
    simp at hy
    rw [← e1, hy, Nat.add_zero]

theorem feq_right {b : Nat} (hb : W b) (r : right b = true) : feq b 0 = decide (b = 0) := by
  rw [feq_zero hb.lt]
  unfold right at r; rw [decide_eq_true_eq] at r
  have := hb.lt
  congr 1
  rw [eq_iff_iff]
  omega

theorem out_divR_zero (z : Int) (up : Bool) : out (divR (dec 0) z up) up = (0, 0) := by
  have h0 : dec 0 = 0 := by decide
  unfold divR
  rw [h0, V_zero, Int.zero_mul, Int.neg_zero]
  have h1 : fl 0 (V z).natAbs up = 0 := by
    unfold fl
    have e1 : (0 : Int).natAbs / (V z).natAbs = 0 := by simp
    have e2 : (0 : Int).natAbs % (V z).natAbs = 0 := by simp
    rw [e1, e2]
    exact rnk_zero _ _
  rw [h1]
  cases up <;> split <;> decide

end Go.Dy

/- Plain facts: dir.Sqrt: the whole root, digit by digit; its rank. -/
namespace Go.Dy
open Ieee

theorem rootFrom_spec (n : Nat) : ∀ k r : Nat, r * r ≤ n → n < (r + 2 ^ k) * (r + 2 ^ k) →
    Datum.rootFrom n k r * Datum.rootFrom n k r ≤ n ∧ n < (Datum.rootFrom n k r + 1) * (Datum.rootFrom n k r + 1) := by
  intro k
  induction k with
  | zero => intro r h1 h2; exact ⟨h1, h2⟩
  | succ k ih =>
    intro r h1 h2
    unfold Datum.rootFrom
    dsimp only
    rw [Nat.shiftLeft_eq, Nat.one_mul]
    split
    · rename_i h
      refine ih _ h ?_
      have : r + 2 ^ k + 2 ^ k = r + 2 ^ (k + 1) := by rw [Nat.pow_succ]; omega
      rw [this]; exact h2
    · rename_i h
      exact ih _ h1 (by omega)

/-- The whole root. -/
def isq (n : Nat) : Nat := Datum.rootFrom n (n.log2 / 2 + 1) 0

theorem isq_spec (n : Nat) : isq n * isq n ≤ n ∧ n < (isq n + 1) * (isq n + 1) := by
  unfold isq
  refine rootFrom_spec n _ 0 (Nat.zero_le _) ?_
  rw [Nat.zero_add, ← Nat.pow_add]
  refine Nat.lt_of_lt_of_le Nat.lt_log2_self ?_
  exact Nat.pow_le_pow_right (by omega) (by omega)

theorem sq_lt {a b : Nat} : a * a < b * b ↔ a < b := by
  constructor
  · intro h
    have : ¬ b ≤ a := fun h2 => by have := Nat.mul_le_mul h2 h2; omega
    omega
  · intro h
    exact Nat.mul_lt_mul_of_lt_of_le h (Nat.le_of_lt h) (by omega)

theorem sq_le {a b : Nat} : a * a ≤ b * b ↔ a ≤ b := by
  have := @sq_lt b a
  omega

theorem le_isq {a n : Nat} : a ≤ isq n ↔ a * a ≤ n := by
  obtain ⟨h1, h2⟩ := isq_spec n
  constructor
  · intro h; have := sq_le.2 h; omega
  · intro h
    have : a * a < (isq n + 1) * (isq n + 1) := by omega
    have := sq_lt.1 this
    omega

theorem isq_unique {r n : Nat} (h1 : r * r ≤ n) (h2 : n < (r + 1) * (r + 1)) : isq n = r := by
  have a := le_isq.2 h1
  have b : isq n < r + 1 := sq_lt.1 (Nat.lt_of_le_of_lt (isq_spec n).1 h2)
  omega

theorem root_isq {k n : Nat} (h : n < 2 ^ k * 2 ^ k) : Datum.rootFrom n k 0 = isq n := by
  obtain ⟨h1, h2⟩ := rootFrom_spec n k 0 (Nat.zero_le _) (by rw [Nat.zero_add]; exact h)
  exact (isq_unique h1 h2).symm

/-- A square by a power of four is a square. -/
theorem sq_four (n t : Nat) : (isq n * isq n = n) ↔ (isq (n * (2 ^ t * 2 ^ t)) * isq (n * (2 ^ t * 2 ^ t)) = n * (2 ^ t * 2 ^ t)) := by
  constructor
  · intro h
    have : isq (n * (2 ^ t * 2 ^ t)) = isq n * 2 ^ t := by
      refine isq_unique ?_ ?_
      · rw [Nat.mul_mul_mul_comm, h]; exact Nat.le_refl _
      · have e : n * (2 ^ t * 2 ^ t) = (isq n * 2 ^ t) * (isq n * 2 ^ t) := by rw [Nat.mul_mul_mul_comm, h]
        rw [e]; exact sq_lt.2 (by omega)
    rw [this, Nat.mul_mul_mul_comm, h]
  · generalize isq (n * (2 ^ t * 2 ^ t)) = q
    induction t generalizing q with
    | zero =>
      intro h
      simp only [Nat.pow_zero, Nat.mul_one] at h
      have : isq n = q := isq_unique (by omega) (by rw [← h]; exact sq_lt.2 (by omega))
      rw [this]; exact h
    | succ t ih =>
      intro h
      have e4 : n * (2 ^ (t + 1) * 2 ^ (t + 1)) = 4 * (n * (2 ^ t * 2 ^ t)) := by
        rw [Nat.pow_succ, Nat.mul_mul_mul_comm (2 ^ t) 2, Nat.mul_comm (2 ^ t * 2 ^ t), ← Nat.mul_assoc, Nat.mul_comm n, Nat.mul_assoc]
      rw [e4] at h
      have hq : q % 2 = 0 := by
        rcases Nat.mod_two_eq_zero_or_one q with h0 | h1
        · exact h0
        · exfalso
          have := Nat.mul_mod q q 2
          rw [h1] at this
          omega
      obtain ⟨p, rfl⟩ : ∃ p, q = 2 * p := ⟨q / 2, by omega⟩
      refine ih p ?_
      rw [Nat.mul_mul_mul_comm] at h
      omega

/-- The root's rank, of a magnitude. -/
def sqR (A : Nat) (up : Bool) : Int := rnk false (isq (A * one)) (decide (isq (A * one) * isq (A * one) ≠ A * one)) up

/-- dir.Sqrt. -/
def dSqrt (a : Nat) (up : Bool) : Nat × Int :=
  if !right a then (0, 13) else if 2 ^ 63 ≤ a then (0, 12) else if a = 0 then (0, 0) else out (sqR (mag a) up) up

/-- The wide number of which the root is taken, and half its place. -/
def sqN (m : Nat) (e : Int) : Nat := if (e - lz m - 64) % 2 ≠ 0 then nm m * 2 ^ 63 else nm m * 2 ^ 64
def sqE (m : Nat) (e : Int) : Int := if (e - lz m - 64) % 2 ≠ 0 then (e - lz m - 64 + 1) / 2 else (e - lz m - 64) / 2

theorem sq_out {a : Nat} {up : Bool} (ha : W a) (ra : right a = true) (hp : a < 2 ^ 63) (h0 : a ≠ 0) :
    rnd false (isq (sqN (pm a) (pe a))) (decide (isq (sqN (pm a) (pe a)) * isq (sqN (pm a) (pe a)) ≠ sqN (pm a) (pe a))) (sqE (pm a) (pe a)) up = dSqrt a up := by
  unfold dSqrt
  rw [ra, if_neg (by decide), if_neg (by omega), if_neg h0]
  have fa := right_fin ra
  have pa := pm_ne ha ra h0
  have ba := pe_bounds a
  obtain ⟨a1, a2, a3⟩ := nm_bounds pa (pm_lt a)
  have hm : mag a = pm a * 2 ^ (pe a + 1074).toNat := by
    have := mag_pm fa
    rwa [Nat.mod_eq_of_lt hp] at this
  have a2' := a2.lt
  have hNb : 2 ^ 126 ≤ sqN (pm a) (pe a) ∧ sqN (pm a) (pe a) < 2 ^ 128 := by
    unfold sqN
    split <;> omega
  -- the place
  obtain ⟨t, ht⟩ : ∃ t : Nat, sqE (pm a) (pe a) + 1074 = t := ⟨(sqE (pm a) (pe a) + 1074).toNat, by unfold sqE; split <;> omega⟩
  have hA : mag a * one = sqN (pm a) (pe a) * (2 ^ t * 2 ^ t) := by
    obtain ⟨S, hS, eS⟩ := one_pow
    rw [hm, eS, ← Nat.pow_add]
    unfold sqE at ht
    unfold sqN
    unfold nm
    split at ht
    · rename_i hc
      rw [if_pos hc, Nat.mul_assoc, Nat.mul_assoc, Nat.mul_assoc, ← Nat.pow_add, ← Nat.pow_add, ← Nat.pow_add]
      have : (pe a + 1074).toNat + S = lz (pm a) + (63 + (t + t)) := by omega
      rw [this]
    · rename_i hc
      rw [if_neg hc, Nat.mul_assoc, Nat.mul_assoc, Nat.mul_assoc, ← Nat.pow_add, ← Nat.pow_add, ← Nat.pow_add]
      have : (pe a + 1074).toNat + S = lz (pm a) + (64 + (t + t)) := by omega
      rw [this]
  unfold sqR
  rw [hA]
  have hf := sq_four (sqN (pm a) (pe a)) t
  have hx := isq_spec (sqN (pm a) (pe a))
  have hq := isq_spec (sqN (pm a) (pe a) * (2 ^ t * 2 ^ t))
  have hbl : 53 ≤ blen (isq (sqN (pm a) (pe a))) := by
    have : 2 ^ 63 ≤ isq (sqN (pm a) (pe a)) := le_isq.2 (by omega)
    have := (lt_blen (x := isq (sqN (pm a) (pe a))) (k := 63)).2 this
    omega
  generalize sqE (pm a) (pe a) = E at *
  generalize sqN (pm a) (pe a) = n at *
  have hq1 : isq n * 2 ^ t ≤ isq (n * (2 ^ t * 2 ^ t)) := by
    rw [le_isq, Nat.mul_mul_mul_comm]; exact Nat.mul_le_mul_right _ hx.1
  have hq2 : isq (n * (2 ^ t * 2 ^ t)) < (isq n + 1) * 2 ^ t := by
    refine sq_lt.1 (Nat.lt_of_le_of_lt hq.1 ?_)
    rw [Nat.mul_mul_mul_comm]
    exact Nat.mul_lt_mul_of_pos_right hx.2 (Nat.mul_pos (Nat.two_pow_pos _) (Nat.two_pow_pos _))
  have hq3 : isq n * isq n = n → isq (n * (2 ^ t * 2 ^ t)) = isq n * 2 ^ t := by
    intro h
    refine isq_unique ?_ ?_
    · rw [Nat.mul_mul_mul_comm, h]; exact Nat.le_refl _
    · have e : n * (2 ^ t * 2 ^ t) = (isq n * 2 ^ t) * (isq n * 2 ^ t) := by rw [Nat.mul_mul_mul_comm, h]
      rw [e]; exact sq_lt.2 (by omega)
  have hd : decide (isq n * isq n ≠ n) = decide (isq (n * (2 ^ t * 2 ^ t)) * isq (n * (2 ^ t * 2 ^ t)) ≠ n * (2 ^ t * 2 ^ t)) := by
    rw [decide_eq_decide]; exact not_congr hf
  rw [← hd]
  generalize isq (n * (2 ^ t * 2 ^ t)) = q at *
  generalize isq n = x at *
  have key := fun (num : Nat) (h : Is x (decide (x * x ≠ n)) t 0 num 2) => rnd_eq (minus := false) (up := up) (by omega : 0 < 2) (show E + 1074 = (t : Int) - (0 : Nat) by omega) h (fun _ => Or.inl hbl)
  by_cases hc : x * x = n
  · have e1 : decide (x * x ≠ n) = false := by simpa using hc
    have h := key (2 * q) (by unfold Is; rw [e1, if_neg (by decide), Nat.pow_zero, Nat.mul_one, hq3 hc, Nat.mul_comm])
    rw [h, e1]
    have k1 : 2 * q / 2 = q := by omega
    have k2 : 2 * q % 2 = 0 := by omega
    rw [k1, k2]; rfl
  · have e1 : decide (x * x ≠ n) = true := by simpa using hc
    have h := key (2 * q + 1) (by unfold Is; rw [e1, if_pos rfl, Nat.pow_zero, Nat.mul_one]; exact ⟨by omega, by omega⟩)
    rw [h, e1]
    have k1 : (2 * q + 1) / 2 = q := by omega
    have k2 : (2 * q + 1) % 2 = 1 := by omega
    rw [k1, k2]; rfl

end Go.Dy

/- Plain facts: the rounds of dir.Sqrt. -/
namespace Go.Dy
open Ieee

/-- What holds at the head of a round: the digits found, and the next one's weight. -/
def SqAt (N R X B : Nat) : Prop := ∃ k, k ≤ 64 ∧ B = 2 ^ k / 2 ∧ X % 2 ^ k = 0 ∧ X < 2 ^ 64 ∧ Datum.rootFrom N k X = R

theorem sqAt_start {N : Nat} (h : N < 2 ^ 128) : SqAt N (isq N) 0 9223372036854775808 := by
  refine ⟨64, by omega, by omega, by omega, by omega, root_isq (by omega)⟩

theorem sqAt_end {N R X : Nat} (h : SqAt N R X 0) : X = R := by
  obtain ⟨k, h1, h2, h3, h4, h5⟩ := h
  have hk : k = 0 := by
    cases k with
    | zero => rfl
    | succ k =>
      rw [Nat.pow_succ, Nat.mul_div_cancel _ (by omega)] at h2
      have := Nat.two_pow_pos k
      omega
  subst hk
  exact h5

theorem sqAt_bit {N R X B : Nat} (h : SqAt N R X B) (hb : 0 < B) : ∃ k, k < 64 ∧ B = 2 ^ k ∧ X % 2 ^ (k + 1) = 0 ∧ X < 2 ^ 64 ∧ Datum.rootFrom N (k + 1) X = R ∧ X ||| B = X + 2 ^ k ∧ X + 2 ^ k < 2 ^ 64 := by
  obtain ⟨k, h1, h2, h3, h4, h5⟩ := h
  cases k with
  | zero => rw [h2] at hb; exact absurd hb (by decide)
  | succ k =>
    rw [Nat.pow_succ, Nat.mul_div_cancel _ (by omega)] at h2
    have e1 : X = 2 ^ (k + 1) * (X / 2 ^ (k + 1)) := by
      have := Nat.div_add_mod X (2 ^ (k + 1)); omega
    have hlt : 2 ^ k < 2 ^ (k + 1) := Nat.pow_lt_pow_right (by omega) (by omega)
    have e2 : X ||| B = X + 2 ^ k := by
      rw [h2, e1]
      exact (Nat.two_pow_add_eq_or_of_lt hlt _).symm
    have e3 : 2 ^ 64 = 2 ^ (k + 1) * 2 ^ (63 - k) := by rw [← Nat.pow_add]; congr 1; omega
    have e4 : X / 2 ^ (k + 1) < 2 ^ (63 - k) := by
      rw [Nat.div_lt_iff_lt_mul (Nat.two_pow_pos _), Nat.mul_comm, ← e3]; exact h4
    have e5 : X + 2 ^ k < 2 ^ 64 := by
      have := Nat.mul_le_mul_left (2 ^ (k + 1)) (Nat.succ_le_of_lt e4)
      rw [← e3, Nat.mul_succ, ← e1] at this
      omega
    exact ⟨k, by omega, h2, h3, h4, h5, e2, e5⟩


theorem mod_half {X k : Nat} (h : X % 2 ^ (k + 1) = 0) : X % 2 ^ k = 0 := by
  have : 2 ^ k ∣ 2 ^ (k + 1) := Nat.pow_dvd_pow 2 (by omega)
  exact Nat.mod_eq_zero_of_dvd (Nat.dvd_trans this (Nat.dvd_of_mod_eq_zero h))

theorem sqAt_in {N R X B : Nat} (h : SqAt N R X B) (hb : 0 < B) (hs : (X ||| B) * (X ||| B) ≤ N) : SqAt N R (X ||| B) (B / 2) := by
  obtain ⟨k, h1, h2, h3, h4, h5, h6, h7⟩ := sqAt_bit h hb
  rw [h6] at hs ⊢
  refine ⟨k, by omega, by rw [h2], ?_, h7, ?_⟩
  · rw [Nat.add_mod_right]; exact mod_half h3
  · rw [← h5]
    show _ = Datum.rootFrom N k (if (X + 1 <<< k) * (X + 1 <<< k) ≤ N then X + 1 <<< k else X)
    rw [Nat.shiftLeft_eq, Nat.one_mul, if_pos hs]

theorem sqAt_out {N R X B : Nat} (h : SqAt N R X B) (hb : 0 < B) (hs : N < (X ||| B) * (X ||| B)) : SqAt N R X (B / 2) := by
  obtain ⟨k, h1, h2, h3, h4, h5, h6, h7⟩ := sqAt_bit h hb
  rw [h6] at hs
  refine ⟨k, by omega, by rw [h2], mod_half h3, h4, ?_⟩
  rw [← h5]
  show _ = Datum.rootFrom N k (if (X + 1 <<< k) * (X + 1 <<< k) ≤ N then X + 1 <<< k else X)
  rw [Nat.shiftLeft_eq, Nat.one_mul, if_neg (by omega)]

theorem sqAt_W {N R X B : Nat} (h : SqAt N R X B) : W X := by
  obtain ⟨k, h1, h2, h3, h4, h5⟩ := h
  exact h4

theorem sqAt_or {N R X B : Nat} (h : SqAt N R X B) (hb : 0 < B) : W (X ||| B) := by
  obtain ⟨k, h1, h2, h3, h4, h5, h6, h7⟩ := sqAt_bit h hb
  rw [h6]; exact h7
end Go.Dy

/- Plain facts: numbers compared are their ranks compared. -/
namespace Go.Dy

theorem right_nan {a : Nat} (r : right a = true) : nan a = false := by
  unfold right at r; rw [decide_eq_true_eq] at r
  unfold nan
  simp; omega

theorem flt_dec {a b : Nat} (ha : W a) (hb : W b) (ra : right a = true) (rb : right b = true) : flt a b = decide (dec a < dec b) := by
  rw [flt_eq ha.lt hb.lt, right_nan ra, right_nan rb]; rfl
theorem feq_dec {a b : Nat} (ha : W a) (hb : W b) (ra : right a = true) (rb : right b = true) : feq a b = decide (dec a = dec b) := by
  rw [feq_eq ha.lt hb.lt, right_nan ra, right_nan rb]; rfl
theorem fgt_dec {a b : Nat} (ha : W a) (hb : W b) (ra : right a = true) (rb : right b = true) : fgt a b = decide (dec b < dec a) := by
  rw [fgt_eq ha.lt hb.lt, right_nan ra, right_nan rb]; rfl

theorem right_zero : right 0 = true := by decide
theorem dec_zero : dec 0 = 0 := by decide
theorem W_zero : W 0 := by unfold W; omega

theorem dec_neg {a : Nat} (ha : W a) (r : right a = true) : dec a < 0 ↔ 2 ^ 63 ≤ a := by
  unfold right at r; rw [decide_eq_true_eq] at r
  have := ha.lt
  unfold dec
  split <;> omega

theorem flt_right {a : Nat} (ha : W a) (r : right a = true) : flt a 0 = decide (2 ^ 63 ≤ a) := by
  rw [flt_dec ha W_zero r right_zero, dec_zero, decide_eq_decide]
  exact dec_neg ha r

end Go.Dy

/- Plain facts: the chapter's examples. -/
namespace Go.Dy
theorem p60 : ldx 4607182418800017408 (-60) = 4336966441157787648 := by decide +kernel
theorem p600 : ldx 4607182418800017408 (-600) = 1905022642377719808 := by decide +kernel
theorem q600 : ldx 4607182418800017408 600 = 7309342195222315008 := by decide +kernel
theorem p52 : ldx 4607182418800017408 (-52) = 4372995238176751616 := by decide +kernel
theorem p1074 : ldx 4607182418800017408 (-1074) = 1 := by decide +kernel
theorem x1 : dAdd 4607182418800017408 4336966441157787648 false = (4607182418800017408, 0) ∧ dAdd 4607182418800017408 4336966441157787648 true = (4607182418800017409, 0) := by decide +kernel
theorem x2 : dMul 4613937818241073152 4617315517961601024 false = (4624633867356078080, 0) ∧ dMul 4613937818241073152 4617315517961601024 true = (4624633867356078080, 0) := by decide +kernel
theorem x3 : dDiv 4607182418800017408 4613937818241073152 false = (4599676419421066581, 0) ∧ dDiv 4607182418800017408 4613937818241073152 true = (4599676419421066582, 0) := by decide +kernel
theorem x4 : dSqrt 4611686018427387904 false = (4609047870845172684, 0) ∧ dSqrt 4611686018427387904 true = (4609047870845172685, 0) := by decide +kernel
theorem x5 : dMul 1905022642377719808 1905022642377719808 false = (0, 0) ∧ dMul 1905022642377719808 1905022642377719808 true = (1, 0) := by decide +kernel
theorem x6 : dMul 7309342195222315008 7309342195222315008 false = (9218868437227405311, 0) ∧ dMul 7309342195222315008 7309342195222315008 true = (0, 10) := by decide +kernel
theorem x7 : dDiv 4607182418800017408 0 true = (0, 11) := by decide +kernel
theorem x8 : dSub 4607182418800017408 4607182418800017408 false = (0, 0) := by decide +kernel
theorem x9 : dNext 0 false = (9223372036854775809, 0) := by decide +kernel
end Go.Dy

