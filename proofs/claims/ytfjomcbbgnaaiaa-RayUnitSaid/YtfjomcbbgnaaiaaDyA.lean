/-
  Plain facts on the numbers of a float64: ranks, the magnitude of a rank in units of 2^-1074, and rounding down or up to a rank. No program in sight.
-/
namespace Go.Dy

/-- The magnitude of rung r, in units of 2^-1074. -/
def mag (r : Nat) : Nat := if r < 2 ^ 52 then r else (2 ^ 52 + r % 2 ^ 52) * 2 ^ (r / 2 ^ 52 - 1)

/-- The rung of infinity. -/
def top : Nat := 2047 * 2 ^ 52

theorem mag_low {r : Nat} (h : r < 2 ^ 53) : mag r = r := by
  unfold mag
  split
  · rfl
  · rename_i h1
    have e1 : r / 2 ^ 52 = 1 := by omega
    rw [e1]
    show (2 ^ 52 + r % 2 ^ 52) * 1 = r
    omega

/-- A rung that is written out: (k + 1) binades, and n beyond. -/
theorem mag_form (k n : Nat) (hn : n < 2 ^ 52) : mag (k * 2 ^ 52 + (2 ^ 52 + n)) = (2 ^ 52 + n) * 2 ^ k := by
  unfold mag
  rw [if_neg (by omega)]
  have e1 : (k * 2 ^ 52 + (2 ^ 52 + n)) / 2 ^ 52 = k + 1 := by omega
  have e2 : (k * 2 ^ 52 + (2 ^ 52 + n)) % 2 ^ 52 = n := by omega
  rw [e1, e2]
  rfl

theorem mag_succ (r : Nat) : mag (r + 1) = mag r + 2 ^ (r / 2 ^ 52 - 1) := by
  by_cases h : r < 2 ^ 52
  · rw [mag_low (r := r) (by omega), mag_low (r := r + 1) (by omega)]
    have e1 : r / 2 ^ 52 = 0 := by omega
    rw [e1]
  · have hk : ∃ k n, n < 2 ^ 52 ∧ r = k * 2 ^ 52 + (2 ^ 52 + n) := ⟨r / 2 ^ 52 - 1, r % 2 ^ 52, by omega, by omega⟩
    obtain ⟨k, n, hn, rfl⟩ := hk
    have e1 : (k * 2 ^ 52 + (2 ^ 52 + n)) / 2 ^ 52 - 1 = k := by omega
    rw [e1, mag_form k n hn]
    by_cases hl : n + 1 < 2 ^ 52
    · have e2 : k * 2 ^ 52 + (2 ^ 52 + n) + 1 = k * 2 ^ 52 + (2 ^ 52 + (n + 1)) := by omega
      rw [e2, mag_form k (n + 1) hl, ← Nat.succ_mul]
      rfl
    · have e2 : k * 2 ^ 52 + (2 ^ 52 + n) + 1 = (k + 1) * 2 ^ 52 + (2 ^ 52 + 0) := by omega
      rw [e2, mag_form (k + 1) 0 (by omega), ← Nat.succ_mul, Nat.pow_succ]
      have e3 : (2 ^ 52 + n).succ = 2 ^ 52 * 2 := by omega
      rw [e3, Nat.mul_assoc, Nat.mul_comm 2 (2 ^ k)]
      rfl

theorem mag_lt_succ (r : Nat) : mag r < mag (r + 1) := by
  rw [mag_succ]
  have : 0 < 2 ^ (r / 2 ^ 52 - 1) := Nat.two_pow_pos _
  omega

theorem mag_lt {r s : Nat} (h : r < s) : mag r < mag s := by
  induction s with
  | zero => omega
  | succ s ih =>
    have := mag_lt_succ s
    by_cases e : r = s
    · rw [e]; exact this
    · exact Nat.lt_trans (ih (by omega)) this

theorem mag_lt_iff {r s : Nat} : mag r < mag s ↔ r < s := by
  constructor
  · intro h
    by_cases e : r < s
    · exact e
    · by_cases e2 : s = r
      · rw [e2] at h; omega
      · have := mag_lt (r := s) (s := r) (by omega); omega
  · exact mag_lt

theorem mag_le_iff {r s : Nat} : mag r ≤ mag s ↔ r ≤ s := by
  have := @mag_lt_iff s r
  omega

theorem mag_zero : mag 0 = 0 := by decide

/-- The rung at q, or the next one below. -/
def rdn (q : Nat) : Nat := (q.log2 - 52) * 2 ^ 52 + q >>> (q.log2 - 52)

theorem rdn_low {q : Nat} (h : q < 2 ^ 53) : rdn q = q := by
  unfold rdn
  have : q.log2 - 52 = 0 := by
    by_cases e : q = 0
    · subst e; decide
    · have := (Nat.log2_lt e (k := 53)).2 h; omega
  rw [this]
  simp

/-- q of more than 53 digits, its first ones m. -/
theorem log2_form {k m x : Nat} (hm : 2 ^ 52 ≤ m) (hm' : m < 2 ^ 53) (hx : x < 2 ^ k) : (m * 2 ^ k + x).log2 = 52 + k := by
  have hp : 0 < 2 ^ k := Nat.two_pow_pos _
  have ne : m * 2 ^ k + x ≠ 0 := by
    have : 1 * 1 ≤ m * 2 ^ k := Nat.mul_le_mul (by omega) hp
    omega
  have a1 : 2 ^ (52 + k) ≤ m * 2 ^ k + x := by
    rw [Nat.pow_add]
    exact Nat.le_trans (Nat.mul_le_mul_right _ hm) (Nat.le_add_right _ _)
  have a2 : m * 2 ^ k + x < 2 ^ (53 + k) := by
    rw [Nat.pow_add]
    have : (m + 1) * 2 ^ k ≤ 2 ^ 53 * 2 ^ k := Nat.mul_le_mul_right _ hm'
    rw [Nat.succ_mul] at this
    omega
  have b1 := (Nat.le_log2 ne (k := 52 + k)).2 a1
  have b2 := (Nat.log2_lt ne (k := 53 + k)).2 a2
  omega

theorem rdn_form {k m x : Nat} (hm : 2 ^ 52 ≤ m) (hm' : m < 2 ^ 53) (hx : x < 2 ^ k) : rdn (m * 2 ^ k + x) = k * 2 ^ 52 + m := by
  unfold rdn
  rw [log2_form hm hm' hx]
  have e1 : 52 + k - 52 = k := by omega
  rw [e1, Nat.shiftRight_eq_div_pow]
  have e2 : (m * 2 ^ k + x) / 2 ^ k = m := by
    rw [Nat.mul_comm, Nat.mul_add_div (Nat.two_pow_pos _), Nat.div_eq_of_lt hx]; rfl
  rw [e2]

/-- Each q is so. -/
theorem form_of (q : Nat) : q < 2 ^ 53 ∨ ∃ k m x, 2 ^ 52 ≤ m ∧ m < 2 ^ 53 ∧ x < 2 ^ k ∧ q = m * 2 ^ k + x := by
  by_cases h : q < 2 ^ 53
  · exact .inl h
  · refine .inr ⟨q.log2 - 52, q / 2 ^ (q.log2 - 52), q % 2 ^ (q.log2 - 52), ?_, ?_, Nat.mod_lt _ (Nat.two_pow_pos _), ?_⟩
    · have ne : q ≠ 0 := by omega
      have h52 : 52 ≤ q.log2 := (Nat.le_log2 ne).2 (by omega)
      rw [Nat.le_div_iff_mul_le (Nat.two_pow_pos _), ← Nat.pow_add]
      have : 52 + (q.log2 - 52) = q.log2 := by omega
      rw [this]
      exact Nat.log2_self_le ne
    · have ne : q ≠ 0 := by omega
      have h52 : 52 ≤ q.log2 := (Nat.le_log2 ne).2 (by omega)
      rw [Nat.div_lt_iff_lt_mul (Nat.two_pow_pos _), ← Nat.pow_add]
      have : 53 + (q.log2 - 52) = q.log2 + 1 := by omega
      rw [this]
      exact Nat.lt_log2_self
    · rw [Nat.mul_comm]; exact (Nat.div_add_mod _ _).symm

theorem rdn_le (q : Nat) : mag (rdn q) ≤ q := by
  rcases form_of q with h | ⟨k, m, x, h1, h2, h3, rfl⟩
  · rw [rdn_low h, mag_low h]; exact Nat.le_refl _
  · rw [rdn_form h1 h2 h3]
    obtain ⟨n, rfl⟩ : ∃ n, m = 2 ^ 52 + n := ⟨m - 2 ^ 52, by omega⟩
    rw [mag_form k n (by omega)]
    omega

theorem lt_rdn (q : Nat) : q < mag (rdn q + 1) := by
  rcases form_of q with h | ⟨k, m, x, h1, h2, h3, rfl⟩
  · rw [rdn_low h]
    have := mag_lt_succ q
    rw [mag_low h] at this
    exact this
  · rw [rdn_form h1 h2 h3, mag_succ]
    obtain ⟨n, rfl⟩ : ∃ n, m = 2 ^ 52 + n := ⟨m - 2 ^ 52, by omega⟩
    rw [mag_form k n (by omega)]
    have e1 : (k * 2 ^ 52 + (2 ^ 52 + n)) / 2 ^ 52 - 1 = k := by omega
    rw [e1]
    omega

theorem le_rdn {r q : Nat} : r ≤ rdn q ↔ mag r ≤ q := by
  constructor
  · intro h
    exact Nat.le_trans (mag_le_iff.2 h) (rdn_le q)
  · intro h
    have h1 := lt_rdn q
    have h2 : mag r < mag (rdn q + 1) := by omega
    have := mag_lt_iff.1 h2
    omega

theorem rdn_mag (r : Nat) : rdn (mag r) = r := by
  have h1 : r ≤ rdn (mag r) := le_rdn.2 (Nat.le_refl _)
  have h2 := mag_le_iff.1 (rdn_le (mag r))
  omega

/-- The rung of q and something more (if 's'), or the next one above. -/
def rup (q : Nat) (s : Bool) : Nat := if s || mag (rdn q) != q then rdn q + 1 else rdn q

theorem rup_le {r q : Nat} {s : Bool} : rup q s ≤ r ↔ (if s then q < mag r else q ≤ mag r) := by
  unfold rup
  have h1 := lt_rdn q
  have h2 := rdn_le q
  have h3 := @mag_le_iff (rdn q + 1) r
  have h4 := @mag_lt_iff (rdn q) r
  have h5 := @mag_le_iff (rdn q) r
  have h6 := @mag_lt_iff r (rdn q + 1)
  cases s
  · simp only [Bool.false_or, bne_iff_ne, ne_eq, Bool.false_eq_true, if_false]
    split
    · omega
    · omega
  · simp only [Bool.true_or, if_true]
    omega

/-- The number of a rank: minus of its rung for one below 0. -/
def V (z : Int) : Int := if 0 ≤ z then (mag z.toNat : Int) else -(mag (-z).toNat : Int)

theorem V_zero : V 0 = 0 := by decide

theorem V_nat (r : Nat) : V (r : Int) = (mag r : Int) := by
  unfold V
  rw [if_pos (by omega)]
  rfl

theorem V_neg (z : Int) : V (-z) = -V z := by
  unfold V
  by_cases h0 : z = 0
  · subst h0; decide
  · by_cases h : 0 ≤ z
    · rw [if_neg (by omega), if_pos h, Int.neg_neg]
    · rw [if_pos (by omega), if_neg h, Int.neg_neg]

theorem V_natAbs (z : Int) : (V z).natAbs = mag z.natAbs := by
  unfold V
  split
  · rename_i h
    have : z.toNat = z.natAbs := by omega
    rw [this]; omega
  · rename_i h
    have : (-z).toNat = z.natAbs := by omega
    rw [this]; omega

theorem V_lt {y z : Int} (h : y < z) : V y < V z := by
  unfold V
  by_cases h1 : 0 ≤ y
  · rw [if_pos h1, if_pos (by omega)]
    have := @mag_lt y.toNat z.toNat (by omega)
    omega
  · rw [if_neg h1]
    have p1 := @mag_lt 0 (-y).toNat (by omega)
    rw [mag_zero] at p1
    by_cases h2 : 0 ≤ z
    · rw [if_pos h2]
      omega
    · rw [if_neg h2]
      have := @mag_lt (-z).toNat (-y).toNat (by omega)
      omega

theorem V_lt_iff {y z : Int} : V y < V z ↔ y < z := by
  constructor
  · intro h
    by_cases e : y < z
    · exact e
    · by_cases e2 : z = y
      · rw [e2] at h; omega
      · have := @V_lt z y (by omega); omega
  · exact V_lt

theorem V_le_iff {y z : Int} : V y ≤ V z ↔ y ≤ z := by
  have := @V_lt_iff z y
  omega

theorem V_inj {y z : Int} (h : V y = V z) : y = z := by
  have h1 := (@V_le_iff y z).1 (by omega)
  have h2 := (@V_le_iff z y).1 (by omega)
  omega

theorem V_pos {z : Int} : 0 < V z ↔ 0 < z := by
  have := @V_lt_iff 0 z
  rw [V_zero] at this
  exact this

theorem V_nonneg {z : Int} : 0 ≤ V z ↔ 0 ≤ z := by
  have := @V_le_iff 0 z
  rw [V_zero] at this
  exact this

theorem V_eq_zero {z : Int} : V z = 0 ↔ z = 0 := by
  constructor
  · intro h
    have : V z = V 0 := by rw [V_zero]; exact h
    exact V_inj this
  · intro h; rw [h, V_zero]

/-- The rank of a sign and a magnitude q (and something more, if 's'), rounded up, or down. -/
def rnk (neg : Bool) (q : Nat) (s : Bool) (up : Bool) : Int :=
  let r : Nat := if up == neg then rdn q else rup q s
  if neg then -(r : Int) else (r : Int)

/-- num by den, rounded to a rank. -/
def fl (num : Int) (den : Nat) (up : Bool) : Int :=
  rnk (decide (num < 0)) (num.natAbs / den) (decide (num.natAbs % den ≠ 0)) up

end Go.Dy
