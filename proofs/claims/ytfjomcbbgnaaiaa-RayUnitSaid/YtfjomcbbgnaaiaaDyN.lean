/- Plain facts: dir.Sqrt: the whole root, digit by digit; its rank. -/
import Derived.Test.YtfjomcbbgnaaiaaDyM
namespace Go.Dy
open Ieee

theorem rootFrom_spec (n : Nat) : ∀ k r : Nat, r * r ≤ n → n < (r + 2 ^ k) * (r + 2 ^ k) →
    Datum.rootFrom n k r * Datum.rootFrom n k r ≤ n ∧ n < (Datum.rootFrom n k r + 1) * (Datum.rootFrom n k r + 1) := by
  intro k
  induction k with
  | zero => intro r h1 h2; exact ⟨h1, h2⟩
  | succ k ih =>
    intro r h1 h2
    unfold Datum.rootFrom
    dsimp only
    rw [Nat.shiftLeft_eq, Nat.one_mul]
    split
    · rename_i h
      refine ih _ h ?_
      have : r + 2 ^ k + 2 ^ k = r + 2 ^ (k + 1) := by rw [Nat.pow_succ]; omega
      rw [this]; exact h2
    · rename_i h
      exact ih _ h1 (by omega)

/-- The whole root. -/
def isq (n : Nat) : Nat := Datum.rootFrom n (n.log2 / 2 + 1) 0

theorem isq_spec (n : Nat) : isq n * isq n ≤ n ∧ n < (isq n + 1) * (isq n + 1) := by
  unfold isq
  refine rootFrom_spec n _ 0 (Nat.zero_le _) ?_
  rw [Nat.zero_add, ← Nat.pow_add]
  refine Nat.lt_of_lt_of_le Nat.lt_log2_self ?_
  exact Nat.pow_le_pow_right (by omega) (by omega)

theorem sq_lt {a b : Nat} : a * a < b * b ↔ a < b := by
  constructor
  · intro h
    have : ¬ b ≤ a := fun h2 => by have := Nat.mul_le_mul h2 h2; omega
    omega
  · intro h
    exact Nat.mul_lt_mul_of_lt_of_le h (Nat.le_of_lt h) (by omega)

theorem sq_le {a b : Nat} : a * a ≤ b * b ↔ a ≤ b := by
  have := @sq_lt b a
  omega

theorem le_isq {a n : Nat} : a ≤ isq n ↔ a * a ≤ n := by
  obtain ⟨h1, h2⟩ := isq_spec n
  constructor
  · intro h; have := sq_le.2 h; omega
  · intro h
    have : a * a < (isq n + 1) * (isq n + 1) := by omega
    have := sq_lt.1 this
    omega

theorem isq_unique {r n : Nat} (h1 : r * r ≤ n) (h2 : n < (r + 1) * (r + 1)) : isq n = r := by
  have a := le_isq.2 h1
  have b : isq n < r + 1 := sq_lt.1 (Nat.lt_of_le_of_lt (isq_spec n).1 h2)
  omega

theorem root_isq {k n : Nat} (h : n < 2 ^ k * 2 ^ k) : Datum.rootFrom n k 0 = isq n := by
  obtain ⟨h1, h2⟩ := rootFrom_spec n k 0 (Nat.zero_le _) (by rw [Nat.zero_add]; exact h)
  exact (isq_unique h1 h2).symm

/-- A square by a power of four is a square. -/
theorem sq_four (n t : Nat) : (isq n * isq n = n) ↔ (isq (n * (2 ^ t * 2 ^ t)) * isq (n * (2 ^ t * 2 ^ t)) = n * (2 ^ t * 2 ^ t)) := by
  constructor
  · intro h
    have : isq (n * (2 ^ t * 2 ^ t)) = isq n * 2 ^ t := by
      refine isq_unique ?_ ?_
      · rw [Nat.mul_mul_mul_comm, h]; exact Nat.le_refl _
      · have e : n * (2 ^ t * 2 ^ t) = (isq n * 2 ^ t) * (isq n * 2 ^ t) := by rw [Nat.mul_mul_mul_comm, h]
        rw [e]; exact sq_lt.2 (by omega)
    rw [this, Nat.mul_mul_mul_comm, h]
  · generalize isq (n * (2 ^ t * 2 ^ t)) = q
    induction t generalizing q with
    | zero =>
      intro h
      simp only [Nat.pow_zero, Nat.mul_one] at h
      have : isq n = q := isq_unique (by omega) (by rw [← h]; exact sq_lt.2 (by omega))
      rw [this]; exact h
    | succ t ih =>
      intro h
      have e4 : n * (2 ^ (t + 1) * 2 ^ (t + 1)) = 4 * (n * (2 ^ t * 2 ^ t)) := by
        rw [Nat.pow_succ, Nat.mul_mul_mul_comm (2 ^ t) 2, Nat.mul_comm (2 ^ t * 2 ^ t), ← Nat.mul_assoc, Nat.mul_comm n, Nat.mul_assoc]
      rw [e4] at h
      have hq : q % 2 = 0 := by
        rcases Nat.mod_two_eq_zero_or_one q with h0 | h1
        · exact h0
        · exfalso
          have := Nat.mul_mod q q 2
          rw [h1] at this
          omega
      obtain ⟨p, rfl⟩ : ∃ p, q = 2 * p := ⟨q / 2, by omega⟩
      refine ih p ?_
      rw [Nat.mul_mul_mul_comm] at h
      omega

/-- The root's rank, of a magnitude. -/
def sqR (A : Nat) (up : Bool) : Int := rnk false (isq (A * one)) (decide (isq (A * one) * isq (A * one) ≠ A * one)) up

/-- dir.Sqrt. -/
def dSqrt (a : Nat) (up : Bool) : Nat × Int :=
  if !right a then (0, 13) else if 2 ^ 63 ≤ a then (0, 12) else if a = 0 then (0, 0) else out (sqR (mag a) up) up

/-- The wide number of which the root is taken, and half its place. -/
def sqN (m : Nat) (e : Int) : Nat := if (e - lz m - 64) % 2 ≠ 0 then nm m * 2 ^ 63 else nm m * 2 ^ 64
def sqE (m : Nat) (e : Int) : Int := if (e - lz m - 64) % 2 ≠ 0 then (e - lz m - 64 + 1) / 2 else (e - lz m - 64) / 2

theorem sq_out {a : Nat} {up : Bool} (ha : W a) (ra : right a = true) (hp : a < 2 ^ 63) (h0 : a ≠ 0) :
    rnd false (isq (sqN (pm a) (pe a))) (decide (isq (sqN (pm a) (pe a)) * isq (sqN (pm a) (pe a)) ≠ sqN (pm a) (pe a))) (sqE (pm a) (pe a)) up = dSqrt a up := by
  unfold dSqrt
  rw [ra, if_neg (by decide), if_neg (by omega), if_neg h0]
  have fa := right_fin ra
  have pa := pm_ne ha ra h0
  have ba := pe_bounds a
  obtain ⟨a1, a2, a3⟩ := nm_bounds pa (pm_lt a)
  have hm : mag a = pm a * 2 ^ (pe a + 1074).toNat := by
    have := mag_pm fa
    rwa [Nat.mod_eq_of_lt hp] at this
  have a2' := a2.lt
  have hNb : 2 ^ 126 ≤ sqN (pm a) (pe a) ∧ sqN (pm a) (pe a) < 2 ^ 128 := by
    unfold sqN
    split <;> omega
  -- the place
  obtain ⟨t, ht⟩ : ∃ t : Nat, sqE (pm a) (pe a) + 1074 = t := ⟨(sqE (pm a) (pe a) + 1074).toNat, by unfold sqE; split <;> omega⟩
  have hA : mag a * one = sqN (pm a) (pe a) * (2 ^ t * 2 ^ t) := by
    obtain ⟨S, hS, eS⟩ := one_pow
    rw [hm, eS, ← Nat.pow_add]
    unfold sqE at ht
    unfold sqN
    unfold nm
    split at ht
    · rename_i hc
      rw [if_pos hc, Nat.mul_assoc, Nat.mul_assoc, Nat.mul_assoc, ← Nat.pow_add, ← Nat.pow_add, ← Nat.pow_add]
      have : (pe a + 1074).toNat + S = lz (pm a) + (63 + (t + t)) := by omega
      rw [this]
    · rename_i hc
      rw [if_neg hc, Nat.mul_assoc, Nat.mul_assoc, Nat.mul_assoc, ← Nat.pow_add, ← Nat.pow_add, ← Nat.pow_add]
      have : (pe a + 1074).toNat + S = lz (pm a) + (64 + (t + t)) := by omega
      rw [this]
  unfold sqR
  rw [hA]
  have hf := sq_four (sqN (pm a) (pe a)) t
  have hx := isq_spec (sqN (pm a) (pe a))
  have hq := isq_spec (sqN (pm a) (pe a) * (2 ^ t * 2 ^ t))
  have hbl : 53 ≤ blen (isq (sqN (pm a) (pe a))) := by
    have : 2 ^ 63 ≤ isq (sqN (pm a) (pe a)) := le_isq.2 (by omega)
    have := (lt_blen (x := isq (sqN (pm a) (pe a))) (k := 63)).2 this
    omega
  generalize sqE (pm a) (pe a) = E at *
  generalize sqN (pm a) (pe a) = n at *
  have hq1 : isq n * 2 ^ t ≤ isq (n * (2 ^ t * 2 ^ t)) := by
    rw [le_isq, Nat.mul_mul_mul_comm]; exact Nat.mul_le_mul_right _ hx.1
  have hq2 : isq (n * (2 ^ t * 2 ^ t)) < (isq n + 1) * 2 ^ t := by
    refine sq_lt.1 (Nat.lt_of_le_of_lt hq.1 ?_)
    rw [Nat.mul_mul_mul_comm]
    exact Nat.mul_lt_mul_of_pos_right hx.2 (Nat.mul_pos (Nat.two_pow_pos _) (Nat.two_pow_pos _))
  have hq3 : isq n * isq n = n → isq (n * (2 ^ t * 2 ^ t)) = isq n * 2 ^ t := by
    intro h
    refine isq_unique ?_ ?_
    · rw [Nat.mul_mul_mul_comm, h]; exact Nat.le_refl _
    · have e : n * (2 ^ t * 2 ^ t) = (isq n * 2 ^ t) * (isq n * 2 ^ t) := by rw [Nat.mul_mul_mul_comm, h]
      rw [e]; exact sq_lt.2 (by omega)
  have hd : decide (isq n * isq n ≠ n) = decide (isq (n * (2 ^ t * 2 ^ t)) * isq (n * (2 ^ t * 2 ^ t)) ≠ n * (2 ^ t * 2 ^ t)) := by
    rw [decide_eq_decide]; exact not_congr hf
  rw [← hd]
  generalize isq (n * (2 ^ t * 2 ^ t)) = q at *
  generalize isq n = x at *
  have key := fun (num : Nat) (h : Is x (decide (x * x ≠ n)) t 0 num 2) => rnd_eq (minus := false) (up := up) (by omega : 0 < 2) (show E + 1074 = (t : Int) - (0 : Nat) by omega) h (fun _ => Or.inl hbl)
  by_cases hc : x * x = n
  · have e1 : decide (x * x ≠ n) = false := by simpa using hc
    have h := key (2 * q) (by unfold Is; rw [e1, if_neg (by decide), Nat.pow_zero, Nat.mul_one, hq3 hc, Nat.mul_comm])
    rw [h, e1]
    have k1 : 2 * q / 2 = q := by omega
    have k2 : 2 * q % 2 = 0 := by omega
    rw [k1, k2]; rfl
  · have e1 : decide (x * x ≠ n) = true := by simpa using hc
    have h := key (2 * q + 1) (by unfold Is; rw [e1, if_pos rfl, Nat.pow_zero, Nat.mul_one]; exact ⟨by omega, by omega⟩)
    rw [h, e1]
    have k1 : (2 * q + 1) / 2 = q := by omega
    have k2 : (2 * q + 1) % 2 = 1 := by omega
    rw [k1, k2]; rfl

end Go.Dy
