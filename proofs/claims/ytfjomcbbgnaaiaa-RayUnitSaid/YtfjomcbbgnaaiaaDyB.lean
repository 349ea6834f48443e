/-
  Plain facts: rounding down and up to a rank, as an order tells it; the bits of a rank; what is a number.
-/
import Derived.Test.YtfjomcbbgnaaiaaDyA
namespace Go.Dy

theorem V_ofNat_neg (r : Nat) : V (-(r : Int)) = -(mag r : Int) := by rw [V_neg, V_nat]

theorem le_of_nat {z : Int} {r : Nat} : z ≤ (r : Int) ↔ (z < 0 ∨ z.toNat ≤ r) := by omega

theorem ceil_cases (n den : Nat) (hd : 0 < den) : n = den * (n / den) + n % den ∧ n % den < den := ⟨(Nat.div_add_mod n den).symm, Nat.mod_lt _ hd⟩

theorem mul_le_div {a n den : Nat} (hd : 0 < den) : a ≤ n / den ↔ a * den ≤ n := Nat.le_div_iff_mul_le hd

/-- Of magnitudes: above the floor (or at it, if nothing is left) is above the quotient. -/
theorem rup_le_div {r n den : Nat} (hd : 0 < den) : rup (n / den) (decide (n % den ≠ 0)) ≤ r ↔ n ≤ mag r * den := by
  rw [rup_le]
  obtain ⟨h1, h2⟩ := ceil_cases n den hd
  by_cases hz : n % den = 0
  · simp only [hz, ne_eq, not_true_eq_false, decide_false, Bool.false_eq_true, if_false]
    rw [hz] at h1
    constructor
    · intro h
      have := Nat.mul_le_mul_left den h
      rw [Nat.mul_comm (mag r)]; omega
    · intro h
      have h3 : n / den * den ≤ mag r * den := by rw [Nat.mul_comm (n / den)]; omega
      exact Nat.le_of_mul_le_mul_right h3 hd
  · simp only [hz, ne_eq, not_false_eq_true, decide_true, if_true]
    constructor
    · intro h
      have := Nat.mul_le_mul_left den (Nat.succ_le_of_lt h)
      rw [Nat.mul_succ] at this
      rw [Nat.mul_comm (mag r)]; omega
    · intro h
      have : ¬ (mag r ≤ n / den) := by
        intro h4
        have := Nat.mul_le_mul_left den h4
        rw [Nat.mul_comm (mag r)] at h
        omega
      omega

theorem le_rdn_div {r n den : Nat} (hd : 0 < den) : r ≤ rdn (n / den) ↔ mag r * den ≤ n := by
  rw [le_rdn, mul_le_div hd]

theorem fl_down {z num : Int} {den : Nat} (hd : 0 < den) : z ≤ fl num den false ↔ V z * den ≤ num := by
  unfold fl rnk
  have hdi : (0 : Int) < den := by omega
  by_cases hn : num < 0
  · simp only [hn, decide_true, if_true]
    have e0 : (false == true) = false := rfl
    simp only [e0, Bool.false_eq_true, if_false]
    by_cases hz : 0 ≤ z
    · have h1 : ¬ z ≤ -((rup (num.natAbs / den) (decide (num.natAbs % den ≠ 0)) : Nat) : Int) ∨ (z = 0 ∧ rup (num.natAbs / den) (decide (num.natAbs % den ≠ 0)) = 0) := by omega
      have h2 : ¬ (V z * den ≤ num) := by
        have := V_nonneg.2 hz
        have := Int.mul_nonneg this (Int.le_of_lt hdi)
        omega
      rcases h1 with h1 | ⟨_, h1⟩
      · exact iff_of_false h1 h2
      · have := (rup_le_div (r := 0) (n := num.natAbs) hd).1 (by omega)
        rw [mag_zero] at this
        omega
    · obtain ⟨m, rfl⟩ : ∃ m : Nat, z = -(m : Int) := ⟨z.natAbs, by omega⟩
      rw [V_ofNat_neg]
      have := rup_le_div (r := m) (n := num.natAbs) hd
      have e : -(mag m : Int) * den = -((mag m * den : Nat) : Int) := by rw [Int.neg_mul]; simp
      rw [e]
      omega
  · simp only [hn, decide_false, Bool.false_eq_true, if_false]
    have e0 : (false == false) = true := rfl
    simp only [e0, if_true]
    by_cases hz : 0 ≤ z
    · obtain ⟨m, rfl⟩ : ∃ m : Nat, z = (m : Int) := ⟨z.toNat, by omega⟩
      rw [V_nat]
      have := le_rdn_div (r := m) (n := num.natAbs) hd
      have e : (mag m : Int) * den = ((mag m * den : Nat) : Int) := by simp
      rw [e]
      omega
    · have h2 : V z * den ≤ num := by
        have h3 : V z ≤ 0 := by
          have := (@V_le_iff z 0).2 (by omega)
          rw [V_zero] at this; exact this
        have := Int.mul_le_mul_of_nonneg_right h3 (Int.le_of_lt hdi)
        omega
      exact iff_of_true (by omega) h2

theorem fl_neg (num : Int) (den : Nat) (up : Bool) : fl (-num) den up = -fl num den (!up) := by
  unfold fl rnk
  rw [Int.natAbs_neg]
  by_cases h0 : num = 0
  · subst h0
    have e1 : (0 : Int).natAbs / den = 0 := by simp
    have e2 : (0 : Int).natAbs % den = 0 := by simp
    rw [e1, e2]
    cases up <;> decide
  · by_cases hn : num < 0
    · have h1 : ¬ (-num < 0) := by omega
      simp only [hn, h1, decide_true, decide_false, if_true, Bool.false_eq_true, if_false]
      cases up <;> simp
    · have h1 : (-num < 0) := by omega
      simp only [hn, h1, decide_true, decide_false, if_true, Bool.false_eq_true, if_false]
      cases up <;> simp

theorem fl_up {z num : Int} {den : Nat} (hd : 0 < den) : fl num den true ≤ z ↔ num ≤ V z * den := by
  have h1 := fl_neg (-num) den true
  rw [Int.neg_neg] at h1
  rw [h1]
  have h2 := @fl_down (-z) (-num) den hd
  rw [V_neg, Int.neg_mul] at h2
  have e : (!true) = false := rfl
  rw [e]
  omega

/-- What is a number rounds to itself. -/
theorem fl_V (z : Int) (den : Nat) (hd : 0 < den) (up : Bool) : fl (V z * den) den up = z := by
  have hdi : (0 : Int) < den := by omega
  cases up
  · have h1 := (@fl_down z (V z * den) den hd).2 (Int.le_refl _)
    have h2 := (@fl_down (fl (V z * den) den false) (V z * den) den hd).1 (Int.le_refl _)
    have h3 := V_le_iff.1 (Int.le_of_mul_le_mul_right h2 hdi)
    omega
  · have h1 := (@fl_up z (V z * den) den hd).2 (Int.le_refl _)
    have h2 := (@fl_up (fl (V z * den) den true) (V z * den) den hd).1 (Int.le_refl _)
    have h3 := V_le_iff.1 (Int.le_of_mul_le_mul_right h2 hdi)
    omega

theorem fl_le_up {num : Int} {den : Nat} (hd : 0 < den) : fl num den false ≤ fl num den true := by
  have hdi : (0 : Int) < den := by omega
  have h1 := (@fl_down (fl num den false) num den hd).1 (Int.le_refl _)
  have h2 := (@fl_up (fl num den true) num den hd).1 (Int.le_refl _)
  exact V_le_iff.1 (Int.le_of_mul_le_mul_right (Int.le_trans h1 h2) hdi)

theorem fl_up_le {num : Int} {den : Nat} (hd : 0 < den) : fl num den true ≤ fl num den false + 1 := by
  refine (fl_up hd).2 ?_
  have h1 : ¬ (fl num den false + 1 ≤ fl num den false) := by omega
  rw [fl_down hd] at h1
  omega

/-- The bits of a rank. -/
def enc (z : Int) : Nat := if 0 ≤ z then z.toNat else 2 ^ 63 + (-z).toNat

/-- The rank of bits. -/
def dec (b : Nat) : Int := if b < 2 ^ 63 then (b : Int) else -((b - 2 ^ 63 : Nat) : Int)

/-- Is it a number: finite, and not minus 0? -/
def right (b : Nat) : Bool := decide (b % 2 ^ 63 < top ∧ b ≠ 2 ^ 63)

/-- A rank of a number. -/
def ok (z : Int) : Prop := -(top : Int) < z ∧ z < top

theorem top_eq : top = 9218868437227405312 := by decide

theorem enc_lt {z : Int} (h : ok z) : enc z < 2 ^ 64 := by
  unfold ok at h; rw [top_eq] at h
  unfold enc; split <;> omega

theorem right_enc {z : Int} (h : ok z) : right (enc z) = true := by
  unfold ok at h; rw [top_eq] at h
  unfold right enc; rw [top_eq, decide_eq_true_eq]
  split
  · constructor <;> omega
  · constructor <;> omega

theorem dec_enc {z : Int} (h : ok z) : dec (enc z) = z := by
  unfold ok at h; rw [top_eq] at h
  unfold dec enc
  split
  · rw [if_pos (by omega)]; omega
  · rw [if_neg (by omega)]; omega

theorem enc_dec {b : Nat} (hb : b < 2 ^ 64) (h : right b = true) : enc (dec b) = b ∧ ok (dec b) := by
  unfold right at h; rw [decide_eq_true_eq, top_eq] at h
  unfold dec enc ok; rw [top_eq]
  split
  · rw [if_pos (by omega)]
    exact ⟨by omega, by omega, by omega⟩
  · rw [if_neg (by omega)]
    exact ⟨by omega, by omega, by omega⟩

theorem enc_inj {y z : Int} (hy : ok y) (hz : ok z) (h : enc y = enc z) : y = z := by
  rw [← dec_enc hy, ← dec_enc hz, h]

/-- The answer of a rank: the number and no error, or the least or greatest number, or that there is none (10). -/
def out (z : Int) (up : Bool) : Nat × Int :=
  if (top : Int) ≤ z then (if up then (0, 10) else (enc (top - 1), 0))
  else if z ≤ -(top : Int) then (if up then (enc (1 - (top : Int)), 0) else (0, 10))
  else (enc z, 0)

/-- One of it: 2^1074 units. -/
def one : Nat := 2 ^ 1074

def addR (a b : Int) (up : Bool) : Int := fl (V a + V b) 1 up
def mulR (a b : Int) (up : Bool) : Int := fl (V a * V b) one up
def divR (a b : Int) (up : Bool) : Int := if b < 0 then fl (-(V a * one)) (V b).natAbs up else fl (V a * one) (V b).natAbs up

/-- dir.Add .. as functions of bits. -/
def dAdd (a b : Nat) (up : Bool) : Nat × Int := if right a && right b then out (addR (dec a) (dec b) up) up else (0, 13)
def minus (b : Nat) : Nat := if b = 0 then 0 else if b < 2 ^ 63 then b + 2 ^ 63 else b - 2 ^ 63
def dSub (a b : Nat) (up : Bool) : Nat × Int := if right b then dAdd a (minus b) up else (0, 13)
def dMul (a b : Nat) (up : Bool) : Nat × Int := if right a && right b then out (mulR (dec a) (dec b) up) up else (0, 13)
def dDiv (a b : Nat) (up : Bool) : Nat × Int :=
  if !(right a && right b) then (0, 13) else if b = 0 then (0, 11) else out (divR (dec a) (dec b) up) up
def dNext (a : Nat) (up : Bool) : Nat × Int :=
  if right a then out (if up then dec a + 1 else dec a - 1) up else (0, 13)

end Go.Dy
