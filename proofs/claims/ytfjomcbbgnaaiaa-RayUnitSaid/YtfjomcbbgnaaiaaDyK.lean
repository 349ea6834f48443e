/-
  Plain facts: the next one; quotients and roots by their parts.
-/
import Derived.Test.YtfjomcbbgnaaiaaDyJ
namespace Go.Dy

/-- What dir.Next hands to 'rounded'. -/
def nextMinus (b : Nat) (up : Bool) : Bool := if pm b = 0 then !up else sgn b
def nextM (b : Nat) (up : Bool) : Nat :=
  if pm b = 0 then 1 else if up != sgn b then pm b + 1 else if pm b = 4503599627370496 ∧ -1074 < pe b then 9007199254740991 else pm b - 1
def nextE (b : Nat) (up : Bool) : Int :=
  if pm b = 0 then pe b else if up != sgn b then pe b else if pm b = 4503599627370496 ∧ -1074 < pe b then pe b - 1 else pe b

theorem rung_pm {b : Nat} (hf : fin b) : b % 2 ^ 63 = (pe b + 1074).toNat * 2 ^ 52 + pm b := by
  have hf' : b % 2 ^ 63 < top := hf
  unfold pm pe field
  rw [top_eq] at hf'
  split
  · omega
  · omega

theorem rnd_exact {minus : Bool} {m : Nat} {e : Int} {up : Bool} {r : Nat} (he : -1074 ≤ e) (h : mag r = m * 2 ^ (e + 1074).toNat) :
    rnd minus m false e up = out (if minus then -(r : Int) else (r : Int)) up := by
  have h1 := rnd_eq (minus := minus) (N := m) (more := false) (e := e) (up := up) (num := mag r) (den := 1) (i := (e + 1074).toNat) (j := 0) (by omega) (by omega)
    (by unfold Is; rw [if_neg (by decide), h, Nat.pow_zero]) (by intro h; cases h)
  rw [h1, Nat.div_one, Nat.mod_one]
  congr 1
  unfold rnk rup
  rw [rdn_mag]
  cases minus <;> cases up <;> simp

theorem dec_rung {b : Nat} (hb : W b) : dec b = if sgn b then -((b % 2 ^ 63 : Nat) : Int) else ((b % 2 ^ 63 : Nat) : Int) := by
  have := hb.lt
  unfold dec sgn
  by_cases h : b < 2 ^ 63
  · rw [if_pos h, if_neg (by simp only [decide_eq_true_eq]; omega)]; omega
  · rw [if_neg h, if_pos (by simp only [decide_eq_true_eq]; omega)]; omega

theorem next_out {b : Nat} {up : Bool} (hb : W b) (r : right b = true) : rnd (nextMinus b up) (nextM b up) false (nextE b up) up = dNext b up := by
  have hf := right_fin r
  have hr := rung_pm hf
  have hp := pe_bounds b
  have hpl := pm_lt b
  have hn := @pm_norm b
  have hd := dec_rung hb
  have hmz := mag_pm hf
  unfold dNext
  rw [r, if_pos (by decide)]
  unfold nextMinus nextM nextE
  generalize b % 2 ^ 63 = x at *
  by_cases h0 : pm b = 0
  · -- 0
    have hpe : pe b = -1074 := by
      apply Int.le_antisymm _ hp.1
      apply Int.le_of_not_gt
      intro h; have := hn h; omega
    have hx : x = 0 := by
      have e0 : (pe b + 1074).toNat = 0 := by omega
      rw [e0, h0] at hr
      simpa using hr
    subst hx
    have hd0 : dec b = 0 := by rw [hd]; cases sgn b <;> simp
    rw [if_pos h0, if_pos h0, if_pos h0, hd0, hpe, rnd_exact (r := 1) (by omega) (by decide)]
    congr 1
    cases up <;> rfl
  · rw [if_neg h0, if_neg h0, if_neg h0]
    have hx0 : x ≠ 0 := by omega
    by_cases h1 : (up != sgn b) = true
    · rw [if_pos h1, if_pos h1]
      have e1 : mag (x + 1) = (pm b + 1) * 2 ^ (pe b + 1074).toNat := by
        rw [mag_succ, hmz, Nat.succ_mul]
        congr 2
        by_cases h2 : -1074 < pe b
        · have := hn h2; omega
        · omega
      rw [rnd_exact (r := x + 1) (by omega) e1]
      congr 1
      rw [hd]
      cases hs : sgn b <;> cases up <;> simp [hs] at h1 ⊢
      omega
    · rw [if_neg h1, if_neg h1]
      have h1' : up = sgn b := by simpa using h1
      have e2 : (if up then dec b + 1 else dec b - 1) = if sgn b then -((x - 1 : Nat) : Int) else ((x - 1 : Nat) : Int) := by
        rw [hd, h1']
        cases sgn b <;> simp <;> omega
      rw [e2]
      by_cases h2 : pm b = 4503599627370496 ∧ -1074 < pe b
      · rw [if_pos h2, if_pos h2]
        obtain ⟨k, hk⟩ : ∃ k : Nat, (pe b - 1 + 1074).toNat = k := ⟨_, rfl⟩
        refine rnd_exact (r := x - 1) (by omega) ?_
        have hx1 : x - 1 = k * 2 ^ 52 + (2 ^ 52 + (2 ^ 52 - 1)) ∨ (k = 0 ∧ x - 1 < 2 ^ 53) := by
          rw [h2.1] at hr; omega
        rw [hk]
        rcases hx1 with hx1 | ⟨hk0, hx1⟩
        · rw [hx1, mag_form k (2 ^ 52 - 1) (by omega)]
        · subst hk0
          rw [mag_low hx1, Nat.pow_zero]
          rw [h2.1] at hr
          omega
      · rw [if_neg h2, if_neg h2]
        refine rnd_exact (r := x - 1) (by omega) ?_
        have e3 := mag_succ (x - 1)
        have e4 : x - 1 + 1 = x := by omega
        rw [e4, hmz] at e3
        have e5 : (x - 1) / 2 ^ 52 - 1 = (pe b + 1074).toNat := by
          by_cases h3 : -1074 < pe b
          · have := hn h3
            have h4 : pm b ≠ 4503599627370496 := fun h => h2 ⟨h, h3⟩
            omega
          · omega
        rw [e5] at e3
        rw [Nat.sub_mul, Nat.one_mul]
        omega

theorem dNext_wrong {b : Nat} {up : Bool} (h : right b = false) : dNext b up = (0, 13) := by
  unfold dNext; rw [h]; rfl

end Go.Dy
