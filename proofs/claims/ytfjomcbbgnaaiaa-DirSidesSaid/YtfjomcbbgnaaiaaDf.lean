/- Plain facts: the law RayEdge. -/
import Derived.Test.YtfjomcbbgnaaiaaDd
namespace Go.Dy
open Ieee

/-- x by n, a power of two: just so. -/
theorem quo_pow {x j : Nat} (hj : j ≤ 20) (hx : x ≤ 2 ^ j) : ∃ R : Nat, R ≤ 4607182418800017408 ∧ double.div (fi x) (fi (2 ^ j)) = some R ∧ mag R * 2 ^ j = x * one := by
  have pj : 2 ^ j ≤ 2 ^ 20 := Nat.pow_le_pow_right (by omega) hj
  have hp : 0 < 2 ^ j := Nat.two_pow_pos j
  obtain ⟨f1, f2, f3, f4⟩ := fi_spec (m := x) (by omega)
  obtain ⟨g1, g2, g3, g4⟩ := fi_spec (m := 2 ^ j) (by omega)
  obtain ⟨S, hS, eS⟩ : ∃ S, S + j = 1074 ∧ one = 2 ^ S * 2 ^ j := by
    obtain ⟨T, hT, eT⟩ : ∃ T, T = 1074 ∧ one = 2 ^ T := ⟨1074, rfl, one_eq⟩
    refine ⟨T - j, by omega, ?_⟩
    rw [eT, ← Nat.pow_add]
    exact congrArg (fun t => 2 ^ t) (by omega)
  have hR : mag (rdn (x * 2 ^ S)) = x * 2 ^ S := mag_rdn_mul (by omega)
  have e1 : mag (rdn (x * 2 ^ S)) * 2 ^ j = x * one := by rw [hR, eS, Nat.mul_assoc]
  have hone := one_pos
  have g0 : fi (2 ^ j) % 2 ^ 63 ≠ 0 := by
    intro h
    rw [h, mag_zero] at g4
    have := Nat.mul_pos hp hone
    omega
  obtain ⟨r, e, h1, h2⟩ := div_near f2 g2 f1 g1 g0
  have key : mag (rdn (x * 2 ^ S)) * mag (fi (2 ^ j) % 2 ^ 63) = mag (fi x % 2 ^ 63) * one := by
    rw [f4, g4, ← Nat.mul_assoc, e1]
  have a1 := h1 _ (Nat.le_of_eq key)
  have a2 := h2 _ (Nat.le_of_eq key.symm)
  have hr : r = rdn (x * 2 ^ S) := Nat.le_antisymm a2 a1
  have hle : rdn (x * 2 ^ S) ≤ 4607182418800017408 := by
    rw [← mag_le_iff, mag_one, hR, eS, Nat.mul_comm]
    exact Nat.mul_le_mul_left _ hx
  refine ⟨rdn (x * 2 ^ S), hle, ?_, e1⟩
  rw [e, f3, g3, hr, Nat.min_eq_left (by rw [top_eq]; omega)]
  rfl

theorem may_small {b : Nat} (h : b ≤ 4607182418800017408) : may b = true := by
  obtain ⟨d, _, r⟩ := dec_small h
  unfold may; rw [r, d, Bool.true_and]; exact decide_eq_true (by omega)

/-- Within the ball, just if x^2 + y^2 is less than n^2. -/
theorem in_edge {R S x y n : Nat} (hn : 0 < n) (hR : R ≤ 4607182418800017408) (hS : S ≤ 4607182418800017408) (eR : mag R * n = x * one) (eS : mag S * n = y * one) :
    dIn R S = (decide (x * x + y * y < n * n), 0) := by
  rw [dIn_may (may_small hR) (may_small hS)]
  have d1 := (dec_small hR).1
  have d2 := (dec_small hS).1
  have hone := one_pos
  have e : inB R S = decide (mag R * mag R + mag S * mag S < one * one) := by
    unfold inB
    rw [d1, d2, V_nat, V_nat, Bool.eq_iff_iff]
    simp only [decide_eq_true_eq]
    have k1 : (mag R : Int) * (mag R : Int) + (mag S : Int) * (mag S : Int) = ((mag R * mag R + mag S * mag S : Nat) : Int) := by
      rw [Int.natCast_add, Int.natCast_mul, Int.natCast_mul]
    have k2 : ((one : Int) * (one : Int)) = ((one * one : Nat) : Int) := (Int.natCast_mul _ _).symm
    rw [k1, k2, Int.ofNat_lt]
  rw [e]
  have : (mag R * mag R + mag S * mag S < one * one) ↔ (x * x + y * y < n * n) := by
    rw [← Nat.mul_lt_mul_right (Nat.mul_pos hn hn), Nat.add_mul, Nat.mul_mul_mul_comm, Nat.mul_mul_mul_comm (mag S), eR, eS, Nat.mul_mul_mul_comm x, Nat.mul_mul_mul_comm y, ← Nat.add_mul, Nat.mul_comm (one * one) (n * n), Nat.mul_lt_mul_right (Nat.mul_pos hone hone)]
  rw [Prod.mk.injEq]
  refine ⟨?_, rfl⟩
  rw [Bool.eq_iff_iff]; simp only [decide_eq_true_eq]; exact this

theorem edge1 : dDiv 4613937818241073152 4617315517961601024 false = (4603579539098121011, 0) ∧ dDiv 4616189618054758400 4617315517961601024 false = (4605380978949069209, 0) := by decide +kernel
theorem edge2 : dDiv 4613937818241073152 4617315517961601024 true = (4603579539098121012, 0) ∧ dDiv 4616189618054758400 4617315517961601024 true = (4605380978949069210, 0) := by decide +kernel
theorem edge3 : dIn 4603579539098121011 4605380978949069209 = (true, 0) ∧ dIn 4603579539098121012 4605380978949069210 = (false, 0) := by decide +kernel
end Go.Dy
