/- Plain facts: roots to the nearest number. -/
import Derived.Test.YtakdeeknfcifpaaDc
namespace Go.Dy
open Ieee
/-- The root of x, a number above 0, the nearest one: r: no number lies between. -/
theorem root_near {x : Nat} (hx : W x) (fx : fin x) (sx : sgn x = false) (h0 : x % 2 ^ 63 ≠ 0) :
    ∃ r : Nat, double.sqrt x = some (word false (min r top)) ∧ (∀ z : Nat, mag z * mag z ≤ mag (x % 2 ^ 63) * one → z ≤ r) ∧ (∀ z : Nat, mag (x % 2 ^ 63) * one ≤ mag z * mag z → r ≤ z) := by
  obtain ⟨m, e, r1, m1⟩ := read_num hx.lt fx
  have hxp : 0 < mag (x % 2 ^ 63) := by
    have := @mag_lt 0 (x % 2 ^ 63) (by omega)
    rw [mag_zero] at this; exact this
  have hm : m ≠ 0 := by
    intro h; rw [h, Nat.zero_mul] at m1; omega
  unfold Format.sqrt
  rw [r1, sx]
  have fb : double.fractionBits + 2 = 54 := rfl
  rw [fb]
  unfold Datum.root
  dsimp only
  rw [if_neg hm, if_neg (by decide)]
  simp only [Option.map, Format.write]
  obtain ⟨g0, hg0⟩ : ∃ g0 : Nat, 2 * 54 - m.log2 = g0 := ⟨_, rfl⟩
  obtain ⟨g, hg⟩ : ∃ g : Nat, g0 + ((-1074 + (e : Int) - (g0 : Int)) % 2).toNat = g := ⟨_, rfl⟩
  rw [hg0, hg, Nat.shiftLeft_eq]
  have hev : (-1074 + (e : Int) - (g : Int)) % 2 = 0 := by omega
  have bm1 := Nat.log2_self_le hm
  have hn : 2 ^ 108 ≤ m * 2 ^ g := by
    have b : 2 ^ m.log2 * 2 ^ g ≤ m * 2 ^ g := Nat.mul_le_mul_right _ bm1
    rw [← Nat.pow_add] at b
    have c : 2 ^ 108 ≤ 2 ^ (m.log2 + g) := Nat.pow_le_pow_right (by omega) (by omega)
    omega
  obtain ⟨n, hnn⟩ : ∃ n, n = m * 2 ^ g := ⟨_, rfl⟩
  have hw0 : Datum.rootFrom (m * 2 ^ g) ((m * 2 ^ g).log2 / 2 + 1) 0 = isq n := by rw [hnn]; rfl
  rw [hw0]
  obtain ⟨w, hw⟩ : ∃ w, w = isq n := ⟨_, rfl⟩
  rw [← hw]
  rw [← hnn] at hn ⊢
  have hq : 2 ^ 53 ≤ w := by
    rw [hw, le_isq]; omega
  obtain ⟨s1, s2⟩ := isq_spec n
  rw [← hw] at s1 s2
  obtain ⟨s, hs⟩ : ∃ s, s = (w * w != n).toNat := ⟨_, rfl⟩
  have hs1 : s ≤ 1 := by rw [hs]; cases (w * w != n) <;> decide
  have hs0 : s = 0 ↔ w * w = n := by
    rw [hs]
    by_cases h : w * w = n
    · rw [h]; simp
    · have : (w * w != n) = true := by simpa using h
      rw [this]; simp [h]
  rw [← hs]
  obtain ⟨P, hP⟩ : ∃ P : Int, P = (-1074 + (e : Int) - (g : Int)) / 2 - 1 + 1074 := ⟨_, rfl⟩
  have hpl : (-1074 + (e : Int) - (g : Int)) / 2 - 1 = -1074 + P := by omega
  rw [hpl, nearest_at]
  obtain ⟨E, hE⟩ : ∃ E, P.toNat = E := ⟨_, rfl⟩
  obtain ⟨J, hJ⟩ : ∃ J, (-P).toNat = J := ⟨_, rfl⟩
  have hz : E = 0 ∨ J = 0 := by omega
  rw [hE, hJ, m1]
  have key : m * 2 ^ e * one * (2 ^ J * 2 ^ J) = 4 * n * (2 ^ E * 2 ^ E) := by
    obtain ⟨S, hS, eS⟩ : ∃ S, S = 1074 ∧ one = 2 ^ S := ⟨1074, rfl, one_eq⟩
    rw [hnn, eS]
    have e1 : 2 ^ e * 2 ^ S * (2 ^ J * 2 ^ J) = 2 ^ 2 * (2 ^ g * (2 ^ E * 2 ^ E)) := by
      rw [← Nat.pow_add, ← Nat.pow_add, ← Nat.pow_add, ← Nat.pow_add, ← Nat.pow_add, ← Nat.pow_add]
      exact congrArg (fun t => 2 ^ t) (by omega)
    have l : m * 2 ^ e * 2 ^ S * (2 ^ J * 2 ^ J) = m * (2 ^ e * 2 ^ S * (2 ^ J * 2 ^ J)) := by simp only [Nat.mul_assoc]
    rw [l, e1]
    have : (2 : Nat) ^ 2 = 4 := rfl
    rw [this]
    simp only [Nat.mul_assoc, Nat.mul_left_comm]
  have pJ : 0 < 2 ^ J * 2 ^ J := Nat.mul_pos (Nat.two_pow_pos _) (Nat.two_pow_pos _)
  have pE : 0 < 2 ^ E * 2 ^ E := Nat.mul_pos (Nat.two_pow_pos _) (Nat.two_pow_pos _)
  have c1 : ∀ z : Nat, mag z * mag z ≤ m * 2 ^ e * one ↔ (mag z * 2 ^ J) * (mag z * 2 ^ J) ≤ 4 * n * (2 ^ E * 2 ^ E) := by
    intro z
    rw [← Nat.mul_le_mul_right_iff pJ, key, Nat.mul_mul_mul_comm (mag z)]
  have c2 : ∀ z : Nat, m * 2 ^ e * one ≤ mag z * mag z ↔ 4 * n * (2 ^ E * 2 ^ E) ≤ (mag z * 2 ^ J) * (mag z * 2 ^ J) := by
    intro z
    rw [← Nat.mul_le_mul_right_iff pJ, key, Nat.mul_mul_mul_comm (mag z)]
  have sq2 : ∀ t : Nat, (2 * t * 2 ^ E) * (2 * t * 2 ^ E) = 4 * (t * t) * (2 ^ E * 2 ^ E) := by
    intro t
    rw [Nat.mul_mul_mul_comm, Nat.mul_mul_mul_comm 2 t]
  refine ⟨_, rfl, ?_, ?_⟩
  · intro z hzz
    rw [c1] at hzz
    refine sticky_le hq hs1 hz ?_ ?_
    · have e2 : (2 * w + 2) * 2 ^ E = 2 * (w + 1) * 2 ^ E := rfl
      rw [e2, ← sq_lt, sq2]
      have : 4 * n * (2 ^ E * 2 ^ E) < 4 * ((w + 1) * (w + 1)) * (2 ^ E * 2 ^ E) := Nat.mul_lt_mul_of_pos_right (by omega) pE
      omega
    · intro h
      rw [← sq_le, sq2, hs0.1 h]; exact hzz
  · intro z hzz
    rw [c2] at hzz
    refine sticky_ge hq hs1 hz ?_
    by_cases h : s = 0
    · rw [if_pos h, ← sq_le, sq2, hs0.1 h]; exact hzz
    · rw [if_neg h, ← sq_lt, sq2]
      have hlt : w * w < n := by
        have : w * w ≠ n := fun e => h (hs0.2 e)
        omega
      have : 4 * (w * w) * (2 ^ E * 2 ^ E) < 4 * n * (2 ^ E * 2 ^ E) := Nat.mul_lt_mul_of_pos_right (by omega) pE
      omega
end Go.Dy
