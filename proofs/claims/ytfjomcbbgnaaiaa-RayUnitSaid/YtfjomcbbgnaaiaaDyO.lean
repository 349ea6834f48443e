/- Plain facts: the rounds of dir.Sqrt. -/
import Derived.Test.YtfjomcbbgnaaiaaDyN
namespace Go.Dy
open Ieee

/-- What holds at the head of a round: the digits found, and the next one's weight. -/
def SqAt (N R X B : Nat) : Prop := ∃ k, k ≤ 64 ∧ B = 2 ^ k / 2 ∧ X % 2 ^ k = 0 ∧ X < 2 ^ 64 ∧ Datum.rootFrom N k X = R

theorem sqAt_start {N : Nat} (h : N < 2 ^ 128) : SqAt N (isq N) 0 9223372036854775808 := by
  refine ⟨64, by omega, by omega, by omega, by omega, root_isq (by omega)⟩

theorem sqAt_end {N R X : Nat} (h : SqAt N R X 0) : X = R := by
  obtain ⟨k, h1, h2, h3, h4, h5⟩ := h
  have hk : k = 0 := by
    cases k with
    | zero => rfl
    | succ k =>
      rw [Nat.pow_succ, Nat.mul_div_cancel _ (by omega)] at h2
      have := Nat.two_pow_pos k
      omega
  subst hk
  exact h5

theorem sqAt_bit {N R X B : Nat} (h : SqAt N R X B) (hb : 0 < B) : ∃ k, k < 64 ∧ B = 2 ^ k ∧ X % 2 ^ (k + 1) = 0 ∧ X < 2 ^ 64 ∧ Datum.rootFrom N (k + 1) X = R ∧ X ||| B = X + 2 ^ k ∧ X + 2 ^ k < 2 ^ 64 := by
  obtain ⟨k, h1, h2, h3, h4, h5⟩ := h
  cases k with
  | zero => rw [h2] at hb; exact absurd hb (by decide)
  | succ k =>
    rw [Nat.pow_succ, Nat.mul_div_cancel _ (by omega)] at h2
    have e1 : X = 2 ^ (k + 1) * (X / 2 ^ (k + 1)) := by
      have := Nat.div_add_mod X (2 ^ (k + 1)); omega
    have hlt : 2 ^ k < 2 ^ (k + 1) := Nat.pow_lt_pow_right (by omega) (by omega)
    have e2 : X ||| B = X + 2 ^ k := by
      rw [h2, e1]
      exact (Nat.two_pow_add_eq_or_of_lt hlt _).symm
    have e3 : 2 ^ 64 = 2 ^ (k + 1) * 2 ^ (63 - k) := by rw [← Nat.pow_add]; congr 1; omega
    have e4 : X / 2 ^ (k + 1) < 2 ^ (63 - k) := by
      rw [Nat.div_lt_iff_lt_mul (Nat.two_pow_pos _), Nat.mul_comm, ← e3]; exact h4
    have e5 : X + 2 ^ k < 2 ^ 64 := by
      have := Nat.mul_le_mul_left (2 ^ (k + 1)) (Nat.succ_le_of_lt e4)
      rw [← e3, Nat.mul_succ, ← e1] at this
      omega
    exact ⟨k, by omega, h2, h3, h4, h5, e2, e5⟩


theorem mod_half {X k : Nat} (h : X % 2 ^ (k + 1) = 0) : X % 2 ^ k = 0 := by
  have : 2 ^ k ∣ 2 ^ (k + 1) := Nat.pow_dvd_pow 2 (by omega)
  exact Nat.mod_eq_zero_of_dvd (Nat.dvd_trans this (Nat.dvd_of_mod_eq_zero h))

theorem sqAt_in {N R X B : Nat} (h : SqAt N R X B) (hb : 0 < B) (hs : (X ||| B) * (X ||| B) ≤ N) : SqAt N R (X ||| B) (B / 2) := by
  obtain ⟨k, h1, h2, h3, h4, h5, h6, h7⟩ := sqAt_bit h hb
  rw [h6] at hs ⊢
  refine ⟨k, by omega, by rw [h2], ?_, h7, ?_⟩
  · rw [Nat.add_mod_right]; exact mod_half h3
  · rw [← h5]
    show _ = Datum.rootFrom N k (if (X + 1 <<< k) * (X + 1 <<< k) ≤ N then X + 1 <<< k else X)
    rw [Nat.shiftLeft_eq, Nat.one_mul, if_pos hs]

theorem sqAt_out {N R X B : Nat} (h : SqAt N R X B) (hb : 0 < B) (hs : N < (X ||| B) * (X ||| B)) : SqAt N R X (B / 2) := by
  obtain ⟨k, h1, h2, h3, h4, h5, h6, h7⟩ := sqAt_bit h hb
  rw [h6] at hs
  refine ⟨k, by omega, by rw [h2], mod_half h3, h4, ?_⟩
  rw [← h5]
  show _ = Datum.rootFrom N k (if (X + 1 <<< k) * (X + 1 <<< k) ≤ N then X + 1 <<< k else X)
  rw [Nat.shiftLeft_eq, Nat.one_mul, if_neg (by omega)]

theorem sqAt_W {N R X B : Nat} (h : SqAt N R X B) : W X := by
  obtain ⟨k, h1, h2, h3, h4, h5⟩ := h
  exact h4

theorem sqAt_or {N R X B : Nat} (h : SqAt N R X B) (hb : 0 < B) : W (X ||| B) := by
  obtain ⟨k, h1, h2, h3, h4, h5, h6, h7⟩ := sqAt_bit h hb
  rw [h6]; exact h7
end Go.Dy
