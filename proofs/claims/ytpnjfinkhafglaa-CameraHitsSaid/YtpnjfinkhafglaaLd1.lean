/- Plain facts: a whole number by another one; the law CameraWrong. -/
import Derived.Test.YtpnjfinkhafglaaLc1
namespace Go.Dy
open Ieee
theorem dec_nat {b : Nat} (h : b < 2 ^ 63) : dec b = (b : Int) := by unfold dec; rw [if_pos h]
theorem fi_rank {k : Nat} (h : k ≤ 65536) : right (fi k) = true ∧ fi k < 2 ^ 63 ∧ ok (fi k : Int) ∧ enc (fi k : Int) = fi k ∧ V (fi k : Int) = (k * one : Nat) := by
  obtain ⟨h1, h2, h3, h4⟩ := fi_spec (m := k) (by omega)
  have tp := top_eq
  have l : fi k < 2 ^ 63 := by
    unfold sgn at h3; rw [decide_eq_false_iff_not] at h3; omega
  have e : fi k % 2 ^ 63 = fi k := Nat.mod_eq_of_lt l
  unfold fin at h1
  rw [e] at h1 h4
  refine ⟨?_, l, by unfold ok; omega, by unfold enc; rw [if_pos (by omega)]; omega, by rw [V_nat, h4]⟩
  unfold right; rw [decide_eq_true_eq]; omega
/-- A whole number by another one that is no less: a rank from 0 to that of 1. -/
theorem part_rank {k m : Nat} (h1 : k ≤ m) (h2 : 1 ≤ m) (h3 : m ≤ 65536) : ∃ z : Int, ok z ∧ 0 ≤ z ∧ z ≤ I1 ∧ (dDiv (fi k) (fi m) false).1 = enc z ∧ (∀ y : Int, y ≤ z ↔ V y * m ≤ k * one) := by
  obtain ⟨ra, la, oa, ea, va⟩ := fi_rank (k := k) (by omega)
  obtain ⟨rb, lb, ob, eb, vb⟩ := fi_rank (k := m) h3
  have o0 : 0 < one := by obtain ⟨S, _, e⟩ := one_pow; rw [e]; exact Nat.two_pow_pos _
  have hmo : 0 < m * one := Nat.mul_pos h2 o0
  have b0 : 0 < (fi m : Int) := by
    rcases Nat.eq_zero_or_pos (fi m) with h | h
    · rw [h] at vb; rw [show ((0 : Nat) : Int) = 0 from rfl, V_zero] at vb; omega
    · omega
  have D := dDiv_enc (up := false) oa ob b0
  rw [ea, eb, va, vb, Int.natAbs_natCast] at D
  have key : ∀ y : Int, y ≤ fl (((k * one : Nat) : Int) * one) (m * one) false ↔ V y * m ≤ k * one := by
    intro y
    rw [fl_down hmo, Int.natCast_mul, Int.natCast_mul, ← Int.mul_assoc]
    constructor
    · intro h; exact Int.le_of_mul_le_mul_right h (by omega)
    · intro h; exact Int.mul_le_mul_of_nonneg_right h (by omega)
  generalize fl (((k * one : Nat) : Int) * one) (m * one) false = z at *
  have z0 : 0 ≤ z := (key 0).2 (by rw [V_zero, Int.zero_mul, ← Int.natCast_mul]; omega)
  have z1 : z ≤ I1 := by
    rcases Int.lt_or_le I1 z with h | h
    · have h4 := (key (I1 + 1)).1 (by omega)
      have h5 : V I1 < V (I1 + 1) := V_lt (by omega)
      rw [V_one] at h5
      have h6 : ((k : Int) * one) ≤ one * m := by rw [Int.mul_comm]; exact Int.mul_le_mul_of_nonneg_left (by omega) (by omega)
      have h7 : (one : Int) * m < V (I1 + 1) * m := Int.mul_lt_mul_of_pos_right h5 (by omega)
      omega
    · exact h
  have oz : ok z := by unfold ok; have := top_eq; unfold I1 at z1; omega
  exact ⟨z, oz, z0, z1, by rw [D, out_mid oz], key⟩
end Go.Dy
namespace Go.Proofs.Ytpnjfinkhafglaa
open Go Go.RowKit
set_option linter.unusedSimpArgs false
set_option linter.unusedVariables false
theorem part_may {n : Int} {m : Nat} (h1 : n.natAbs ≤ m) (h2 : 1 ≤ m) (h3 : m ≤ 65536) : Dy.may (partF n m) = true := by
  obtain ⟨z, oz, z0, z1, e, -⟩ := Dy.part_rank h1 h2 h3
  have e' : part0 n.natAbs m = Dy.enc z := e
  have m0 : Dy.may (Dy.enc z) = true := by rw [Dy.may_both (Dy.right_enc oz), Dy.dec_enc oz]; simp; constructor <;> (unfold Dy.I1 at *; omega)
  unfold partF
  split
  · rw [e']
    obtain ⟨a, b, c⟩ := Dy.minus_dec (Dy.W_enc oz) (Dy.right_enc oz)
    exact Dy.may_of_dec a m0 (by rw [b]; omega)
  · rw [e']; exact m0
theorem hits_few : ∀ s : Nat, s < 21 → 1 ≤ s → seenP s (pxl s (s / 2 * s + s / 2)) = true := by decide +kernel
theorem hitsN_pos {s : Nat} (h1 : 1 ≤ s) (h2 : s ≤ 20) : 0 < hitsN s := by
  unfold hitsN
  rw [List.countP_pos_iff]
  refine ⟨pxl s (s / 2 * s + s / 2), ?_, hits_few s (by omega) h1⟩
  unfold pixN
  refine List.mem_map.2 ⟨_, List.mem_range.2 ?_, rfl⟩
  have h := Nat.mul_le_mul_right s (show s / 2 + 1 ≤ s by omega)
  rw [Nat.add_mul, Nat.one_mul] at h
  omega
theorem camwrong_ok (s i j : Int) (w : World) : Calls Try.prog 6 #[.int .i64 s, .int .i64 i, .int .i64 j] w fun e w' => e = .returned (.bool true) ∧ Below w.heap.size w w' := by
  have P : ¬ there s i j → pointF s i j = ((0, 0), 2) ∧ lookA s i j = ((0, 0), (false, 2)) := fun h => ⟨by unfold pointF; rw [if_neg h], by unfold lookA; rw [if_neg h]⟩
  have f0 : Dy.fne 0 0 = false := by decide +kernel
  have g0 : (!(Dy.feq 0 0 && (Dy.feq 0 0 && (Dy.feq 0 0 && true)))) = false := by decide +kernel
  by_cases h1 : 1 ≤ s
  · have hm : 1 ≤ iMn s 20 ∧ iMn s 20 ≤ 20 := by unfold iMn; split <;> omega
    have hp := hitsN_pos (s := (iMn s 20).toNat) (by omega) (by omega)
    have H : hitsF (iMn s 20) = ((hitsN (iMn s 20).toNat : Int), 0) := by unfold hitsF; rw [if_pos (by omega)]
    have H2 : hitsF 257 = (0, 2) := by unfold hitsF; rw [if_neg (by omega)]
    have hp' : decide ((hitsN (iMn s 20).toNat : Int) > 0) = true := decide_eq_true (by omega)
    by_cases h2 : s ≤ 256
    · by_cases h3 : 0 ≤ i
      · by_cases h4 : i < s
        · by_cases h5 : 0 ≤ j
          · by_cases h6 : j < s
            · have T : there s i j := ⟨⟨h1, h2⟩, ⟨h3, h5⟩, h4, h6⟩
              have m1 : Dy.may (partF (2 * i + 1 - s) s.toNat) = true := part_may (by omega) (by omega) (by omega)
              have m2 : Dy.may (partF (s - 1 - 2 * j) s.toNat) = true := part_may (by omega) (by omega) (by omega)
              have Q1 : pointF s i j = ((partF (2 * i + 1 - s) s.toNat, partF (s - 1 - 2 * j) s.toNat), 0) := by unfold pointF; rw [if_pos T]
              have es : ((s.toNat : Nat) : Int) = s := by omega
              have Q2 : lookA s i j = ((Dy.hX (partF (2 * i + 1 - s) s.toNat) (partF (s - 1 - 2 * j) s.toNat), Dy.hZ (partF (2 * i + 1 - s) s.toNat) (partF (s - 1 - 2 * j) s.toNat)), (Dy.hits (partF (2 * i + 1 - s) s.toNat) (partF (s - 1 - 2 * j) s.toNat), 0)) := by
                unfold lookA; rw [if_pos T]; unfold lookF; rw [es, Dy.dIn_may m1 m2]
              exact camwrong_7 s i j w Q1 Q2 rfl H (decide_eq_true h1) (decide_eq_true h2) (decide_eq_true h3) (decide_eq_true h4) (decide_eq_true h5) (decide_eq_true h6) rfl rfl rfl (decide_eq_false (by omega)) H2 rfl hp' rfl
            · obtain ⟨Q1, Q2⟩ := P (fun T => h6 T.2.2.2)
              exact camwrong_6 s i j w Q1 Q2 rfl H (decide_eq_true h1) (decide_eq_true h2) (decide_eq_true h3) (decide_eq_true h4) (decide_eq_true h5) (decide_eq_false h6) rfl rfl rfl rfl f0 f0 g0 (decide_eq_false (by omega)) H2 rfl hp' rfl
          · obtain ⟨Q1, Q2⟩ := P (fun T => h5 T.2.1.2)
            exact camwrong_5 s i j w Q1 Q2 rfl H (decide_eq_true h1) (decide_eq_true h2) (decide_eq_true h3) (decide_eq_true h4) (decide_eq_false h5) rfl rfl rfl rfl f0 f0 g0 (decide_eq_false (by omega)) H2 rfl hp' rfl
        · obtain ⟨Q1, Q2⟩ := P (fun T => h4 T.2.2.1)
          exact camwrong_4 s i j w Q1 Q2 rfl H (decide_eq_true h1) (decide_eq_true h2) (decide_eq_true h3) (decide_eq_false h4) rfl rfl rfl rfl f0 f0 g0 (decide_eq_false (by omega)) H2 rfl hp' rfl
      · obtain ⟨Q1, Q2⟩ := P (fun T => h3 T.2.1.1)
        exact camwrong_3 s i j w Q1 Q2 rfl H (decide_eq_true h1) (decide_eq_true h2) (decide_eq_false h3) rfl rfl rfl rfl f0 f0 g0 (decide_eq_false (by omega)) H2 rfl hp' rfl
    · obtain ⟨Q1, Q2⟩ := P (fun T => h2 T.1.2)
      exact camwrong_2 s i j w Q1 Q2 rfl H (decide_eq_true h1) (decide_eq_false h2) rfl rfl rfl rfl f0 f0 g0 (decide_eq_false (by omega)) H2 rfl hp' rfl
  · obtain ⟨Q1, Q2⟩ := P (fun T => h1 T.1.1)
    have hm : ¬ 1 ≤ iMn s 20 := by unfold iMn; split <;> omega
    have H : hitsF (iMn s 20) = (0, 2) := by unfold hitsF; rw [if_neg (by omega)]
    exact camwrong_1 s i j w Q1 Q2 rfl H (decide_eq_false h1) rfl rfl rfl rfl f0 f0 g0 (decide_eq_true (by omega)) rfl rfl
end Go.Proofs.Ytpnjfinkhafglaa
