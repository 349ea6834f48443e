/- Plain facts: a triple has a unit vector, or none. -/
import Derived.Test.YtiphdhpacklboaaSa
namespace Go.Dy
theorem val_64 : val 4895412794951729152 = 18446744073709551616 := (val_q (z := 4895412794951729152) (num := 18446744073709551616) (den := 1) (by decide) (by decide +kernel)).trans (by decide +kernel)
theorem val_m64 : val 4318952042648305664 = 1 / 18446744073709551616 := (val_q (z := 4318952042648305664) (num := 1) (den := 18446744073709551616) (by decide) (by decide +kernel)).trans (by decide +kernel)
theorem sq_low {v m : Rat} (m0 : 0 ≤ m) (h : m ≤ v ∨ v ≤ -m) : m * m ≤ v * v := by
  rcases h with h | h
  · have a := Rat.mul_le_mul_of_nonneg_right h m0
    have b := Rat.mul_le_mul_of_nonneg_left h (show 0 ≤ v by grind)
    grind
  · have h' : m ≤ -v := by grind
    have a := Rat.mul_le_mul_of_nonneg_right h' m0
    have b := Rat.mul_le_mul_of_nonneg_left h' (show 0 ≤ -v by grind)
    grind
end Go.Dy
namespace Go.Proofs.Ytiphdhpacklboaa
open Go Go.RowKit

theorem ok_big : Dy.ok 4895412794951729152 := by have t := Dy.top_eq; unfold Dy.ok; omega
theorem bound64 {x : Int} (h : (x.natAbs : Int) ≤ 4895412794951729152) : -18446744073709551616 ≤ Dy.val x ∧ Dy.val x ≤ 18446744073709551616 := by
  rw [← Dy.val_64, ← Dy.val_neg]
  exact ⟨Dy.val_le.2 (by omega), Dy.val_le.2 (by omega)⟩
theorem sq_64 {x : Int} (h : (x.natAbs : Int) ≤ 4895412794951729152) : Dy.val x * Dy.val x ≤ 340282366920938463463374607431768211456 := by
  obtain ⟨a, b⟩ := bound64 h
  have := Dy.mul_abs_le a b a b
  grind
theorem sq_m64 {x : Int} (h : (4318952042648305664 : Int) ≤ (x.natAbs : Int)) : 1 / 340282366920938463463374607431768211456 ≤ Dy.val x * Dy.val x := by
  have a : 1 / 18446744073709551616 ≤ Dy.val x ∨ Dy.val x ≤ -(1 / 18446744073709551616) := by
    rw [← Dy.val_m64, ← Dy.val_neg]
    by_cases c : 0 ≤ x
    · exact .inl (Dy.val_le.2 (by omega))
    · exact .inr (Dy.val_le.2 (by omega))
  have := Dy.sq_low (by decide +kernel) a
  rwa [show (1 / 18446744073709551616 : Rat) * (1 / 18446744073709551616) = 1 / 340282366920938463463374607431768211456 by decide +kernel] at this
theorem nR3_E {x y z : Int} (ox : Dy.ok x) (oy : Dy.ok y) (oz : Dy.ok z) : nR3 [.f (Dy.enc x), .f (Dy.enc y), .f (Dy.enc z)] = true := by
  show (Dy.right (Dy.enc x) && Dy.right (Dy.enc y) && Dy.right (Dy.enc z)) = true
  rw [Dy.right_enc ox, Dy.right_enc oy, Dy.right_enc oz]; rfl
/-- A triple that is neither too great nor too small has a unit vector. -/
theorem unit_in {x y z : Int} (ox : Dy.ok x) (oy : Dy.ok y) (oz : Dy.ok z) (hL : (4318952042648305664 : Int) ≤ max (max (x.natAbs : Int) y.natAbs) z.natAbs) (hS : max (max (x.natAbs : Int) y.natAbs) z.natAbs ≤ (4895412794951729152 : Int)) :
    ∃ (p q r : Int × Int) (t : Nat → Rat), ((4318952042648305664 : Int) ≤ max (max (x.natAbs : Int) y.natAbs) z.natAbs ∧ max (max (x.natAbs : Int) y.natAbs) z.natAbs ≤ (4895412794951729152 : Int)) ∧ unitG (Dy.enc x) (Dy.enc y) (Dy.enc z) = ((Dy.E p, Dy.E q, Dy.E r), 0) ∧
      (Dy.Bd p (-1) 1 (1 / 281474976710656) ∧ Dy.Bd q (-1) 1 (1 / 281474976710656) ∧ Dy.Bd r (-1) 1 (1 / 281474976710656)) ∧ (∀ κ, 1 / 73786976294838206464 ≤ t κ) ∧ Dy.Near (fun n => t n * t n) (fun _ => Dy.val x * Dy.val x + Dy.val y * Dy.val y + Dy.val z * Dy.val z) ∧ (Dy.HasS p (fun κ => Dy.val x / t κ) ∧ Dy.HasS q (fun κ => Dy.val y / t κ) ∧ Dy.HasS r (fun κ => Dy.val z / t κ)) ∧ UnitSt x y z p q r := by
  have hS0 : 1 / 340282366920938463463374607431768211456 ≤ Dy.val x * Dy.val x + Dy.val y * Dy.val y + Dy.val z * Dy.val z := by
    have xx := sq0 (Dy.val x); have yy := sq0 (Dy.val y); have zz := sq0 (Dy.val z)
    rcases (by omega : (4318952042648305664 : Int) ≤ (x.natAbs : Int) ∨ (4318952042648305664 : Int) ≤ (y.natAbs : Int) ∨ (4318952042648305664 : Int) ≤ (z.natAbs : Int)) with h | h | h
    all_goals
      have := sq_m64 h
      grind
  have hU0 : Dy.val x * Dy.val x + Dy.val y * Dy.val y + Dy.val z * Dy.val z ≤ 2722258935367507707706996859454145691648 := by
    have a := sq_64 (x := x) (by omega); have b := sq_64 (x := y) (by omega); have c := sq_64 (x := z) (by omega)
    grind
  obtain ⟨p, q, r, t, eM, bs, τb, nt, hs, _, _, _, st⟩ := unit_all ox oy oz hS0 hU0
  exact ⟨p, q, r, t, ⟨hL, hS⟩, by rw [unitG_mid ox oy oz hL hS, eM], bs, τb, nt, hs, st⟩
/-- A triple has a unit vector, or none. -/
theorem unit_two {x y z : Int} (ox : Dy.ok x) (oy : Dy.ok y) (oz : Dy.ok z) : unitG (Dy.enc x) (Dy.enc y) (Dy.enc z) = (((0, 0), (0, 0), (0, 0)), 50) ∨
    ∃ (p q r : Int × Int) (t : Nat → Rat), ((4318952042648305664 : Int) ≤ max (max (x.natAbs : Int) y.natAbs) z.natAbs ∧ max (max (x.natAbs : Int) y.natAbs) z.natAbs ≤ (4895412794951729152 : Int)) ∧ unitG (Dy.enc x) (Dy.enc y) (Dy.enc z) = ((Dy.E p, Dy.E q, Dy.E r), 0) ∧
      (Dy.Bd p (-1) 1 (1 / 281474976710656) ∧ Dy.Bd q (-1) 1 (1 / 281474976710656) ∧ Dy.Bd r (-1) 1 (1 / 281474976710656)) ∧ (∀ κ, 1 / 73786976294838206464 ≤ t κ) ∧ Dy.Near (fun n => t n * t n) (fun _ => Dy.val x * Dy.val x + Dy.val y * Dy.val y + Dy.val z * Dy.val z) ∧ (Dy.HasS p (fun κ => Dy.val x / t κ) ∧ Dy.HasS q (fun κ => Dy.val y / t κ) ∧ Dy.HasS r (fun κ => Dy.val z / t κ)) ∧ UnitSt x y z p q r := by
  have hm := most_enc ox oy oz
  have oM := Dy.ok_max2 (Dy.ok_max2 (Dy.ok_abs ox) (Dy.ok_abs oy)) (Dy.ok_abs oz)
  have lowE : Dy.flt (most3 (Dy.enc x) (Dy.enc y) (Dy.enc z)) 4318952042648305664 = decide (max (max (x.natAbs : Int) y.natAbs) z.natAbs < (4318952042648305664 : Int)) := by
    rw [hm]; exact Dy.flt_enc (z := 4318952042648305664) oM (Dy.ok_B (by decide) (by decide))
  have bigE : Dy.fgt (most3 (Dy.enc x) (Dy.enc y) (Dy.enc z)) 4895412794951729152 = decide ((4895412794951729152 : Int) < max (max (x.natAbs : Int) y.natAbs) z.natAbs) := by
    rw [hm]; exact Dy.fgt_enc (z := 4895412794951729152) oM ok_big
  by_cases hS : max (max (x.natAbs : Int) y.natAbs) z.natAbs ≤ (4895412794951729152 : Int)
  · by_cases hL : max (max (x.natAbs : Int) y.natAbs) z.natAbs < (4318952042648305664 : Int)
    · exact .inl (by unfold unitG; rw [if_pos (by rw [lowE]; exact decide_eq_true hL)])
    · exact .inr (unit_in ox oy oz (by omega) hS)
  · refine .inl ?_
    unfold unitG
    split
    · rfl
    · rw [if_pos (by rw [bigE]; exact decide_eq_true (by omega))]
end Go.Proofs.Ytiphdhpacklboaa
