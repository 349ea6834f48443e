/- Plain facts: what a law asks of numbers: parts of 1, points, differences, order. -/
import Derived.Test.YtikiegcncliocaaGreatR1
import Derived.Test.YtikiegcncliocaaGreatJw
namespace Go.Dy
theorem val_one : val 4607182418800017408 = 1 := (val_q (z := 4607182418800017408) (num := 1) (den := 1) (by decide) (by decide +kernel)).trans (by decide +kernel)
end Go.Dy
namespace Go.Proofs.YtikiegcncliocaaGreat
open Go Go.RowKit

theorem point_all {z : Int} (h : Dy.ok z) : (Ieee.double.add (Dy.enc z) 0).getD 0 = Dy.enc z ∧ (fN Ieee.double.add) [.f (Dy.enc z), .f 0] = true :=
  ⟨by rw [Dy.add_zero h]; rfl, okF_some (Dy.add_zero h) (Dy.W_enc h)⟩
theorem le_true {x y : Int} (hx : Dy.ok x) (hy : Dy.ok y) (h : x ≤ y) : (Dy.flt (Dy.enc x) (Dy.enc y) || Dy.feq (Dy.enc x) (Dy.enc y)) = true := by
  rw [Dy.fle_enc hx hy]; exact decide_eq_true h
theorem ge_true {x y : Int} (hx : Dy.ok x) (hy : Dy.ok y) (h : y ≤ x) : (Dy.fgt (Dy.enc x) (Dy.enc y) || Dy.feq (Dy.enc x) (Dy.enc y)) = true := by
  rw [Dy.fge_enc hx hy]; exact decide_eq_true h
theorem lt_false {x y : Int} (hx : Dy.ok x) (hy : Dy.ok y) (h : y ≤ x) : Dy.flt (Dy.enc x) (Dy.enc y) = false := by
  rw [Dy.flt_enc hx hy]; exact decide_eq_false (by omega)
theorem gt_false {x y : Int} (hx : Dy.ok x) (hy : Dy.ok y) (h : x ≤ y) : Dy.fgt (Dy.enc x) (Dy.enc y) = false := by
  rw [Dy.fgt_enc hx hy]; exact decide_eq_false (by omega)
theorem gt_true {x y : Int} (hx : Dy.ok x) (hy : Dy.ok y) (h : y < x) : Dy.fgt (Dy.enc x) (Dy.enc y) = true := by
  rw [Dy.fgt_enc hx hy]; exact decide_eq_true h
end Go.Proofs.YtikiegcncliocaaGreat
