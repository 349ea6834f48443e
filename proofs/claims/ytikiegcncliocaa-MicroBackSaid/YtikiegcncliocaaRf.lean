/- Plain facts: what a law asks of numbers: parts of 1, points, differences, order. -/
import Derived.Test.YtikiegcncliocaaR1
import Derived.Test.YtikiegcncliocaaJw
namespace Go.Dy
theorem val_one : val 4607182418800017408 = 1 := (val_q (z := 4607182418800017408) (num := 1) (den := 1) (by decide) (by decide +kernel)).trans (by decide +kernel)
end Go.Dy
namespace Go.Proofs.Ytikiegcncliocaa
open Go Go.RowKit

theorem point_all {z : Int} (h : Dy.ok z) : (Ieee.double.add (Dy.enc z) 0).getD 0 = Dy.enc z ∧ (fN Ieee.double.add) [.f (Dy.enc z), .f 0] = true :=
  ⟨by rw [Dy.add_zero h]; rfl, okF_some (Dy.add_zero h) (Dy.W_enc h)⟩
theorem le_true {x y : Int} (hx : Dy.ok x) (hy : Dy.ok y) (h : x ≤ y) : (Dy.flt (Dy.enc x) (Dy.enc y) || Dy.feq (Dy.enc x) (Dy.enc y)) = true := by
  rw [Dy.fle_enc hx hy]; exact decide_eq_true h
theorem ge_true {x y : Int} (hx : Dy.ok x) (hy : Dy.ok y) (h : y ≤ x) : (Dy.fgt (Dy.enc x) (Dy.enc y) || Dy.feq (Dy.enc x) (Dy.enc y)) = true := by
  rw [Dy.fge_enc hx hy]; exact decide_eq_true h
theorem lt_false {x y : Int} (hx : Dy.ok x) (hy : Dy.ok y) (h : y ≤ x) : Dy.flt (Dy.enc x) (Dy.enc y) = false := by
  rw [Dy.flt_enc hx hy]; exact decide_eq_false (by omega)
theorem gt_false {x y : Int} (hx : Dy.ok x) (hy : Dy.ok y) (h : x ≤ y) : Dy.fgt (Dy.enc x) (Dy.enc y) = false := by
  rw [Dy.fgt_enc hx hy]; exact decide_eq_false (by omega)
theorem gt_true {x y : Int} (hx : Dy.ok x) (hy : Dy.ok y) (h : y < x) : Dy.fgt (Dy.enc x) (Dy.enc y) = true := by
  rw [Dy.fgt_enc hx hy]; exact decide_eq_true h
theorem eq_true {x : Int} (hx : Dy.ok x) : Dy.feq (Dy.enc x) (Dy.enc x) = true := by
  rw [Dy.feq_enc hx hx]; exact decide_eq_true rfl
/-- Do two intervals meet? -/
theorem meets_true {p q : Int × Int} (hp : Dy.Rk p) (hq : Dy.Rk q) (h : p.1 ≤ q.2) (k : q.1 ≤ p.2) : meetsB (Dy.enc p.1, Dy.enc p.2) (Dy.enc q.1, Dy.enc q.2) = true := by
  show ((Dy.flt (Dy.enc p.1) (Dy.enc q.2) || Dy.feq (Dy.enc p.1) (Dy.enc q.2)) && (Dy.flt (Dy.enc q.1) (Dy.enc p.2) || Dy.feq (Dy.enc q.1) (Dy.enc p.2))) = true
  rw [le_true hp.lo hq.hi h, le_true hq.lo hp.hi k]; rfl
theorem meets_has {p q : Int × Int} {x : Rat} (hp : Dy.Rk p) (hq : Dy.Rk q) (h : Dy.Has p x) (k : Dy.Has q x) : meetsB (Dy.enc p.1, Dy.enc p.2) (Dy.enc q.1, Dy.enc q.2) = true :=
  meets_true hp hq (Dy.val_le.1 (by have := h.lo; have := k.hi; grind)) (Dy.val_le.1 (by have := h.hi; have := k.lo; grind))
theorem meets_hasS {p q : Int × Int} {x y : Nat → Rat} (hp : Dy.Rk p) (hq : Dy.Rk q) (h : Dy.HasS p x) (k : Dy.HasS q y) (n : Dy.Near x y) : meetsB (Dy.enc p.1, Dy.enc p.2) (Dy.enc q.1, Dy.enc q.2) = true :=
  meets_true hp hq (Dy.meets_of h k n).1 (Dy.meets_of h k n).2
end Go.Proofs.Ytikiegcncliocaa
