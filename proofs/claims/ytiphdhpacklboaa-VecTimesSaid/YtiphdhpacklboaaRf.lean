/- Plain facts: what a law asks of numbers: parts of 1, points, differences, order. -/
import Derived.Test.YtiphdhpacklboaaRd
import Derived.Test.YtiphdhpacklboaaJw
namespace Go.Dy
theorem val_one : val 4607182418800017408 = 1 := (val_q (z := 4607182418800017408) (num := 1) (den := 1) (by decide) (by decide +kernel)).trans (by decide +kernel)
theorem V_of_val {x y : Int} {K : Int} (h : val x - val y ≤ val K) : V x - V y ≤ V K := by
  have s := S1_pos
  have k : (val x - val y) * S1 ≤ val K * S1 := Rat.mul_le_mul_of_nonneg_right h (by grind)
  have e : (val x - val y) * S1 = val x * S1 - val y * S1 := by grind
  rw [e, val_mul, val_mul, val_mul, ← Rat.intCast_sub] at k
  exact Rat.intCast_le_intCast.1 k
end Go.Dy
namespace Go.Proofs.Ytiphdhpacklboaa
open Go Go.RowKit

theorem frac_all {u : Nat} (hu : u < 4294967296) : ∃ z : Int, 0 ≤ z ∧ z ≤ 4607182418800017408 ∧ Dy.ok z ∧ (Ieee.double.div (FloatKind.f64.nearest ((u : Nat) : Int)) 4751297606873776128).getD 0 = Dy.enc z ∧ nN [.i ((u : Nat) : Int)] = true ∧ (fN Ieee.double.div) [.f (FloatKind.f64.nearest ((u : Nat) : Int)), .f 4751297606873776128] = true := by
  obtain ⟨r, er, hr⟩ := Dy.frq_of (u := u) (by omega)
  have w := (Dy.fi_spec (m := u) (by omega)).2.1
  refine ⟨(r : Int), by omega, by omega, Dy.ok_B (by unfold Dy.B10; omega) (by unfold Dy.B10; omega), ?_, ?_, ?_⟩
  · rw [near_fiS, er, Dy.enc_nat]; rfl
  · show decide (FloatKind.f64.nearest ((u : Nat) : Int) < W64) = true
    rw [near_fiS]; exact decide_eq_true w
  · show okF (Ieee.double.div (FloatKind.f64.nearest ((u : Nat) : Int)) 4751297606873776128) = true
    rw [near_fiS]
    exact okF_some er (by unfold W64; omega)
theorem point_all {z : Int} (h : Dy.ok z) : (Ieee.double.add (Dy.enc z) 0).getD 0 = Dy.enc z ∧ (fN Ieee.double.add) [.f (Dy.enc z), .f 0] = true :=
  ⟨by rw [Dy.add_zero h]; rfl, okF_some (Dy.add_zero h) (Dy.W_enc h)⟩
theorem sub_small {x y K : Int} (hx : Dy.ok x) (hy : Dy.ok y) (oK : Dy.ok K) (hxy : y ≤ x) (h : Dy.val x - Dy.val y ≤ Dy.val K) : ∃ r : Int, Dy.ok r ∧ 0 ≤ r ∧ r ≤ K ∧ (Ieee.double.sub (Dy.enc x) (Dy.enc y)).getD 0 = Dy.enc r ∧ (fN Ieee.double.sub) [.f (Dy.enc x), .f (Dy.enc y)] = true := by
  have v := Dy.V_of_val h
  have v2 := Dy.V_le_iff.2 hxy
  have n1 : 0 ≤ Dy.nz (Dy.V x - Dy.V y) := Dy.le_nz (by rw [Dy.V_zero]; omega)
  have n2 : Dy.nz (Dy.V x - Dy.V y) ≤ K := Dy.nz_le v
  have o : Dy.ok (Dy.nz (Dy.V x - Dy.V y)) := by unfold Dy.ok at *; omega
  have e := Dy.sub_enc hx hy o
  exact ⟨_, o, n1, n2, by rw [e]; rfl, okF_some e (Dy.W_enc o)⟩
theorem le_true {x y : Int} (hx : Dy.ok x) (hy : Dy.ok y) (h : x ≤ y) : (Dy.flt (Dy.enc x) (Dy.enc y) || Dy.feq (Dy.enc x) (Dy.enc y)) = true := by
  rw [Dy.fle_enc hx hy]; exact decide_eq_true h
theorem ge_true {x y : Int} (hx : Dy.ok x) (hy : Dy.ok y) (h : y ≤ x) : (Dy.fgt (Dy.enc x) (Dy.enc y) || Dy.feq (Dy.enc x) (Dy.enc y)) = true := by
  rw [Dy.fge_enc hx hy]; exact decide_eq_true h
theorem lt_false {x y : Int} (hx : Dy.ok x) (hy : Dy.ok y) (h : y ≤ x) : Dy.flt (Dy.enc x) (Dy.enc y) = false := by
  rw [Dy.flt_enc hx hy]; exact decide_eq_false (by omega)
theorem gt_false {x y : Int} (hx : Dy.ok x) (hy : Dy.ok y) (h : x ≤ y) : Dy.fgt (Dy.enc x) (Dy.enc y) = false := by
  rw [Dy.fgt_enc hx hy]; exact decide_eq_false (by omega)
theorem gt_true {x y : Int} (hx : Dy.ok x) (hy : Dy.ok y) (h : y < x) : Dy.fgt (Dy.enc x) (Dy.enc y) = true := by
  rw [Dy.fgt_enc hx hy]; exact decide_eq_true h
theorem eq_true {x : Int} (hx : Dy.ok x) : Dy.feq (Dy.enc x) (Dy.enc x) = true := by
  rw [Dy.feq_enc hx hx]; exact decide_eq_true rfl
/-- Do two intervals meet? -/
theorem meets_true {p q : Int × Int} (hp : Dy.Rk p) (hq : Dy.Rk q) (h : p.1 ≤ q.2) (k : q.1 ≤ p.2) : meetsB (Dy.enc p.1, Dy.enc p.2) (Dy.enc q.1, Dy.enc q.2) = true := by
  show ((Dy.flt (Dy.enc p.1) (Dy.enc q.2) || Dy.feq (Dy.enc p.1) (Dy.enc q.2)) && (Dy.flt (Dy.enc q.1) (Dy.enc p.2) || Dy.feq (Dy.enc q.1) (Dy.enc p.2))) = true
  rw [le_true hp.lo hq.hi h, le_true hq.lo hp.hi k]; rfl
theorem meets_has {p q : Int × Int} {x : Rat} (hp : Dy.Rk p) (hq : Dy.Rk q) (h : Dy.Has p x) (k : Dy.Has q x) : meetsB (Dy.enc p.1, Dy.enc p.2) (Dy.enc q.1, Dy.enc q.2) = true :=
  meets_true hp hq (Dy.val_le.1 (by have := h.lo; have := k.hi; grind)) (Dy.val_le.1 (by have := h.hi; have := k.lo; grind))
theorem meets_hasS {p q : Int × Int} {x y : Nat → Rat} (hp : Dy.Rk p) (hq : Dy.Rk q) (h : Dy.HasS p x) (k : Dy.HasS q y) (n : Dy.Near x y) : meetsB (Dy.enc p.1, Dy.enc p.2) (Dy.enc q.1, Dy.enc q.2) = true :=
  meets_true hp hq (Dy.meets_of h k n).1 (Dy.meets_of h k n).2
theorem has_le {p q : Int × Int} {x y : Rat} (h : Dy.Has p x) (k : Dy.Has q y) (l : x ≤ y) : p.1 ≤ q.2 := Dy.val_le.1 (by have := h.lo; have := k.hi; grind)
end Go.Proofs.Ytiphdhpacklboaa
