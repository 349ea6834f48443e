/- Plain facts: unit vectors of directions, made wider. -/
import Derived.Test.YtiphdhpacklboaaRi
import Derived.Test.YtiphdhpacklboaaRf
import Derived.Test.YtiphdhpacklboaaVc
namespace Go.Dy
theorem abs_enc {z : Int} (h : ok z) : abs (enc z) = enc (z.natAbs : Int) := by
  have t := top_eq
  unfold abs enc ok at *
  by_cases c : 0 ≤ z
  · rw [if_pos c, if_pos (by omega)]; omega
  · rw [if_neg c, if_pos (by omega)]; omega
theorem ok_abs {z : Int} (h : ok z) : ok (z.natAbs : Int) := by unfold ok at *; omega
end Go.Dy
namespace Go.Proofs.Ytiphdhpacklboaa
open Go Go.RowKit

theorem most_enc {x y z : Int} (hx : Dy.ok x) (hy : Dy.ok y) (hz : Dy.ok z) : most3 (Dy.enc x) (Dy.enc y) (Dy.enc z) = Dy.enc (max (max (x.natAbs : Int) y.natAbs) z.natAbs) := by
  unfold most3
  rw [Dy.abs_enc hx, Dy.abs_enc hy, Dy.abs_enc hz, Dy.dmax_enc (Dy.ok_abs hx) (Dy.ok_abs hy), Dy.dmax_enc (Dy.ok_max2 (Dy.ok_abs hx) (Dy.ok_abs hy)) (Dy.ok_abs hz)]
theorem unitG_mid {x y z : Int} (hx : Dy.ok x) (hy : Dy.ok y) (hz : Dy.ok z) (h1 : (4318952042648305664 : Int) ≤ max (max (x.natAbs : Int) y.natAbs) z.natAbs) (h2 : max (max (x.natAbs : Int) y.natAbs) z.natAbs ≤ (4895412794951729152 : Int)) : unitG (Dy.enc x) (Dy.enc y) (Dy.enc z) = ((unitM (Dy.enc x) (Dy.enc y) (Dy.enc z) 0).1, 0) := by
  have t := Dy.top_eq
  have o := Dy.ok_max2 (Dy.ok_max2 (Dy.ok_abs hx) (Dy.ok_abs hy)) (Dy.ok_abs hz)
  have e1 : Dy.flt (most3 (Dy.enc x) (Dy.enc y) (Dy.enc z)) 4318952042648305664 = false := by
    rw [most_enc hx hy hz]; exact lt_false (y := 4318952042648305664) o (by unfold Dy.ok; omega) h1
  have e2 : Dy.fgt (most3 (Dy.enc x) (Dy.enc y) (Dy.enc z)) 4895412794951729152 = false := by
    rw [most_enc hx hy hz]; exact gt_false (y := 4895412794951729152) o (by unfold Dy.ok; omega) h2
  unfold unitG
  rw [if_neg (by rw [e1]; decide), if_neg (by rw [e2]; decide)]
/-- What an interval has within -1 and 1. -/
def rWithin (p : Int × Int) : Int × Int := (max p.1 (-4607182418800017408), min p.2 4607182418800017408)
theorem bd_within (A B : Rat) {p : Int × Int} {L H w : Rat} (hp : Dy.Bd p L H w) (h1 : Dy.val p.1 ≤ 1) (h2 : -1 ≤ Dy.val p.2) (c : (A ≤ L ∨ A ≤ -1) ∧ (H ≤ B ∨ 1 ≤ B)) : vWithin (Dy.E p) = Dy.E (rWithin p) ∧ Dy.Bd (rWithin p) A B w := by
  have p1 := hp.lo; have p2 := hp.hi; have p3 := hp.wd; have p4 := hp.le
  have v1 := Dy.val_one
  have o1 : Dy.ok 4607182418800017408 := Dy.ok_B (by decide) (by decide)
  have om : Dy.ok (-4607182418800017408) := Dy.ok_neg o1
  have k1 : p.1 ≤ 4607182418800017408 := Dy.val_le.1 (by rw [v1]; exact h1)
  have k2 : -4607182418800017408 ≤ p.2 := Dy.val_le.1 (by rw [Dy.val_neg, v1]; exact h2)
  have l := hp.rk.le
  have e : vWithin (Dy.E p) = Dy.E (rWithin p) := by
    unfold vWithin iMeet
    show (if Dy.fgt (Dy.dmax (Dy.enc p.1) (Dy.enc (-4607182418800017408))) (Dy.dmin (Dy.enc p.2) (Dy.enc 4607182418800017408)) = true then ((0, 0), false) else ((Dy.dmax (Dy.enc p.1) (Dy.enc (-4607182418800017408)), Dy.dmin (Dy.enc p.2) (Dy.enc 4607182418800017408)), true)).1 = _
    rw [Dy.dmax_enc hp.rk.lo om, Dy.dmin_enc hp.rk.hi o1, Dy.fgt_enc (Dy.ok_max2 hp.rk.lo om) (Dy.ok_min2 hp.rk.hi o1), decide_eq_false (by omega), if_neg (by decide)]
    rfl
  refine ⟨e, ⟨Dy.ok_max2 hp.rk.lo om, Dy.ok_min2 hp.rk.hi o1, by unfold rWithin; dsimp only; omega⟩, ?_, ?_, ?_⟩
  · show A ≤ Dy.val (max p.1 (-4607182418800017408)); rw [Dy.val_max, Dy.val_neg, v1]; grind
  · show Dy.val (min p.2 4607182418800017408) ≤ B; rw [Dy.val_min, v1]; grind
  · show Dy.val (min p.2 4607182418800017408) - Dy.val (max p.1 (-4607182418800017408)) ≤ w; rw [Dy.val_min, Dy.val_max, Dy.val_neg, v1]; grind
theorem has_within {p : Int × Int} {x : Rat} (h : Dy.Has p x) (h1 : -1 ≤ x) (h2 : x ≤ 1) : Dy.Has (rWithin p) x := by
  have v1 := Dy.val_one
  have a := h.lo; have b := h.hi
  constructor
  · show Dy.val (max p.1 (-4607182418800017408)) ≤ x; rw [Dy.val_max, Dy.val_neg, v1]; grind
  · show x ≤ Dy.val (min p.2 4607182418800017408); rw [Dy.val_min, v1]; grind
/-- A number by a root that is no less. -/
theorem by_root {x s t : Rat} (t0 : 0 < t) (h : s ≤ t * t) (hx : x * x ≤ s) : -1 ≤ x / t ∧ x / t ≤ 1 := by
  have k : x * x ≤ t * t := by grind
  have u : x ≤ t := by
    by_cases c : 0 ≤ x
    · exact Dy.sq_le_sq c (by grind) k
    · grind
  have l : -t ≤ x := by
    by_cases c : 0 ≤ x
    · grind
    · have := Dy.sq_le_sq (u := -x) (v := t) (by grind) (by grind) (by grind); grind
  exact ⟨Dy.le_quo t0 (by grind), Dy.quo_le t0 (by grind)⟩
theorem sq0 (x : Rat) : 0 ≤ x * x := by
  by_cases s : 0 ≤ x
  · exact Rat.mul_nonneg s s
  · have := Rat.mul_nonneg (show 0 ≤ -x by grind) (show 0 ≤ -x by grind); grind
end Go.Proofs.Ytiphdhpacklboaa
