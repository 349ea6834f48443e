/- Plain facts: rough surfaces (oren): values of numbers; how they rise and fall. -/
import Derived.Test.YthmkjnhgialnlaaRe
import Derived.Test.YthmkjnhgialnlaaRf
namespace Go.Proofs.Ythmkjnhgialnlaa
open Go Go.RowKit

/-- A value. -/
def valQ (r g x y t : Rat) : Rat := min (max (r * (pairQ g + g * pairQ g * slopeQ x y t)) 0) 1
theorem value_num {r g x y t : Int} (lr : 0 ≤ r) (ur : r ≤ 4607182418800017408) (lg : 0 ≤ g) (ug : g ≤ 4607182418800017408) (lx : 4571153621781053440 ≤ x) (ux : x ≤ 4607182418800017408) (ly : 4571153621781053440 ≤ y) (uy : y ≤ 4607182418800017408) (lt : -4607182418800017408 ≤ t) (ut : t ≤ 4607182418800017408) : ∃ v : Int × Int, orenM (Dy.E (r, r)) (Dy.E (g, g)) (Dy.E (x, x)) (Dy.E (y, y)) (Dy.E (t, t)) 0 = (Dy.E v, 0) ∧ Dy.Bd v 0 1 (1602518805775176839329199047 / 10889035741470030830827987437816582766592) ∧ Dy.Has v (valQ (Dy.val r) (Dy.val g) (Dy.val x) (Dy.val y) (Dy.val t)) := by
  obtain ⟨s, es, bs, hs⟩ := slope_num lx ux ly uy lt ut
  obtain ⟨a, b, ep, ba, bb, ha, hb⟩ := pair_num lg ug
  have cr : Dy.Bd (r, r) 0 1 0 := (Dy.bd_in (x := 0) (y := 4607182418800017408) (nx := 0) (dx := 1) (ny := 1) (dy := 1) lr ur (Dy.ok_B (by unfold Dy.B10; omega) (by unfold Dy.B10; omega)) (by decide +kernel)).mono (by decide +kernel)
  have er : Dy.Has (r, r) (Dy.val r) := Dy.Has.pt r
  obtain ⟨sv1, gv1, bv1⟩ := Dy.bd_mul (12912182984942782085338581740723 / 40564819207303340847894502572032) (-12912182984942784952419151352055 / 40564819207303340847894502572032) (12912182984942784952419151352055 / 40564819207303340847894502572032) (6360492514521518771814725365 / 43556142965880123323311949751266331066368) (-12912182984942782085338581740723 / 40564819207303340847894502572032) (12912182984942782085338581740723 / 40564819207303340847894502572032) (12912182984942782085338581740723 / 40564819207303340847894502572032) 1 bb bs (by decide +kernel)
  have hv1 : Dy.Has sv1 ((Dy.val g * pairQ (Dy.val g)) * (slopeQ (Dy.val x) (Dy.val y) (Dy.val t))) := Dy.has_mul bb.rk bs.rk gv1 hb hs
  obtain ⟨sv2, gv2, bv2⟩ := Dy.bd_add (25824365969885564170677163481447 / 40564819207303340847894502572032) (-1442793981943022774195351025211 / 20282409603651670423947251286016) (25824365969885569904838302704111 / 40564819207303340847894502572032) (3198880602909614817120264877 / 21778071482940061661655974875633165533184) ba bv1 (by decide +kernel)
  have hv2 : Dy.Has sv2 ((pairQ (Dy.val g)) + ((Dy.val g * pairQ (Dy.val g)) * (slopeQ (Dy.val x) (Dy.val y) (Dy.val t)))) := Dy.has_add ba.rk bv1.rk gv2 ha hv1
  obtain ⟨sv3, gv3, bv3⟩ := Dy.bd_mul (25824365969885569904838302704111 / 40564819207303340847894502572032) (-2885587963886051282551841273087 / 40564819207303340847894502572032) (3228045746235696954874930240847 / 5070602400912917605986812821504) (1602518805775176839329199047 / 10889035741470030830827987437816582766592) (-1442793981943022774195351025211 / 20282409603651670423947251286016) (25824365969885569904838302704111 / 40564819207303340847894502572032) 1 (25824365969885569904838302704111 / 40564819207303340847894502572032) cr bv2 (by decide +kernel)
  have hv3 : Dy.Has sv3 ((Dy.val r) * ((pairQ (Dy.val g)) + ((Dy.val g * pairQ (Dy.val g)) * (slopeQ (Dy.val x) (Dy.val y) (Dy.val t))))) := Dy.has_mul cr.rk bv2.rk gv3 er hv2
  obtain ⟨gv4, bv4⟩ := Dy.bd_clipq (x := 0) (y := 4607182418800017408) (l := 0) (h := 4607182418800017408) (nx := 0) (dx := 1) (ny := 1) (dy := 1) 0 (3228045746235696954874930240847 / 5070602400912917605986812821504) Dy.ok_zero (Dy.ok_B (by decide) (by decide)) rfl (by decide) bv3 (by decide +kernel) (by decide +kernel) (by decide +kernel)
  have hv4 : Dy.Has (Dy.rClip (0) (4607182418800017408) sv3) (min (max ((Dy.val r) * ((pairQ (Dy.val g)) + ((Dy.val g * pairQ (Dy.val g)) * (slopeQ (Dy.val x) (Dy.val y) (Dy.val t))))) 0) 1) := Dy.has_clipq (nx := 0) (dx := 1) (ny := 1) (dy := 1) hv3 (by decide +kernel) (by decide +kernel)
  refine ⟨(Dy.rClip (0) (4607182418800017408) sv3), ?_, bv4.mono (by decide +kernel), hv4⟩
  unfold orenM
  refine (Dy.cm_s es).trans ?_
  refine (Dy.cm_s ep).trans ?_
  refine (Dy.cs_mul gv1.1).trans ?_
  refine (Dy.cs_add gv2.1).trans ?_
  refine (Dy.cs_mul gv3.1).trans ?_
  exact congrArg (fun r => (r, (0 : Int))) gv4
theorem piQ_pos : 0 < Dy.piQ ∧ 0 < Dy.piQ / 2 - 2 / 3 := by unfold Dy.piQ; decide +kernel
theorem pairQ_pos {x : Rat} (h : 0 ≤ x) : 0 < pairQ x := by
  obtain ⟨p1, p2⟩ := piQ_pos
  have := Rat.mul_nonneg (show 0 ≤ Dy.piQ / 2 - 2 / 3 by grind) h
  unfold pairQ; rw [Rat.div_def, Rat.one_mul]; exact Rat.inv_pos.2 (by grind)
theorem pairQ_mul {x : Rat} (h : 0 ≤ x) : pairQ x * (Dy.piQ + (Dy.piQ / 2 - 2 / 3) * x) = 1 := by
  obtain ⟨p1, p2⟩ := piQ_pos
  have := Rat.mul_nonneg (show 0 ≤ Dy.piQ / 2 - 2 / 3 by grind) h
  unfold pairQ; exact Rat.div_mul_cancel (by grind)
theorem pairQ_falls {x y : Rat} (h : 0 ≤ x) (k : x ≤ y) : pairQ y ≤ pairQ x := by
  obtain ⟨p1, p2⟩ := piQ_pos
  have hy : 0 ≤ y := by grind
  have e1 := pairQ_mul h; have e2 := pairQ_mul hy
  have q1 := pairQ_pos h; have q2 := pairQ_pos hy
  have m := Rat.mul_le_mul_of_nonneg_left k (show 0 ≤ Dy.piQ / 2 - 2 / 3 by grind)
  have m2 := Rat.mul_le_mul_of_nonneg_left (show Dy.piQ + (Dy.piQ / 2 - 2 / 3) * x ≤ Dy.piQ + (Dy.piQ / 2 - 2 / 3) * y by grind) (show 0 ≤ pairQ y by grind)
  have d0 : 0 < Dy.piQ + (Dy.piQ / 2 - 2 / 3) * x := by have := Rat.mul_nonneg (show 0 ≤ Dy.piQ / 2 - 2 / 3 by grind) h; grind
  exact Rat.le_of_mul_le_mul_right (by rw [e1]; grind) d0
theorem pairQ_rises {x y : Rat} (h : 0 ≤ x) (k : x ≤ y) : x * pairQ x ≤ y * pairQ y := by
  obtain ⟨p1, p2⟩ := piQ_pos
  have hy : 0 ≤ y := by grind
  have e1 := pairQ_mul h; have e2 := pairQ_mul hy
  have f := pairQ_falls h k
  have m := Rat.mul_le_mul_of_nonneg_left f (show 0 ≤ Dy.piQ by grind)
  have r1 : (Dy.piQ / 2 - 2 / 3) * (x * pairQ x) = 1 - Dy.piQ * pairQ x := by grind
  have r2 : (Dy.piQ / 2 - 2 / 3) * (y * pairQ y) = 1 - Dy.piQ * pairQ y := by grind
  exact Rat.le_of_mul_le_mul_left (c := Dy.piQ / 2 - 2 / 3) (by rw [r1, r2]; grind) p2
theorem slopeQ_b (x y t : Rat) : -1 ≤ slopeQ x y t ∧ slopeQ x y t ≤ 1 := by unfold slopeQ; exact ⟨by grind, by grind⟩
theorem slopeQ_rises {x y t u : Rat} (hm : 0 < max x y) (h : t ≤ u) : slopeQ x y t ≤ slopeQ x y u := by
  unfold slopeQ
  have k : (if t - x * y ≤ 0 then t - x * y else (t - x * y) / max x y) ≤ (if u - x * y ≤ 0 then u - x * y else (u - x * y) / max x y) := by
    by_cases c1 : t - x * y ≤ 0
    · rw [if_pos c1]
      by_cases c2 : u - x * y ≤ 0
      · rw [if_pos c2]; grind
      · rw [if_neg c2]
        have : 0 ≤ (u - x * y) / max x y := Dy.le_quo hm (by grind)
        grind
    · rw [if_neg c1, if_neg (by grind)]
      refine Dy.le_quo hm ?_
      rw [Rat.div_mul_cancel (by grind)]; grind
  grind
theorem inner_nn {g s : Rat} (h0 : 0 ≤ g) (h1 : g ≤ 1) (s0 : -1 ≤ s) : 0 ≤ pairQ g + g * pairQ g * s := by
  have q := pairQ_pos h0
  have m := Rat.mul_le_mul_of_nonneg_left s0 h0
  have t := Rat.mul_nonneg (show 0 ≤ 1 + g * s by grind) (show 0 ≤ pairQ g by grind)
  grind
theorem valQ_dot {r g x y t u : Rat} (r0 : 0 ≤ r) (g0 : 0 ≤ g) (hm : 0 < max x y) (h : t ≤ u) : valQ r g x y t ≤ valQ r g x y u := by
  have s := slopeQ_rises (x := x) (y := y) hm h
  have q := pairQ_pos g0
  have m1 := Rat.mul_le_mul_of_nonneg_left s (Rat.mul_nonneg g0 (show 0 ≤ pairQ g by grind))
  have m2 := Rat.mul_le_mul_of_nonneg_left (show pairQ g + g * pairQ g * slopeQ x y t ≤ pairQ g + g * pairQ g * slopeQ x y u by grind) r0
  unfold valQ; grind
theorem valQ_rho {r r' g x y t : Rat} (h : r ≤ r') (g0 : 0 ≤ g) (g1 : g ≤ 1) : valQ r g x y t ≤ valQ r' g x y t := by
  have m := Rat.mul_le_mul_of_nonneg_right h (inner_nn g0 g1 (slopeQ_b x y t).1)
  unfold valQ; grind
end Go.Proofs.Ythmkjnhgialnlaa
