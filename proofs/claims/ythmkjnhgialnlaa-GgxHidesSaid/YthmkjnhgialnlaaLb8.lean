/- The law GgxHides: walk and plain law joined. -/
import Derived.Test.YthmkjnhgialnlaaLa8
import Derived.Test.YthmkjnhgialnlaaRr
import Derived.Test.YthmkjnhgialnlaaRf
import Derived.Test.YthmkjnhgialnlaaJh
namespace Go.Proofs.Ythmkjnhgialnlaa
open Go Go.RowKit

theorem rk_ptH {z : Int} (h : Dy.ok z) : Dy.Rk (z, z) := ⟨h, h, Int.le_refl _⟩
theorem g1_box : (g1M (4571153621781053440, 4607182418800017408) (4584664420663164928, 4607182418800017408) 0).2 = 0 ∧ 0 < Dy.dec (g1M (4571153621781053440, 4607182418800017408) (4584664420663164928, 4607182418800017408) 0).1.1 ∧ Dy.dec (g1M (4571153621781053440, 4607182418800017408) (4584664420663164928, 4607182418800017408) 0).1.2 = 4607182418800017408 := by decide +kernel
theorem g1_top : (g1M (4607182418800017408, 4607182418800017408) (4584664420663164928, 4607182418800017408) 0).2 = 0 ∧ Dy.dec (g1M (4607182418800017408, 4607182418800017408) (4584664420663164928, 4607182418800017408) 0).1.1 = 4607182418800017408 ∧ Dy.dec (g1M (4607182418800017408, 4607182418800017408) (4584664420663164928, 4607182418800017408) 0).1.2 = 4607182418800017408 := by decide +kernel
theorem g2_box : (g2M (4571153621781053440, 4607182418800017408) (4571153621781053440, 4607182418800017408) (4584664420663164928, 4607182418800017408) 0).2 = 0 ∧ 0 < Dy.dec (g2M (4571153621781053440, 4607182418800017408) (4571153621781053440, 4607182418800017408) (4584664420663164928, 4607182418800017408) 0).1.1 := by decide +kernel
attribute [local irreducible] g1M g2M
theorem pr3 {r : (Nat × Nat) × Int} (h : r.2 = 0) : r = ((r.1.1, r.1.2), 0) := Prod.ext rfl h
theorem g1_boxE : ∃ X Y : Nat, g1M (4571153621781053440, 4607182418800017408) (4584664420663164928, 4607182418800017408) 0 = ((X, Y), 0) ∧ 0 < Dy.dec X ∧ Dy.dec Y = 4607182418800017408 := ⟨_, _, pr3 g1_box.1, g1_box.2.1, g1_box.2.2⟩
theorem g1_topE : ∃ X Y : Nat, g1M (4607182418800017408, 4607182418800017408) (4584664420663164928, 4607182418800017408) 0 = ((X, Y), 0) ∧ Dy.dec X = 4607182418800017408 ∧ Dy.dec Y = 4607182418800017408 := ⟨_, _, pr3 g1_top.1, g1_top.2.1, g1_top.2.2⟩
theorem g2_boxE : ∃ X Y : Nat, g2M (4571153621781053440, 4607182418800017408) (4571153621781053440, 4607182418800017408) (4584664420663164928, 4607182418800017408) 0 = ((X, Y), 0) ∧ 0 < Dy.dec X := ⟨_, _, pr3 g2_box.1, g2_box.2⟩
theorem half_root {t : Rat} (h : 1 ≤ t) : 0 ≤ 1 / 2 * (t - 1) := by grind
theorem inv_le {x y : Rat} (hx : 0 < x) (h : x ≤ y) : 1 / y ≤ 1 / x := by
  have hy : 0 < y := by grind
  refine Dy.quo_le hy ?_
  have e : 1 / x * x = 1 := Rat.div_mul_cancel (by grind)
  have p : 0 < 1 / x := by rw [Rat.div_def, Rat.one_mul]; exact Rat.inv_pos.2 hx
  have := Rat.mul_le_mul_of_nonneg_left h (show 0 ≤ 1 / x by grind)
  grind
set_option maxRecDepth 100000 in
set_option maxHeartbeats 4000000 in
theorem ghides_any (u0 u1 u2 : Nat) (w : World) (k0 : u0 < 4294967296) (k1 : u1 < 4294967296) (k2 : u2 < 4294967296) : Calls Try.prog 10 #[.int .u32 ((u0 : Nat) : Int), .int .u32 ((u1 : Nat) : Int), .int .u32 ((u2 : Nat) : Int)] w fun e w' => e = .returned (.bool true) ∧ Below w.heap.size w w' := by
  have o1 : Dy.ok 4607182418800017408 := Dy.ok_B (by decide) (by decide)
  have o8 : Dy.ok 4571153621781053440 := Dy.ok_B (by decide) (by decide)
  have o5 : Dy.ok 4584664420663164928 := Dy.ok_B (by decide) (by decide)
  obtain ⟨n0, c, lc, uc, ec⟩ := btw_F (l := 4571153621781053440) (h := 4607182418800017408) (by decide) (by decide) (by decide) k0
  obtain ⟨n1, d, ld, ud, ed⟩ := btw_F (l := 4571153621781053440) (h := 4607182418800017408) (by decide) (by decide) (by decide) k1
  obtain ⟨n2, a, la, ua, ea⟩ := btw_F (l := 4584664420663164928) (h := 4607182418800017408) (by decide) (by decide) (by decide) k2
  rw [show Dy.enc 4571153621781053440 = 4571153621781053440 from by decide, show Dy.enc 4607182418800017408 = 4607182418800017408 from by decide] at n0 ec n1 ed
  rw [show Dy.enc 4584664420663164928 = 4584664420663164928 from by decide, show Dy.enc 4607182418800017408 = 4607182418800017408 from by decide] at n2 ea
  have oc : Dy.ok c := Dy.ok_B (by unfold Dy.B10; omega) (by unfold Dy.B10; omega)
  have od : Dy.ok d := Dy.ok_B (by unfold Dy.B10; omega) (by unfold Dy.B10; omega)
  have oa : Dy.ok a := Dy.ok_B (by unfold Dy.B10; omega) (by unfold Dy.B10; omega)
  obtain ⟨pc, qc⟩ := point_all oc
  obtain ⟨pd, qd⟩ := point_all od
  obtain ⟨pa, qa⟩ := point_all oa
  have one : (Ieee.double.add 4607182418800017408 0).getD 0 = 4607182418800017408 := (point_all o1).1
  have one' : (fN Ieee.double.add) [.f 4607182418800017408, .f 0] = true := (point_all o1).2
  have wc : Dy.Wi (c, c) (0, 4607182418800017408) := ⟨by dsimp only; omega, uc⟩
  have wd : Dy.Wi (d, d) (0, 4607182418800017408) := ⟨by dsimp only; omega, ud⟩
  have wa : Dy.Wi (a, a) (4584664420663164928, 4607182418800017408) := ⟨la, ua⟩
  have w1 : Dy.Wi ((4607182418800017408 : Int), (4607182418800017408 : Int)) (0, 4607182418800017408) := ⟨by decide, by decide⟩
  -- numbers
  obtain ⟨s, gs, bs, hs⟩ := alpha_num la ua
  obtain ⟨l, t, el, bl, t1, hl⟩ := hides_num bs (Dy.hasS_const hs) lc uc
  obtain ⟨m, r, em, bm, r1, hm⟩ := hides_num bs (Dy.hasS_const hs) ld ud
  obtain ⟨v, x, ev, ex, bv, bx, hv, hx⟩ := seen_num gs el em bl bm hl hm
  obtain ⟨v', x', ev', ex', bv', bx', hv', hx'⟩ := seen_num gs em el bm bl hm hl
  -- bounds of boxes
  have xc := wn_box (l := 4571153621781053440) (h := 4607182418800017408) (x := 4571153621781053440) (y := 4607182418800017408) (by decide) (by decide) o8 o1 (by decide) lc uc
  have xd := wn_box (l := 4571153621781053440) (h := 4607182418800017408) (x := 4571153621781053440) (y := 4607182418800017408) (by decide) (by decide) o8 o1 (by decide) ld ud
  have xa := wn_box (l := 4584664420663164928) (h := 4607182418800017408) (x := 4584664420663164928) (y := 4607182418800017408) (by decide) (by decide) o5 o1 (by decide) la ua
  have x1 := wn_box (l := 4607182418800017408) (h := 4607182418800017408) (z := 4607182418800017408) (x := 4607182418800017408) (y := 4607182418800017408) (by decide) (by decide) o1 o1 (by decide) (by decide) (by decide)
  obtain ⟨X1, Y1, eB1, g1p, g1q⟩ := g1_boxE
  obtain ⟨X2, Y2, eB2, g2p⟩ := g2_boxE
  obtain ⟨X3, Y3, eB3, g3p, g3q⟩ := g1_topE
  have G1 := (g1M_mf xc xa 0 (by rw [eB1])).2
  rw [ev, eB1] at G1
  obtain ⟨i1, i2⟩ := wn_in G1 bv.rk rfl g1q
  have G2 := (g2M_mf xc xd xa 0 (by rw [eB2])).2
  rw [ex, eB2] at G2
  obtain ⟨j1, _⟩ := wn_in G2 bx.rk rfl rfl
  obtain ⟨G0, G3⟩ := g1M_mf x1 xa 0 (by rw [eB3])
  rw [eB3] at G3
  obtain ⟨q, q', e1, e2, r1', r2', wq⟩ := G3
  have z1 := wn_in (p := q') ⟨q, q', e1, rfl, r1', r2', wq⟩ r2' g3p g3q
  have q'e : q' = (4607182418800017408, 4607182418800017408) := by
    have := r2'.le
    exact Prod.ext (by dsimp only; omega) (by dsimp only; omega)
  subst q'e
  have T1 : Dy.told (g1M (4607182418800017408, 4607182418800017408) (Dy.enc a, Dy.enc a) 0) = ((4607182418800017408, 4607182418800017408), 0) := by
    have e : g1M (4607182418800017408, 4607182418800017408) (Dy.enc a, Dy.enc a) 0 = ((4607182418800017408, 4607182418800017408), 0) := Prod.ext (e2.trans (by decide)) G0
    rw [e]; exact Dy.told_ok rfl
  have told : ∀ {r : (Nat × Nat) × Int} {p : Int × Int}, r = (Dy.E p, 0) → Dy.told r = ((Dy.enc p.1, Dy.enc p.2), 0) := fun h => by rw [h]; exact Dy.told_ok rfl
  -- the product
  have zl := half_root (t1 0); have zm := half_root (r1 0)
  obtain ⟨y, gy, hy⟩ : ∃ y, Dy.Got (Dy.cMul 0 (Dy.E v) (Dy.E v')) y ∧ Dy.Has y (1 / (1 + 1 / 2 * (t 0 - 1)) * (1 / (1 + 1 / 2 * (r 0 - 1)))) := by
    obtain ⟨y, gy, by'⟩ := Dy.bd_mul 4 0 5 100 0 4 2 2 bv bv' (by decide +kernel)
    exact ⟨y, gy, Dy.has_mul bv.rk bv'.rk gy (hv 0) (hv' 0)⟩
  have L1 : x.1 ≤ v.2 := has_le (hx 0) (hv 0) (inv_le (by grind) (by grind))
  have L2 : x.1 ≤ v'.2 := has_le (hx 0) (hv' 0) (inv_le (by grind) (by grind))
  have L3 : y.1 ≤ x.2 := has_le hy (hx 0) (by
    have e : 1 / (1 + 1 / 2 * (t 0 - 1)) * (1 / (1 + 1 / 2 * (r 0 - 1))) = 1 / ((1 + 1 / 2 * (t 0 - 1)) * (1 + 1 / 2 * (r 0 - 1))) := by
      have n1 : 1 + 1 / 2 * (t 0 - 1) ≠ 0 := by grind
      have n2 : 1 + 1 / 2 * (r 0 - 1) ≠ 0 := by grind
      generalize 1 + 1 / 2 * (t 0 - 1) = A at *
      generalize 1 + 1 / 2 * (r 0 - 1) = B at *
      grind
    rw [e]
    have := Rat.mul_nonneg zl zm
    exact inv_le (by grind) (by grind))
  have M : meetsB (Dy.enc x.1, Dy.enc x.2) (Dy.enc x'.1, Dy.enc x'.2) = true := meets_has bx.rk bx'.rk (hx 0) (by
    have e : 1 / (1 + 1 / 2 * (t 0 - 1) + 1 / 2 * (r 0 - 1)) = 1 / (1 + 1 / 2 * (r 0 - 1) + 1 / 2 * (t 0 - 1)) := by
      rw [show 1 + 1 / 2 * (t 0 - 1) + 1 / 2 * (r 0 - 1) = 1 + 1 / 2 * (r 0 - 1) + 1 / 2 * (t 0 - 1) by grind]
    show Dy.Has x' (1 / (1 + 1 / 2 * (t 0 - 1) + 1 / 2 * (r 0 - 1)))
    rw [e]; exact hx' 0)
  obtain ⟨z, oz, z0, zK, ez, nz⟩ := sub_small (K := 4472074429978902528) bx.rk.hi bx.rk.lo (Dy.ok_B (by decide) (by decide)) bx.rk.le (by
    rw [Dy.val_q (z := 4472074429978902528) (num := 1) (den := 1073741824) (by decide) (by decide +kernel)]
    exact Rat.le_trans bx.wd (by decide +kernel))
  exact ggxhides_ok u0 u1 u2 w ec n0 pc qc ed n1 pd qd ea n2 pa qa (told ev) (nG1_ok (p := (a, a)) (q := (c, c)) (rk_ptH oa) wa (rk_ptH oc) wc) (told ev') (nG1_ok (p := (a, a)) (q := (d, d)) (rk_ptH oa) wa (rk_ptH od) wd)
    (told ex) (nG2_ok (p := (a, a)) (q := (c, c)) (r := (d, d)) (rk_ptH oa) wa (rk_ptH oc) wc (rk_ptH od) wd) (told ex') (nG2_ok (p := (a, a)) (q := (d, d)) (r := (c, c)) (rk_ptH oa) wa (rk_ptH od) wd (rk_ptH oc) wc)
    one one' T1 (nG1_ok (p := (a, a)) (q := (4607182418800017408, 4607182418800017408)) (rk_ptH oa) wa (rk_ptH o1) w1) rfl rfl rfl rfl rfl gy.1 rfl
    (gt_true (y := 0) bv.rk.lo Dy.ok_zero (by omega)) (le_true (y := 4607182418800017408) bv.rk.hi o1 i2) (gt_true (y := 0) bx.rk.lo Dy.ok_zero (by omega)) (le_true bx.rk.lo bv.rk.hi L1) (le_true bx.rk.lo bv'.rk.hi L2) (le_true gy.rk.lo bx.rk.hi L3) M (by decide +kernel) ez nz (le_true (y := 4472074429978902528) oz (Dy.ok_B (by decide) (by decide)) zK)
end Go.Proofs.Ythmkjnhgialnlaa
