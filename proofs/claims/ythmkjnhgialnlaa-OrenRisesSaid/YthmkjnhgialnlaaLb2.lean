/- The law OrenRises: walk and plain law joined. -/
import Derived.Test.YthmkjnhgialnlaaLa2
import Derived.Test.YthmkjnhgialnlaaJp
import Derived.Test.YthmkjnhgialnlaaRg
namespace Go.Proofs.Ythmkjnhgialnlaa
open Go Go.RowKit

theorem wi_pt' {z : Int} {l h : Int} (h1 : l ≤ z) (h2 : z ≤ h) : Dy.Wi (z, z) (l, h) := ⟨h1, h2⟩
theorem rk_pt {z : Int} (h : Dy.ok z) : Dy.Rk (z, z) := ⟨h, h, Int.le_refl _⟩
theorem oVal_pt {r g x y t : Int} {v : Int × Int} (lr : 0 ≤ r) (ur : r ≤ 4607182418800017408) (lg : 0 ≤ g) (ug : g ≤ 4607182418800017408) (lx : 4571153621781053440 ≤ x) (ux : x ≤ 4607182418800017408) (ly : 4571153621781053440 ≤ y) (uy : y ≤ 4607182418800017408) (lt : -4607182418800017408 ≤ t) (ut : t ≤ 4607182418800017408)
    (h : orenM (Dy.E (r, r)) (Dy.E (g, g)) (Dy.E (x, x)) (Dy.E (y, y)) (Dy.E (t, t)) 0 = (Dy.E v, 0)) :
    oVal (Dy.enc r, Dy.enc r) (Dy.enc g, Dy.enc g) (Dy.enc x, Dy.enc x) (Dy.enc y, Dy.enc y) (Dy.enc t, Dy.enc t) = ((Dy.enc v.1, Dy.enc v.2), 0) := by
  have o : ∀ {z : Int}, -4607182418800017408 ≤ z → z ≤ 4607182418800017408 → Dy.ok z := fun h1 h2 => Dy.ok_B (by unfold Dy.B10; omega) (by unfold Dy.B10; omega)
  rw [show oVal (Dy.enc r, Dy.enc r) (Dy.enc g, Dy.enc g) (Dy.enc x, Dy.enc x) (Dy.enc y, Dy.enc y) (Dy.enc t, Dy.enc t) = Dy.told (orenM (Dy.E (r, r)) (Dy.E (g, g)) (Dy.E (x, x)) (Dy.E (y, y)) (Dy.E (t, t)) 0) from
    oVal_told (p0 := (r, r)) (p1 := (g, g)) (p2 := (x, x)) (p3 := (y, y)) (p4 := (t, t)) (rk_pt (o (by omega) ur)) (wi_pt' lr ur) (rk_pt (o (by omega) ug)) (wi_pt' lg ug) (rk_pt (o (by omega) ux)) (wi_pt' (by omega) ux) (rk_pt (o (by omega) uy)) (wi_pt' (by omega) uy) (rk_pt (o lt ut)) (wi_pt' lt ut), h]
  exact Dy.told_ok rfl
theorem oPair_pt {g : Int} {a b : Int × Int} (lg : 0 ≤ g) (ug : g ≤ 4607182418800017408) (h : pairM (Dy.E (g, g)) 0 = ((Dy.E a, Dy.E b), 0)) : oPair (Dy.enc g, Dy.enc g) = (((Dy.enc a.1, Dy.enc a.2), (Dy.enc b.1, Dy.enc b.2)), 0) := by
  rw [show oPair (Dy.enc g, Dy.enc g) = told2 (pairM (Dy.E (g, g)) 0) from oPair_told (p1 := (g, g)) (rk_pt (Dy.ok_B (by unfold Dy.B10; omega) (by unfold Dy.B10; omega))) (wi_pt' lg ug), h]
  exact told2_ok rfl
set_option maxRecDepth 100000 in
set_option maxHeartbeats 4000000 in
theorem orises_any (u0 u1 u2 u3 u4 u5 u6 u7 : Nat) (w : World) (k0 : u0 < 4294967296) (k1 : u1 < 4294967296) (k2 : u2 < 4294967296) (k3 : u3 < 4294967296) (k4 : u4 < 4294967296) (k5 : u5 < 4294967296) (k6 : u6 < 4294967296) (k7 : u7 < 4294967296) :
    Calls Try.prog 3 #[.agg #[.int .u32 ((u0 : Nat) : Int), .int .u32 ((u1 : Nat) : Int), .int .u32 ((u2 : Nat) : Int), .int .u32 ((u3 : Nat) : Int), .int .u32 ((u4 : Nat) : Int), .int .u32 ((u5 : Nat) : Int), .int .u32 ((u6 : Nat) : Int), .int .u32 ((u7 : Nat) : Int)]] w fun e w' => e = .returned (.bool true) ∧ Below w.heap.size w w' := by
  have o : ∀ {z : Int}, -4607182418800017408 ≤ z → z ≤ 4607182418800017408 → Dy.ok z := fun h1 h2 => Dy.ok_B (by unfold Dy.B10; omega) (by unfold Dy.B10; omega)
  obtain ⟨n0, x, lx, ux, ex⟩ := btw_F (l := 4571153621781053440) (h := 4607182418800017408) (by decide) (by decide) (by decide) k0
  obtain ⟨n1, y, ly, uy, ey⟩ := btw_F (l := 4571153621781053440) (h := 4607182418800017408) (by decide) (by decide) (by decide) k1
  rw [show Dy.enc 4571153621781053440 = 4571153621781053440 from by decide, show Dy.enc 4607182418800017408 = 4607182418800017408 from by decide] at n0 ex n1 ey
  obtain ⟨n2, d, hd, wd, ed⟩ := spanL (l := (-4607182418800017408)) (h := 4607182418800017408) (a := 13830554455654793216) (b := 4607182418800017408) (by decide) (by decide) (by decide) (by decide) (by decide) k2 k3
  obtain ⟨n3, g, hg, wg, eg⟩ := spanL (l := 0) (h := 4607182418800017408) (a := 0) (b := 4607182418800017408) rfl (by decide) (by decide) (by decide) (by decide) k4 k5
  obtain ⟨n4, r, hr, wr, er⟩ := spanL (l := 0) (h := 4607182418800017408) (a := 0) (b := 4607182418800017408) rfl (by decide) (by decide) (by decide) (by decide) k6 k7
  have d1 := wd.lo; have d2 := wd.hi; have d3 := hd.le
  have g1 := wg.lo; have g2 := wg.hi; have g3 := hg.le
  have r1 := wr.lo; have r2 := wr.hi; have r3 := hr.le
  dsimp only at d1 d2 g1 g2 r1 r2
  obtain ⟨px, qx⟩ := point_all (z := x) (o (by omega) ux)
  obtain ⟨py, qy⟩ := point_all (z := y) (o (by omega) uy)
  obtain ⟨pd1, qd1⟩ := point_all hd.lo
  obtain ⟨pd2, qd2⟩ := point_all hd.hi
  obtain ⟨pg1, qg1⟩ := point_all hg.lo
  obtain ⟨pg2, qg2⟩ := point_all hg.hi
  obtain ⟨pr1, qr1⟩ := point_all hr.lo
  obtain ⟨pr2, qr2⟩ := point_all hr.hi
  obtain ⟨v1, e1, b1, h1⟩ := value_num (r := r.1) (g := g.1) (x := x) (y := y) (t := d.1) (by omega) (by omega) (by omega) (by omega) lx ux ly uy (by omega) (by omega)
  obtain ⟨v2, e2, b2, h2⟩ := value_num (r := r.1) (g := g.1) (x := x) (y := y) (t := d.2) (by omega) (by omega) (by omega) (by omega) lx ux ly uy (by omega) (by omega)
  obtain ⟨v3, e3, b3, h3⟩ := value_num (r := r.2) (g := g.1) (x := x) (y := y) (t := d.1) (by omega) (by omega) (by omega) (by omega) lx ux ly uy (by omega) (by omega)
  obtain ⟨a, b, ep, ba, bb, ha, hb⟩ := pair_num (z := g.1) (by omega) (by omega)
  obtain ⟨a', b', ep', ba', bb', ha', hb'⟩ := pair_num (z := g.2) (by omega) (by omega)
  have E1 := oVal_pt (by omega) (by omega) (by omega) (by omega) lx ux ly uy (by omega) (by omega) e1
  have E2 := oVal_pt (by omega) (by omega) (by omega) (by omega) lx ux ly uy (by omega) (by omega) e2
  have E3 := oVal_pt (by omega) (by omega) (by omega) (by omega) lx ux ly uy (by omega) (by omega) e3
  have F1 := oPair_pt (by omega) (by omega) ep
  have F2 := oPair_pt (by omega) (by omega) ep'
  -- values
  have z0 := Dy.val_zero; have z1 := Dy.val_one
  have G0 : 0 ≤ Dy.val g.1 := by rw [← z0]; exact Dy.val_le.2 g1
  have G1 : Dy.val g.1 ≤ 1 := by rw [← z1]; exact Dy.val_le.2 (by omega)
  have R0 : 0 ≤ Dy.val r.1 := by rw [← z0]; exact Dy.val_le.2 r1
  have X0 : 0 < max (Dy.val x) (Dy.val y) := by
    have : Dy.val 0 < Dy.val x := Dy.val_lt.2 (by omega)
    rw [z0] at this; grind
  have L1 := has_le h1 h2 (valQ_dot R0 G0 X0 (Dy.val_le.2 d3))
  have L2 := has_le h1 h3 (valQ_rho (Dy.val_le.2 r3) G0 G1)
  have L3 := has_le ha' ha (pairQ_falls G0 (Dy.val_le.2 g3))
  have L4 := has_le hb hb' (pairQ_rises G0 (Dy.val_le.2 g3))
  obtain ⟨s, os, s0, sK, es, ns⟩ := sub_small (K := 4427038433705197568) b1.rk.hi b1.rk.lo (Dy.ok_B (by decide) (by decide)) b1.rk.le (by
    rw [Dy.val_q (z := 4427038433705197568) (num := 1) (den := 1099511627776) (by decide) (by decide +kernel)]
    exact Rat.le_trans b1.wd (by decide +kernel))
  exact orises_ok u0 u1 u2 u3 u4 u5 u6 u7 w ex n0 px qx ey n1 py qy ed n2 eg n3 er n4 pr1 qr1 pg1 qg1 pd1 qd1 E1 pd2 qd2 E2 pr2 qr2 E3 F1 pg2 qg2 F2 rfl rfl rfl rfl rfl (le_true b1.rk.lo b2.rk.hi L1) (le_true b1.rk.lo b3.rk.hi L2) (le_true ba'.rk.lo ba.rk.hi L3) (le_true bb.rk.lo bb'.rk.hi L4) es ns (le_true os (Dy.ok_B (by decide) (by decide)) sK)
end Go.Proofs.Ythmkjnhgialnlaa
