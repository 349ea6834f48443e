/- The law FresnelNormal: walk and plain law joined. -/
import Derived.Test.YthmkjnhgialnlaaLa5
import Derived.Test.YthmkjnhgialnlaaJf
import Derived.Test.YthmkjnhgialnlaaRt
import Derived.Test.YthmkjnhgialnlaaRu
import Derived.Test.YthmkjnhgialnlaaRf
namespace Go.Proofs.Ythmkjnhgialnlaa
open Go Go.RowKit

theorem rk_ptN {z : Int} (h : Dy.ok z) : Dy.Rk (z, z) := ⟨h, h, Int.le_refl _⟩
theorem val_n40 : Dy.val 4607182418800009216 = 1 - 1 / 1099511627776 := (Dy.val_q (z := 4607182418800009216) (num := 1099511627775) (den := 1099511627776) (by decide) (by decide +kernel)).trans (by decide +kernel)
theorem lt_trueN {x y : Int} (hx : Dy.ok x) (hy : Dy.ok y) (h : x < y) : Dy.flt (Dy.enc x) (Dy.enc y) = true := by
  rw [Dy.flt_enc hx hy]; exact decide_eq_true h
/-- What the law reckons is what is reflected. -/
theorem metal_same (x y : Rat) : ((x - 1) * (x - 1) + y * y) / ((x + 1) * (x + 1) + y * y) = metalQ x y := by
  unfold metalQ
  have a : (x - 1) * (x - 1) + y * y = 1 + (x * x + y * y) - 2 * x := by grind
  have b : (x + 1) * (x + 1) + y * y = 1 + (x * x + y * y) + 2 * x := by grind
  rw [a, b]
set_option maxRecDepth 100000 in
set_option maxHeartbeats 4000000 in
theorem fnormal_any (u0 u1 u2 : Nat) (w : World) (k0 : u0 < 4294967296) (k1 : u1 < 4294967296) (k2 : u2 < 4294967296) : Calls Try.prog 6 #[.int .u32 ((u0 : Nat) : Int), .int .u32 ((u1 : Nat) : Int), .int .u32 ((u2 : Nat) : Int)] w fun e w' => e = .returned (.bool true) ∧ Below w.heap.size w w' := by
  have o1 : Dy.ok 4607182418800017408 := Dy.ok_B (by decide) (by decide)
  obtain ⟨n0, n, ln, un, en⟩ := btw_F (l := 4607463893776728064) (h := 4616189618054758400) (by decide) (by decide) (by decide) k0
  obtain ⟨n1, e, le, ue, ee⟩ := btw_F (l := 4589168020290535424) (h := 4625196817309499392) (by decide) (by decide) (by decide) k1
  obtain ⟨n2, m, lm, um, em⟩ := btw_F (l := 4589168020290535424) (h := 4625196817309499392) (by decide) (by decide) (by decide) k2
  rw [show Dy.enc 4607463893776728064 = 4607463893776728064 from by decide, show Dy.enc 4616189618054758400 = 4616189618054758400 from by decide] at n0 en
  rw [show Dy.enc 4589168020290535424 = 4589168020290535424 from by decide, show Dy.enc 4625196817309499392 = 4625196817309499392 from by decide] at n1 ee n2 em
  have on : Dy.ok n := Dy.ok_B (by unfold Dy.B10; omega) (by unfold Dy.B10; omega)
  have oe : Dy.ok e := Dy.ok_B (by unfold Dy.B10; omega) (by unfold Dy.B10; omega)
  have om : Dy.ok m := Dy.ok_B (by unfold Dy.B10; omega) (by unfold Dy.B10; omega)
  obtain ⟨pn, qn⟩ := point_all on
  obtain ⟨pe, qe⟩ := point_all oe
  obtain ⟨pm, qm⟩ := point_all om
  obtain ⟨p1, q1⟩ := point_all o1
  obtain ⟨pz, qz⟩ := point_all Dy.ok_zero
  rw [show Dy.enc 4607182418800017408 = 4607182418800017408 from by decide] at p1 q1
  rw [show Dy.enc 0 = 0 from by decide] at pz qz
  obtain ⟨a, ea, ba, ha⟩ := d1_num ln un
  obtain ⟨b, eb, bb, hb⟩ := d0_num ln un
  obtain ⟨d, ed, bd, hd⟩ := cond1_num le ue lm um
  obtain ⟨x1, x2, x3, st, x4, x5, x6, x7, x8, x9, x10, mt, g1, g2, g3, g4, g5, g6, g7, g8, g9, g10, g11, g12, rst, rmt, hst, hmt⟩ := law_num ln un le ue lm um
  have w1 : Dy.Wi (4607182418800017408, 4607182418800017408) (0, 4607182418800017408) := ⟨by decide, by decide⟩
  have w0 : Dy.Wi (0, 0) (0, 4607182418800017408) := ⟨by decide, by decide⟩
  have eA : dielG (4607182418800017408, 4607182418800017408) (Dy.enc n, Dy.enc n) = ((Dy.enc a.1, Dy.enc a.2), 0) := by
    rw [show dielG (4607182418800017408, 4607182418800017408) (Dy.enc n, Dy.enc n) = Dy.told (dielM (Dy.E (4607182418800017408, 4607182418800017408)) (Dy.E (n, n)) 0) from diel_told (p := (4607182418800017408, 4607182418800017408)) (q := (n, n)) (rk_ptN o1) (rk_ptN on) w1 ⟨ln, un⟩, ea]
    exact Dy.told_ok rfl
  have eB : dielG (0, 0) (Dy.enc n, Dy.enc n) = ((Dy.enc b.1, Dy.enc b.2), 0) := by
    rw [show dielG (0, 0) (Dy.enc n, Dy.enc n) = Dy.told (dielM (Dy.E (0, 0)) (Dy.E (n, n)) 0) from diel_told (p := (0, 0)) (q := (n, n)) (rk_ptN Dy.ok_zero) (rk_ptN on) w0 ⟨ln, un⟩, eb]
    exact Dy.told_ok rfl
  have eC : condG (4607182418800017408, 4607182418800017408) (Dy.enc e, Dy.enc e) (Dy.enc m, Dy.enc m) = ((Dy.enc d.1, Dy.enc d.2), 0) := by
    rw [show condG (4607182418800017408, 4607182418800017408) (Dy.enc e, Dy.enc e) (Dy.enc m, Dy.enc m) = Dy.told (condM (Dy.E (4607182418800017408, 4607182418800017408)) (Dy.E (e, e)) (Dy.E (m, m)) 0) from cond_told (p := (4607182418800017408, 4607182418800017408)) (q := (e, e)) (r := (m, m)) (rk_ptN o1) (rk_ptN oe) (rk_ptN om) w1 ⟨le, ue⟩ ⟨lm, um⟩, ed]
    exact Dy.told_ok rfl
  have b2 : b.2 = 4607182418800017408 := by
    have u := bb.hi
    have l := hb.hi
    have u' : b.2 ≤ 4607182418800017408 := Dy.val_le.1 (by rw [Dy.val_one]; exact u)
    have l' : 4607182418800017408 ≤ b.2 := Dy.val_le.1 (by rw [Dy.val_one]; exact l)
    omega
  have b1 : 4607182418800009216 ≤ b.1 := Dy.val_le.1 (by rw [val_n40]; exact Rat.le_trans (by decide +kernel) bb.lo)
  have num1 : Dy.cNum 0 4607182418800017408 = ((4607182418800017408, 4607182418800017408), 0) := by decide +kernel
  obtain ⟨z, oz, z0, zK, ez, nz⟩ := sub_small (K := 4422534834077827072) ba.rk.hi ba.rk.lo (Dy.ok_B (by decide) (by decide)) ba.rk.le (by
    rw [Dy.val_q (z := 4422534834077827072) (num := 1) (den := 2199023255552) (by decide) (by decide +kernel)]
    exact Rat.le_trans ba.wd (by decide +kernel))
  obtain ⟨y, oy, y0, yK, ey, ny⟩ := sub_small (K := 4467570830351532032) bd.rk.hi bd.rk.lo (Dy.ok_B (by decide) (by decide)) bd.rk.le (by
    rw [Dy.val_q (z := 4467570830351532032) (num := 1) (den := 2147483648) (by decide) (by decide +kernel)]
    exact Rat.le_trans bd.wd (by decide +kernel))
  rw [metal_same] at hmt
  exact fresnelnormal_ok u0 u1 u2 w en n0 pn qn ee n1 pe qe em n2 pm qm p1 q1 eA pz qz eB eC num1 g1.1 g2.1 g3.1 g4.1 g5.1 g6.1 g7.1 g8.1 g9.1 g10.1 g11.1 g12.1 rfl rfl rfl rfl
    (meets_has ba.rk rst ha hst) (by rw [b2]; exact eq_true o1) (ge_true (y := 4607182418800009216) bb.rk.lo (Dy.ok_B (by decide) (by decide)) b1) (meets_has bd.rk rmt hd hmt)
    ez nz (lt_trueN (y := 4427038433705197568) oz (Dy.ok_B (by decide) (by decide)) (by omega)) ey ny (lt_trueN (y := 4472074429978902528) oy (Dy.ok_B (by decide) (by decide)) (by omega))
end Go.Proofs.Ythmkjnhgialnlaa
