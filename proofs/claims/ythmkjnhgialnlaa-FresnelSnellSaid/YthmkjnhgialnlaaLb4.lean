/- The law FresnelSnell: walk and plain law joined. -/
import Derived.Test.YthmkjnhgialnlaaLa4
import Derived.Test.YthmkjnhgialnlaaJf
import Derived.Test.YthmkjnhgialnlaaRk
import Derived.Test.YthmkjnhgialnlaaRf
namespace Go.Proofs.Ythmkjnhgialnlaa
open Go Go.RowKit

theorem rk_ptF {z : Int} (h : Dy.ok z) : Dy.Rk (z, z) := ⟨h, h, Int.le_refl _⟩
theorem num_half : Dy.cNum 0 4602678819172646912 = ((4602678819172646912, 4602678819172646912), 0) := by decide +kernel
theorem num_one : Dy.cNum 0 4607182418800017408 = ((4607182418800017408, 4607182418800017408), 0) := by decide +kernel
theorem val_q8 : Dy.val 4571153621781053440 = 1 / 256 := (Dy.val_q (num := 1) (den := 256) (by decide) (by decide +kernel)).trans (by decide +kernel)
theorem val_ior0 : Dy.val 4607463893776728064 = 17 / 16 := (Dy.val_q (num := 17) (den := 16) (by decide) (by decide +kernel)).trans (by decide +kernel)
theorem val_ior1 : Dy.val 4616189618054758400 = 4 := (Dy.val_q (num := 4) (den := 1) (by decide) (by decide +kernel)).trans (by decide +kernel)
set_option maxRecDepth 100000 in
set_option maxHeartbeats 4000000 in
theorem fsnell_any (u0 u1 : Nat) (w : World) (k0 : u0 < 4294967296) (k1 : u1 < 4294967296) : Calls Try.prog 5 #[.int .u32 ((u0 : Nat) : Int), .int .u32 ((u1 : Nat) : Int)] w fun e w' => e = .returned (.bool true) ∧ Below w.heap.size w w' := by
  have o1 : Dy.ok 4607182418800017408 := Dy.ok_B (by decide) (by decide)
  obtain ⟨n0, c, lc, uc, ec⟩ := btw_F (l := 4571153621781053440) (h := 4607182418800017408) (by decide) (by decide) (by decide) k0
  obtain ⟨n1, n, ln, un, en⟩ := btw_F (l := 4607463893776728064) (h := 4616189618054758400) (by decide) (by decide) (by decide) k1
  rw [show Dy.enc 4571153621781053440 = 4571153621781053440 from by decide, show Dy.enc 4607182418800017408 = 4607182418800017408 from by decide] at n0 ec
  rw [show Dy.enc 4607463893776728064 = 4607463893776728064 from by decide, show Dy.enc 4616189618054758400 = 4616189618054758400 from by decide] at n1 en
  have oc : Dy.ok c := Dy.ok_B (by unfold Dy.B10; omega) (by unfold Dy.B10; omega)
  have on : Dy.ok n := Dy.ok_B (by unfold Dy.B10; omega) (by unfold Dy.B10; omega)
  obtain ⟨pc, qc⟩ := point_all oc
  obtain ⟨pn, qn⟩ := point_all on
  obtain ⟨v, g, ev, bv, gb, hg, hv⟩ := diel_num lc uc ln un
  obtain ⟨c2, d, n2, q, u, s, ns, x, y, r, rs, nc, x2, y2, r2, rp, t, v', s', g1, g2, g3, g4, g5, g6, g7, g8, g9, g10, g11, g12, g13, g14, g15, g16, g17, g18, rv', wb, hw, hv'⟩ := snell_num lc uc ln un
  have eD : dielG (Dy.enc c, Dy.enc c) (Dy.enc n, Dy.enc n) = ((Dy.enc v.1, Dy.enc v.2), 0) := by
    rw [show dielG (Dy.enc c, Dy.enc c) (Dy.enc n, Dy.enc n) = Dy.told (dielM (Dy.E (c, c)) (Dy.E (n, n)) 0) from diel_told (p := (c, c)) (q := (n, n)) (rk_ptF oc) (rk_ptF on) ⟨by dsimp only; omega, uc⟩ ⟨ln, un⟩, ev]
    exact Dy.told_ok rfl
  have C0 := Dy.val_le.2 lc; have C1 := Dy.val_le.2 uc; have N0 := Dy.val_le.2 ln; have N1 := Dy.val_le.2 un
  rw [val_q8] at C0; rw [Dy.val_one] at C1; rw [val_ior0] at N0; rw [val_ior1] at N1
  have near := snell_near C0 C1 N0 N1 gb wb hg hw
  have v0 : 0 ≤ v.1 := Dy.val_le.1 (by rw [Dy.val_zero]; exact bv.lo)
  have v1 : v.2 ≤ 4607182418800017408 := Dy.val_le.1 (by rw [Dy.val_one]; exact bv.hi)
  obtain ⟨z, oz, z0, zK, ez, nz⟩ := sub_small (K := 4472074429978902528) bv.rk.hi bv.rk.lo (Dy.ok_B (by decide) (by decide)) bv.rk.le (by
    rw [Dy.val_q (z := 4472074429978902528) (num := 1) (den := 1073741824) (by decide) (by decide +kernel)]
    exact Rat.le_trans bv.wd (by decide +kernel))
  exact fresnelsnell_ok u0 u1 w ec n0 pc qc en n1 pn qn eD rfl (lt_false (y := 0) bv.rk.lo Dy.ok_zero v0) (gt_false (y := 4607182418800017408) bv.rk.hi o1 v1) (gt_false bv.rk.lo bv.rk.hi bv.rk.le) ez nz (gt_false (y := 4472074429978902528) oz (Dy.ok_B (by decide) (by decide)) zK)
    num_one num_one g1.1 g2.1 g3.1 g4.1 g5.1 g6.1 g7.1 g8.1 g7.1 g9.1 g10.1 g11.1 g12.1 g13.1 g12.1 g14.1 g15.1 g16.1 num_half g17.1 g18.1 rfl (meets_hasS bv.rk rv' hv hv' near)
end Go.Proofs.Ythmkjnhgialnlaa
