/- The law GgxFlat: walk and plain law joined. -/
import Derived.Test.YthmkjnhgialnlaaLa7
import Derived.Test.YthmkjnhgialnlaaRl
import Derived.Test.YthmkjnhgialnlaaRf
import Derived.Test.YthmkjnhgialnlaaJh
namespace Go.Proofs.Ythmkjnhgialnlaa
open Go Go.RowKit

theorem rk_ptG {z : Int} (h : Dy.ok z) : Dy.Rk (z, z) := ⟨h, h, Int.le_refl _⟩
set_option maxRecDepth 100000 in
set_option maxHeartbeats 4000000 in
theorem gflat_any (u0 u1 : Nat) (w : World) (k0 : u0 < 4294967296) (k1 : u1 < 4294967296) : Calls Try.prog 9 #[.int .u32 ((u0 : Nat) : Int), .int .u32 ((u1 : Nat) : Int)] w fun e w' => e = .returned (.bool true) ∧ Below w.heap.size w w' := by
  have o1 : Dy.ok 4607182418800017408 := Dy.ok_B (by decide) (by decide)
  obtain ⟨n0, c, lc, uc, ec⟩ := btw_F (l := 4571153621781053440) (h := 4607182418800017408) (by decide) (by decide) (by decide) k0
  obtain ⟨n1, a, la, ua, ea⟩ := btw_F (l := 4584664420663164928) (h := 4607182418800017408) (by decide) (by decide) (by decide) k1
  rw [show Dy.enc 4571153621781053440 = 4571153621781053440 from by decide, show Dy.enc 4607182418800017408 = 4607182418800017408 from by decide] at n0 ec
  rw [show Dy.enc 4584664420663164928 = 4584664420663164928 from by decide, show Dy.enc 4607182418800017408 = 4607182418800017408 from by decide] at n1 ea
  have oc : Dy.ok c := Dy.ok_B (by unfold Dy.B10; omega) (by unfold Dy.B10; omega)
  have oa : Dy.ok a := Dy.ok_B (by unfold Dy.B10; omega) (by unfold Dy.B10; omega)
  obtain ⟨pc, qc⟩ := point_all oc
  obtain ⟨pa, qa⟩ := point_all oa
  have one : (Ieee.double.add 4607182418800017408 0).getD 0 = 4607182418800017408 := (point_all o1).1
  have one' : (fN Ieee.double.add) [.f 4607182418800017408, .f 0] = true := (point_all o1).2
  obtain ⟨v, ev, rv, hv⟩ := dflat_num lc uc
  obtain ⟨l, t, el, bl, tb, ht, hl⟩ := lambda_num lc uc la ua
  obtain ⟨m, s, x, c2, d, n, q, p, p2, y, r, g1, g2, g3, g4, g5, g6, g7, g8, g9, g10, rx, ry, hr, br, hx, hy⟩ := flat_num (t := t) lc uc la ua bl hl
  have wc : Dy.Wi (c, c) (0, 4607182418800017408) := ⟨by dsimp only; omega, uc⟩
  have wa : Dy.Wi (a, a) (4584664420663164928, 4607182418800017408) := ⟨la, ua⟩
  have N1 : nG1 [.f 4607182418800017408, .f 4607182418800017408, .f (Dy.enc c), .f (Dy.enc c)] = true := nG1_ok (p := (4607182418800017408, 4607182418800017408)) (q := (c, c)) (rk_ptG o1) ⟨by decide, by decide⟩ (rk_ptG oc) wc
  have N2 : nG1 [.f (Dy.enc a), .f (Dy.enc a), .f (Dy.enc c), .f (Dy.enc c)] = true := nG1_ok (p := (a, a)) (q := (c, c)) (rk_ptG oa) wa (rk_ptG oc) wc
  have D : Dy.told (dM (Dy.enc c, Dy.enc c) (4607182418800017408, 4607182418800017408) 0) = ((Dy.enc v.1, Dy.enc v.2), 0) := by
    rw [show dM (Dy.enc c, Dy.enc c) (4607182418800017408, 4607182418800017408) 0 = (Dy.E v, 0) from ev]; exact Dy.told_ok rfl
  have L : Dy.told (lambdaM (Dy.enc c, Dy.enc c) (Dy.enc a, Dy.enc a) 0) = ((Dy.enc l.1, Dy.enc l.2), 0) := by
    rw [show lambdaM (Dy.enc c, Dy.enc c) (Dy.enc a, Dy.enc a) 0 = (Dy.E l, 0) from el]; exact Dy.told_ok rfl
  have n1' : Dy.cNum 0 4607182418800017408 = ((4607182418800017408, 4607182418800017408), 0) := by decide +kernel
  have n2' : Dy.cNum 0 4611686018427387904 = ((4611686018427387904, 4611686018427387904), 0) := by decide +kernel
  -- pi's part
  obtain ⟨bp, ep, hp⟩ := Dy.bd_pi
  obtain ⟨f, gf, hf⟩ : ∃ f, Dy.Got (Dy.cDiv 0 (4607182418800017408, 4607182418800017408) (4614256656552045848, 4614256656552045849)) f ∧ Dy.Has f (1 / Dy.piQ) := by
    have g : Dy.Got (Dy.cDiv 0 (Dy.E (4607182418800017408, 4607182418800017408)) (Dy.E Dy.piP)) (4599405781057128578, 4599405781057128579) := ⟨by decide +kernel, Dy.ok_B (by decide) (by decide), Dy.ok_B (by decide) (by decide), by decide⟩
    have h := Dy.has_div (x := 1) (y := Dy.piQ) (rk_ptG o1) bp.rk g ⟨by rw [Dy.val_one]; grind, by rw [Dy.val_one]; grind⟩ hp
    exact ⟨_, by rw [ep] at g; exact g, h⟩
  -- both come together
  have C0 : 0 < Dy.val c := Dy.val_pos (by omega)
  have near : Dy.Near (fun κ => t κ * t κ) (fun κ => 1 + Dy.val a * (r κ / Dy.val c) * (Dy.val a * (r κ / Dy.val c))) := by
    have k : Dy.Nr (fun κ => r κ * r κ) (fun _ => 1 - Dy.val c * Dy.val c) := ⟨hr, Dy.bnd_mul br br, Dy.bnd_const _⟩
    have f := Dy.nr_add (Dy.nr_const 1) (Dy.nr_mul (Dy.nr_const (Dy.val a * Dy.val a / (Dy.val c * Dy.val c))) k)
    refine ht.trans (f.symm.n.symm.symm.trans (Dy.near_eq fun κ => by grind) |> fun z => (Dy.near_eq fun κ => by grind).trans z)
  exact ggxflat_ok u0 u1 w ec n0 pc qc ea n1 pa qa one one' D N1 L N2 n1' gf.1 n2' g1.1 n1' g2.1 g3.1 n1' g4.1 g5.1 g6.1 n1' g7.1 g8.1 g9.1 g10.1 rfl rfl rfl (meets_has rv gf.rk hv hf) (meets_hasS rx ry hx hy near) (ge_true (y := 0) bl.rk.lo Dy.ok_zero (Dy.val_le.1 (by rw [Dy.val_zero]; exact bl.lo)))
end Go.Proofs.Ythmkjnhgialnlaa
