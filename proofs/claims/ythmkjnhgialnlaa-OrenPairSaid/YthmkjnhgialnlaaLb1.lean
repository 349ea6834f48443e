/- The law OrenPair: walk and plain law joined. -/
import Derived.Test.YthmkjnhgialnlaaLa1
import Derived.Test.YthmkjnhgialnlaaJp
import Derived.Test.YthmkjnhgialnlaaRe
import Derived.Test.YthmkjnhgialnlaaRf
namespace Go.Proofs.Ythmkjnhgialnlaa
open Go Go.RowKit

theorem wi_pt {z : Int} {l h : Int} (h1 : l ≤ z) (h2 : z ≤ h) : Dy.Wi (z, z) (l, h) := ⟨h1, h2⟩
set_option maxRecDepth 100000 in
set_option maxHeartbeats 4000000 in
theorem openpair_any (u0 : Nat) (w : World) (k0 : u0 < 4294967296) : Calls Try.prog 4 #[.int .u32 ((u0 : Nat) : Int)] w fun e w' => e = .returned (.bool true) ∧ Below w.heap.size w w' := by
  obtain ⟨z, lz, uz, oz, e1, n2, n3⟩ := frac_all k0
  obtain ⟨e4, n5⟩ := point_all oz
  obtain ⟨a, b, ep, ba, bb, ha, hb⟩ := pair_num lz uz
  have rz : Dy.Rk (z, z) := ⟨oz, oz, Int.le_refl _⟩
  have e6 : oPair (Dy.enc z, Dy.enc z) = ((Dy.E a, Dy.E b), 0) := by
    rw [show oPair (Dy.enc z, Dy.enc z) = told2 (pairM (Dy.E (z, z)) 0) from oPair_told (p1 := (z, z)) rz (wi_pt lz uz), ep]
    exact told2_ok rfl
  have x0 : 0 ≤ Dy.val z := by rw [← Dy.val_zero]; exact Dy.val_le.2 lz
  obtain ⟨h, t, d, m, n, s, g1, g2, g3, g4, g5, g6, bs, hs⟩ := one_num ba bb ha hb x0
  have two : ∀ e, e = (0 : Int) → Dy.cNum e 4611686018427387904 = ((4611686018427387904, 4611686018427387904), 0) := fun e h => by subst h; decide +kernel
  have three : Dy.cNum 0 4613937818241073152 = ((4613937818241073152, 4613937818241073152), 0) := by decide +kernel
  have pE : Dy.E Dy.piP = (4614256656552045848, 4614256656552045849) := Dy.bd_pi.2.1
  rw [pE] at g1 g4
  have le := bs.le
  have wd := bs.wd
  obtain ⟨r, or, r0, rK, e20, n21⟩ := sub_small (K := 4404520435568345088) bs.rk.hi bs.rk.lo (Dy.ok_B (by decide) (by decide)) bs.rk.le (by
    rw [Dy.val_q (z := 4404520435568345088) (num := 1) (den := 35184372088832) (by decide) (by decide +kernel)]
    exact Rat.le_trans wd (by decide +kernel))
  have o1 : Dy.ok 4607182418800017408 := Dy.ok_B (by decide) (by decide)
  have i1 := hs.lo; have i2 := hs.hi
  rw [← Dy.val_one] at i1 i2
  exact openpair_ok u0 w rfl e1 n2 n3 e4 n5 e6 (two 0 rfl) g1.1 (two 0 rfl) three g2.1 g3.1 g4.1 g5.1 g6.1 rfl rfl (le_true bs.rk.lo o1 (Dy.val_le.1 i1)) (ge_true bs.rk.hi o1 (Dy.val_le.1 i2)) e20 n21 (le_true or (Dy.ok_B (by decide) (by decide)) rK)
end Go.Proofs.Ythmkjnhgialnlaa
