/- Plain facts: the law LambertFalls. -/
import Derived.Test.YtkhplflbcgjkcaaGreatN4
import Derived.Test.YtkhplflbcgjkcaaGreatEc
namespace Go.Proofs.YtkhplflbcgjkcaaGreat
open Go.RowKit
structure Un (p : Int × Int) : Prop where
 rk : Dy.Rk p
 lo : 0 ≤ p.1
 hi : p.2 ≤ Dy.I1
theorem okUn {z : Int} (h0 : 0 ≤ z) (h1 : z ≤ Dy.I1) : Dy.ok z := Dy.ok_B (by unfold Dy.B10; omega) (by unfold Dy.B10 Dy.I1 at *; omega)
theorem Un.mk' {x y : Int} (h0 : 0 ≤ x) (h : x ≤ y) (h1 : y ≤ Dy.I1) : Un (x, y) := ⟨⟨okUn h0 (by dsimp only at *; omega), okUn (by dsimp only at *; omega) h1, h⟩, h0, h1⟩
theorem one_enc : (4607182418800017408 : Nat) = Dy.enc Dy.I1 := by decide
theorem Un.out {p : Int × Int} (h : Un p) : oL (Dy.E p) = false ∧ oH (Dy.E p) = false := by
 have h1 : Dy.flt (Dy.enc p.1) (Dy.enc 0) = decide (p.1 < 0) := Dy.flt_enc h.rk.lo Dy.ok_zero
 have h2 : Dy.fgt (Dy.enc p.2) (Dy.enc Dy.I1) = decide (Dy.I1 < p.2) := Dy.fgt_enc h.rk.hi Dy.ok_I1
 have a := h.lo
 have b := h.hi
 refine ⟨?_, ?_⟩
 ·show Dy.flt (Dy.enc p.1) 0 = false
  rw [show (0 : Nat) = Dy.enc 0 from rfl, h1]; exact decide_eq_false (by omega)
 ·show Dy.fgt (Dy.enc p.2) 4607182418800017408 = false
  rw [one_enc, h2]; exact decide_eq_false (by omega)
end Go.Proofs.YtkhplflbcgjkcaaGreat
