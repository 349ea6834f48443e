/- Plain facts: the law LambertFalls. Plain facts: rough surfaces (oren), as programs of a calculator; of lesser intervals comes a lesser one. Plain facts: mirrors that lean (ggx), as programs of a calculator; of lesser intervals comes a lesser one. -/
import Derived.Test.YtikiegcncliocaaN4
import Derived.Test.YtikiegcncliocaaEc
import Derived.Test.YtikiegcncliocaaC0
/-! Plain facts: the law LambertFalls. -/
namespace Go.Proofs.Ytikiegcncliocaa
open Go.RowKit

/-- Ranks of an interval within 0 and 1. -/
structure Un (p : Int × Int) : Prop where
  rk : Dy.Rk p
  lo : 0 ≤ p.1
  hi : p.2 ≤ Dy.I1
theorem okUn {z : Int} (h0 : 0 ≤ z) (h1 : z ≤ Dy.I1) : Dy.ok z := Dy.ok_B (by unfold Dy.B10; omega) (by unfold Dy.B10 Dy.I1 at *; omega)
theorem Un.mk' {x y : Int} (h0 : 0 ≤ x) (h : x ≤ y) (h1 : y ≤ Dy.I1) : Un (x, y) := ⟨⟨okUn h0 (by dsimp only at *; omega), okUn (by dsimp only at *; omega) h1, h⟩, h0, h1⟩
theorem Un.pt {x : Int} (h0 : 0 ≤ x) (h1 : x ≤ Dy.I1) : Un (x, x) := Un.mk' h0 (Int.le_refl _) h1
theorem Un.wi {p q : Int × Int} (h : Un p) (hq : Dy.Rk q) (w : Dy.Wi q p) : Un q := ⟨hq, Int.le_trans h.lo w.lo, Int.le_trans w.hi h.hi⟩
theorem one_enc : (4607182418800017408 : Nat) = Dy.enc Dy.I1 := by decide
theorem Un.out {p : Int × Int} (h : Un p) : oL (Dy.E p) = false ∧ oH (Dy.E p) = false := by
  have h1 : Dy.flt (Dy.enc p.1) (Dy.enc 0) = decide (p.1 < 0) := Dy.flt_enc h.rk.lo Dy.ok_zero
  have h2 : Dy.fgt (Dy.enc p.2) (Dy.enc Dy.I1) = decide (Dy.I1 < p.2) := Dy.fgt_enc h.rk.hi Dy.ok_I1
  have a := h.lo
  have b := h.hi
  refine ⟨?_, ?_⟩
  · show Dy.flt (Dy.enc p.1) 0 = false
    rw [show (0 : Nat) = Dy.enc 0 from rfl, h1]; exact decide_eq_false (by omega)
  · show Dy.fgt (Dy.enc p.2) 4607182418800017408 = false
    rw [one_enc, h2]; exact decide_eq_false (by omega)
end Go.Proofs.Ytikiegcncliocaa
/-! Plain facts: rough surfaces (oren), as programs of a calculator; of lesser intervals comes a lesser one. -/
namespace Go.Proofs.Ytikiegcncliocaa
open Go Go.RowKit

end Go.Proofs.Ytikiegcncliocaa
/-! Plain facts: mirrors that lean (ggx), as programs of a calculator; of lesser intervals comes a lesser one. -/
namespace Go.Proofs.Ytikiegcncliocaa
open Go Go.RowKit

def bentM (a cos : Nat × Nat) : Dy.Cm (Nat × Nat) := do
  let one ← Dy.mNum 4607182418800017408
  let d ← Dy.mSub a one
  let c2 ← Dy.mSqr cos
  let m ← Dy.mMul d c2
  let one2 ← Dy.mNum 4607182418800017408
  let v ← Dy.mAdd m one2
  pure (v)
def leansM (a cos : Nat × Nat) : Dy.Cm (Nat × Nat) := do
  let b ← bentM a cos
  let q ← Dy.mSqr b
  let m ← Dy.mMul (4614256656552045848, 4614256656552045849) q
  let v ← Dy.mDiv a m
  pure (v)
def hidesM (a cos : Nat × Nat) : Dy.Cm (Nat × Nat) := do
  let sq ← Dy.mSqr cos
  let one ← Dy.mNum 4607182418800017408
  let d ← Dy.mSub one sq
  let t ← Dy.mDiv d sq
  let h ← Dy.mNum 4602678819172646912
  let one2 ← Dy.mNum 4607182418800017408
  let m ← Dy.mMul a t
  let s ← Dy.mAdd one2 m
  let r ← Dy.mSqrt s
  let one3 ← Dy.mNum 4607182418800017408
  let y ← Dy.mSub r one3
  let x ← Dy.mMul h y
  pure ((Dy.dmax x.1 0, Dy.dmax x.2 0))
def facesM (a cos : Nat × Nat) : Dy.Cm (Nat × Nat) := do
  let one ← Dy.mNum 4607182418800017408
  let c2 ← Dy.mSqr cos
  let d ← Dy.mSub one c2
  let b ← bentM a cos
  let v ← Dy.mDiv d b
  pure (v)
/-- An error stays: each step, with functions. -/
def seen1M (a cos : Nat × Nat) : Dy.Cm (Nat × Nat) := do
  let n ← Dy.mNum 4607182418800017408
  let h ← hidesM a cos
  let s ← Dy.mAdd n h
  let one ← Dy.mNum 4607182418800017408
  let v ← Dy.mDiv one s
  pure (v)
def seen2M (a cos out : Nat × Nat) : Dy.Cm (Nat × Nat) := do
  let n ← Dy.mNum 4607182418800017408
  let h ← hidesM a cos
  let s ← Dy.mAdd n h
  let k ← hidesM a out
  let s2 ← Dy.mAdd s k
  let one ← Dy.mNum 4607182418800017408
  let v ← Dy.mDiv one s2
  pure (v)
def dM (cos alpha : Nat × Nat) : Dy.Cm (Nat × Nat) := do
  let a ← Dy.mSqr alpha
  leansM a cos
def lambdaM (cos alpha : Nat × Nat) : Dy.Cm (Nat × Nat) := do
  let a ← Dy.mSqr alpha
  hidesM a cos
def facingM (cos alpha : Nat × Nat) : Dy.Cm (Nat × Nat) := do
  let a ← Dy.mSqr alpha
  facesM a cos
def g1M (cos alpha : Nat × Nat) : Dy.Cm (Nat × Nat) := do
  let a ← Dy.mSqr alpha
  seen1M a cos
def g2M (cos out alpha : Nat × Nat) : Dy.Cm (Nat × Nat) := do
  let a ← Dy.mSqr alpha
  seen2M a cos out
end Go.Proofs.Ytikiegcncliocaa
