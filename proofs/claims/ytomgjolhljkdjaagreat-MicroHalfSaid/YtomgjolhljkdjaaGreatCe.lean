/- Plain facts: mirrors that lean (ggx), as programs of a calculator; of lesser intervals comes a lesser one. -/
import Derived.Test.YtomgjolhljkdjaaGreatCc
namespace Go.Proofs.YtomgjolhljkdjaaGreat
open Go Go.RowKit

def bentM (a cos : Nat × Nat) : Dy.Cm (Nat × Nat) := do
  let one ← Dy.mNum 4607182418800017408
  let d ← Dy.mSub a one
  let c2 ← Dy.mSqr cos
  let m ← Dy.mMul d c2
  let one2 ← Dy.mNum 4607182418800017408
  let v ← Dy.mAdd m one2
  pure (v)
def leansM (a cos : Nat × Nat) : Dy.Cm (Nat × Nat) := do
  let b ← bentM a cos
  let q ← Dy.mSqr b
  let m ← Dy.mMul (4614256656552045848, 4614256656552045849) q
  let v ← Dy.mDiv a m
  pure (v)
def hidesM (a cos : Nat × Nat) : Dy.Cm (Nat × Nat) := do
  let sq ← Dy.mSqr cos
  let one ← Dy.mNum 4607182418800017408
  let d ← Dy.mSub one sq
  let t ← Dy.mDiv d sq
  let h ← Dy.mNum 4602678819172646912
  let one2 ← Dy.mNum 4607182418800017408
  let m ← Dy.mMul a t
  let s ← Dy.mAdd one2 m
  let r ← Dy.mSqrt s
  let one3 ← Dy.mNum 4607182418800017408
  let y ← Dy.mSub r one3
  let x ← Dy.mMul h y
  pure ((Dy.dmax x.1 0, Dy.dmax x.2 0))
def facesM (a cos : Nat × Nat) : Dy.Cm (Nat × Nat) := do
  let one ← Dy.mNum 4607182418800017408
  let c2 ← Dy.mSqr cos
  let d ← Dy.mSub one c2
  let b ← bentM a cos
  let v ← Dy.mDiv d b
  pure (v)
/-- An error stays: each step, with functions. -/
def seen1M (a cos : Nat × Nat) : Dy.Cm (Nat × Nat) := do
  let n ← Dy.mNum 4607182418800017408
  let h ← hidesM a cos
  let s ← Dy.mAdd n h
  let one ← Dy.mNum 4607182418800017408
  let v ← Dy.mDiv one s
  pure (v)
def seen2M (a cos out : Nat × Nat) : Dy.Cm (Nat × Nat) := do
  let n ← Dy.mNum 4607182418800017408
  let h ← hidesM a cos
  let s ← Dy.mAdd n h
  let k ← hidesM a out
  let s2 ← Dy.mAdd s k
  let one ← Dy.mNum 4607182418800017408
  let v ← Dy.mDiv one s2
  pure (v)
def dM (cos alpha : Nat × Nat) : Dy.Cm (Nat × Nat) := do
  let a ← Dy.mSqr alpha
  leansM a cos
def lambdaM (cos alpha : Nat × Nat) : Dy.Cm (Nat × Nat) := do
  let a ← Dy.mSqr alpha
  hidesM a cos
def facingM (cos alpha : Nat × Nat) : Dy.Cm (Nat × Nat) := do
  let a ← Dy.mSqr alpha
  facesM a cos
def g1M (cos alpha : Nat × Nat) : Dy.Cm (Nat × Nat) := do
  let a ← Dy.mSqr alpha
  seen1M a cos
def g2M (cos out alpha : Nat × Nat) : Dy.Cm (Nat × Nat) := do
  let a ← Dy.mSqr alpha
  seen2M a cos out
end Go.Proofs.YtomgjolhljkdjaaGreat
