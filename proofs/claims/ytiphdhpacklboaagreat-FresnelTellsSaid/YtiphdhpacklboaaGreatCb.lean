/- Plain facts: what is reflected (fresnel), as programs of a calculator; of lesser intervals comes a lesser one. -/
import Derived.Test.YtiphdhpacklboaaGreatCa
namespace Go.Proofs.YtiphdhpacklboaaGreat
open Go Go.RowKit
def dielM (cos n : Nat × Nat) : Dy.Cm (Nat × Nat) := do
 let one ← Dy.mNum 4607182418800017408
 let n2 ← Dy.mSqr n
 let d ← Dy.mSub n2 one
 let c2 ← Dy.mSqr cos
 let s ← Dy.mAdd d c2
 let g ← Dy.mSqrt s
 let a ← Dy.mSub g cos
 let b ← Dy.mAdd g cos
 let r ← Dy.mDiv a b
 let p ← Dy.mSqr r
 let b2 ← Dy.mAdd g cos
 let x ← Dy.mMul cos b2
 let x1 ← Dy.mSub x one
 let a2 ← Dy.mSub g cos
 let y ← Dy.mMul cos a2
 let y1 ← Dy.mAdd y one
 let z ← Dy.mDiv x1 y1
 let q ← Dy.mSqr z
 let h ← Dy.mNum 4602678819172646912
 let hp ← Dy.mMul h p
 let oq ← Dy.mAdd one q
 let v ← Dy.mMul hp oq
 pure (Dy.clip 0 4607182418800017408 v)
def condM (cos eta k : Nat × Nat) : Dy.Cm (Nat × Nat) := do
 let half ← Dy.mNum 4602678819172646912
 let c2 ← Dy.mSqr cos
 let one ← Dy.mNum 4607182418800017408
 let d ← Dy.mSub one c2
 let s2 ← pure (Dy.clip 0 4607182418800017408 d)
 let e2 ← Dy.mSqr eta
 let k2 ← Dy.mSqr k
 let t ← Dy.mSub e2 k2
 let t0 ← Dy.mSub t s2
 let t02 ← Dy.mSqr t0
 let four ← Dy.mNum 4616189618054758400
 let ek ← Dy.mMul e2 k2
 let ek4 ← Dy.mMul four ek
 let u ← Dy.mAdd t02 ek4
 let ab ← Dy.mSqrt u
 let abt ← Dy.mAdd ab t0
 let nul ← Dy.mNum 0
 let mx ← Dy.mMax abt nul
 let hm ← Dy.mMul half mx
 let a ← Dy.mSqrt hm
 let t1 ← Dy.mAdd ab c2
 let two ← Dy.mNum 4611686018427387904
 let ta ← Dy.mMul two a
 let t2 ← Dy.mMul ta cos
 let x ← Dy.mSub t1 t2
 let y ← Dy.mAdd t1 t2
 let q ← Dy.mDiv x y
 let rs ← pure (Dy.clip 0 4607182418800017408 q)
 let ca ← Dy.mMul c2 ab
 let s4 ← Dy.mSqr s2
 let t3 ← Dy.mAdd ca s4
 let t4 ← Dy.mMul t2 s2
 let x2 ← Dy.mSub t3 t4
 let y2 ← Dy.mAdd t3 t4
 let q2 ← Dy.mDiv x2 y2
 let m ← Dy.mMul rs q2
 let rp ← pure (Dy.clip 0 4607182418800017408 m)
 let sum ← Dy.mAdd rs rp
 let v ← Dy.mMul half sum
 pure (v)
end Go.Proofs.YtiphdhpacklboaaGreat
