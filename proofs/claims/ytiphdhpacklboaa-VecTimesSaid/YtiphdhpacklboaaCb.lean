/- Plain facts: what is reflected (fresnel), as programs of a calculator; of lesser intervals comes a lesser one. -/
import Derived.Test.YtiphdhpacklboaaCa
namespace Go.Proofs.Ytiphdhpacklboaa
open Go Go.RowKit

def dielM (cos n : Nat × Nat) : Dy.Cm (Nat × Nat) := do
  let one ← Dy.mNum 4607182418800017408
  let n2 ← Dy.mSqr n
  let d ← Dy.mSub n2 one
  let c2 ← Dy.mSqr cos
  let s ← Dy.mAdd d c2
  let g ← Dy.mSqrt s
  let a ← Dy.mSub g cos
  let b ← Dy.mAdd g cos
  let r ← Dy.mDiv a b
  let p ← Dy.mSqr r
  let b2 ← Dy.mAdd g cos
  let x ← Dy.mMul cos b2
  let x1 ← Dy.mSub x one
  let a2 ← Dy.mSub g cos
  let y ← Dy.mMul cos a2
  let y1 ← Dy.mAdd y one
  let z ← Dy.mDiv x1 y1
  let q ← Dy.mSqr z
  let h ← Dy.mNum 4602678819172646912
  let hp ← Dy.mMul h p
  let oq ← Dy.mAdd one q
  let v ← Dy.mMul hp oq
  pure (Dy.clip 0 4607182418800017408 v)
theorem dielM_z (cos n : Nat × Nat) : (dielM cos n).Z := by
  unfold dielM
  (repeat (with_reducible first | refine Dy.Cm.Z.bind ?_ (fun _ => ?_) | exact Dy.z_num _ | exact Dy.z_add _ _ | exact Dy.z_sub _ _ | exact Dy.z_mul _ _ | exact Dy.z_div _ _ | exact Dy.z_sqr _ | exact Dy.z_sqrt _ | exact Dy.z_max _ _ | exact Dy.Cm.Z.pure _))
theorem dielM_mf {cos cos' n n' : Nat × Nat} (w_cos : Dy.Wn cos cos') (w_n : Dy.Wn n n') : Dy.MF Dy.Wn (dielM cos n) (dielM cos' n') := by
  unfold dielM
  refine Dy.MF.bind (R := Dy.Wn) (Dy.mf_num (z := (4607182418800017408 : Int)) (Dy.ok_B (by decide) (by decide)) (by decide)) (fun _ => by (repeat (with_reducible first | refine Dy.Cm.Z.bind ?_ (fun _ => ?_) | exact Dy.z_num _ | exact Dy.z_add _ _ | exact Dy.z_sub _ _ | exact Dy.z_mul _ _ | exact Dy.z_div _ _ | exact Dy.z_sqr _ | exact Dy.z_sqrt _ | exact Dy.z_max _ _ | exact Dy.Cm.Z.pure _))) (fun one one' w_one => ?_)
  refine Dy.MF.bind (R := Dy.Wn) (Dy.mf_sqr w_n) (fun _ => by (repeat (with_reducible first | refine Dy.Cm.Z.bind ?_ (fun _ => ?_) | exact Dy.z_num _ | exact Dy.z_add _ _ | exact Dy.z_sub _ _ | exact Dy.z_mul _ _ | exact Dy.z_div _ _ | exact Dy.z_sqr _ | exact Dy.z_sqrt _ | exact Dy.z_max _ _ | exact Dy.Cm.Z.pure _))) (fun n2 n2' w_n2 => ?_)
  refine Dy.MF.bind (R := Dy.Wn) (Dy.mf_sub w_n2 w_one) (fun _ => by (repeat (with_reducible first | refine Dy.Cm.Z.bind ?_ (fun _ => ?_) | exact Dy.z_num _ | exact Dy.z_add _ _ | exact Dy.z_sub _ _ | exact Dy.z_mul _ _ | exact Dy.z_div _ _ | exact Dy.z_sqr _ | exact Dy.z_sqrt _ | exact Dy.z_max _ _ | exact Dy.Cm.Z.pure _))) (fun d d' w_d => ?_)
  refine Dy.MF.bind (R := Dy.Wn) (Dy.mf_sqr w_cos) (fun _ => by (repeat (with_reducible first | refine Dy.Cm.Z.bind ?_ (fun _ => ?_) | exact Dy.z_num _ | exact Dy.z_add _ _ | exact Dy.z_sub _ _ | exact Dy.z_mul _ _ | exact Dy.z_div _ _ | exact Dy.z_sqr _ | exact Dy.z_sqrt _ | exact Dy.z_max _ _ | exact Dy.Cm.Z.pure _))) (fun c2 c2' w_c2 => ?_)
  refine Dy.MF.bind (R := Dy.Wn) (Dy.mf_add w_d w_c2) (fun _ => by (repeat (with_reducible first | refine Dy.Cm.Z.bind ?_ (fun _ => ?_) | exact Dy.z_num _ | exact Dy.z_add _ _ | exact Dy.z_sub _ _ | exact Dy.z_mul _ _ | exact Dy.z_div _ _ | exact Dy.z_sqr _ | exact Dy.z_sqrt _ | exact Dy.z_max _ _ | exact Dy.Cm.Z.pure _))) (fun s s' w_s => ?_)
  refine Dy.MF.bind (R := Dy.Wn) (Dy.mf_sqrt w_s) (fun _ => by (repeat (with_reducible first | refine Dy.Cm.Z.bind ?_ (fun _ => ?_) | exact Dy.z_num _ | exact Dy.z_add _ _ | exact Dy.z_sub _ _ | exact Dy.z_mul _ _ | exact Dy.z_div _ _ | exact Dy.z_sqr _ | exact Dy.z_sqrt _ | exact Dy.z_max _ _ | exact Dy.Cm.Z.pure _))) (fun g g' w_g => ?_)
  refine Dy.MF.bind (R := Dy.Wn) (Dy.mf_sub w_g w_cos) (fun _ => by (repeat (with_reducible first | refine Dy.Cm.Z.bind ?_ (fun _ => ?_) | exact Dy.z_num _ | exact Dy.z_add _ _ | exact Dy.z_sub _ _ | exact Dy.z_mul _ _ | exact Dy.z_div _ _ | exact Dy.z_sqr _ | exact Dy.z_sqrt _ | exact Dy.z_max _ _ | exact Dy.Cm.Z.pure _))) (fun a a' w_a => ?_)
  refine Dy.MF.bind (R := Dy.Wn) (Dy.mf_add w_g w_cos) (fun _ => by (repeat (with_reducible first | refine Dy.Cm.Z.bind ?_ (fun _ => ?_) | exact Dy.z_num _ | exact Dy.z_add _ _ | exact Dy.z_sub _ _ | exact Dy.z_mul _ _ | exact Dy.z_div _ _ | exact Dy.z_sqr _ | exact Dy.z_sqrt _ | exact Dy.z_max _ _ | exact Dy.Cm.Z.pure _))) (fun b b' w_b => ?_)
  refine Dy.MF.bind (R := Dy.Wn) (Dy.mf_div w_a w_b) (fun _ => by (repeat (with_reducible first | refine Dy.Cm.Z.bind ?_ (fun _ => ?_) | exact Dy.z_num _ | exact Dy.z_add _ _ | exact Dy.z_sub _ _ | exact Dy.z_mul _ _ | exact Dy.z_div _ _ | exact Dy.z_sqr _ | exact Dy.z_sqrt _ | exact Dy.z_max _ _ | exact Dy.Cm.Z.pure _))) (fun r r' w_r => ?_)
  refine Dy.MF.bind (R := Dy.Wn) (Dy.mf_sqr w_r) (fun _ => by (repeat (with_reducible first | refine Dy.Cm.Z.bind ?_ (fun _ => ?_) | exact Dy.z_num _ | exact Dy.z_add _ _ | exact Dy.z_sub _ _ | exact Dy.z_mul _ _ | exact Dy.z_div _ _ | exact Dy.z_sqr _ | exact Dy.z_sqrt _ | exact Dy.z_max _ _ | exact Dy.Cm.Z.pure _))) (fun p p' w_p => ?_)
  refine Dy.MF.bind (R := Dy.Wn) (Dy.mf_add w_g w_cos) (fun _ => by (repeat (with_reducible first | refine Dy.Cm.Z.bind ?_ (fun _ => ?_) | exact Dy.z_num _ | exact Dy.z_add _ _ | exact Dy.z_sub _ _ | exact Dy.z_mul _ _ | exact Dy.z_div _ _ | exact Dy.z_sqr _ | exact Dy.z_sqrt _ | exact Dy.z_max _ _ | exact Dy.Cm.Z.pure _))) (fun b2 b2' w_b2 => ?_)
  refine Dy.MF.bind (R := Dy.Wn) (Dy.mf_mul w_cos w_b2) (fun _ => by (repeat (with_reducible first | refine Dy.Cm.Z.bind ?_ (fun _ => ?_) | exact Dy.z_num _ | exact Dy.z_add _ _ | exact Dy.z_sub _ _ | exact Dy.z_mul _ _ | exact Dy.z_div _ _ | exact Dy.z_sqr _ | exact Dy.z_sqrt _ | exact Dy.z_max _ _ | exact Dy.Cm.Z.pure _))) (fun x x' w_x => ?_)
  refine Dy.MF.bind (R := Dy.Wn) (Dy.mf_sub w_x w_one) (fun _ => by (repeat (with_reducible first | refine Dy.Cm.Z.bind ?_ (fun _ => ?_) | exact Dy.z_num _ | exact Dy.z_add _ _ | exact Dy.z_sub _ _ | exact Dy.z_mul _ _ | exact Dy.z_div _ _ | exact Dy.z_sqr _ | exact Dy.z_sqrt _ | exact Dy.z_max _ _ | exact Dy.Cm.Z.pure _))) (fun x1 x1' w_x1 => ?_)
  refine Dy.MF.bind (R := Dy.Wn) (Dy.mf_sub w_g w_cos) (fun _ => by (repeat (with_reducible first | refine Dy.Cm.Z.bind ?_ (fun _ => ?_) | exact Dy.z_num _ | exact Dy.z_add _ _ | exact Dy.z_sub _ _ | exact Dy.z_mul _ _ | exact Dy.z_div _ _ | exact Dy.z_sqr _ | exact Dy.z_sqrt _ | exact Dy.z_max _ _ | exact Dy.Cm.Z.pure _))) (fun a2 a2' w_a2 => ?_)
  refine Dy.MF.bind (R := Dy.Wn) (Dy.mf_mul w_cos w_a2) (fun _ => by (repeat (with_reducible first | refine Dy.Cm.Z.bind ?_ (fun _ => ?_) | exact Dy.z_num _ | exact Dy.z_add _ _ | exact Dy.z_sub _ _ | exact Dy.z_mul _ _ | exact Dy.z_div _ _ | exact Dy.z_sqr _ | exact Dy.z_sqrt _ | exact Dy.z_max _ _ | exact Dy.Cm.Z.pure _))) (fun y y' w_y => ?_)
  refine Dy.MF.bind (R := Dy.Wn) (Dy.mf_add w_y w_one) (fun _ => by (repeat (with_reducible first | refine Dy.Cm.Z.bind ?_ (fun _ => ?_) | exact Dy.z_num _ | exact Dy.z_add _ _ | exact Dy.z_sub _ _ | exact Dy.z_mul _ _ | exact Dy.z_div _ _ | exact Dy.z_sqr _ | exact Dy.z_sqrt _ | exact Dy.z_max _ _ | exact Dy.Cm.Z.pure _))) (fun y1 y1' w_y1 => ?_)
  refine Dy.MF.bind (R := Dy.Wn) (Dy.mf_div w_x1 w_y1) (fun _ => by (repeat (with_reducible first | refine Dy.Cm.Z.bind ?_ (fun _ => ?_) | exact Dy.z_num _ | exact Dy.z_add _ _ | exact Dy.z_sub _ _ | exact Dy.z_mul _ _ | exact Dy.z_div _ _ | exact Dy.z_sqr _ | exact Dy.z_sqrt _ | exact Dy.z_max _ _ | exact Dy.Cm.Z.pure _))) (fun z z' w_z => ?_)
  refine Dy.MF.bind (R := Dy.Wn) (Dy.mf_sqr w_z) (fun _ => by (repeat (with_reducible first | refine Dy.Cm.Z.bind ?_ (fun _ => ?_) | exact Dy.z_num _ | exact Dy.z_add _ _ | exact Dy.z_sub _ _ | exact Dy.z_mul _ _ | exact Dy.z_div _ _ | exact Dy.z_sqr _ | exact Dy.z_sqrt _ | exact Dy.z_max _ _ | exact Dy.Cm.Z.pure _))) (fun q q' w_q => ?_)
  refine Dy.MF.bind (R := Dy.Wn) (Dy.mf_num (z := (4602678819172646912 : Int)) (Dy.ok_B (by decide) (by decide)) (by decide)) (fun _ => by (repeat (with_reducible first | refine Dy.Cm.Z.bind ?_ (fun _ => ?_) | exact Dy.z_num _ | exact Dy.z_add _ _ | exact Dy.z_sub _ _ | exact Dy.z_mul _ _ | exact Dy.z_div _ _ | exact Dy.z_sqr _ | exact Dy.z_sqrt _ | exact Dy.z_max _ _ | exact Dy.Cm.Z.pure _))) (fun h h' w_h => ?_)
  refine Dy.MF.bind (R := Dy.Wn) (Dy.mf_mul w_h w_p) (fun _ => by (repeat (with_reducible first | refine Dy.Cm.Z.bind ?_ (fun _ => ?_) | exact Dy.z_num _ | exact Dy.z_add _ _ | exact Dy.z_sub _ _ | exact Dy.z_mul _ _ | exact Dy.z_div _ _ | exact Dy.z_sqr _ | exact Dy.z_sqrt _ | exact Dy.z_max _ _ | exact Dy.Cm.Z.pure _))) (fun hp hp' w_hp => ?_)
  refine Dy.MF.bind (R := Dy.Wn) (Dy.mf_add w_one w_q) (fun _ => by (repeat (with_reducible first | refine Dy.Cm.Z.bind ?_ (fun _ => ?_) | exact Dy.z_num _ | exact Dy.z_add _ _ | exact Dy.z_sub _ _ | exact Dy.z_mul _ _ | exact Dy.z_div _ _ | exact Dy.z_sqr _ | exact Dy.z_sqrt _ | exact Dy.z_max _ _ | exact Dy.Cm.Z.pure _))) (fun oq oq' w_oq => ?_)
  refine Dy.MF.bind (R := Dy.Wn) (Dy.mf_mul w_hp w_oq) (fun _ => by (repeat (with_reducible first | refine Dy.Cm.Z.bind ?_ (fun _ => ?_) | exact Dy.z_num _ | exact Dy.z_add _ _ | exact Dy.z_sub _ _ | exact Dy.z_mul _ _ | exact Dy.z_div _ _ | exact Dy.z_sqr _ | exact Dy.z_sqrt _ | exact Dy.z_max _ _ | exact Dy.Cm.Z.pure _))) (fun v v' w_v => ?_)
  exact Dy.MF.pure (Dy.wn_clip (x := 0) (y := (4607182418800017408 : Int)) Dy.ok_zero (Dy.ok_B (by decide) (by decide)) rfl (by decide) w_v)
def condM (cos eta k : Nat × Nat) : Dy.Cm (Nat × Nat) := do
  let half ← Dy.mNum 4602678819172646912
  let c2 ← Dy.mSqr cos
  let one ← Dy.mNum 4607182418800017408
  let d ← Dy.mSub one c2
  let s2 ← pure (Dy.clip 0 4607182418800017408 d)
  let e2 ← Dy.mSqr eta
  let k2 ← Dy.mSqr k
  let t ← Dy.mSub e2 k2
  let t0 ← Dy.mSub t s2
  let t02 ← Dy.mSqr t0
  let four ← Dy.mNum 4616189618054758400
  let ek ← Dy.mMul e2 k2
  let ek4 ← Dy.mMul four ek
  let u ← Dy.mAdd t02 ek4
  let ab ← Dy.mSqrt u
  let abt ← Dy.mAdd ab t0
  let nul ← Dy.mNum 0
  let mx ← Dy.mMax abt nul
  let hm ← Dy.mMul half mx
  let a ← Dy.mSqrt hm
  let t1 ← Dy.mAdd ab c2
  let two ← Dy.mNum 4611686018427387904
  let ta ← Dy.mMul two a
  let t2 ← Dy.mMul ta cos
  let x ← Dy.mSub t1 t2
  let y ← Dy.mAdd t1 t2
  let q ← Dy.mDiv x y
  let rs ← pure (Dy.clip 0 4607182418800017408 q)
  let ca ← Dy.mMul c2 ab
  let s4 ← Dy.mSqr s2
  let t3 ← Dy.mAdd ca s4
  let t4 ← Dy.mMul t2 s2
  let x2 ← Dy.mSub t3 t4
  let y2 ← Dy.mAdd t3 t4
  let q2 ← Dy.mDiv x2 y2
  let m ← Dy.mMul rs q2
  let rp ← pure (Dy.clip 0 4607182418800017408 m)
  let sum ← Dy.mAdd rs rp
  let v ← Dy.mMul half sum
  pure (v)
theorem condM_z (cos eta k : Nat × Nat) : (condM cos eta k).Z := by
  unfold condM
  (repeat (with_reducible first | refine Dy.Cm.Z.bind ?_ (fun _ => ?_) | exact Dy.z_num _ | exact Dy.z_add _ _ | exact Dy.z_sub _ _ | exact Dy.z_mul _ _ | exact Dy.z_div _ _ | exact Dy.z_sqr _ | exact Dy.z_sqrt _ | exact Dy.z_max _ _ | exact Dy.Cm.Z.pure _))
theorem condM_mf {cos cos' eta eta' k k' : Nat × Nat} (w_cos : Dy.Wn cos cos') (w_eta : Dy.Wn eta eta') (w_k : Dy.Wn k k') : Dy.MF Dy.Wn (condM cos eta k) (condM cos' eta' k') := by
  unfold condM
  refine Dy.MF.bind (R := Dy.Wn) (Dy.mf_num (z := (4602678819172646912 : Int)) (Dy.ok_B (by decide) (by decide)) (by decide)) (fun _ => by (repeat (with_reducible first | refine Dy.Cm.Z.bind ?_ (fun _ => ?_) | exact Dy.z_num _ | exact Dy.z_add _ _ | exact Dy.z_sub _ _ | exact Dy.z_mul _ _ | exact Dy.z_div _ _ | exact Dy.z_sqr _ | exact Dy.z_sqrt _ | exact Dy.z_max _ _ | exact Dy.Cm.Z.pure _))) (fun half half' w_half => ?_)
  refine Dy.MF.bind (R := Dy.Wn) (Dy.mf_sqr w_cos) (fun _ => by (repeat (with_reducible first | refine Dy.Cm.Z.bind ?_ (fun _ => ?_) | exact Dy.z_num _ | exact Dy.z_add _ _ | exact Dy.z_sub _ _ | exact Dy.z_mul _ _ | exact Dy.z_div _ _ | exact Dy.z_sqr _ | exact Dy.z_sqrt _ | exact Dy.z_max _ _ | exact Dy.Cm.Z.pure _))) (fun c2 c2' w_c2 => ?_)
  refine Dy.MF.bind (R := Dy.Wn) (Dy.mf_num (z := (4607182418800017408 : Int)) (Dy.ok_B (by decide) (by decide)) (by decide)) (fun _ => by (repeat (with_reducible first | refine Dy.Cm.Z.bind ?_ (fun _ => ?_) | exact Dy.z_num _ | exact Dy.z_add _ _ | exact Dy.z_sub _ _ | exact Dy.z_mul _ _ | exact Dy.z_div _ _ | exact Dy.z_sqr _ | exact Dy.z_sqrt _ | exact Dy.z_max _ _ | exact Dy.Cm.Z.pure _))) (fun one one' w_one => ?_)
  refine Dy.MF.bind (R := Dy.Wn) (Dy.mf_sub w_one w_c2) (fun _ => by (repeat (with_reducible first | refine Dy.Cm.Z.bind ?_ (fun _ => ?_) | exact Dy.z_num _ | exact Dy.z_add _ _ | exact Dy.z_sub _ _ | exact Dy.z_mul _ _ | exact Dy.z_div _ _ | exact Dy.z_sqr _ | exact Dy.z_sqrt _ | exact Dy.z_max _ _ | exact Dy.Cm.Z.pure _))) (fun d d' w_d => ?_)
  refine Dy.MF.bind (R := Dy.Wn) (Dy.MF.pure (Dy.wn_clip (x := 0) (y := (4607182418800017408 : Int)) Dy.ok_zero (Dy.ok_B (by decide) (by decide)) rfl (by decide) w_d)) (fun _ => by (repeat (with_reducible first | refine Dy.Cm.Z.bind ?_ (fun _ => ?_) | exact Dy.z_num _ | exact Dy.z_add _ _ | exact Dy.z_sub _ _ | exact Dy.z_mul _ _ | exact Dy.z_div _ _ | exact Dy.z_sqr _ | exact Dy.z_sqrt _ | exact Dy.z_max _ _ | exact Dy.Cm.Z.pure _))) (fun s2 s2' w_s2 => ?_)
  refine Dy.MF.bind (R := Dy.Wn) (Dy.mf_sqr w_eta) (fun _ => by (repeat (with_reducible first | refine Dy.Cm.Z.bind ?_ (fun _ => ?_) | exact Dy.z_num _ | exact Dy.z_add _ _ | exact Dy.z_sub _ _ | exact Dy.z_mul _ _ | exact Dy.z_div _ _ | exact Dy.z_sqr _ | exact Dy.z_sqrt _ | exact Dy.z_max _ _ | exact Dy.Cm.Z.pure _))) (fun e2 e2' w_e2 => ?_)
  refine Dy.MF.bind (R := Dy.Wn) (Dy.mf_sqr w_k) (fun _ => by (repeat (with_reducible first | refine Dy.Cm.Z.bind ?_ (fun _ => ?_) | exact Dy.z_num _ | exact Dy.z_add _ _ | exact Dy.z_sub _ _ | exact Dy.z_mul _ _ | exact Dy.z_div _ _ | exact Dy.z_sqr _ | exact Dy.z_sqrt _ | exact Dy.z_max _ _ | exact Dy.Cm.Z.pure _))) (fun k2 k2' w_k2 => ?_)
  refine Dy.MF.bind (R := Dy.Wn) (Dy.mf_sub w_e2 w_k2) (fun _ => by (repeat (with_reducible first | refine Dy.Cm.Z.bind ?_ (fun _ => ?_) | exact Dy.z_num _ | exact Dy.z_add _ _ | exact Dy.z_sub _ _ | exact Dy.z_mul _ _ | exact Dy.z_div _ _ | exact Dy.z_sqr _ | exact Dy.z_sqrt _ | exact Dy.z_max _ _ | exact Dy.Cm.Z.pure _))) (fun t t' w_t => ?_)
  refine Dy.MF.bind (R := Dy.Wn) (Dy.mf_sub w_t w_s2) (fun _ => by (repeat (with_reducible first | refine Dy.Cm.Z.bind ?_ (fun _ => ?_) | exact Dy.z_num _ | exact Dy.z_add _ _ | exact Dy.z_sub _ _ | exact Dy.z_mul _ _ | exact Dy.z_div _ _ | exact Dy.z_sqr _ | exact Dy.z_sqrt _ | exact Dy.z_max _ _ | exact Dy.Cm.Z.pure _))) (fun t0 t0' w_t0 => ?_)
  refine Dy.MF.bind (R := Dy.Wn) (Dy.mf_sqr w_t0) (fun _ => by (repeat (with_reducible first | refine Dy.Cm.Z.bind ?_ (fun _ => ?_) | exact Dy.z_num _ | exact Dy.z_add _ _ | exact Dy.z_sub _ _ | exact Dy.z_mul _ _ | exact Dy.z_div _ _ | exact Dy.z_sqr _ | exact Dy.z_sqrt _ | exact Dy.z_max _ _ | exact Dy.Cm.Z.pure _))) (fun t02 t02' w_t02 => ?_)
  refine Dy.MF.bind (R := Dy.Wn) (Dy.mf_num (z := (4616189618054758400 : Int)) (Dy.ok_B (by decide) (by decide)) (by decide)) (fun _ => by (repeat (with_reducible first | refine Dy.Cm.Z.bind ?_ (fun _ => ?_) | exact Dy.z_num _ | exact Dy.z_add _ _ | exact Dy.z_sub _ _ | exact Dy.z_mul _ _ | exact Dy.z_div _ _ | exact Dy.z_sqr _ | exact Dy.z_sqrt _ | exact Dy.z_max _ _ | exact Dy.Cm.Z.pure _))) (fun four four' w_four => ?_)
  refine Dy.MF.bind (R := Dy.Wn) (Dy.mf_mul w_e2 w_k2) (fun _ => by (repeat (with_reducible first | refine Dy.Cm.Z.bind ?_ (fun _ => ?_) | exact Dy.z_num _ | exact Dy.z_add _ _ | exact Dy.z_sub _ _ | exact Dy.z_mul _ _ | exact Dy.z_div _ _ | exact Dy.z_sqr _ | exact Dy.z_sqrt _ | exact Dy.z_max _ _ | exact Dy.Cm.Z.pure _))) (fun ek ek' w_ek => ?_)
  refine Dy.MF.bind (R := Dy.Wn) (Dy.mf_mul w_four w_ek) (fun _ => by (repeat (with_reducible first | refine Dy.Cm.Z.bind ?_ (fun _ => ?_) | exact Dy.z_num _ | exact Dy.z_add _ _ | exact Dy.z_sub _ _ | exact Dy.z_mul _ _ | exact Dy.z_div _ _ | exact Dy.z_sqr _ | exact Dy.z_sqrt _ | exact Dy.z_max _ _ | exact Dy.Cm.Z.pure _))) (fun ek4 ek4' w_ek4 => ?_)
  refine Dy.MF.bind (R := Dy.Wn) (Dy.mf_add w_t02 w_ek4) (fun _ => by (repeat (with_reducible first | refine Dy.Cm.Z.bind ?_ (fun _ => ?_) | exact Dy.z_num _ | exact Dy.z_add _ _ | exact Dy.z_sub _ _ | exact Dy.z_mul _ _ | exact Dy.z_div _ _ | exact Dy.z_sqr _ | exact Dy.z_sqrt _ | exact Dy.z_max _ _ | exact Dy.Cm.Z.pure _))) (fun u u' w_u => ?_)
  refine Dy.MF.bind (R := Dy.Wn) (Dy.mf_sqrt w_u) (fun _ => by (repeat (with_reducible first | refine Dy.Cm.Z.bind ?_ (fun _ => ?_) | exact Dy.z_num _ | exact Dy.z_add _ _ | exact Dy.z_sub _ _ | exact Dy.z_mul _ _ | exact Dy.z_div _ _ | exact Dy.z_sqr _ | exact Dy.z_sqrt _ | exact Dy.z_max _ _ | exact Dy.Cm.Z.pure _))) (fun ab ab' w_ab => ?_)
  refine Dy.MF.bind (R := Dy.Wn) (Dy.mf_add w_ab w_t0) (fun _ => by (repeat (with_reducible first | refine Dy.Cm.Z.bind ?_ (fun _ => ?_) | exact Dy.z_num _ | exact Dy.z_add _ _ | exact Dy.z_sub _ _ | exact Dy.z_mul _ _ | exact Dy.z_div _ _ | exact Dy.z_sqr _ | exact Dy.z_sqrt _ | exact Dy.z_max _ _ | exact Dy.Cm.Z.pure _))) (fun abt abt' w_abt => ?_)
  refine Dy.MF.bind (R := Dy.Wn) (Dy.mf_num (z := 0) Dy.ok_zero rfl) (fun _ => by (repeat (with_reducible first | refine Dy.Cm.Z.bind ?_ (fun _ => ?_) | exact Dy.z_num _ | exact Dy.z_add _ _ | exact Dy.z_sub _ _ | exact Dy.z_mul _ _ | exact Dy.z_div _ _ | exact Dy.z_sqr _ | exact Dy.z_sqrt _ | exact Dy.z_max _ _ | exact Dy.Cm.Z.pure _))) (fun nul nul' w_nul => ?_)
  refine Dy.MF.bind (R := Dy.Wn) (Dy.mf_max w_abt w_nul) (fun _ => by (repeat (with_reducible first | refine Dy.Cm.Z.bind ?_ (fun _ => ?_) | exact Dy.z_num _ | exact Dy.z_add _ _ | exact Dy.z_sub _ _ | exact Dy.z_mul _ _ | exact Dy.z_div _ _ | exact Dy.z_sqr _ | exact Dy.z_sqrt _ | exact Dy.z_max _ _ | exact Dy.Cm.Z.pure _))) (fun mx mx' w_mx => ?_)
  refine Dy.MF.bind (R := Dy.Wn) (Dy.mf_mul w_half w_mx) (fun _ => by (repeat (with_reducible first | refine Dy.Cm.Z.bind ?_ (fun _ => ?_) | exact Dy.z_num _ | exact Dy.z_add _ _ | exact Dy.z_sub _ _ | exact Dy.z_mul _ _ | exact Dy.z_div _ _ | exact Dy.z_sqr _ | exact Dy.z_sqrt _ | exact Dy.z_max _ _ | exact Dy.Cm.Z.pure _))) (fun hm hm' w_hm => ?_)
  refine Dy.MF.bind (R := Dy.Wn) (Dy.mf_sqrt w_hm) (fun _ => by (repeat (with_reducible first | refine Dy.Cm.Z.bind ?_ (fun _ => ?_) | exact Dy.z_num _ | exact Dy.z_add _ _ | exact Dy.z_sub _ _ | exact Dy.z_mul _ _ | exact Dy.z_div _ _ | exact Dy.z_sqr _ | exact Dy.z_sqrt _ | exact Dy.z_max _ _ | exact Dy.Cm.Z.pure _))) (fun a a' w_a => ?_)
  refine Dy.MF.bind (R := Dy.Wn) (Dy.mf_add w_ab w_c2) (fun _ => by (repeat (with_reducible first | refine Dy.Cm.Z.bind ?_ (fun _ => ?_) | exact Dy.z_num _ | exact Dy.z_add _ _ | exact Dy.z_sub _ _ | exact Dy.z_mul _ _ | exact Dy.z_div _ _ | exact Dy.z_sqr _ | exact Dy.z_sqrt _ | exact Dy.z_max _ _ | exact Dy.Cm.Z.pure _))) (fun t1 t1' w_t1 => ?_)
  refine Dy.MF.bind (R := Dy.Wn) (Dy.mf_num (z := (4611686018427387904 : Int)) (Dy.ok_B (by decide) (by decide)) (by decide)) (fun _ => by (repeat (with_reducible first | refine Dy.Cm.Z.bind ?_ (fun _ => ?_) | exact Dy.z_num _ | exact Dy.z_add _ _ | exact Dy.z_sub _ _ | exact Dy.z_mul _ _ | exact Dy.z_div _ _ | exact Dy.z_sqr _ | exact Dy.z_sqrt _ | exact Dy.z_max _ _ | exact Dy.Cm.Z.pure _))) (fun two two' w_two => ?_)
  refine Dy.MF.bind (R := Dy.Wn) (Dy.mf_mul w_two w_a) (fun _ => by (repeat (with_reducible first | refine Dy.Cm.Z.bind ?_ (fun _ => ?_) | exact Dy.z_num _ | exact Dy.z_add _ _ | exact Dy.z_sub _ _ | exact Dy.z_mul _ _ | exact Dy.z_div _ _ | exact Dy.z_sqr _ | exact Dy.z_sqrt _ | exact Dy.z_max _ _ | exact Dy.Cm.Z.pure _))) (fun ta ta' w_ta => ?_)
  refine Dy.MF.bind (R := Dy.Wn) (Dy.mf_mul w_ta w_cos) (fun _ => by (repeat (with_reducible first | refine Dy.Cm.Z.bind ?_ (fun _ => ?_) | exact Dy.z_num _ | exact Dy.z_add _ _ | exact Dy.z_sub _ _ | exact Dy.z_mul _ _ | exact Dy.z_div _ _ | exact Dy.z_sqr _ | exact Dy.z_sqrt _ | exact Dy.z_max _ _ | exact Dy.Cm.Z.pure _))) (fun t2 t2' w_t2 => ?_)
  refine Dy.MF.bind (R := Dy.Wn) (Dy.mf_sub w_t1 w_t2) (fun _ => by (repeat (with_reducible first | refine Dy.Cm.Z.bind ?_ (fun _ => ?_) | exact Dy.z_num _ | exact Dy.z_add _ _ | exact Dy.z_sub _ _ | exact Dy.z_mul _ _ | exact Dy.z_div _ _ | exact Dy.z_sqr _ | exact Dy.z_sqrt _ | exact Dy.z_max _ _ | exact Dy.Cm.Z.pure _))) (fun x x' w_x => ?_)
  refine Dy.MF.bind (R := Dy.Wn) (Dy.mf_add w_t1 w_t2) (fun _ => by (repeat (with_reducible first | refine Dy.Cm.Z.bind ?_ (fun _ => ?_) | exact Dy.z_num _ | exact Dy.z_add _ _ | exact Dy.z_sub _ _ | exact Dy.z_mul _ _ | exact Dy.z_div _ _ | exact Dy.z_sqr _ | exact Dy.z_sqrt _ | exact Dy.z_max _ _ | exact Dy.Cm.Z.pure _))) (fun y y' w_y => ?_)
  refine Dy.MF.bind (R := Dy.Wn) (Dy.mf_div w_x w_y) (fun _ => by (repeat (with_reducible first | refine Dy.Cm.Z.bind ?_ (fun _ => ?_) | exact Dy.z_num _ | exact Dy.z_add _ _ | exact Dy.z_sub _ _ | exact Dy.z_mul _ _ | exact Dy.z_div _ _ | exact Dy.z_sqr _ | exact Dy.z_sqrt _ | exact Dy.z_max _ _ | exact Dy.Cm.Z.pure _))) (fun q q' w_q => ?_)
  refine Dy.MF.bind (R := Dy.Wn) (Dy.MF.pure (Dy.wn_clip (x := 0) (y := (4607182418800017408 : Int)) Dy.ok_zero (Dy.ok_B (by decide) (by decide)) rfl (by decide) w_q)) (fun _ => by (repeat (with_reducible first | refine Dy.Cm.Z.bind ?_ (fun _ => ?_) | exact Dy.z_num _ | exact Dy.z_add _ _ | exact Dy.z_sub _ _ | exact Dy.z_mul _ _ | exact Dy.z_div _ _ | exact Dy.z_sqr _ | exact Dy.z_sqrt _ | exact Dy.z_max _ _ | exact Dy.Cm.Z.pure _))) (fun rs rs' w_rs => ?_)
  refine Dy.MF.bind (R := Dy.Wn) (Dy.mf_mul w_c2 w_ab) (fun _ => by (repeat (with_reducible first | refine Dy.Cm.Z.bind ?_ (fun _ => ?_) | exact Dy.z_num _ | exact Dy.z_add _ _ | exact Dy.z_sub _ _ | exact Dy.z_mul _ _ | exact Dy.z_div _ _ | exact Dy.z_sqr _ | exact Dy.z_sqrt _ | exact Dy.z_max _ _ | exact Dy.Cm.Z.pure _))) (fun ca ca' w_ca => ?_)
  refine Dy.MF.bind (R := Dy.Wn) (Dy.mf_sqr w_s2) (fun _ => by (repeat (with_reducible first | refine Dy.Cm.Z.bind ?_ (fun _ => ?_) | exact Dy.z_num _ | exact Dy.z_add _ _ | exact Dy.z_sub _ _ | exact Dy.z_mul _ _ | exact Dy.z_div _ _ | exact Dy.z_sqr _ | exact Dy.z_sqrt _ | exact Dy.z_max _ _ | exact Dy.Cm.Z.pure _))) (fun s4 s4' w_s4 => ?_)
  refine Dy.MF.bind (R := Dy.Wn) (Dy.mf_add w_ca w_s4) (fun _ => by (repeat (with_reducible first | refine Dy.Cm.Z.bind ?_ (fun _ => ?_) | exact Dy.z_num _ | exact Dy.z_add _ _ | exact Dy.z_sub _ _ | exact Dy.z_mul _ _ | exact Dy.z_div _ _ | exact Dy.z_sqr _ | exact Dy.z_sqrt _ | exact Dy.z_max _ _ | exact Dy.Cm.Z.pure _))) (fun t3 t3' w_t3 => ?_)
  refine Dy.MF.bind (R := Dy.Wn) (Dy.mf_mul w_t2 w_s2) (fun _ => by (repeat (with_reducible first | refine Dy.Cm.Z.bind ?_ (fun _ => ?_) | exact Dy.z_num _ | exact Dy.z_add _ _ | exact Dy.z_sub _ _ | exact Dy.z_mul _ _ | exact Dy.z_div _ _ | exact Dy.z_sqr _ | exact Dy.z_sqrt _ | exact Dy.z_max _ _ | exact Dy.Cm.Z.pure _))) (fun t4 t4' w_t4 => ?_)
  refine Dy.MF.bind (R := Dy.Wn) (Dy.mf_sub w_t3 w_t4) (fun _ => by (repeat (with_reducible first | refine Dy.Cm.Z.bind ?_ (fun _ => ?_) | exact Dy.z_num _ | exact Dy.z_add _ _ | exact Dy.z_sub _ _ | exact Dy.z_mul _ _ | exact Dy.z_div _ _ | exact Dy.z_sqr _ | exact Dy.z_sqrt _ | exact Dy.z_max _ _ | exact Dy.Cm.Z.pure _))) (fun x2 x2' w_x2 => ?_)
  refine Dy.MF.bind (R := Dy.Wn) (Dy.mf_add w_t3 w_t4) (fun _ => by (repeat (with_reducible first | refine Dy.Cm.Z.bind ?_ (fun _ => ?_) | exact Dy.z_num _ | exact Dy.z_add _ _ | exact Dy.z_sub _ _ | exact Dy.z_mul _ _ | exact Dy.z_div _ _ | exact Dy.z_sqr _ | exact Dy.z_sqrt _ | exact Dy.z_max _ _ | exact Dy.Cm.Z.pure _))) (fun y2 y2' w_y2 => ?_)
  refine Dy.MF.bind (R := Dy.Wn) (Dy.mf_div w_x2 w_y2) (fun _ => by (repeat (with_reducible first | refine Dy.Cm.Z.bind ?_ (fun _ => ?_) | exact Dy.z_num _ | exact Dy.z_add _ _ | exact Dy.z_sub _ _ | exact Dy.z_mul _ _ | exact Dy.z_div _ _ | exact Dy.z_sqr _ | exact Dy.z_sqrt _ | exact Dy.z_max _ _ | exact Dy.Cm.Z.pure _))) (fun q2 q2' w_q2 => ?_)
  refine Dy.MF.bind (R := Dy.Wn) (Dy.mf_mul w_rs w_q2) (fun _ => by (repeat (with_reducible first | refine Dy.Cm.Z.bind ?_ (fun _ => ?_) | exact Dy.z_num _ | exact Dy.z_add _ _ | exact Dy.z_sub _ _ | exact Dy.z_mul _ _ | exact Dy.z_div _ _ | exact Dy.z_sqr _ | exact Dy.z_sqrt _ | exact Dy.z_max _ _ | exact Dy.Cm.Z.pure _))) (fun m m' w_m => ?_)
  refine Dy.MF.bind (R := Dy.Wn) (Dy.MF.pure (Dy.wn_clip (x := 0) (y := (4607182418800017408 : Int)) Dy.ok_zero (Dy.ok_B (by decide) (by decide)) rfl (by decide) w_m)) (fun _ => by (repeat (with_reducible first | refine Dy.Cm.Z.bind ?_ (fun _ => ?_) | exact Dy.z_num _ | exact Dy.z_add _ _ | exact Dy.z_sub _ _ | exact Dy.z_mul _ _ | exact Dy.z_div _ _ | exact Dy.z_sqr _ | exact Dy.z_sqrt _ | exact Dy.z_max _ _ | exact Dy.Cm.Z.pure _))) (fun rp rp' w_rp => ?_)
  refine Dy.MF.bind (R := Dy.Wn) (Dy.mf_add w_rs w_rp) (fun _ => by (repeat (with_reducible first | refine Dy.Cm.Z.bind ?_ (fun _ => ?_) | exact Dy.z_num _ | exact Dy.z_add _ _ | exact Dy.z_sub _ _ | exact Dy.z_mul _ _ | exact Dy.z_div _ _ | exact Dy.z_sqr _ | exact Dy.z_sqrt _ | exact Dy.z_max _ _ | exact Dy.Cm.Z.pure _))) (fun sum sum' w_sum => ?_)
  exact Dy.mf_mul w_half w_sum

end Go.Proofs.Ytiphdhpacklboaa
