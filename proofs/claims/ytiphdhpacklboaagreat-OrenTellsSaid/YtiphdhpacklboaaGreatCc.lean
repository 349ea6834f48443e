/- Plain facts: rough surfaces (oren), as programs of a calculator; of lesser intervals comes a lesser one. -/
import Derived.Test.YtiphdhpacklboaaGreatCb
import Derived.Test.YtiphdhpacklboaaGreatLm
namespace Go.Proofs.YtiphdhpacklboaaGreat
open Go Go.RowKit
theorem w_pi : Dy.Wn (4614256656552045848, 4614256656552045849) (4614256656552045848, 4614256656552045849) := ⟨piZ, piZ, pi_E, pi_E, pi_Rk, pi_Rk, Dy.Wi.refl _⟩
def pairM (sigma : Nat × Nat) : Dy.Cm ((Nat × Nat) × (Nat × Nat)) := do
 let two ← Dy.mNum 4611686018427387904
 let one ← Dy.mNum 4607182418800017408
 let h ← Dy.mDiv (4614256656552045848, 4614256656552045849) two
 let three ← Dy.mNum 4613937818241073152
 let t ← Dy.mDiv two three
 let d ← Dy.mSub h t
 let m ← Dy.mMul d sigma
 let s ← Dy.mAdd (4614256656552045848, 4614256656552045849) m
 let a ← Dy.mDiv one s
 let b ← Dy.mMul sigma a
 pure ((a, b))
theorem pairM_mf {sigma sigma' : Nat × Nat} (w_sigma : Dy.Wn sigma sigma') : Dy.MF (fun x y => Dy.Wn x.1 y.1 ∧ Dy.Wn x.2 y.2) (pairM sigma) (pairM sigma') := by
 unfold pairM
 refine Dy.MF.bind (R := Dy.Wn) (Dy.mf_num (z := (4611686018427387904 : Int)) (Dy.ok_B (by decide) (by decide)) (by decide)) (fun _ => by (repeat (with_reducible first | refine Dy.Cm.Z.bind ?_ (fun _ => ?_) | exact Dy.z_num _ | exact Dy.z_add _ _ | exact Dy.z_sub _ _ | exact Dy.z_mul _ _ | exact Dy.z_div _ _ | exact Dy.z_sqr _ | exact Dy.z_sqrt _ | exact Dy.z_max _ _ | exact Dy.Cm.Z.pure _))) (fun two two' w_two => ?_)
 refine Dy.MF.bind (R := Dy.Wn) (Dy.mf_num (z := (4607182418800017408 : Int)) (Dy.ok_B (by decide) (by decide)) (by decide)) (fun _ => by (repeat (with_reducible first | refine Dy.Cm.Z.bind ?_ (fun _ => ?_) | exact Dy.z_num _ | exact Dy.z_add _ _ | exact Dy.z_sub _ _ | exact Dy.z_mul _ _ | exact Dy.z_div _ _ | exact Dy.z_sqr _ | exact Dy.z_sqrt _ | exact Dy.z_max _ _ | exact Dy.Cm.Z.pure _))) (fun one one' w_one => ?_)
 refine Dy.MF.bind (R := Dy.Wn) (Dy.mf_div w_pi w_two) (fun _ => by (repeat (with_reducible first | refine Dy.Cm.Z.bind ?_ (fun _ => ?_) | exact Dy.z_num _ | exact Dy.z_add _ _ | exact Dy.z_sub _ _ | exact Dy.z_mul _ _ | exact Dy.z_div _ _ | exact Dy.z_sqr _ | exact Dy.z_sqrt _ | exact Dy.z_max _ _ | exact Dy.Cm.Z.pure _))) (fun h h' w_h => ?_)
 refine Dy.MF.bind (R := Dy.Wn) (Dy.mf_num (z := (4613937818241073152 : Int)) (Dy.ok_B (by decide) (by decide)) (by decide)) (fun _ => by (repeat (with_reducible first | refine Dy.Cm.Z.bind ?_ (fun _ => ?_) | exact Dy.z_num _ | exact Dy.z_add _ _ | exact Dy.z_sub _ _ | exact Dy.z_mul _ _ | exact Dy.z_div _ _ | exact Dy.z_sqr _ | exact Dy.z_sqrt _ | exact Dy.z_max _ _ | exact Dy.Cm.Z.pure _))) (fun three three' w_three => ?_)
 refine Dy.MF.bind (R := Dy.Wn) (Dy.mf_div w_two w_three) (fun _ => by (repeat (with_reducible first | refine Dy.Cm.Z.bind ?_ (fun _ => ?_) | exact Dy.z_num _ | exact Dy.z_add _ _ | exact Dy.z_sub _ _ | exact Dy.z_mul _ _ | exact Dy.z_div _ _ | exact Dy.z_sqr _ | exact Dy.z_sqrt _ | exact Dy.z_max _ _ | exact Dy.Cm.Z.pure _))) (fun t t' w_t => ?_)
 refine Dy.MF.bind (R := Dy.Wn) (Dy.mf_sub w_h w_t) (fun _ => by (repeat (with_reducible first | refine Dy.Cm.Z.bind ?_ (fun _ => ?_) | exact Dy.z_num _ | exact Dy.z_add _ _ | exact Dy.z_sub _ _ | exact Dy.z_mul _ _ | exact Dy.z_div _ _ | exact Dy.z_sqr _ | exact Dy.z_sqrt _ | exact Dy.z_max _ _ | exact Dy.Cm.Z.pure _))) (fun d d' w_d => ?_)
 refine Dy.MF.bind (R := Dy.Wn) (Dy.mf_mul w_d w_sigma) (fun _ => by (repeat (with_reducible first | refine Dy.Cm.Z.bind ?_ (fun _ => ?_) | exact Dy.z_num _ | exact Dy.z_add _ _ | exact Dy.z_sub _ _ | exact Dy.z_mul _ _ | exact Dy.z_div _ _ | exact Dy.z_sqr _ | exact Dy.z_sqrt _ | exact Dy.z_max _ _ | exact Dy.Cm.Z.pure _))) (fun m m' w_m => ?_)
 refine Dy.MF.bind (R := Dy.Wn) (Dy.mf_add w_pi w_m) (fun _ => by (repeat (with_reducible first | refine Dy.Cm.Z.bind ?_ (fun _ => ?_) | exact Dy.z_num _ | exact Dy.z_add _ _ | exact Dy.z_sub _ _ | exact Dy.z_mul _ _ | exact Dy.z_div _ _ | exact Dy.z_sqr _ | exact Dy.z_sqrt _ | exact Dy.z_max _ _ | exact Dy.Cm.Z.pure _))) (fun s s' w_s => ?_)
 refine Dy.MF.bind (R := Dy.Wn) (Dy.mf_div w_one w_s) (fun _ => by (repeat (with_reducible first | refine Dy.Cm.Z.bind ?_ (fun _ => ?_) | exact Dy.z_num _ | exact Dy.z_add _ _ | exact Dy.z_sub _ _ | exact Dy.z_mul _ _ | exact Dy.z_div _ _ | exact Dy.z_sqr _ | exact Dy.z_sqrt _ | exact Dy.z_max _ _ | exact Dy.Cm.Z.pure _))) (fun a a' w_a => ?_)
 refine Dy.MF.bind (R := Dy.Wn) (Dy.mf_mul w_sigma w_a) (fun _ => by (repeat (with_reducible first | refine Dy.Cm.Z.bind ?_ (fun _ => ?_) | exact Dy.z_num _ | exact Dy.z_add _ _ | exact Dy.z_sub _ _ | exact Dy.z_mul _ _ | exact Dy.z_div _ _ | exact Dy.z_sqr _ | exact Dy.z_sqrt _ | exact Dy.z_max _ _ | exact Dy.Cm.Z.pure _))) (fun b b' w_b => ?_)
 exact Dy.MF.pure (⟨w_a, w_b⟩)
def slopeM (i o d : Nat × Nat) : Dy.Cm (Nat × Nat) := do
 let m ← Dy.mMul i o
 let s ← Dy.mSub d m
 if (Dy.flt s.2 0 || Dy.feq s.2 0) = true then pure (Dy.clip 13830554455654793216 4607182418800017408 s)
 else if (Dy.fgt s.1 0 || Dy.feq s.1 0) = true then do
  let x ← Dy.mMax i o
  let q ← Dy.mDiv s x
  pure (Dy.clip 13830554455654793216 4607182418800017408 q)
 else do
  let x ← Dy.mMax i o
  let q ← Dy.mDiv (0, s.2) x
  pure (Dy.clip 13830554455654793216 4607182418800017408 (Dy.iHull (s.1, 0) q))
def orenM (rho sigma i o d : Nat × Nat) : Dy.Cm (Nat × Nat) := do
 let s ← slopeM i o d
 let ab ← pairM sigma
 let m ← Dy.mMul ab.2 s
 let a ← Dy.mAdd ab.1 m
 let v ← Dy.mMul rho a
 pure (Dy.clip 0 4607182418800017408 v)
end Go.Proofs.YtiphdhpacklboaaGreat
