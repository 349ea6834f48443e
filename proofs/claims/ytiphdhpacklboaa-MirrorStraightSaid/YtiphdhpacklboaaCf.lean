/- Plain facts: what a mirror sends back, as a program of a calculator; of lesser intervals comes a lesser one. -/
import Derived.Test.YtiphdhpacklboaaCb
namespace Go.Proofs.Ytiphdhpacklboaa
open Go Go.RowKit

def reflM (a b c d e f : Nat × Nat) : Dy.Cm ((Nat × Nat) × (Nat × Nat) × (Nat × Nat)) := do
  let two ← Dy.mNum 4611686018427387904
  let x ← Dy.mMul a d
  let y ← Dy.mMul b e
  let s ← Dy.mAdd x y
  let z ← Dy.mMul c f
  let dot ← Dy.mAdd s z
  let tw ← Dy.mMul two dot
  let sx ← Dy.mMul tw d
  let sy ← Dy.mMul tw e
  let sz ← Dy.mMul tw f
  let lx ← Dy.mSub sx a
  let ly ← Dy.mSub sy b
  let lz ← Dy.mSub sz c
  pure ((lx, ly, lz))
theorem reflM_z (a b c d e f : Nat × Nat) : (reflM a b c d e f).Z := by
  unfold reflM
  (repeat (with_reducible first | refine Dy.Cm.Z.bind ?_ (fun _ => ?_) | exact Dy.z_num _ | exact Dy.z_add _ _ | exact Dy.z_sub _ _ | exact Dy.z_mul _ _ | exact Dy.z_div _ _ | exact Dy.z_sqr _ | exact Dy.z_sqrt _ | exact Dy.z_max _ _ | exact Dy.Cm.Z.pure _))
theorem reflM_mf {a a' b b' c c' d d' e e' f f' : Nat × Nat} (w_a : Dy.Wn a a') (w_b : Dy.Wn b b') (w_c : Dy.Wn c c') (w_d : Dy.Wn d d') (w_e : Dy.Wn e e') (w_f : Dy.Wn f f') : Dy.MF (fun x y => Dy.Wn x.1 y.1 ∧ Dy.Wn x.2.1 y.2.1 ∧ Dy.Wn x.2.2 y.2.2) (reflM a b c d e f) (reflM a' b' c' d' e' f') := by
  unfold reflM
  refine Dy.MF.bind (R := Dy.Wn) (Dy.mf_num (z := (4611686018427387904 : Int)) (Dy.ok_B (by decide) (by decide)) (by decide)) (fun _ => by (repeat (with_reducible first | refine Dy.Cm.Z.bind ?_ (fun _ => ?_) | exact Dy.z_num _ | exact Dy.z_add _ _ | exact Dy.z_sub _ _ | exact Dy.z_mul _ _ | exact Dy.z_div _ _ | exact Dy.z_sqr _ | exact Dy.z_sqrt _ | exact Dy.z_max _ _ | exact Dy.Cm.Z.pure _))) (fun two two' w_two => ?_)
  refine Dy.MF.bind (R := Dy.Wn) (Dy.mf_mul w_a w_d) (fun _ => by (repeat (with_reducible first | refine Dy.Cm.Z.bind ?_ (fun _ => ?_) | exact Dy.z_num _ | exact Dy.z_add _ _ | exact Dy.z_sub _ _ | exact Dy.z_mul _ _ | exact Dy.z_div _ _ | exact Dy.z_sqr _ | exact Dy.z_sqrt _ | exact Dy.z_max _ _ | exact Dy.Cm.Z.pure _))) (fun x x' w_x => ?_)
  refine Dy.MF.bind (R := Dy.Wn) (Dy.mf_mul w_b w_e) (fun _ => by (repeat (with_reducible first | refine Dy.Cm.Z.bind ?_ (fun _ => ?_) | exact Dy.z_num _ | exact Dy.z_add _ _ | exact Dy.z_sub _ _ | exact Dy.z_mul _ _ | exact Dy.z_div _ _ | exact Dy.z_sqr _ | exact Dy.z_sqrt _ | exact Dy.z_max _ _ | exact Dy.Cm.Z.pure _))) (fun y y' w_y => ?_)
  refine Dy.MF.bind (R := Dy.Wn) (Dy.mf_add w_x w_y) (fun _ => by (repeat (with_reducible first | refine Dy.Cm.Z.bind ?_ (fun _ => ?_) | exact Dy.z_num _ | exact Dy.z_add _ _ | exact Dy.z_sub _ _ | exact Dy.z_mul _ _ | exact Dy.z_div _ _ | exact Dy.z_sqr _ | exact Dy.z_sqrt _ | exact Dy.z_max _ _ | exact Dy.Cm.Z.pure _))) (fun s s' w_s => ?_)
  refine Dy.MF.bind (R := Dy.Wn) (Dy.mf_mul w_c w_f) (fun _ => by (repeat (with_reducible first | refine Dy.Cm.Z.bind ?_ (fun _ => ?_) | exact Dy.z_num _ | exact Dy.z_add _ _ | exact Dy.z_sub _ _ | exact Dy.z_mul _ _ | exact Dy.z_div _ _ | exact Dy.z_sqr _ | exact Dy.z_sqrt _ | exact Dy.z_max _ _ | exact Dy.Cm.Z.pure _))) (fun z z' w_z => ?_)
  refine Dy.MF.bind (R := Dy.Wn) (Dy.mf_add w_s w_z) (fun _ => by (repeat (with_reducible first | refine Dy.Cm.Z.bind ?_ (fun _ => ?_) | exact Dy.z_num _ | exact Dy.z_add _ _ | exact Dy.z_sub _ _ | exact Dy.z_mul _ _ | exact Dy.z_div _ _ | exact Dy.z_sqr _ | exact Dy.z_sqrt _ | exact Dy.z_max _ _ | exact Dy.Cm.Z.pure _))) (fun dot dot' w_dot => ?_)
  refine Dy.MF.bind (R := Dy.Wn) (Dy.mf_mul w_two w_dot) (fun _ => by (repeat (with_reducible first | refine Dy.Cm.Z.bind ?_ (fun _ => ?_) | exact Dy.z_num _ | exact Dy.z_add _ _ | exact Dy.z_sub _ _ | exact Dy.z_mul _ _ | exact Dy.z_div _ _ | exact Dy.z_sqr _ | exact Dy.z_sqrt _ | exact Dy.z_max _ _ | exact Dy.Cm.Z.pure _))) (fun tw tw' w_tw => ?_)
  refine Dy.MF.bind (R := Dy.Wn) (Dy.mf_mul w_tw w_d) (fun _ => by (repeat (with_reducible first | refine Dy.Cm.Z.bind ?_ (fun _ => ?_) | exact Dy.z_num _ | exact Dy.z_add _ _ | exact Dy.z_sub _ _ | exact Dy.z_mul _ _ | exact Dy.z_div _ _ | exact Dy.z_sqr _ | exact Dy.z_sqrt _ | exact Dy.z_max _ _ | exact Dy.Cm.Z.pure _))) (fun sx sx' w_sx => ?_)
  refine Dy.MF.bind (R := Dy.Wn) (Dy.mf_mul w_tw w_e) (fun _ => by (repeat (with_reducible first | refine Dy.Cm.Z.bind ?_ (fun _ => ?_) | exact Dy.z_num _ | exact Dy.z_add _ _ | exact Dy.z_sub _ _ | exact Dy.z_mul _ _ | exact Dy.z_div _ _ | exact Dy.z_sqr _ | exact Dy.z_sqrt _ | exact Dy.z_max _ _ | exact Dy.Cm.Z.pure _))) (fun sy sy' w_sy => ?_)
  refine Dy.MF.bind (R := Dy.Wn) (Dy.mf_mul w_tw w_f) (fun _ => by (repeat (with_reducible first | refine Dy.Cm.Z.bind ?_ (fun _ => ?_) | exact Dy.z_num _ | exact Dy.z_add _ _ | exact Dy.z_sub _ _ | exact Dy.z_mul _ _ | exact Dy.z_div _ _ | exact Dy.z_sqr _ | exact Dy.z_sqrt _ | exact Dy.z_max _ _ | exact Dy.Cm.Z.pure _))) (fun sz sz' w_sz => ?_)
  refine Dy.MF.bind (R := Dy.Wn) (Dy.mf_sub w_sx w_a) (fun _ => by (repeat (with_reducible first | refine Dy.Cm.Z.bind ?_ (fun _ => ?_) | exact Dy.z_num _ | exact Dy.z_add _ _ | exact Dy.z_sub _ _ | exact Dy.z_mul _ _ | exact Dy.z_div _ _ | exact Dy.z_sqr _ | exact Dy.z_sqrt _ | exact Dy.z_max _ _ | exact Dy.Cm.Z.pure _))) (fun lx lx' w_lx => ?_)
  refine Dy.MF.bind (R := Dy.Wn) (Dy.mf_sub w_sy w_b) (fun _ => by (repeat (with_reducible first | refine Dy.Cm.Z.bind ?_ (fun _ => ?_) | exact Dy.z_num _ | exact Dy.z_add _ _ | exact Dy.z_sub _ _ | exact Dy.z_mul _ _ | exact Dy.z_div _ _ | exact Dy.z_sqr _ | exact Dy.z_sqrt _ | exact Dy.z_max _ _ | exact Dy.Cm.Z.pure _))) (fun ly ly' w_ly => ?_)
  refine Dy.MF.bind (R := Dy.Wn) (Dy.mf_sub w_sz w_c) (fun _ => by (repeat (with_reducible first | refine Dy.Cm.Z.bind ?_ (fun _ => ?_) | exact Dy.z_num _ | exact Dy.z_add _ _ | exact Dy.z_sub _ _ | exact Dy.z_mul _ _ | exact Dy.z_div _ _ | exact Dy.z_sqr _ | exact Dy.z_sqrt _ | exact Dy.z_max _ _ | exact Dy.Cm.Z.pure _))) (fun lz lz' w_lz => ?_)
  exact Dy.MF.pure (⟨w_lx, w_ly, w_lz⟩)
end Go.Proofs.Ytiphdhpacklboaa
