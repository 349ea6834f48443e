/- Plain facts: mirrors that lean (ggx), as programs of a calculator; of lesser intervals comes a lesser one. -/
import Derived.Test.YtikiegcncliocaaCc
namespace Go.Proofs.Ytikiegcncliocaa
open Go Go.RowKit

def bentM (a cos : Nat × Nat) : Dy.Cm (Nat × Nat) := do
  let one ← Dy.mNum 4607182418800017408
  let d ← Dy.mSub a one
  let c2 ← Dy.mSqr cos
  let m ← Dy.mMul d c2
  let one2 ← Dy.mNum 4607182418800017408
  let v ← Dy.mAdd m one2
  pure (v)
theorem bentM_z (a cos : Nat × Nat) : (bentM a cos).Z := by
  unfold bentM
  (repeat (with_reducible first | refine Dy.Cm.Z.bind ?_ (fun _ => ?_) | exact Dy.z_num _ | exact Dy.z_add _ _ | exact Dy.z_sub _ _ | exact Dy.z_mul _ _ | exact Dy.z_div _ _ | exact Dy.z_sqr _ | exact Dy.z_sqrt _ | exact Dy.z_max _ _ | exact Dy.Cm.Z.pure _))
theorem bentM_mf {a a' cos cos' : Nat × Nat} (w_a : Dy.Wn a a') (w_cos : Dy.Wn cos cos') : Dy.MF Dy.Wn (bentM a cos) (bentM a' cos') := by
  unfold bentM
  refine Dy.MF.bind (R := Dy.Wn) (Dy.mf_num (z := (4607182418800017408 : Int)) (Dy.ok_B (by decide) (by decide)) (by decide)) (fun _ => by (repeat (with_reducible first | refine Dy.Cm.Z.bind ?_ (fun _ => ?_) | exact Dy.z_num _ | exact Dy.z_add _ _ | exact Dy.z_sub _ _ | exact Dy.z_mul _ _ | exact Dy.z_div _ _ | exact Dy.z_sqr _ | exact Dy.z_sqrt _ | exact Dy.z_max _ _ | exact Dy.Cm.Z.pure _))) (fun one one' w_one => ?_)
  refine Dy.MF.bind (R := Dy.Wn) (Dy.mf_sub w_a w_one) (fun _ => by (repeat (with_reducible first | refine Dy.Cm.Z.bind ?_ (fun _ => ?_) | exact Dy.z_num _ | exact Dy.z_add _ _ | exact Dy.z_sub _ _ | exact Dy.z_mul _ _ | exact Dy.z_div _ _ | exact Dy.z_sqr _ | exact Dy.z_sqrt _ | exact Dy.z_max _ _ | exact Dy.Cm.Z.pure _))) (fun d d' w_d => ?_)
  refine Dy.MF.bind (R := Dy.Wn) (Dy.mf_sqr w_cos) (fun _ => by (repeat (with_reducible first | refine Dy.Cm.Z.bind ?_ (fun _ => ?_) | exact Dy.z_num _ | exact Dy.z_add _ _ | exact Dy.z_sub _ _ | exact Dy.z_mul _ _ | exact Dy.z_div _ _ | exact Dy.z_sqr _ | exact Dy.z_sqrt _ | exact Dy.z_max _ _ | exact Dy.Cm.Z.pure _))) (fun c2 c2' w_c2 => ?_)
  refine Dy.MF.bind (R := Dy.Wn) (Dy.mf_mul w_d w_c2) (fun _ => by (repeat (with_reducible first | refine Dy.Cm.Z.bind ?_ (fun _ => ?_) | exact Dy.z_num _ | exact Dy.z_add _ _ | exact Dy.z_sub _ _ | exact Dy.z_mul _ _ | exact Dy.z_div _ _ | exact Dy.z_sqr _ | exact Dy.z_sqrt _ | exact Dy.z_max _ _ | exact Dy.Cm.Z.pure _))) (fun m m' w_m => ?_)
  refine Dy.MF.bind (R := Dy.Wn) (Dy.mf_num (z := (4607182418800017408 : Int)) (Dy.ok_B (by decide) (by decide)) (by decide)) (fun _ => by (repeat (with_reducible first | refine Dy.Cm.Z.bind ?_ (fun _ => ?_) | exact Dy.z_num _ | exact Dy.z_add _ _ | exact Dy.z_sub _ _ | exact Dy.z_mul _ _ | exact Dy.z_div _ _ | exact Dy.z_sqr _ | exact Dy.z_sqrt _ | exact Dy.z_max _ _ | exact Dy.Cm.Z.pure _))) (fun one2 one2' w_one2 => ?_)
  exact Dy.mf_add w_m w_one2
/-- An error stays: each step, with functions. -/
theorem wn_max0 {a a' : Nat × Nat} (w : Dy.Wn a a') : Dy.Wn (Dy.dmax a.1 0, Dy.dmax a.2 0) (Dy.dmax a'.1 0, Dy.dmax a'.2 0) := by
  obtain ⟨p, p', rfl, rfl, hp, hp', w⟩ := w
  have e : ∀ q, Dy.Rk q → (Dy.dmax (Dy.E q).1 0, Dy.dmax (Dy.E q).2 0) = Dy.E (max q.1 0, max q.2 0) ∧ Dy.Rk (max q.1 0, max q.2 0) := fun q hq => by
    have l := hq.le
    refine ⟨?_, Dy.ok_max2 hq.lo Dy.ok_zero, Dy.ok_max2 hq.hi Dy.ok_zero, by dsimp only; omega⟩
    show (Dy.dmax (Dy.enc q.1) (Dy.enc 0), Dy.dmax (Dy.enc q.2) (Dy.enc 0)) = _
    rw [Dy.dmax_enc hq.lo Dy.ok_zero, Dy.dmax_enc hq.hi Dy.ok_zero]; rfl
  obtain ⟨e1, r1⟩ := e p hp
  obtain ⟨e2, r2⟩ := e p' hp'
  exact ⟨_, _, e1, e2, r1, r2, by have := w.lo; dsimp only; omega, by have := w.hi; dsimp only; omega⟩
def leansM (a cos : Nat × Nat) : Dy.Cm (Nat × Nat) := do
  let b ← bentM a cos
  let q ← Dy.mSqr b
  let m ← Dy.mMul (4614256656552045848, 4614256656552045849) q
  let v ← Dy.mDiv a m
  pure (v)
theorem leansM_z (a cos : Nat × Nat) : (leansM a cos).Z := by
  unfold leansM
  (repeat (with_reducible first | refine Dy.Cm.Z.bind ?_ (fun _ => ?_) | exact bentM_z _ _ | exact Dy.z_num _ | exact Dy.z_add _ _ | exact Dy.z_sub _ _ | exact Dy.z_mul _ _ | exact Dy.z_div _ _ | exact Dy.z_sqr _ | exact Dy.z_sqrt _ | exact Dy.z_max _ _ | exact Dy.Cm.Z.pure _))
theorem leansM_mf {a a' cos cos' : Nat × Nat} (w_a : Dy.Wn a a') (w_cos : Dy.Wn cos cos') : Dy.MF Dy.Wn (leansM a cos) (leansM a' cos') := by
  unfold leansM
  refine Dy.MF.bind (R := Dy.Wn) (bentM_mf w_a w_cos) (fun _ => by (repeat (with_reducible first | refine Dy.Cm.Z.bind ?_ (fun _ => ?_) | exact bentM_z _ _ | exact Dy.z_num _ | exact Dy.z_add _ _ | exact Dy.z_sub _ _ | exact Dy.z_mul _ _ | exact Dy.z_div _ _ | exact Dy.z_sqr _ | exact Dy.z_sqrt _ | exact Dy.z_max _ _ | exact Dy.Cm.Z.pure _))) (fun b b' w_b => ?_)
  refine Dy.MF.bind (R := Dy.Wn) (Dy.mf_sqr w_b) (fun _ => by (repeat (with_reducible first | refine Dy.Cm.Z.bind ?_ (fun _ => ?_) | exact bentM_z _ _ | exact Dy.z_num _ | exact Dy.z_add _ _ | exact Dy.z_sub _ _ | exact Dy.z_mul _ _ | exact Dy.z_div _ _ | exact Dy.z_sqr _ | exact Dy.z_sqrt _ | exact Dy.z_max _ _ | exact Dy.Cm.Z.pure _))) (fun q q' w_q => ?_)
  refine Dy.MF.bind (R := Dy.Wn) (Dy.mf_mul w_pi w_q) (fun _ => by (repeat (with_reducible first | refine Dy.Cm.Z.bind ?_ (fun _ => ?_) | exact bentM_z _ _ | exact Dy.z_num _ | exact Dy.z_add _ _ | exact Dy.z_sub _ _ | exact Dy.z_mul _ _ | exact Dy.z_div _ _ | exact Dy.z_sqr _ | exact Dy.z_sqrt _ | exact Dy.z_max _ _ | exact Dy.Cm.Z.pure _))) (fun m m' w_m => ?_)
  exact Dy.mf_div w_a w_m
def hidesM (a cos : Nat × Nat) : Dy.Cm (Nat × Nat) := do
  let sq ← Dy.mSqr cos
  let one ← Dy.mNum 4607182418800017408
  let d ← Dy.mSub one sq
  let t ← Dy.mDiv d sq
  let h ← Dy.mNum 4602678819172646912
  let one2 ← Dy.mNum 4607182418800017408
  let m ← Dy.mMul a t
  let s ← Dy.mAdd one2 m
  let r ← Dy.mSqrt s
  let one3 ← Dy.mNum 4607182418800017408
  let y ← Dy.mSub r one3
  let x ← Dy.mMul h y
  pure ((Dy.dmax x.1 0, Dy.dmax x.2 0))
theorem hidesM_z (a cos : Nat × Nat) : (hidesM a cos).Z := by
  unfold hidesM
  (repeat (with_reducible first | refine Dy.Cm.Z.bind ?_ (fun _ => ?_) | exact Dy.z_num _ | exact Dy.z_add _ _ | exact Dy.z_sub _ _ | exact Dy.z_mul _ _ | exact Dy.z_div _ _ | exact Dy.z_sqr _ | exact Dy.z_sqrt _ | exact Dy.z_max _ _ | exact Dy.Cm.Z.pure _))
theorem hidesM_mf {a a' cos cos' : Nat × Nat} (w_a : Dy.Wn a a') (w_cos : Dy.Wn cos cos') : Dy.MF Dy.Wn (hidesM a cos) (hidesM a' cos') := by
  unfold hidesM
  refine Dy.MF.bind (R := Dy.Wn) (Dy.mf_sqr w_cos) (fun _ => by (repeat (with_reducible first | refine Dy.Cm.Z.bind ?_ (fun _ => ?_) | exact Dy.z_num _ | exact Dy.z_add _ _ | exact Dy.z_sub _ _ | exact Dy.z_mul _ _ | exact Dy.z_div _ _ | exact Dy.z_sqr _ | exact Dy.z_sqrt _ | exact Dy.z_max _ _ | exact Dy.Cm.Z.pure _))) (fun sq sq' w_sq => ?_)
  refine Dy.MF.bind (R := Dy.Wn) (Dy.mf_num (z := (4607182418800017408 : Int)) (Dy.ok_B (by decide) (by decide)) (by decide)) (fun _ => by (repeat (with_reducible first | refine Dy.Cm.Z.bind ?_ (fun _ => ?_) | exact Dy.z_num _ | exact Dy.z_add _ _ | exact Dy.z_sub _ _ | exact Dy.z_mul _ _ | exact Dy.z_div _ _ | exact Dy.z_sqr _ | exact Dy.z_sqrt _ | exact Dy.z_max _ _ | exact Dy.Cm.Z.pure _))) (fun one one' w_one => ?_)
  refine Dy.MF.bind (R := Dy.Wn) (Dy.mf_sub w_one w_sq) (fun _ => by (repeat (with_reducible first | refine Dy.Cm.Z.bind ?_ (fun _ => ?_) | exact Dy.z_num _ | exact Dy.z_add _ _ | exact Dy.z_sub _ _ | exact Dy.z_mul _ _ | exact Dy.z_div _ _ | exact Dy.z_sqr _ | exact Dy.z_sqrt _ | exact Dy.z_max _ _ | exact Dy.Cm.Z.pure _))) (fun d d' w_d => ?_)
  refine Dy.MF.bind (R := Dy.Wn) (Dy.mf_div w_d w_sq) (fun _ => by (repeat (with_reducible first | refine Dy.Cm.Z.bind ?_ (fun _ => ?_) | exact Dy.z_num _ | exact Dy.z_add _ _ | exact Dy.z_sub _ _ | exact Dy.z_mul _ _ | exact Dy.z_div _ _ | exact Dy.z_sqr _ | exact Dy.z_sqrt _ | exact Dy.z_max _ _ | exact Dy.Cm.Z.pure _))) (fun t t' w_t => ?_)
  refine Dy.MF.bind (R := Dy.Wn) (Dy.mf_num (z := (4602678819172646912 : Int)) (Dy.ok_B (by decide) (by decide)) (by decide)) (fun _ => by (repeat (with_reducible first | refine Dy.Cm.Z.bind ?_ (fun _ => ?_) | exact Dy.z_num _ | exact Dy.z_add _ _ | exact Dy.z_sub _ _ | exact Dy.z_mul _ _ | exact Dy.z_div _ _ | exact Dy.z_sqr _ | exact Dy.z_sqrt _ | exact Dy.z_max _ _ | exact Dy.Cm.Z.pure _))) (fun h h' w_h => ?_)
  refine Dy.MF.bind (R := Dy.Wn) (Dy.mf_num (z := (4607182418800017408 : Int)) (Dy.ok_B (by decide) (by decide)) (by decide)) (fun _ => by (repeat (with_reducible first | refine Dy.Cm.Z.bind ?_ (fun _ => ?_) | exact Dy.z_num _ | exact Dy.z_add _ _ | exact Dy.z_sub _ _ | exact Dy.z_mul _ _ | exact Dy.z_div _ _ | exact Dy.z_sqr _ | exact Dy.z_sqrt _ | exact Dy.z_max _ _ | exact Dy.Cm.Z.pure _))) (fun one2 one2' w_one2 => ?_)
  refine Dy.MF.bind (R := Dy.Wn) (Dy.mf_mul w_a w_t) (fun _ => by (repeat (with_reducible first | refine Dy.Cm.Z.bind ?_ (fun _ => ?_) | exact Dy.z_num _ | exact Dy.z_add _ _ | exact Dy.z_sub _ _ | exact Dy.z_mul _ _ | exact Dy.z_div _ _ | exact Dy.z_sqr _ | exact Dy.z_sqrt _ | exact Dy.z_max _ _ | exact Dy.Cm.Z.pure _))) (fun m m' w_m => ?_)
  refine Dy.MF.bind (R := Dy.Wn) (Dy.mf_add w_one2 w_m) (fun _ => by (repeat (with_reducible first | refine Dy.Cm.Z.bind ?_ (fun _ => ?_) | exact Dy.z_num _ | exact Dy.z_add _ _ | exact Dy.z_sub _ _ | exact Dy.z_mul _ _ | exact Dy.z_div _ _ | exact Dy.z_sqr _ | exact Dy.z_sqrt _ | exact Dy.z_max _ _ | exact Dy.Cm.Z.pure _))) (fun s s' w_s => ?_)
  refine Dy.MF.bind (R := Dy.Wn) (Dy.mf_sqrt w_s) (fun _ => by (repeat (with_reducible first | refine Dy.Cm.Z.bind ?_ (fun _ => ?_) | exact Dy.z_num _ | exact Dy.z_add _ _ | exact Dy.z_sub _ _ | exact Dy.z_mul _ _ | exact Dy.z_div _ _ | exact Dy.z_sqr _ | exact Dy.z_sqrt _ | exact Dy.z_max _ _ | exact Dy.Cm.Z.pure _))) (fun r r' w_r => ?_)
  refine Dy.MF.bind (R := Dy.Wn) (Dy.mf_num (z := (4607182418800017408 : Int)) (Dy.ok_B (by decide) (by decide)) (by decide)) (fun _ => by (repeat (with_reducible first | refine Dy.Cm.Z.bind ?_ (fun _ => ?_) | exact Dy.z_num _ | exact Dy.z_add _ _ | exact Dy.z_sub _ _ | exact Dy.z_mul _ _ | exact Dy.z_div _ _ | exact Dy.z_sqr _ | exact Dy.z_sqrt _ | exact Dy.z_max _ _ | exact Dy.Cm.Z.pure _))) (fun one3 one3' w_one3 => ?_)
  refine Dy.MF.bind (R := Dy.Wn) (Dy.mf_sub w_r w_one3) (fun _ => by (repeat (with_reducible first | refine Dy.Cm.Z.bind ?_ (fun _ => ?_) | exact Dy.z_num _ | exact Dy.z_add _ _ | exact Dy.z_sub _ _ | exact Dy.z_mul _ _ | exact Dy.z_div _ _ | exact Dy.z_sqr _ | exact Dy.z_sqrt _ | exact Dy.z_max _ _ | exact Dy.Cm.Z.pure _))) (fun y y' w_y => ?_)
  refine Dy.MF.bind (R := Dy.Wn) (Dy.mf_mul w_h w_y) (fun _ => by (repeat (with_reducible first | refine Dy.Cm.Z.bind ?_ (fun _ => ?_) | exact Dy.z_num _ | exact Dy.z_add _ _ | exact Dy.z_sub _ _ | exact Dy.z_mul _ _ | exact Dy.z_div _ _ | exact Dy.z_sqr _ | exact Dy.z_sqrt _ | exact Dy.z_max _ _ | exact Dy.Cm.Z.pure _))) (fun x x' w_x => ?_)
  exact Dy.MF.pure (wn_max0 w_x)
def facesM (a cos : Nat × Nat) : Dy.Cm (Nat × Nat) := do
  let one ← Dy.mNum 4607182418800017408
  let c2 ← Dy.mSqr cos
  let d ← Dy.mSub one c2
  let b ← bentM a cos
  let v ← Dy.mDiv d b
  pure (v)
theorem facesM_z (a cos : Nat × Nat) : (facesM a cos).Z := by
  unfold facesM
  (repeat (with_reducible first | refine Dy.Cm.Z.bind ?_ (fun _ => ?_) | exact bentM_z _ _ | exact Dy.z_num _ | exact Dy.z_add _ _ | exact Dy.z_sub _ _ | exact Dy.z_mul _ _ | exact Dy.z_div _ _ | exact Dy.z_sqr _ | exact Dy.z_sqrt _ | exact Dy.z_max _ _ | exact Dy.Cm.Z.pure _))
theorem facesM_mf {a a' cos cos' : Nat × Nat} (w_a : Dy.Wn a a') (w_cos : Dy.Wn cos cos') : Dy.MF Dy.Wn (facesM a cos) (facesM a' cos') := by
  unfold facesM
  refine Dy.MF.bind (R := Dy.Wn) (Dy.mf_num (z := (4607182418800017408 : Int)) (Dy.ok_B (by decide) (by decide)) (by decide)) (fun _ => by (repeat (with_reducible first | refine Dy.Cm.Z.bind ?_ (fun _ => ?_) | exact bentM_z _ _ | exact Dy.z_num _ | exact Dy.z_add _ _ | exact Dy.z_sub _ _ | exact Dy.z_mul _ _ | exact Dy.z_div _ _ | exact Dy.z_sqr _ | exact Dy.z_sqrt _ | exact Dy.z_max _ _ | exact Dy.Cm.Z.pure _))) (fun one one' w_one => ?_)
  refine Dy.MF.bind (R := Dy.Wn) (Dy.mf_sqr w_cos) (fun _ => by (repeat (with_reducible first | refine Dy.Cm.Z.bind ?_ (fun _ => ?_) | exact bentM_z _ _ | exact Dy.z_num _ | exact Dy.z_add _ _ | exact Dy.z_sub _ _ | exact Dy.z_mul _ _ | exact Dy.z_div _ _ | exact Dy.z_sqr _ | exact Dy.z_sqrt _ | exact Dy.z_max _ _ | exact Dy.Cm.Z.pure _))) (fun c2 c2' w_c2 => ?_)
  refine Dy.MF.bind (R := Dy.Wn) (Dy.mf_sub w_one w_c2) (fun _ => by (repeat (with_reducible first | refine Dy.Cm.Z.bind ?_ (fun _ => ?_) | exact bentM_z _ _ | exact Dy.z_num _ | exact Dy.z_add _ _ | exact Dy.z_sub _ _ | exact Dy.z_mul _ _ | exact Dy.z_div _ _ | exact Dy.z_sqr _ | exact Dy.z_sqrt _ | exact Dy.z_max _ _ | exact Dy.Cm.Z.pure _))) (fun d d' w_d => ?_)
  refine Dy.MF.bind (R := Dy.Wn) (bentM_mf w_a w_cos) (fun _ => by (repeat (with_reducible first | refine Dy.Cm.Z.bind ?_ (fun _ => ?_) | exact bentM_z _ _ | exact Dy.z_num _ | exact Dy.z_add _ _ | exact Dy.z_sub _ _ | exact Dy.z_mul _ _ | exact Dy.z_div _ _ | exact Dy.z_sqr _ | exact Dy.z_sqrt _ | exact Dy.z_max _ _ | exact Dy.Cm.Z.pure _))) (fun b b' w_b => ?_)
  exact Dy.mf_div w_d w_b
/-- An error stays: each step, with functions. -/
def seen1M (a cos : Nat × Nat) : Dy.Cm (Nat × Nat) := do
  let n ← Dy.mNum 4607182418800017408
  let h ← hidesM a cos
  let s ← Dy.mAdd n h
  let one ← Dy.mNum 4607182418800017408
  let v ← Dy.mDiv one s
  pure (v)
theorem seen1M_z (a cos : Nat × Nat) : (seen1M a cos).Z := by
  unfold seen1M
  (repeat (with_reducible first | refine Dy.Cm.Z.bind ?_ (fun _ => ?_) | exact bentM_z _ _ | exact leansM_z _ _ | exact hidesM_z _ _ | exact facesM_z _ _ | exact Dy.z_num _ | exact Dy.z_add _ _ | exact Dy.z_sub _ _ | exact Dy.z_mul _ _ | exact Dy.z_div _ _ | exact Dy.z_sqr _ | exact Dy.z_sqrt _ | exact Dy.z_max _ _ | exact Dy.Cm.Z.pure _))
theorem seen1M_mf {a a' cos cos' : Nat × Nat} (w_a : Dy.Wn a a') (w_cos : Dy.Wn cos cos') : Dy.MF Dy.Wn (seen1M a cos) (seen1M a' cos') := by
  unfold seen1M
  refine Dy.MF.bind (R := Dy.Wn) (Dy.mf_num (z := (4607182418800017408 : Int)) (Dy.ok_B (by decide) (by decide)) (by decide)) (fun _ => by (repeat (with_reducible first | refine Dy.Cm.Z.bind ?_ (fun _ => ?_) | exact bentM_z _ _ | exact leansM_z _ _ | exact hidesM_z _ _ | exact facesM_z _ _ | exact Dy.z_num _ | exact Dy.z_add _ _ | exact Dy.z_sub _ _ | exact Dy.z_mul _ _ | exact Dy.z_div _ _ | exact Dy.z_sqr _ | exact Dy.z_sqrt _ | exact Dy.z_max _ _ | exact Dy.Cm.Z.pure _))) (fun n n' w_n => ?_)
  refine Dy.MF.bind (R := Dy.Wn) (hidesM_mf w_a w_cos) (fun _ => by (repeat (with_reducible first | refine Dy.Cm.Z.bind ?_ (fun _ => ?_) | exact bentM_z _ _ | exact leansM_z _ _ | exact hidesM_z _ _ | exact facesM_z _ _ | exact Dy.z_num _ | exact Dy.z_add _ _ | exact Dy.z_sub _ _ | exact Dy.z_mul _ _ | exact Dy.z_div _ _ | exact Dy.z_sqr _ | exact Dy.z_sqrt _ | exact Dy.z_max _ _ | exact Dy.Cm.Z.pure _))) (fun h h' w_h => ?_)
  refine Dy.MF.bind (R := Dy.Wn) (Dy.mf_add w_n w_h) (fun _ => by (repeat (with_reducible first | refine Dy.Cm.Z.bind ?_ (fun _ => ?_) | exact bentM_z _ _ | exact leansM_z _ _ | exact hidesM_z _ _ | exact facesM_z _ _ | exact Dy.z_num _ | exact Dy.z_add _ _ | exact Dy.z_sub _ _ | exact Dy.z_mul _ _ | exact Dy.z_div _ _ | exact Dy.z_sqr _ | exact Dy.z_sqrt _ | exact Dy.z_max _ _ | exact Dy.Cm.Z.pure _))) (fun s s' w_s => ?_)
  refine Dy.MF.bind (R := Dy.Wn) (Dy.mf_num (z := (4607182418800017408 : Int)) (Dy.ok_B (by decide) (by decide)) (by decide)) (fun _ => by (repeat (with_reducible first | refine Dy.Cm.Z.bind ?_ (fun _ => ?_) | exact bentM_z _ _ | exact leansM_z _ _ | exact hidesM_z _ _ | exact facesM_z _ _ | exact Dy.z_num _ | exact Dy.z_add _ _ | exact Dy.z_sub _ _ | exact Dy.z_mul _ _ | exact Dy.z_div _ _ | exact Dy.z_sqr _ | exact Dy.z_sqrt _ | exact Dy.z_max _ _ | exact Dy.Cm.Z.pure _))) (fun one one' w_one => ?_)
  exact Dy.mf_div w_one w_s
def seen2M (a cos out : Nat × Nat) : Dy.Cm (Nat × Nat) := do
  let n ← Dy.mNum 4607182418800017408
  let h ← hidesM a cos
  let s ← Dy.mAdd n h
  let k ← hidesM a out
  let s2 ← Dy.mAdd s k
  let one ← Dy.mNum 4607182418800017408
  let v ← Dy.mDiv one s2
  pure (v)
theorem seen2M_z (a cos out : Nat × Nat) : (seen2M a cos out).Z := by
  unfold seen2M
  (repeat (with_reducible first | refine Dy.Cm.Z.bind ?_ (fun _ => ?_) | exact bentM_z _ _ | exact leansM_z _ _ | exact hidesM_z _ _ | exact facesM_z _ _ | exact Dy.z_num _ | exact Dy.z_add _ _ | exact Dy.z_sub _ _ | exact Dy.z_mul _ _ | exact Dy.z_div _ _ | exact Dy.z_sqr _ | exact Dy.z_sqrt _ | exact Dy.z_max _ _ | exact Dy.Cm.Z.pure _))
theorem seen2M_mf {a a' cos cos' out out' : Nat × Nat} (w_a : Dy.Wn a a') (w_cos : Dy.Wn cos cos') (w_out : Dy.Wn out out') : Dy.MF Dy.Wn (seen2M a cos out) (seen2M a' cos' out') := by
  unfold seen2M
  refine Dy.MF.bind (R := Dy.Wn) (Dy.mf_num (z := (4607182418800017408 : Int)) (Dy.ok_B (by decide) (by decide)) (by decide)) (fun _ => by (repeat (with_reducible first | refine Dy.Cm.Z.bind ?_ (fun _ => ?_) | exact bentM_z _ _ | exact leansM_z _ _ | exact hidesM_z _ _ | exact facesM_z _ _ | exact Dy.z_num _ | exact Dy.z_add _ _ | exact Dy.z_sub _ _ | exact Dy.z_mul _ _ | exact Dy.z_div _ _ | exact Dy.z_sqr _ | exact Dy.z_sqrt _ | exact Dy.z_max _ _ | exact Dy.Cm.Z.pure _))) (fun n n' w_n => ?_)
  refine Dy.MF.bind (R := Dy.Wn) (hidesM_mf w_a w_cos) (fun _ => by (repeat (with_reducible first | refine Dy.Cm.Z.bind ?_ (fun _ => ?_) | exact bentM_z _ _ | exact leansM_z _ _ | exact hidesM_z _ _ | exact facesM_z _ _ | exact Dy.z_num _ | exact Dy.z_add _ _ | exact Dy.z_sub _ _ | exact Dy.z_mul _ _ | exact Dy.z_div _ _ | exact Dy.z_sqr _ | exact Dy.z_sqrt _ | exact Dy.z_max _ _ | exact Dy.Cm.Z.pure _))) (fun h h' w_h => ?_)
  refine Dy.MF.bind (R := Dy.Wn) (Dy.mf_add w_n w_h) (fun _ => by (repeat (with_reducible first | refine Dy.Cm.Z.bind ?_ (fun _ => ?_) | exact bentM_z _ _ | exact leansM_z _ _ | exact hidesM_z _ _ | exact facesM_z _ _ | exact Dy.z_num _ | exact Dy.z_add _ _ | exact Dy.z_sub _ _ | exact Dy.z_mul _ _ | exact Dy.z_div _ _ | exact Dy.z_sqr _ | exact Dy.z_sqrt _ | exact Dy.z_max _ _ | exact Dy.Cm.Z.pure _))) (fun s s' w_s => ?_)
  refine Dy.MF.bind (R := Dy.Wn) (hidesM_mf w_a w_out) (fun _ => by (repeat (with_reducible first | refine Dy.Cm.Z.bind ?_ (fun _ => ?_) | exact bentM_z _ _ | exact leansM_z _ _ | exact hidesM_z _ _ | exact facesM_z _ _ | exact Dy.z_num _ | exact Dy.z_add _ _ | exact Dy.z_sub _ _ | exact Dy.z_mul _ _ | exact Dy.z_div _ _ | exact Dy.z_sqr _ | exact Dy.z_sqrt _ | exact Dy.z_max _ _ | exact Dy.Cm.Z.pure _))) (fun k k' w_k => ?_)
  refine Dy.MF.bind (R := Dy.Wn) (Dy.mf_add w_s w_k) (fun _ => by (repeat (with_reducible first | refine Dy.Cm.Z.bind ?_ (fun _ => ?_) | exact bentM_z _ _ | exact leansM_z _ _ | exact hidesM_z _ _ | exact facesM_z _ _ | exact Dy.z_num _ | exact Dy.z_add _ _ | exact Dy.z_sub _ _ | exact Dy.z_mul _ _ | exact Dy.z_div _ _ | exact Dy.z_sqr _ | exact Dy.z_sqrt _ | exact Dy.z_max _ _ | exact Dy.Cm.Z.pure _))) (fun s2 s2' w_s2 => ?_)
  refine Dy.MF.bind (R := Dy.Wn) (Dy.mf_num (z := (4607182418800017408 : Int)) (Dy.ok_B (by decide) (by decide)) (by decide)) (fun _ => by (repeat (with_reducible first | refine Dy.Cm.Z.bind ?_ (fun _ => ?_) | exact bentM_z _ _ | exact leansM_z _ _ | exact hidesM_z _ _ | exact facesM_z _ _ | exact Dy.z_num _ | exact Dy.z_add _ _ | exact Dy.z_sub _ _ | exact Dy.z_mul _ _ | exact Dy.z_div _ _ | exact Dy.z_sqr _ | exact Dy.z_sqrt _ | exact Dy.z_max _ _ | exact Dy.Cm.Z.pure _))) (fun one one' w_one => ?_)
  exact Dy.mf_div w_one w_s2
def dM (cos alpha : Nat × Nat) : Dy.Cm (Nat × Nat) := do
  let a ← Dy.mSqr alpha
  leansM a cos
theorem dM_mf {cos cos' alpha alpha' : Nat × Nat} (w_cos : Dy.Wn cos cos') (w : Dy.Wn alpha alpha') : Dy.MF Dy.Wn (dM cos alpha) (dM cos' alpha') := by
  unfold dM
  exact Dy.MF.bind (Dy.mf_sqr w) (fun _ => leansM_z _ _) fun a a' wa => leansM_mf wa w_cos
def lambdaM (cos alpha : Nat × Nat) : Dy.Cm (Nat × Nat) := do
  let a ← Dy.mSqr alpha
  hidesM a cos
theorem lambdaM_mf {cos cos' alpha alpha' : Nat × Nat} (w_cos : Dy.Wn cos cos') (w : Dy.Wn alpha alpha') : Dy.MF Dy.Wn (lambdaM cos alpha) (lambdaM cos' alpha') := by
  unfold lambdaM
  exact Dy.MF.bind (Dy.mf_sqr w) (fun _ => hidesM_z _ _) fun a a' wa => hidesM_mf wa w_cos
def facingM (cos alpha : Nat × Nat) : Dy.Cm (Nat × Nat) := do
  let a ← Dy.mSqr alpha
  facesM a cos
theorem facingM_mf {cos cos' alpha alpha' : Nat × Nat} (w_cos : Dy.Wn cos cos') (w : Dy.Wn alpha alpha') : Dy.MF Dy.Wn (facingM cos alpha) (facingM cos' alpha') := by
  unfold facingM
  exact Dy.MF.bind (Dy.mf_sqr w) (fun _ => facesM_z _ _) fun a a' wa => facesM_mf wa w_cos
def g1M (cos alpha : Nat × Nat) : Dy.Cm (Nat × Nat) := do
  let a ← Dy.mSqr alpha
  seen1M a cos
theorem g1M_mf {cos cos' alpha alpha' : Nat × Nat} (w_cos : Dy.Wn cos cos') (w : Dy.Wn alpha alpha') : Dy.MF Dy.Wn (g1M cos alpha) (g1M cos' alpha') := by
  unfold g1M
  exact Dy.MF.bind (Dy.mf_sqr w) (fun _ => seen1M_z _ _) fun a a' wa => seen1M_mf wa w_cos
def g2M (cos out alpha : Nat × Nat) : Dy.Cm (Nat × Nat) := do
  let a ← Dy.mSqr alpha
  seen2M a cos out
theorem g2M_mf {cos cos' out out' alpha alpha' : Nat × Nat} (w_cos : Dy.Wn cos cos') (w_out : Dy.Wn out out') (w : Dy.Wn alpha alpha') : Dy.MF Dy.Wn (g2M cos out alpha) (g2M cos' out' alpha') := by
  unfold g2M
  exact Dy.MF.bind (Dy.mf_sqr w) (fun _ => seen2M_z _ _ _) fun a a' wa => seen2M_mf wa w_cos w_out
end Go.Proofs.Ytikiegcncliocaa
