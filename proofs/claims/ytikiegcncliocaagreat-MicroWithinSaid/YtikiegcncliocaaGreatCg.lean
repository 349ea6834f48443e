/- Plain facts: a look at microfacets, as a program of a calculator; of lesser boxes comes a lesser look. -/
import Derived.Test.YtikiegcncliocaaGreatGa
namespace Go.Proofs.YtikiegcncliocaaGreat
open Go Go.RowKit

theorem gC_clip {a a' : Nat × Nat} (w : Dy.Wn a a') : gC (Dy.clip 0 4607182418800017408 a') = true := by
  obtain ⟨p, q, _, rfl, _, hq, _⟩ := w
  have ok1 : Dy.ok 4607182418800017408 := Dy.ok_B (by decide) (by decide)
  obtain ⟨e, r⟩ := Dy.clip_E (x := 0) (y := 4607182418800017408) hq Dy.ok_zero ok1
  rw [show Dy.clip 0 4607182418800017408 (Dy.E q) = Dy.clip (Dy.enc 0) (Dy.enc 4607182418800017408) (Dy.E q) from rfl, e]
  have i : Dy.ivR (Dy.E (min (max q.1 0) 4607182418800017408, min (max q.2 0) 4607182418800017408)) = true := r.E_R
  have a : (Dy.fgt (Dy.enc (min (max q.1 0) 4607182418800017408)) 0 || Dy.feq (Dy.enc (min (max q.1 0) 4607182418800017408)) 0) = true := by
    rw [show (Dy.fgt (Dy.enc (min (max q.1 0) 4607182418800017408)) 0 || Dy.feq (Dy.enc (min (max q.1 0) 4607182418800017408)) 0) = _ from Dy.fge_enc (z := 0) r.lo Dy.ok_zero]; exact decide_eq_true (by omega)
  have b : (Dy.flt (Dy.enc (min (max q.2 0) 4607182418800017408)) 4607182418800017408 || Dy.feq (Dy.enc (min (max q.2 0) 4607182418800017408)) 4607182418800017408) = true := by
    rw [show (Dy.flt (Dy.enc (min (max q.2 0) 4607182418800017408)) 4607182418800017408 || Dy.feq (Dy.enc (min (max q.2 0) 4607182418800017408)) 4607182418800017408) = _ from Dy.fle_enc (z := 4607182418800017408) r.hi ok1]; exact decide_eq_true (by omega)
  unfold gC
  rw [i]
  show (true && (Dy.fgt (Dy.enc (min (max q.1 0) 4607182418800017408)) 0 || Dy.feq (Dy.enc (min (max q.1 0) 4607182418800017408)) 0) && (Dy.flt (Dy.enc (min (max q.2 0) 4607182418800017408)) 4607182418800017408 || Dy.feq (Dy.enc (min (max q.2 0) 4607182418800017408)) 4607182418800017408)) = true
  rw [a, b]; rfl
def halfM (a b c d e f : Nat × Nat) : Dy.Cm ((Nat × Nat) × (Nat × Nat)) := do
  let sx ← Dy.mAdd a d
  let sy ← Dy.mAdd b e
  let sz ← Dy.mAdd c f
  let qx ← Dy.mSqr sx
  let qy ← Dy.mSqr sy
  let u ← Dy.mAdd qx qy
  let qz ← Dy.mSqr sz
  let v ← Dy.mAdd u qz
  let n ← Dy.mSqrt v
  let h ← Dy.mNum 4602678819172646912
  let hn ← Dy.mMul h n
  let hc ← pure (Dy.clip 0 4607182418800017408 hn)
  let tz ← Dy.mAdd c f
  let ln ← Dy.mDiv tz n
  let lc ← pure (Dy.clip 0 4607182418800017408 ln)
  pure ((lc, hc))
theorem halfM_mf {a a' b b' c c' d d' e e' f f' : Nat × Nat} (w_a : Dy.Wn a a') (w_b : Dy.Wn b b') (w_c : Dy.Wn c c') (w_d : Dy.Wn d d') (w_e : Dy.Wn e e') (w_f : Dy.Wn f f') : Dy.MF (fun x y => Dy.Wn x.1 y.1 ∧ Dy.Wn x.2 y.2 ∧ gC y.1 = true) (halfM a b c d e f) (halfM a' b' c' d' e' f') := by
  unfold halfM
  refine Dy.MF.bind (R := Dy.Wn) (Dy.mf_add w_a w_d) (fun _ => by (repeat (with_reducible first | refine Dy.Cm.Z.bind ?_ (fun _ => ?_) | exact Dy.z_num _ | exact Dy.z_add _ _ | exact Dy.z_sub _ _ | exact Dy.z_mul _ _ | exact Dy.z_div _ _ | exact Dy.z_sqr _ | exact Dy.z_sqrt _ | exact Dy.z_max _ _ | exact Dy.Cm.Z.pure _))) (fun sx sx' w_sx => ?_)
  refine Dy.MF.bind (R := Dy.Wn) (Dy.mf_add w_b w_e) (fun _ => by (repeat (with_reducible first | refine Dy.Cm.Z.bind ?_ (fun _ => ?_) | exact Dy.z_num _ | exact Dy.z_add _ _ | exact Dy.z_sub _ _ | exact Dy.z_mul _ _ | exact Dy.z_div _ _ | exact Dy.z_sqr _ | exact Dy.z_sqrt _ | exact Dy.z_max _ _ | exact Dy.Cm.Z.pure _))) (fun sy sy' w_sy => ?_)
  refine Dy.MF.bind (R := Dy.Wn) (Dy.mf_add w_c w_f) (fun _ => by (repeat (with_reducible first | refine Dy.Cm.Z.bind ?_ (fun _ => ?_) | exact Dy.z_num _ | exact Dy.z_add _ _ | exact Dy.z_sub _ _ | exact Dy.z_mul _ _ | exact Dy.z_div _ _ | exact Dy.z_sqr _ | exact Dy.z_sqrt _ | exact Dy.z_max _ _ | exact Dy.Cm.Z.pure _))) (fun sz sz' w_sz => ?_)
  refine Dy.MF.bind (R := Dy.Wn) (Dy.mf_sqr w_sx) (fun _ => by (repeat (with_reducible first | refine Dy.Cm.Z.bind ?_ (fun _ => ?_) | exact Dy.z_num _ | exact Dy.z_add _ _ | exact Dy.z_sub _ _ | exact Dy.z_mul _ _ | exact Dy.z_div _ _ | exact Dy.z_sqr _ | exact Dy.z_sqrt _ | exact Dy.z_max _ _ | exact Dy.Cm.Z.pure _))) (fun qx qx' w_qx => ?_)
  refine Dy.MF.bind (R := Dy.Wn) (Dy.mf_sqr w_sy) (fun _ => by (repeat (with_reducible first | refine Dy.Cm.Z.bind ?_ (fun _ => ?_) | exact Dy.z_num _ | exact Dy.z_add _ _ | exact Dy.z_sub _ _ | exact Dy.z_mul _ _ | exact Dy.z_div _ _ | exact Dy.z_sqr _ | exact Dy.z_sqrt _ | exact Dy.z_max _ _ | exact Dy.Cm.Z.pure _))) (fun qy qy' w_qy => ?_)
  refine Dy.MF.bind (R := Dy.Wn) (Dy.mf_add w_qx w_qy) (fun _ => by (repeat (with_reducible first | refine Dy.Cm.Z.bind ?_ (fun _ => ?_) | exact Dy.z_num _ | exact Dy.z_add _ _ | exact Dy.z_sub _ _ | exact Dy.z_mul _ _ | exact Dy.z_div _ _ | exact Dy.z_sqr _ | exact Dy.z_sqrt _ | exact Dy.z_max _ _ | exact Dy.Cm.Z.pure _))) (fun u u' w_u => ?_)
  refine Dy.MF.bind (R := Dy.Wn) (Dy.mf_sqr w_sz) (fun _ => by (repeat (with_reducible first | refine Dy.Cm.Z.bind ?_ (fun _ => ?_) | exact Dy.z_num _ | exact Dy.z_add _ _ | exact Dy.z_sub _ _ | exact Dy.z_mul _ _ | exact Dy.z_div _ _ | exact Dy.z_sqr _ | exact Dy.z_sqrt _ | exact Dy.z_max _ _ | exact Dy.Cm.Z.pure _))) (fun qz qz' w_qz => ?_)
  refine Dy.MF.bind (R := Dy.Wn) (Dy.mf_add w_u w_qz) (fun _ => by (repeat (with_reducible first | refine Dy.Cm.Z.bind ?_ (fun _ => ?_) | exact Dy.z_num _ | exact Dy.z_add _ _ | exact Dy.z_sub _ _ | exact Dy.z_mul _ _ | exact Dy.z_div _ _ | exact Dy.z_sqr _ | exact Dy.z_sqrt _ | exact Dy.z_max _ _ | exact Dy.Cm.Z.pure _))) (fun v v' w_v => ?_)
  refine Dy.MF.bind (R := Dy.Wn) (Dy.mf_sqrt w_v) (fun _ => by (repeat (with_reducible first | refine Dy.Cm.Z.bind ?_ (fun _ => ?_) | exact Dy.z_num _ | exact Dy.z_add _ _ | exact Dy.z_sub _ _ | exact Dy.z_mul _ _ | exact Dy.z_div _ _ | exact Dy.z_sqr _ | exact Dy.z_sqrt _ | exact Dy.z_max _ _ | exact Dy.Cm.Z.pure _))) (fun n n' w_n => ?_)
  refine Dy.MF.bind (R := Dy.Wn) (Dy.mf_num (z := (4602678819172646912 : Int)) (Dy.ok_B (by decide) (by decide)) (by decide)) (fun _ => by (repeat (with_reducible first | refine Dy.Cm.Z.bind ?_ (fun _ => ?_) | exact Dy.z_num _ | exact Dy.z_add _ _ | exact Dy.z_sub _ _ | exact Dy.z_mul _ _ | exact Dy.z_div _ _ | exact Dy.z_sqr _ | exact Dy.z_sqrt _ | exact Dy.z_max _ _ | exact Dy.Cm.Z.pure _))) (fun h h' w_h => ?_)
  refine Dy.MF.bind (R := Dy.Wn) (Dy.mf_mul w_h w_n) (fun _ => by (repeat (with_reducible first | refine Dy.Cm.Z.bind ?_ (fun _ => ?_) | exact Dy.z_num _ | exact Dy.z_add _ _ | exact Dy.z_sub _ _ | exact Dy.z_mul _ _ | exact Dy.z_div _ _ | exact Dy.z_sqr _ | exact Dy.z_sqrt _ | exact Dy.z_max _ _ | exact Dy.Cm.Z.pure _))) (fun hn hn' w_hn => ?_)
  refine Dy.MF.bind (R := Dy.Wn) (Dy.MF.pure (Dy.wn_clip (x := 0) (y := (4607182418800017408 : Int)) Dy.ok_zero (Dy.ok_B (by decide) (by decide)) rfl (by decide) w_hn)) (fun _ => by (repeat (with_reducible first | refine Dy.Cm.Z.bind ?_ (fun _ => ?_) | exact Dy.z_num _ | exact Dy.z_add _ _ | exact Dy.z_sub _ _ | exact Dy.z_mul _ _ | exact Dy.z_div _ _ | exact Dy.z_sqr _ | exact Dy.z_sqrt _ | exact Dy.z_max _ _ | exact Dy.Cm.Z.pure _))) (fun hc hc' w_hc => ?_)
  refine Dy.MF.bind (R := Dy.Wn) (Dy.mf_add w_c w_f) (fun _ => by (repeat (with_reducible first | refine Dy.Cm.Z.bind ?_ (fun _ => ?_) | exact Dy.z_num _ | exact Dy.z_add _ _ | exact Dy.z_sub _ _ | exact Dy.z_mul _ _ | exact Dy.z_div _ _ | exact Dy.z_sqr _ | exact Dy.z_sqrt _ | exact Dy.z_max _ _ | exact Dy.Cm.Z.pure _))) (fun tz tz' w_tz => ?_)
  refine Dy.MF.bind (R := Dy.Wn) (Dy.mf_div w_tz w_n) (fun _ => by (repeat (with_reducible first | refine Dy.Cm.Z.bind ?_ (fun _ => ?_) | exact Dy.z_num _ | exact Dy.z_add _ _ | exact Dy.z_sub _ _ | exact Dy.z_mul _ _ | exact Dy.z_div _ _ | exact Dy.z_sqr _ | exact Dy.z_sqrt _ | exact Dy.z_max _ _ | exact Dy.Cm.Z.pure _))) (fun ln ln' w_ln => ?_)
  refine Dy.MF.bind (R := (fun x y => Dy.Wn x y ∧ gC y = true)) (Dy.MF.pure (⟨Dy.wn_clip (x := 0) (y := (4607182418800017408 : Int)) Dy.ok_zero (Dy.ok_B (by decide) (by decide)) rfl (by decide) w_ln, gC_clip w_ln⟩)) (fun _ => by (repeat (with_reducible first | refine Dy.Cm.Z.bind ?_ (fun _ => ?_) | exact Dy.z_num _ | exact Dy.z_add _ _ | exact Dy.z_sub _ _ | exact Dy.z_mul _ _ | exact Dy.z_div _ _ | exact Dy.z_sqr _ | exact Dy.z_sqrt _ | exact Dy.z_max _ _ | exact Dy.Cm.Z.pure _))) (fun lc lc' w_lc => ?_)
  exact Dy.MF.pure (⟨w_lc.1, w_hc, w_lc.2⟩)
def glossM (d both one c f : Nat × Nat) : Dy.Cm ((Nat × Nat) × (Nat × Nat)) := do
  let four ← Dy.mNum 4616189618054758400
  let m1 ← Dy.mMul d both
  let f1 ← Dy.mMul four c
  let f2 ← Dy.mMul f1 f
  let val ← Dy.mDiv m1 f2
  let m2 ← Dy.mMul one d
  let f3 ← Dy.mMul four f
  let dens ← Dy.mDiv m2 f3
  pure ((val, dens))
theorem glossM_mf {d d' both both' one one' c c' f f' : Nat × Nat} (w_d : Dy.Wn d d') (w_both : Dy.Wn both both') (w_one : Dy.Wn one one') (w_c : Dy.Wn c c') (w_f : Dy.Wn f f') : Dy.MF (fun x y => Dy.Wn x.1 y.1 ∧ Dy.Wn x.2 y.2) (glossM d both one c f) (glossM d' both' one' c' f') := by
  unfold glossM
  refine Dy.MF.bind (R := Dy.Wn) (Dy.mf_num (z := (4616189618054758400 : Int)) (Dy.ok_B (by decide) (by decide)) (by decide)) (fun _ => by (repeat (with_reducible first | refine Dy.Cm.Z.bind ?_ (fun _ => ?_) | exact Dy.z_num _ | exact Dy.z_add _ _ | exact Dy.z_sub _ _ | exact Dy.z_mul _ _ | exact Dy.z_div _ _ | exact Dy.z_sqr _ | exact Dy.z_sqrt _ | exact Dy.z_max _ _ | exact Dy.Cm.Z.pure _))) (fun four four' w_four => ?_)
  refine Dy.MF.bind (R := Dy.Wn) (Dy.mf_mul w_d w_both) (fun _ => by (repeat (with_reducible first | refine Dy.Cm.Z.bind ?_ (fun _ => ?_) | exact Dy.z_num _ | exact Dy.z_add _ _ | exact Dy.z_sub _ _ | exact Dy.z_mul _ _ | exact Dy.z_div _ _ | exact Dy.z_sqr _ | exact Dy.z_sqrt _ | exact Dy.z_max _ _ | exact Dy.Cm.Z.pure _))) (fun m1 m1' w_m1 => ?_)
  refine Dy.MF.bind (R := Dy.Wn) (Dy.mf_mul w_four w_c) (fun _ => by (repeat (with_reducible first | refine Dy.Cm.Z.bind ?_ (fun _ => ?_) | exact Dy.z_num _ | exact Dy.z_add _ _ | exact Dy.z_sub _ _ | exact Dy.z_mul _ _ | exact Dy.z_div _ _ | exact Dy.z_sqr _ | exact Dy.z_sqrt _ | exact Dy.z_max _ _ | exact Dy.Cm.Z.pure _))) (fun f1 f1' w_f1 => ?_)
  refine Dy.MF.bind (R := Dy.Wn) (Dy.mf_mul w_f1 w_f) (fun _ => by (repeat (with_reducible first | refine Dy.Cm.Z.bind ?_ (fun _ => ?_) | exact Dy.z_num _ | exact Dy.z_add _ _ | exact Dy.z_sub _ _ | exact Dy.z_mul _ _ | exact Dy.z_div _ _ | exact Dy.z_sqr _ | exact Dy.z_sqrt _ | exact Dy.z_max _ _ | exact Dy.Cm.Z.pure _))) (fun f2 f2' w_f2 => ?_)
  refine Dy.MF.bind (R := Dy.Wn) (Dy.mf_div w_m1 w_f2) (fun _ => by (repeat (with_reducible first | refine Dy.Cm.Z.bind ?_ (fun _ => ?_) | exact Dy.z_num _ | exact Dy.z_add _ _ | exact Dy.z_sub _ _ | exact Dy.z_mul _ _ | exact Dy.z_div _ _ | exact Dy.z_sqr _ | exact Dy.z_sqrt _ | exact Dy.z_max _ _ | exact Dy.Cm.Z.pure _))) (fun val val' w_val => ?_)
  refine Dy.MF.bind (R := Dy.Wn) (Dy.mf_mul w_one w_d) (fun _ => by (repeat (with_reducible first | refine Dy.Cm.Z.bind ?_ (fun _ => ?_) | exact Dy.z_num _ | exact Dy.z_add _ _ | exact Dy.z_sub _ _ | exact Dy.z_mul _ _ | exact Dy.z_div _ _ | exact Dy.z_sqr _ | exact Dy.z_sqrt _ | exact Dy.z_max _ _ | exact Dy.Cm.Z.pure _))) (fun m2 m2' w_m2 => ?_)
  refine Dy.MF.bind (R := Dy.Wn) (Dy.mf_mul w_four w_f) (fun _ => by (repeat (with_reducible first | refine Dy.Cm.Z.bind ?_ (fun _ => ?_) | exact Dy.z_num _ | exact Dy.z_add _ _ | exact Dy.z_sub _ _ | exact Dy.z_mul _ _ | exact Dy.z_div _ _ | exact Dy.z_sqr _ | exact Dy.z_sqrt _ | exact Dy.z_max _ _ | exact Dy.Cm.Z.pure _))) (fun f3 f3' w_f3 => ?_)
  refine Dy.MF.bind (R := Dy.Wn) (Dy.mf_div w_m2 w_f3) (fun _ => by (repeat (with_reducible first | refine Dy.Cm.Z.bind ?_ (fun _ => ?_) | exact Dy.z_num _ | exact Dy.z_add _ _ | exact Dy.z_sub _ _ | exact Dy.z_mul _ _ | exact Dy.z_div _ _ | exact Dy.z_sqr _ | exact Dy.z_sqrt _ | exact Dy.z_max _ _ | exact Dy.Cm.Z.pure _))) (fun dens dens' w_dens => ?_)
  exact Dy.MF.pure (⟨w_val, w_dens⟩)
def pairU (r : ((Nat × Nat) × (Nat × Nat)) × Int) (i : Nat) : U := match i with
  | 0 => .f r.1.1.1
  | 1 => .f r.1.1.2
  | 2 => .f r.1.2.1
  | 3 => .f r.1.2.2
  | _ => .i r.2
def glossU (r : ((Nat × Nat) × (Nat × Nat) × (Nat × Nat) × (Nat × Nat)) × Int) (i : Nat) : U := match i with
  | 0 => .f r.1.1.1
  | 1 => .f r.1.1.2
  | 2 => .f r.1.2.1.1
  | 3 => .f r.1.2.1.2
  | 4 => .f r.1.2.2.1.1
  | 5 => .f r.1.2.2.1.2
  | 6 => .f r.1.2.2.2.1
  | 7 => .f r.1.2.2.2.2
  | _ => .i r.2
def told2 (r : ((Nat × Nat) × (Nat × Nat)) × Int) : ((Nat × Nat) × (Nat × Nat)) × Int := if (r.2 != 0) = true then (((0, 0), (0, 0)), r.2) else (r.1, 0)
theorem told2_0 {r : ((Nat × Nat) × (Nat × Nat)) × Int} (h : (told2 r).2 = 0) : r.2 = 0 ∧ (told2 r).1 = r.1 := by
  unfold told2 at *
  by_cases c : (r.2 != 0) = true
  · rw [if_pos c] at h; simp at h c; exact absurd h c
  · rw [if_neg c]; simp at c; exact ⟨c, rfl⟩
theorem told2_ok {r : ((Nat × Nat) × (Nat × Nat)) × Int} (h : r.2 = 0) : told2 r = (r.1, 0) := by
  unfold told2; rw [h]; rfl
def halfG (a b c d e f : Nat × Nat) : ((Nat × Nat) × (Nat × Nat)) × Int := told2 (halfM a b c d e f 0)
theorem half_mf {a a' b b' c c' d d' e e' f f' : Nat × Nat} (wa : Dy.Wn a a') (wb : Dy.Wn b b') (wc : Dy.Wn c c') (wd : Dy.Wn d d') (we : Dy.Wn e e') (wf : Dy.Wn f f') (h : (halfG a b c d e f).2 = 0) :
    (halfG a' b' c' d' e' f').2 = 0 ∧ Dy.Wn (halfG a b c d e f).1.1 (halfG a' b' c' d' e' f').1.1 ∧ Dy.Wn (halfG a b c d e f).1.2 (halfG a' b' c' d' e' f').1.2 ∧ gC (halfG a' b' c' d' e' f').1.1 = true := by
  unfold halfG at *
  obtain ⟨x, y⟩ := told2_0 h
  obtain ⟨p, q, r, s⟩ := halfM_mf wa wb wc wd we wf 0 x
  rw [y, told2_ok p]; exact ⟨rfl, q, r, s⟩
theorem half_gC {a b c d e f : Nat × Nat} (wa : Dy.Wn a a) (wb : Dy.Wn b b) (wc : Dy.Wn c c) (wd : Dy.Wn d d) (we : Dy.Wn e e) (wf : Dy.Wn f f) : ((halfG a b c d e f).2 != 0 || gC (halfG a b c d e f).1.1) = true := by
  by_cases h : (halfG a b c d e f).2 = 0
  · rw [(half_mf wa wb wc wd we wf h).2.2.2, Bool.or_true]
  · rw [show ((halfG a b c d e f).2 != 0) = true from by simpa using h]; rfl
abbrev Z4 : (Nat × Nat) × (Nat × Nat) × (Nat × Nat) × (Nat × Nat) := ((0, 0), (0, 0), (0, 0), (0, 0))
def glo4 (lean half d both one c f : Nat × Nat) : ((Nat × Nat) × (Nat × Nat) × (Nat × Nat) × (Nat × Nat)) × Int :=
  if ((told2 (glossM d both one c f 0)).2 != 0) = true then (Z4, (told2 (glossM d both one c f 0)).2) else ((lean, half, (told2 (glossM d both one c f 0)).1.1, (told2 (glossM d both one c f 0)).1.2), 0)
def glo3 (lean half d both c f al : Nat × Nat) : ((Nat × Nat) × (Nat × Nat) × (Nat × Nat) × (Nat × Nat)) × Int :=
  if ((Dy.told (g1M f al 0)).2 != 0) = true then (Z4, (Dy.told (g1M f al 0)).2) else glo4 lean half d both (Dy.told (g1M f al 0)).1 c f
def glo2 (lean half d c f al : Nat × Nat) : ((Nat × Nat) × (Nat × Nat) × (Nat × Nat) × (Nat × Nat)) × Int :=
  if ((Dy.told (g2M c f al 0)).2 != 0) = true then (Z4, (Dy.told (g2M c f al 0)).2) else glo3 lean half d (Dy.told (g2M c f al 0)).1 c f al
def glo1 (lean half c f al : Nat × Nat) : ((Nat × Nat) × (Nat × Nat) × (Nat × Nat) × (Nat × Nat)) × Int :=
  if ((Dy.told (dM lean al 0)).2 != 0) = true then (Z4, (Dy.told (dM lean al 0)).2) else glo2 lean half (Dy.told (dM lean al 0)).1 c f al
/-- A look, with its error. -/
def gloG (a b c d e f al : Nat × Nat) : ((Nat × Nat) × (Nat × Nat) × (Nat × Nat) × (Nat × Nat)) × Int :=
  if ((halfG a b c d e f).2 != 0) = true then (Z4, (halfG a b c d e f).2) else glo1 (halfG a b c d e f).1.1 (halfG a b c d e f).1.2 c f al
def Wn4 (x y : (Nat × Nat) × (Nat × Nat) × (Nat × Nat) × (Nat × Nat)) : Prop := Dy.Wn x.1 y.1 ∧ Dy.Wn x.2.1 y.2.1 ∧ Dy.Wn x.2.2.1 y.2.2.1 ∧ Dy.Wn x.2.2.2 y.2.2.2
theorem if_err {α : Type} {z : α} {e : Int} {y : α × Int} (h : (if (e != 0) = true then (z, e) else y).2 = 0) : e = 0 ∧ (if (e != 0) = true then (z, e) else y) = y := by
  by_cases c : (e != 0) = true
  · rw [if_pos c] at h; simp at h c; exact absurd h c
  · rw [if_neg c]; simp at c; exact ⟨c, rfl⟩
theorem if_none {α : Type} {z : α} {e : Int} {y : α × Int} (h : e = 0) : (if (e != 0) = true then (z, e) else y) = y := by subst h; rfl
attribute [local irreducible] halfG glossM dM g1M g2M
theorem glo4_mf {l l' h h' d d' b b' o o' c c' f f' : Nat × Nat} (wl : Dy.Wn l l') (wh : Dy.Wn h h') (wd : Dy.Wn d d') (wb : Dy.Wn b b') (wo : Dy.Wn o o') (wc : Dy.Wn c c') (wf : Dy.Wn f f') (h0 : (glo4 l h d b o c f).2 = 0) : (glo4 l' h' d' b' o' c' f').2 = 0 ∧ Wn4 (glo4 l h d b o c f).1 (glo4 l' h' d' b' o' c' f').1 := by
  unfold glo4 at *
  obtain ⟨x, y⟩ := if_err h0
  obtain ⟨x1, x2⟩ := told2_0 x
  obtain ⟨p, q, r⟩ := glossM_mf wd wb wo wc wf 0 x1
  have t := told2_ok p
  rw [y, if_none (by rw [t]), x2, t]
  exact ⟨rfl, wl, wh, q, r⟩
theorem glo3_mf {l l' h h' d d' b b' c c' f f' s s' : Nat × Nat} (wl : Dy.Wn l l') (wh : Dy.Wn h h') (wd : Dy.Wn d d') (wb : Dy.Wn b b') (wc : Dy.Wn c c') (wf : Dy.Wn f f') (ws : Dy.Wn s s') (h0 : (glo3 l h d b c f s).2 = 0) : (glo3 l' h' d' b' c' f' s').2 = 0 ∧ Wn4 (glo3 l h d b c f s).1 (glo3 l' h' d' b' c' f' s').1 := by
  unfold glo3 at *
  obtain ⟨x, y⟩ := if_err h0
  rw [y] at h0
  obtain ⟨p, q⟩ := Dy.MF.told (g1M_mf wf ws) x
  rw [y, if_none p]
  exact glo4_mf wl wh wd wb q wc wf h0
theorem glo2_mf {l l' h h' d d' c c' f f' s s' : Nat × Nat} (wl : Dy.Wn l l') (wh : Dy.Wn h h') (wd : Dy.Wn d d') (wc : Dy.Wn c c') (wf : Dy.Wn f f') (ws : Dy.Wn s s') (h0 : (glo2 l h d c f s).2 = 0) : (glo2 l' h' d' c' f' s').2 = 0 ∧ Wn4 (glo2 l h d c f s).1 (glo2 l' h' d' c' f' s').1 := by
  unfold glo2 at *
  obtain ⟨x, y⟩ := if_err h0
  rw [y] at h0
  obtain ⟨p, q⟩ := Dy.MF.told (g2M_mf wc wf ws) x
  rw [y, if_none p]
  exact glo3_mf wl wh wd q wc wf ws h0
theorem glo1_mf {l l' h h' c c' f f' s s' : Nat × Nat} (wl : Dy.Wn l l') (wh : Dy.Wn h h') (wc : Dy.Wn c c') (wf : Dy.Wn f f') (ws : Dy.Wn s s') (h0 : (glo1 l h c f s).2 = 0) : (glo1 l' h' c' f' s').2 = 0 ∧ Wn4 (glo1 l h c f s).1 (glo1 l' h' c' f' s').1 := by
  unfold glo1 at *
  obtain ⟨x, y⟩ := if_err h0
  rw [y] at h0
  obtain ⟨p, q⟩ := Dy.MF.told (dM_mf wl ws) x
  rw [y, if_none p]
  exact glo2_mf wl wh q wc wf ws h0
/-- Of lesser boxes comes a lesser look, without an error. -/
theorem gloG_mf {a a' b b' c c' d d' e e' f f' s s' : Nat × Nat} (wa : Dy.Wn a a') (wb : Dy.Wn b b') (wc : Dy.Wn c c') (wd : Dy.Wn d d') (we : Dy.Wn e e') (wf : Dy.Wn f f') (ws : Dy.Wn s s') (h0 : (gloG a b c d e f s).2 = 0) : (gloG a' b' c' d' e' f' s').2 = 0 ∧ Wn4 (gloG a b c d e f s).1 (gloG a' b' c' d' e' f' s').1 := by
  unfold gloG at *
  obtain ⟨x, y⟩ := if_err h0
  rw [y] at h0
  obtain ⟨p, q, r, _⟩ := half_mf wa wb wc wd we wf x
  rw [y, if_none p]
  exact glo1_mf q r wc wf ws h0
end Go.Proofs.YtikiegcncliocaaGreat
