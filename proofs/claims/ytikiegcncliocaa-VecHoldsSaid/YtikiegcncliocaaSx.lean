/- Plain facts: what is made of vectors, of lesser ones; a vector and another one, less that one. -/
import Derived.Test.YtikiegcncliocaaVh
import Derived.Test.YtikiegcncliocaaRa
import Derived.Test.YtikiegcncliocaaDb
namespace Go.Proofs.Ytikiegcncliocaa
open Go Go.RowKit

theorem near_fi5 (m : Nat) : FloatKind.f64.nearest (m : Int) = Dy.fi m := by
  unfold FloatKind.nearest Dy.fi
  rw [show decide ((m : Int) < 0) = false by simp, Int.natAbs_natCast]
  rfl
theorem prt_ok {m : Nat} (h : m < 65536) : nPrt [.i (m : Int)] = true := by
  obtain ⟨f1, f2, f3, f4⟩ := Dy.fi_spec (m := m) (by omega)
  have g1 : Dy.fin 4679240012837945344 := by unfold Dy.fin; decide +kernel
  obtain ⟨r, e, _, h3⟩ := Dy.div_near (x := Dy.fi m) (y := 4679240012837945344) f2 (by unfold Dy.W; omega) f1 g1 (by decide)
  show (decide (FloatKind.f64.nearest (m : Int) < W64) && okF (Ieee.double.div (FloatKind.f64.nearest (m : Int)) 4679240012837945344)) = true
  rw [near_fi5, e]
  have g3 : Dy.sgn 4679240012837945344 = false := by decide +kernel
  have tp := Dy.top_eq
  rw [f3, g3]
  have hw : Dy.fi m < W64 := f2
  unfold okF
  dsimp only
  rw [decide_eq_true hw]
  have : Dy.word (false ^^ false) (min r Dy.top) < W64 := by
    unfold Dy.word W64
    simp
    omega
  rw [decide_eq_true this]; rfl


theorem dAdd_right (a b : Nat) (up : Bool) : Dy.right (Dy.dAdd a b up).1 = true := by
  unfold Dy.dAdd
  split
  · cases up
    · rw [Dy.out_lo]; split
      · exact Dy.right_enc (Dy.pin_ok _)
      · exact rfl
    · rw [Dy.out_hi]; split
      · exact Dy.right_enc (Dy.pin_ok _)
      · exact rfl
  · exact rfl
/-- A number of an interval is in it. -/
theorem btw_in {p : Int × Int} (hp : Dy.Rk p) (k : Int) : ∃ z, btwB (Dy.enc p.1) (Dy.enc p.2) k = Dy.enc z ∧ p.1 ≤ z ∧ z ≤ p.2 ∧ Dy.ok z := by
  have hle := hp.le
  have l : ∃ z, Dy.enc p.1 = Dy.enc z ∧ p.1 ≤ z ∧ z ≤ p.2 ∧ Dy.ok z := ⟨p.1, rfl, Int.le_refl _, hle, hp.lo⟩
  have h : ∃ z, Dy.enc p.2 = Dy.enc z ∧ p.1 ≤ z ∧ z ≤ p.2 ∧ Dy.ok z := ⟨p.2, rfl, hle, Int.le_refl _, hp.hi⟩
  unfold btwB
  generalize hy : (Dy.dAdd (Dy.enc p.1) (Dy.dMul (Dy.dSub (Dy.enc p.2) (Dy.enc p.1) false).1 (prt k) false).1 false) = y
  have ry : Dy.right y.1 = true := by rw [← hy]; exact dAdd_right _ _ _
  have wy : Dy.W y.1 := by rw [← hy]; exact Dy.dAdd_W _ _ _
  cases (k == 0)
  · cases (k == 65535)
    · simp only [cond_false]
      cases (IntKind.i64.wrap (IntKind.i64.wrap ((Dy.dSub (Dy.enc p.2) (Dy.enc p.1) false).2 + (Dy.dMul (Dy.dSub (Dy.enc p.2) (Dy.enc p.1) false).1 (prt k) false).2) + y.2) != 0)
      · cases hh : Dy.ivHas (Dy.enc p.1, Dy.enc p.2) y.1
        · exact h
        · refine ⟨Dy.dec y.1, (Dy.enc_of_dec wy ry).symm, ?_, ?_, Dy.ok_dec wy ry⟩
          · unfold Dy.ivHas at hh
            rw [Bool.and_eq_true, Bool.and_eq_true] at hh
            have : (Dy.fgt y.1 (Dy.E p).1 || Dy.feq y.1 (Dy.E p).1) = true := hh.1.2
            rw [Dy.fge_dec wy hp.w1 ry hp.r1, decide_eq_true_eq, hp.d1] at this
            exact this
          · unfold Dy.ivHas at hh
            rw [Bool.and_eq_true, Bool.and_eq_true] at hh
            have : (Dy.flt y.1 (Dy.E p).2 || Dy.feq y.1 (Dy.E p).2) = true := hh.2
            rw [Dy.fle_dec wy hp.w2 ry hp.r2, decide_eq_true_eq, hp.d2] at this
            exact this
      · exact h
    · exact h
  · exact l

def MW4 (x y : V4) : Prop := Dy.Wn x.1 y.1 ∧ Dy.Wn x.2.1 y.2.1 ∧ Dy.Wn x.2.2.1 y.2.2.1 ∧ Dy.Wn x.2.2.2 y.2.2.2
theorem wn_z2 : Dy.Wn z2 z2 := ⟨(0, 0), (0, 0), by decide, by decide, ⟨Dy.ok_zero, Dy.ok_zero, Int.le_refl _⟩, ⟨Dy.ok_zero, Dy.ok_zero, Int.le_refl _⟩, Dy.Wi.refl _⟩
theorem cNegM_z (a : Nat × Nat) : (cNegM a).Z := fun _ h => Dy.ask_z h
theorem mf_negM {a a' : Nat × Nat} (h : Dy.Wn a a') : Dy.MF Dy.Wn (cNegM a) (cNegM a') := by
  obtain ⟨p, p', rfl, rfl, hp, hp', w⟩ := h
  intro e he
  have e0 : e = 0 := cNegM_z _ e he
  subst e0
  have g := Dy.got_neg hp; have g' := Dy.got_neg hp'
  show (Dy.cNeg 0 (Dy.E p')).2 = 0 ∧ Dy.Wn (Dy.cNeg 0 (Dy.E p)).1 (Dy.cNeg 0 (Dy.E p')).1
  rw [g.1, g'.1]
  refine ⟨rfl, _, _, rfl, rfl, g.2, g'.2, ?_⟩
  have := w.lo; have := w.hi
  constructor <;> (unfold Dy.rTurned; dsimp only; omega)
theorem vaddM_z (a b c p q r : Nat × Nat) : (vaddM a b c p q r).Z := by
  unfold vaddM
  (repeat (with_reducible first | refine Dy.Cm.Z.bind ?_ (fun _ => ?_) | exact cNegM_z _ | exact Dy.z_num _ | exact Dy.z_add _ _ | exact Dy.z_sub _ _ | exact Dy.z_mul _ _ | exact Dy.z_sqr _ | exact Dy.z_sqrt _ | exact Dy.Cm.Z.pure _))
theorem vaddM_mf {a a' b b' c c' p p' q q' r r' : Nat × Nat} (w_a : Dy.Wn a a') (w_b : Dy.Wn b b') (w_c : Dy.Wn c c') (w_p : Dy.Wn p p') (w_q : Dy.Wn q q') (w_r : Dy.Wn r r') : Dy.MF MW4 (vaddM a b c p q r) (vaddM a' b' c' p' q' r') := by
  unfold vaddM
  refine Dy.MF.bind (R := Dy.Wn) (Dy.mf_add w_a w_p) (fun _ => by (repeat (with_reducible first | refine Dy.Cm.Z.bind ?_ (fun _ => ?_) | exact cNegM_z _ | exact Dy.z_num _ | exact Dy.z_add _ _ | exact Dy.z_sub _ _ | exact Dy.z_mul _ _ | exact Dy.z_sqr _ | exact Dy.z_sqrt _ | exact Dy.Cm.Z.pure _))) (fun x x' w_x => ?_)
  refine Dy.MF.bind (R := Dy.Wn) (Dy.mf_add w_b w_q) (fun _ => by (repeat (with_reducible first | refine Dy.Cm.Z.bind ?_ (fun _ => ?_) | exact cNegM_z _ | exact Dy.z_num _ | exact Dy.z_add _ _ | exact Dy.z_sub _ _ | exact Dy.z_mul _ _ | exact Dy.z_sqr _ | exact Dy.z_sqrt _ | exact Dy.Cm.Z.pure _))) (fun y y' w_y => ?_)
  refine Dy.MF.bind (R := Dy.Wn) (Dy.mf_add w_c w_r) (fun _ => by (repeat (with_reducible first | refine Dy.Cm.Z.bind ?_ (fun _ => ?_) | exact cNegM_z _ | exact Dy.z_num _ | exact Dy.z_add _ _ | exact Dy.z_sub _ _ | exact Dy.z_mul _ _ | exact Dy.z_sqr _ | exact Dy.z_sqrt _ | exact Dy.Cm.Z.pure _))) (fun z z' w_z => ?_)
  exact Dy.MF.pure (⟨w_x, w_y, w_z, wn_z2⟩)
theorem vsubM_z (a b c p q r : Nat × Nat) : (vsubM a b c p q r).Z := by
  unfold vsubM
  (repeat (with_reducible first | refine Dy.Cm.Z.bind ?_ (fun _ => ?_) | exact cNegM_z _ | exact Dy.z_num _ | exact Dy.z_add _ _ | exact Dy.z_sub _ _ | exact Dy.z_mul _ _ | exact Dy.z_sqr _ | exact Dy.z_sqrt _ | exact Dy.Cm.Z.pure _))
theorem vsubM_mf {a a' b b' c c' p p' q q' r r' : Nat × Nat} (w_a : Dy.Wn a a') (w_b : Dy.Wn b b') (w_c : Dy.Wn c c') (w_p : Dy.Wn p p') (w_q : Dy.Wn q q') (w_r : Dy.Wn r r') : Dy.MF MW4 (vsubM a b c p q r) (vsubM a' b' c' p' q' r') := by
  unfold vsubM
  refine Dy.MF.bind (R := Dy.Wn) (Dy.mf_sub w_a w_p) (fun _ => by (repeat (with_reducible first | refine Dy.Cm.Z.bind ?_ (fun _ => ?_) | exact cNegM_z _ | exact Dy.z_num _ | exact Dy.z_add _ _ | exact Dy.z_sub _ _ | exact Dy.z_mul _ _ | exact Dy.z_sqr _ | exact Dy.z_sqrt _ | exact Dy.Cm.Z.pure _))) (fun x x' w_x => ?_)
  refine Dy.MF.bind (R := Dy.Wn) (Dy.mf_sub w_b w_q) (fun _ => by (repeat (with_reducible first | refine Dy.Cm.Z.bind ?_ (fun _ => ?_) | exact cNegM_z _ | exact Dy.z_num _ | exact Dy.z_add _ _ | exact Dy.z_sub _ _ | exact Dy.z_mul _ _ | exact Dy.z_sqr _ | exact Dy.z_sqrt _ | exact Dy.Cm.Z.pure _))) (fun y y' w_y => ?_)
  refine Dy.MF.bind (R := Dy.Wn) (Dy.mf_sub w_c w_r) (fun _ => by (repeat (with_reducible first | refine Dy.Cm.Z.bind ?_ (fun _ => ?_) | exact cNegM_z _ | exact Dy.z_num _ | exact Dy.z_add _ _ | exact Dy.z_sub _ _ | exact Dy.z_mul _ _ | exact Dy.z_sqr _ | exact Dy.z_sqrt _ | exact Dy.Cm.Z.pure _))) (fun z z' w_z => ?_)
  exact Dy.MF.pure (⟨w_x, w_y, w_z, wn_z2⟩)
theorem vnegM_z (a b c : Nat × Nat) : (vnegM a b c).Z := by
  unfold vnegM
  (repeat (with_reducible first | refine Dy.Cm.Z.bind ?_ (fun _ => ?_) | exact cNegM_z _ | exact Dy.z_num _ | exact Dy.z_add _ _ | exact Dy.z_sub _ _ | exact Dy.z_mul _ _ | exact Dy.z_sqr _ | exact Dy.z_sqrt _ | exact Dy.Cm.Z.pure _))
theorem vnegM_mf {a a' b b' c c' : Nat × Nat} (w_a : Dy.Wn a a') (w_b : Dy.Wn b b') (w_c : Dy.Wn c c') : Dy.MF MW4 (vnegM a b c) (vnegM a' b' c') := by
  unfold vnegM
  refine Dy.MF.bind (R := Dy.Wn) (mf_negM w_a) (fun _ => by (repeat (with_reducible first | refine Dy.Cm.Z.bind ?_ (fun _ => ?_) | exact cNegM_z _ | exact Dy.z_num _ | exact Dy.z_add _ _ | exact Dy.z_sub _ _ | exact Dy.z_mul _ _ | exact Dy.z_sqr _ | exact Dy.z_sqrt _ | exact Dy.Cm.Z.pure _))) (fun x x' w_x => ?_)
  refine Dy.MF.bind (R := Dy.Wn) (mf_negM w_b) (fun _ => by (repeat (with_reducible first | refine Dy.Cm.Z.bind ?_ (fun _ => ?_) | exact cNegM_z _ | exact Dy.z_num _ | exact Dy.z_add _ _ | exact Dy.z_sub _ _ | exact Dy.z_mul _ _ | exact Dy.z_sqr _ | exact Dy.z_sqrt _ | exact Dy.Cm.Z.pure _))) (fun y y' w_y => ?_)
  refine Dy.MF.bind (R := Dy.Wn) (mf_negM w_c) (fun _ => by (repeat (with_reducible first | refine Dy.Cm.Z.bind ?_ (fun _ => ?_) | exact cNegM_z _ | exact Dy.z_num _ | exact Dy.z_add _ _ | exact Dy.z_sub _ _ | exact Dy.z_mul _ _ | exact Dy.z_sqr _ | exact Dy.z_sqrt _ | exact Dy.Cm.Z.pure _))) (fun z z' w_z => ?_)
  exact Dy.MF.pure (⟨w_x, w_y, w_z, wn_z2⟩)
theorem vscaleM_z (k a b c : Nat × Nat) : (vscaleM k a b c).Z := by
  unfold vscaleM
  (repeat (with_reducible first | refine Dy.Cm.Z.bind ?_ (fun _ => ?_) | exact cNegM_z _ | exact Dy.z_num _ | exact Dy.z_add _ _ | exact Dy.z_sub _ _ | exact Dy.z_mul _ _ | exact Dy.z_sqr _ | exact Dy.z_sqrt _ | exact Dy.Cm.Z.pure _))
theorem vscaleM_mf {k k' a a' b b' c c' : Nat × Nat} (w_k : Dy.Wn k k') (w_a : Dy.Wn a a') (w_b : Dy.Wn b b') (w_c : Dy.Wn c c') : Dy.MF MW4 (vscaleM k a b c) (vscaleM k' a' b' c') := by
  unfold vscaleM
  refine Dy.MF.bind (R := Dy.Wn) (Dy.mf_mul w_k w_a) (fun _ => by (repeat (with_reducible first | refine Dy.Cm.Z.bind ?_ (fun _ => ?_) | exact cNegM_z _ | exact Dy.z_num _ | exact Dy.z_add _ _ | exact Dy.z_sub _ _ | exact Dy.z_mul _ _ | exact Dy.z_sqr _ | exact Dy.z_sqrt _ | exact Dy.Cm.Z.pure _))) (fun x x' w_x => ?_)
  refine Dy.MF.bind (R := Dy.Wn) (Dy.mf_mul w_k w_b) (fun _ => by (repeat (with_reducible first | refine Dy.Cm.Z.bind ?_ (fun _ => ?_) | exact cNegM_z _ | exact Dy.z_num _ | exact Dy.z_add _ _ | exact Dy.z_sub _ _ | exact Dy.z_mul _ _ | exact Dy.z_sqr _ | exact Dy.z_sqrt _ | exact Dy.Cm.Z.pure _))) (fun y y' w_y => ?_)
  refine Dy.MF.bind (R := Dy.Wn) (Dy.mf_mul w_k w_c) (fun _ => by (repeat (with_reducible first | refine Dy.Cm.Z.bind ?_ (fun _ => ?_) | exact cNegM_z _ | exact Dy.z_num _ | exact Dy.z_add _ _ | exact Dy.z_sub _ _ | exact Dy.z_mul _ _ | exact Dy.z_sqr _ | exact Dy.z_sqrt _ | exact Dy.Cm.Z.pure _))) (fun z z' w_z => ?_)
  exact Dy.MF.pure (⟨w_x, w_y, w_z, wn_z2⟩)
theorem vcrossM_z (a b c p q r : Nat × Nat) : (vcrossM a b c p q r).Z := by
  unfold vcrossM
  (repeat (with_reducible first | refine Dy.Cm.Z.bind ?_ (fun _ => ?_) | exact cNegM_z _ | exact Dy.z_num _ | exact Dy.z_add _ _ | exact Dy.z_sub _ _ | exact Dy.z_mul _ _ | exact Dy.z_sqr _ | exact Dy.z_sqrt _ | exact Dy.Cm.Z.pure _))
theorem vcrossM_mf {a a' b b' c c' p p' q q' r r' : Nat × Nat} (w_a : Dy.Wn a a') (w_b : Dy.Wn b b') (w_c : Dy.Wn c c') (w_p : Dy.Wn p p') (w_q : Dy.Wn q q') (w_r : Dy.Wn r r') : Dy.MF MW4 (vcrossM a b c p q r) (vcrossM a' b' c' p' q' r') := by
  unfold vcrossM
  refine Dy.MF.bind (R := Dy.Wn) (Dy.mf_mul w_b w_r) (fun _ => by (repeat (with_reducible first | refine Dy.Cm.Z.bind ?_ (fun _ => ?_) | exact cNegM_z _ | exact Dy.z_num _ | exact Dy.z_add _ _ | exact Dy.z_sub _ _ | exact Dy.z_mul _ _ | exact Dy.z_sqr _ | exact Dy.z_sqrt _ | exact Dy.Cm.Z.pure _))) (fun x1 x1' w_x1 => ?_)
  refine Dy.MF.bind (R := Dy.Wn) (Dy.mf_mul w_c w_q) (fun _ => by (repeat (with_reducible first | refine Dy.Cm.Z.bind ?_ (fun _ => ?_) | exact cNegM_z _ | exact Dy.z_num _ | exact Dy.z_add _ _ | exact Dy.z_sub _ _ | exact Dy.z_mul _ _ | exact Dy.z_sqr _ | exact Dy.z_sqrt _ | exact Dy.Cm.Z.pure _))) (fun x2 x2' w_x2 => ?_)
  refine Dy.MF.bind (R := Dy.Wn) (Dy.mf_sub w_x1 w_x2) (fun _ => by (repeat (with_reducible first | refine Dy.Cm.Z.bind ?_ (fun _ => ?_) | exact cNegM_z _ | exact Dy.z_num _ | exact Dy.z_add _ _ | exact Dy.z_sub _ _ | exact Dy.z_mul _ _ | exact Dy.z_sqr _ | exact Dy.z_sqrt _ | exact Dy.Cm.Z.pure _))) (fun x x' w_x => ?_)
  refine Dy.MF.bind (R := Dy.Wn) (Dy.mf_mul w_c w_p) (fun _ => by (repeat (with_reducible first | refine Dy.Cm.Z.bind ?_ (fun _ => ?_) | exact cNegM_z _ | exact Dy.z_num _ | exact Dy.z_add _ _ | exact Dy.z_sub _ _ | exact Dy.z_mul _ _ | exact Dy.z_sqr _ | exact Dy.z_sqrt _ | exact Dy.Cm.Z.pure _))) (fun y1 y1' w_y1 => ?_)
  refine Dy.MF.bind (R := Dy.Wn) (Dy.mf_mul w_a w_r) (fun _ => by (repeat (with_reducible first | refine Dy.Cm.Z.bind ?_ (fun _ => ?_) | exact cNegM_z _ | exact Dy.z_num _ | exact Dy.z_add _ _ | exact Dy.z_sub _ _ | exact Dy.z_mul _ _ | exact Dy.z_sqr _ | exact Dy.z_sqrt _ | exact Dy.Cm.Z.pure _))) (fun y2 y2' w_y2 => ?_)
  refine Dy.MF.bind (R := Dy.Wn) (Dy.mf_sub w_y1 w_y2) (fun _ => by (repeat (with_reducible first | refine Dy.Cm.Z.bind ?_ (fun _ => ?_) | exact cNegM_z _ | exact Dy.z_num _ | exact Dy.z_add _ _ | exact Dy.z_sub _ _ | exact Dy.z_mul _ _ | exact Dy.z_sqr _ | exact Dy.z_sqrt _ | exact Dy.Cm.Z.pure _))) (fun y y' w_y => ?_)
  refine Dy.MF.bind (R := Dy.Wn) (Dy.mf_mul w_a w_q) (fun _ => by (repeat (with_reducible first | refine Dy.Cm.Z.bind ?_ (fun _ => ?_) | exact cNegM_z _ | exact Dy.z_num _ | exact Dy.z_add _ _ | exact Dy.z_sub _ _ | exact Dy.z_mul _ _ | exact Dy.z_sqr _ | exact Dy.z_sqrt _ | exact Dy.Cm.Z.pure _))) (fun z1 z1' w_z1 => ?_)
  refine Dy.MF.bind (R := Dy.Wn) (Dy.mf_mul w_b w_p) (fun _ => by (repeat (with_reducible first | refine Dy.Cm.Z.bind ?_ (fun _ => ?_) | exact cNegM_z _ | exact Dy.z_num _ | exact Dy.z_add _ _ | exact Dy.z_sub _ _ | exact Dy.z_mul _ _ | exact Dy.z_sqr _ | exact Dy.z_sqrt _ | exact Dy.Cm.Z.pure _))) (fun z3 z3' w_z3 => ?_)
  refine Dy.MF.bind (R := Dy.Wn) (Dy.mf_sub w_z1 w_z3) (fun _ => by (repeat (with_reducible first | refine Dy.Cm.Z.bind ?_ (fun _ => ?_) | exact cNegM_z _ | exact Dy.z_num _ | exact Dy.z_add _ _ | exact Dy.z_sub _ _ | exact Dy.z_mul _ _ | exact Dy.z_sqr _ | exact Dy.z_sqrt _ | exact Dy.Cm.Z.pure _))) (fun z z' w_z => ?_)
  exact Dy.MF.pure (⟨w_x, w_y, w_z, wn_z2⟩)
theorem vdotM_z (a b c p q r : Nat × Nat) : (vdotM a b c p q r).Z := by
  unfold vdotM
  (repeat (with_reducible first | refine Dy.Cm.Z.bind ?_ (fun _ => ?_) | exact cNegM_z _ | exact Dy.z_num _ | exact Dy.z_add _ _ | exact Dy.z_sub _ _ | exact Dy.z_mul _ _ | exact Dy.z_sqr _ | exact Dy.z_sqrt _ | exact Dy.Cm.Z.pure _))
theorem vdotM_mf {a a' b b' c c' p p' q q' r r' : Nat × Nat} (w_a : Dy.Wn a a') (w_b : Dy.Wn b b') (w_c : Dy.Wn c c') (w_p : Dy.Wn p p') (w_q : Dy.Wn q q') (w_r : Dy.Wn r r') : Dy.MF MW4 (vdotM a b c p q r) (vdotM a' b' c' p' q' r') := by
  unfold vdotM
  refine Dy.MF.bind (R := Dy.Wn) (Dy.mf_mul w_a w_p) (fun _ => by (repeat (with_reducible first | refine Dy.Cm.Z.bind ?_ (fun _ => ?_) | exact cNegM_z _ | exact Dy.z_num _ | exact Dy.z_add _ _ | exact Dy.z_sub _ _ | exact Dy.z_mul _ _ | exact Dy.z_sqr _ | exact Dy.z_sqrt _ | exact Dy.Cm.Z.pure _))) (fun x x' w_x => ?_)
  refine Dy.MF.bind (R := Dy.Wn) (Dy.mf_mul w_b w_q) (fun _ => by (repeat (with_reducible first | refine Dy.Cm.Z.bind ?_ (fun _ => ?_) | exact cNegM_z _ | exact Dy.z_num _ | exact Dy.z_add _ _ | exact Dy.z_sub _ _ | exact Dy.z_mul _ _ | exact Dy.z_sqr _ | exact Dy.z_sqrt _ | exact Dy.Cm.Z.pure _))) (fun y y' w_y => ?_)
  refine Dy.MF.bind (R := Dy.Wn) (Dy.mf_add w_x w_y) (fun _ => by (repeat (with_reducible first | refine Dy.Cm.Z.bind ?_ (fun _ => ?_) | exact cNegM_z _ | exact Dy.z_num _ | exact Dy.z_add _ _ | exact Dy.z_sub _ _ | exact Dy.z_mul _ _ | exact Dy.z_sqr _ | exact Dy.z_sqrt _ | exact Dy.Cm.Z.pure _))) (fun s s' w_s => ?_)
  refine Dy.MF.bind (R := Dy.Wn) (Dy.mf_mul w_c w_r) (fun _ => by (repeat (with_reducible first | refine Dy.Cm.Z.bind ?_ (fun _ => ?_) | exact cNegM_z _ | exact Dy.z_num _ | exact Dy.z_add _ _ | exact Dy.z_sub _ _ | exact Dy.z_mul _ _ | exact Dy.z_sqr _ | exact Dy.z_sqrt _ | exact Dy.Cm.Z.pure _))) (fun z z' w_z => ?_)
  refine Dy.MF.bind (R := Dy.Wn) (Dy.mf_add w_s w_z) (fun _ => by (repeat (with_reducible first | refine Dy.Cm.Z.bind ?_ (fun _ => ?_) | exact cNegM_z _ | exact Dy.z_num _ | exact Dy.z_add _ _ | exact Dy.z_sub _ _ | exact Dy.z_mul _ _ | exact Dy.z_sqr _ | exact Dy.z_sqrt _ | exact Dy.Cm.Z.pure _))) (fun t t' w_t => ?_)
  exact Dy.MF.pure (⟨wn_z2, wn_z2, wn_z2, w_t⟩)
theorem vnormM_z (a b c : Nat × Nat) : (vnormM a b c).Z := by
  unfold vnormM
  (repeat (with_reducible first | refine Dy.Cm.Z.bind ?_ (fun _ => ?_) | exact cNegM_z _ | exact Dy.z_num _ | exact Dy.z_add _ _ | exact Dy.z_sub _ _ | exact Dy.z_mul _ _ | exact Dy.z_sqr _ | exact Dy.z_sqrt _ | exact Dy.Cm.Z.pure _))
theorem vnormM_mf {a a' b b' c c' : Nat × Nat} (w_a : Dy.Wn a a') (w_b : Dy.Wn b b') (w_c : Dy.Wn c c') : Dy.MF MW4 (vnormM a b c) (vnormM a' b' c') := by
  unfold vnormM
  refine Dy.MF.bind (R := Dy.Wn) (Dy.mf_sqr w_a) (fun _ => by (repeat (with_reducible first | refine Dy.Cm.Z.bind ?_ (fun _ => ?_) | exact cNegM_z _ | exact Dy.z_num _ | exact Dy.z_add _ _ | exact Dy.z_sub _ _ | exact Dy.z_mul _ _ | exact Dy.z_sqr _ | exact Dy.z_sqrt _ | exact Dy.Cm.Z.pure _))) (fun x x' w_x => ?_)
  refine Dy.MF.bind (R := Dy.Wn) (Dy.mf_sqr w_b) (fun _ => by (repeat (with_reducible first | refine Dy.Cm.Z.bind ?_ (fun _ => ?_) | exact cNegM_z _ | exact Dy.z_num _ | exact Dy.z_add _ _ | exact Dy.z_sub _ _ | exact Dy.z_mul _ _ | exact Dy.z_sqr _ | exact Dy.z_sqrt _ | exact Dy.Cm.Z.pure _))) (fun y y' w_y => ?_)
  refine Dy.MF.bind (R := Dy.Wn) (Dy.mf_add w_x w_y) (fun _ => by (repeat (with_reducible first | refine Dy.Cm.Z.bind ?_ (fun _ => ?_) | exact cNegM_z _ | exact Dy.z_num _ | exact Dy.z_add _ _ | exact Dy.z_sub _ _ | exact Dy.z_mul _ _ | exact Dy.z_sqr _ | exact Dy.z_sqrt _ | exact Dy.Cm.Z.pure _))) (fun s s' w_s => ?_)
  refine Dy.MF.bind (R := Dy.Wn) (Dy.mf_sqr w_c) (fun _ => by (repeat (with_reducible first | refine Dy.Cm.Z.bind ?_ (fun _ => ?_) | exact cNegM_z _ | exact Dy.z_num _ | exact Dy.z_add _ _ | exact Dy.z_sub _ _ | exact Dy.z_mul _ _ | exact Dy.z_sqr _ | exact Dy.z_sqrt _ | exact Dy.Cm.Z.pure _))) (fun z z' w_z => ?_)
  refine Dy.MF.bind (R := Dy.Wn) (Dy.mf_add w_s w_z) (fun _ => by (repeat (with_reducible first | refine Dy.Cm.Z.bind ?_ (fun _ => ?_) | exact cNegM_z _ | exact Dy.z_num _ | exact Dy.z_add _ _ | exact Dy.z_sub _ _ | exact Dy.z_mul _ _ | exact Dy.z_sqr _ | exact Dy.z_sqrt _ | exact Dy.Cm.Z.pure _))) (fun t t' w_t => ?_)
  refine Dy.MF.bind (R := Dy.Wn) (Dy.mf_sqrt w_t) (fun _ => by (repeat (with_reducible first | refine Dy.Cm.Z.bind ?_ (fun _ => ?_) | exact cNegM_z _ | exact Dy.z_num _ | exact Dy.z_add _ _ | exact Dy.z_sub _ _ | exact Dy.z_mul _ _ | exact Dy.z_sqr _ | exact Dy.z_sqrt _ | exact Dy.Cm.Z.pure _))) (fun n n' w_n => ?_)
  exact Dy.MF.pure (⟨wn_z2, wn_z2, wn_z2, w_n⟩)
theorem mw_cond {b : Bool} {x y x' y' : V4 × Int} (h : x.2 = 0 → x'.2 = 0 ∧ MW4 x.1 x'.1) (k : y.2 = 0 → y'.2 = 0 ∧ MW4 y.1 y'.1) : (bif b then x else y).2 = 0 → (bif b then x' else y').2 = 0 ∧ MW4 (bif b then x else y).1 (bif b then x' else y').1 := by
  cases b
  · exact k
  · exact h
theorem madeG_mf (i : Int) {a b c p q r k a' b' c' p' q' r' : Nat × Nat} (wa : Dy.Wn a a') (wb : Dy.Wn b b') (wc : Dy.Wn c c') (wp : Dy.Wn p p') (wq : Dy.Wn q q') (wr : Dy.Wn r r') (wk : Dy.Wn k k) :
    (madeG i 0 a b c p q r k).2 = 0 → (madeG i 0 a' b' c' p' q' r' k).2 = 0 ∧ MW4 (madeG i 0 a b c p q r k).1 (madeG i 0 a' b' c' p' q' r' k).1 :=
  mw_cond (vaddM_mf wa wb wc wp wq wr 0) (mw_cond (vsubM_mf wa wb wc wp wq wr 0) (mw_cond (vnegM_mf wa wb wc 0) (mw_cond (vscaleM_mf wk wa wb wc 0) (mw_cond (vcrossM_mf wa wb wc wp wq wr 0) (mw_cond (vdotM_mf wa wb wc wp wq wr 0) (vnormM_mf wa wb wc 0))))))
theorem with5_of {a a' : Nat × Nat} (h : Dy.Wn a a') : with5 a a' = true := by
  obtain ⟨p, p', rfl, rfl, hp, hp', w⟩ := h
  show ((Dy.flt (Dy.enc p.1) (Dy.enc p'.1) || Dy.feq (Dy.enc p.1) (Dy.enc p'.1)) && (Dy.flt (Dy.enc p'.2) (Dy.enc p.2) || Dy.feq (Dy.enc p'.2) (Dy.enc p.2))) = true
  rw [Dy.fle_enc hp.lo hp'.lo, Dy.fle_enc hp'.hi hp.hi, decide_eq_true w.lo, decide_eq_true w.hi]; rfl
/-- A sum, less what was added, has what was there. -/
theorem again_of {p q s t : Int × Int} (hp : Dy.Rk p) (hq : Dy.Rk q) (gs : Dy.Got (Dy.cAdd 0 (Dy.E p) (Dy.E q)) s) (gt : Dy.Got (Dy.cSub 0 (Dy.E s) (Dy.E q)) t) : Dy.Wi p t := by
  have lo : ∀ {p : Int × Int}, Dy.Rk p → Dy.Has p (Dy.val p.1) := fun h => ⟨Rat.le_refl, Dy.val_le.2 h.le⟩
  have hi : ∀ {p : Int × Int}, Dy.Rk p → Dy.Has p (Dy.val p.2) := fun h => ⟨Dy.val_le.2 h.le, Rat.le_refl⟩
  have a := Dy.has_sub gs.rk hq gt (Dy.has_add hp hq gs (lo hp) (lo hq)) (lo hq)
  have b := Dy.has_sub gs.rk hq gt (Dy.has_add hp hq gs (hi hp) (lo hq)) (lo hq)
  exact ⟨Dy.val_le.1 (by have := a.lo; grind), Dy.val_le.1 (by have := b.hi; grind)⟩
/-- Where a calculation has no error in the end, each of its steps has an answer. -/
theorem add_got0 {e : Int} {p q : Int × Int} (hp : Dy.Rk p) (hq : Dy.Rk q) (h : (Dy.cAdd e (Dy.E p) (Dy.E q)).2 = 0) : e = 0 ∧ ∃ s, Dy.Got (Dy.cAdd 0 (Dy.E p) (Dy.E q)) s := by
  have e0 : e = 0 := Dy.z_add _ _ e h
  subst e0
  rw [Dy.cAdd_E hp hq] at h ⊢
  obtain ⟨_, k1, k2⟩ := Dy.res_err h
  have a := Dy.V_le_iff.2 hp.le; have b := Dy.V_le_iff.2 hq.le
  exact ⟨rfl, _, Dy.got_of (Int.le_trans (Dy.fl_mono (by decide) (by omega)) (Dy.fl_le_up (by decide))) k1 k2⟩
theorem sub_got0 {e : Int} {p q : Int × Int} (hp : Dy.Rk p) (hq : Dy.Rk q) (h : (Dy.cSub e (Dy.E p) (Dy.E q)).2 = 0) : e = 0 ∧ ∃ s, Dy.Got (Dy.cSub 0 (Dy.E p) (Dy.E q)) s := by
  have e0 : e = 0 := Dy.z_sub _ _ e h
  subst e0
  rw [Dy.cSub_E hp hq] at h ⊢
  obtain ⟨_, k1, k2⟩ := Dy.res_err h
  have a := Dy.V_le_iff.2 hp.le; have b := Dy.V_le_iff.2 hq.le
  exact ⟨rfl, _, Dy.got_of (Int.le_trans (Dy.fl_mono (by decide) (by omega)) (Dy.fl_le_up (by decide))) k1 k2⟩
theorem z_chain {e : Int} {a b : Nat × Nat} (h : (Dy.cSub e a b).2 = 0) : e = 0 := Dy.z_sub a b e h
theorem z_chainA {e : Int} {a b : Nat × Nat} (h : (Dy.cAdd e a b).2 = 0) : e = 0 := Dy.z_add a b e h
theorem ex3n (r : (Nat × Nat) × Int) : ∃ a b c, r = ((a, b), c) := ⟨_, _, _, rfl⟩
end Go.Proofs.Ytikiegcncliocaa
