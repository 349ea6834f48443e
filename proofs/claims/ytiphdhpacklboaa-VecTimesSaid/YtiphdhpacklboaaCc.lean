/- Plain facts: rough surfaces (oren), as programs of a calculator; of lesser intervals comes a lesser one. -/
import Derived.Test.YtiphdhpacklboaaCb
import Derived.Test.YtiphdhpacklboaaLm
namespace Go.Proofs.Ytiphdhpacklboaa
open Go Go.RowKit

theorem w_pi : Dy.Wn (4614256656552045848, 4614256656552045849) (4614256656552045848, 4614256656552045849) := ⟨piZ, piZ, pi_E, pi_E, pi_Rk, pi_Rk, Dy.Wi.refl _⟩
def pairM (sigma : Nat × Nat) : Dy.Cm ((Nat × Nat) × (Nat × Nat)) := do
  let two ← Dy.mNum 4611686018427387904
  let one ← Dy.mNum 4607182418800017408
  let h ← Dy.mDiv (4614256656552045848, 4614256656552045849) two
  let three ← Dy.mNum 4613937818241073152
  let t ← Dy.mDiv two three
  let d ← Dy.mSub h t
  let m ← Dy.mMul d sigma
  let s ← Dy.mAdd (4614256656552045848, 4614256656552045849) m
  let a ← Dy.mDiv one s
  let b ← Dy.mMul sigma a
  pure ((a, b))
theorem pairM_z (sigma : Nat × Nat) : (pairM sigma).Z := by
  unfold pairM
  (repeat (with_reducible first | refine Dy.Cm.Z.bind ?_ (fun _ => ?_) | exact Dy.z_num _ | exact Dy.z_add _ _ | exact Dy.z_sub _ _ | exact Dy.z_mul _ _ | exact Dy.z_div _ _ | exact Dy.z_sqr _ | exact Dy.z_sqrt _ | exact Dy.z_max _ _ | exact Dy.Cm.Z.pure _))
theorem pairM_mf {sigma sigma' : Nat × Nat} (w_sigma : Dy.Wn sigma sigma') : Dy.MF (fun x y => Dy.Wn x.1 y.1 ∧ Dy.Wn x.2 y.2) (pairM sigma) (pairM sigma') := by
  unfold pairM
  refine Dy.MF.bind (R := Dy.Wn) (Dy.mf_num (z := (4611686018427387904 : Int)) (Dy.ok_B (by decide) (by decide)) (by decide)) (fun _ => by (repeat (with_reducible first | refine Dy.Cm.Z.bind ?_ (fun _ => ?_) | exact Dy.z_num _ | exact Dy.z_add _ _ | exact Dy.z_sub _ _ | exact Dy.z_mul _ _ | exact Dy.z_div _ _ | exact Dy.z_sqr _ | exact Dy.z_sqrt _ | exact Dy.z_max _ _ | exact Dy.Cm.Z.pure _))) (fun two two' w_two => ?_)
  refine Dy.MF.bind (R := Dy.Wn) (Dy.mf_num (z := (4607182418800017408 : Int)) (Dy.ok_B (by decide) (by decide)) (by decide)) (fun _ => by (repeat (with_reducible first | refine Dy.Cm.Z.bind ?_ (fun _ => ?_) | exact Dy.z_num _ | exact Dy.z_add _ _ | exact Dy.z_sub _ _ | exact Dy.z_mul _ _ | exact Dy.z_div _ _ | exact Dy.z_sqr _ | exact Dy.z_sqrt _ | exact Dy.z_max _ _ | exact Dy.Cm.Z.pure _))) (fun one one' w_one => ?_)
  refine Dy.MF.bind (R := Dy.Wn) (Dy.mf_div w_pi w_two) (fun _ => by (repeat (with_reducible first | refine Dy.Cm.Z.bind ?_ (fun _ => ?_) | exact Dy.z_num _ | exact Dy.z_add _ _ | exact Dy.z_sub _ _ | exact Dy.z_mul _ _ | exact Dy.z_div _ _ | exact Dy.z_sqr _ | exact Dy.z_sqrt _ | exact Dy.z_max _ _ | exact Dy.Cm.Z.pure _))) (fun h h' w_h => ?_)
  refine Dy.MF.bind (R := Dy.Wn) (Dy.mf_num (z := (4613937818241073152 : Int)) (Dy.ok_B (by decide) (by decide)) (by decide)) (fun _ => by (repeat (with_reducible first | refine Dy.Cm.Z.bind ?_ (fun _ => ?_) | exact Dy.z_num _ | exact Dy.z_add _ _ | exact Dy.z_sub _ _ | exact Dy.z_mul _ _ | exact Dy.z_div _ _ | exact Dy.z_sqr _ | exact Dy.z_sqrt _ | exact Dy.z_max _ _ | exact Dy.Cm.Z.pure _))) (fun three three' w_three => ?_)
  refine Dy.MF.bind (R := Dy.Wn) (Dy.mf_div w_two w_three) (fun _ => by (repeat (with_reducible first | refine Dy.Cm.Z.bind ?_ (fun _ => ?_) | exact Dy.z_num _ | exact Dy.z_add _ _ | exact Dy.z_sub _ _ | exact Dy.z_mul _ _ | exact Dy.z_div _ _ | exact Dy.z_sqr _ | exact Dy.z_sqrt _ | exact Dy.z_max _ _ | exact Dy.Cm.Z.pure _))) (fun t t' w_t => ?_)
  refine Dy.MF.bind (R := Dy.Wn) (Dy.mf_sub w_h w_t) (fun _ => by (repeat (with_reducible first | refine Dy.Cm.Z.bind ?_ (fun _ => ?_) | exact Dy.z_num _ | exact Dy.z_add _ _ | exact Dy.z_sub _ _ | exact Dy.z_mul _ _ | exact Dy.z_div _ _ | exact Dy.z_sqr _ | exact Dy.z_sqrt _ | exact Dy.z_max _ _ | exact Dy.Cm.Z.pure _))) (fun d d' w_d => ?_)
  refine Dy.MF.bind (R := Dy.Wn) (Dy.mf_mul w_d w_sigma) (fun _ => by (repeat (with_reducible first | refine Dy.Cm.Z.bind ?_ (fun _ => ?_) | exact Dy.z_num _ | exact Dy.z_add _ _ | exact Dy.z_sub _ _ | exact Dy.z_mul _ _ | exact Dy.z_div _ _ | exact Dy.z_sqr _ | exact Dy.z_sqrt _ | exact Dy.z_max _ _ | exact Dy.Cm.Z.pure _))) (fun m m' w_m => ?_)
  refine Dy.MF.bind (R := Dy.Wn) (Dy.mf_add w_pi w_m) (fun _ => by (repeat (with_reducible first | refine Dy.Cm.Z.bind ?_ (fun _ => ?_) | exact Dy.z_num _ | exact Dy.z_add _ _ | exact Dy.z_sub _ _ | exact Dy.z_mul _ _ | exact Dy.z_div _ _ | exact Dy.z_sqr _ | exact Dy.z_sqrt _ | exact Dy.z_max _ _ | exact Dy.Cm.Z.pure _))) (fun s s' w_s => ?_)
  refine Dy.MF.bind (R := Dy.Wn) (Dy.mf_div w_one w_s) (fun _ => by (repeat (with_reducible first | refine Dy.Cm.Z.bind ?_ (fun _ => ?_) | exact Dy.z_num _ | exact Dy.z_add _ _ | exact Dy.z_sub _ _ | exact Dy.z_mul _ _ | exact Dy.z_div _ _ | exact Dy.z_sqr _ | exact Dy.z_sqrt _ | exact Dy.z_max _ _ | exact Dy.Cm.Z.pure _))) (fun a a' w_a => ?_)
  refine Dy.MF.bind (R := Dy.Wn) (Dy.mf_mul w_sigma w_a) (fun _ => by (repeat (with_reducible first | refine Dy.Cm.Z.bind ?_ (fun _ => ?_) | exact Dy.z_num _ | exact Dy.z_add _ _ | exact Dy.z_sub _ _ | exact Dy.z_mul _ _ | exact Dy.z_div _ _ | exact Dy.z_sqr _ | exact Dy.z_sqrt _ | exact Dy.z_max _ _ | exact Dy.Cm.Z.pure _))) (fun b b' w_b => ?_)
  exact Dy.MF.pure (⟨w_a, w_b⟩)

def slopeM (i o d : Nat × Nat) : Dy.Cm (Nat × Nat) := do
  let m ← Dy.mMul i o
  let s ← Dy.mSub d m
  if (Dy.flt s.2 0 || Dy.feq s.2 0) = true then pure (Dy.clip 13830554455654793216 4607182418800017408 s)
  else if (Dy.fgt s.1 0 || Dy.feq s.1 0) = true then do
    let x ← Dy.mMax i o
    let q ← Dy.mDiv s x
    pure (Dy.clip 13830554455654793216 4607182418800017408 q)
  else do
    let x ← Dy.mMax i o
    let q ← Dy.mDiv (0, s.2) x
    pure (Dy.clip 13830554455654793216 4607182418800017408 (Dy.iHull (s.1, 0) q))
theorem slopeT_z (i o s : Nat × Nat) : (if (Dy.flt s.2 0 || Dy.feq s.2 0) = true then pure (Dy.clip 13830554455654793216 4607182418800017408 s)
  else if (Dy.fgt s.1 0 || Dy.feq s.1 0) = true then (do
    let x ← Dy.mMax i o
    let q ← Dy.mDiv s x
    pure (Dy.clip 13830554455654793216 4607182418800017408 q))
  else (do
    let x ← Dy.mMax i o
    let q ← Dy.mDiv (0, s.2) x
    pure (Dy.clip 13830554455654793216 4607182418800017408 (Dy.iHull (s.1, 0) q))) : Dy.Cm (Nat × Nat)).Z := by
  refine Dy.z_ite (Dy.Cm.Z.pure _) (Dy.z_ite ?_ ?_)
  · (repeat (with_reducible first | refine Dy.Cm.Z.bind ?_ (fun _ => ?_) | exact Dy.z_num _ | exact Dy.z_add _ _ | exact Dy.z_sub _ _ | exact Dy.z_mul _ _ | exact Dy.z_div _ _ | exact Dy.z_sqr _ | exact Dy.z_sqrt _ | exact Dy.z_max _ _ | exact Dy.Cm.Z.pure _))
  · (repeat (with_reducible first | refine Dy.Cm.Z.bind ?_ (fun _ => ?_) | exact Dy.z_num _ | exact Dy.z_add _ _ | exact Dy.z_sub _ _ | exact Dy.z_mul _ _ | exact Dy.z_div _ _ | exact Dy.z_sqr _ | exact Dy.z_sqrt _ | exact Dy.z_max _ _ | exact Dy.Cm.Z.pure _))
theorem slopeM_z (i o d : Nat × Nat) : (slopeM i o d).Z := by
  unfold slopeM
  exact (Dy.z_mul _ _).bind fun _ => (Dy.z_sub _ _).bind fun _ => slopeT_z _ _ _
theorem fl_0 {d : Nat} {up : Bool} (hd : 0 < d) : Dy.fl 0 d up = 0 := by
  have a : 0 ≤ Dy.fl 0 d false := Dy.fl_nonneg hd (Int.le_refl _)
  have b : Dy.fl 0 d true ≤ 0 := (Dy.fl_up hd).2 (by rw [Dy.V_zero, Int.zero_mul]; exact Int.le_refl _)
  have c := Dy.fl_le_up (num := 0) hd
  cases up <;> omega
theorem divR_0 {y : Int} {up : Bool} (hy : y ≠ 0) : Dy.divR 0 y up = 0 := by
  have vy : 0 < (Dy.V y).natAbs := by
    have : Dy.V y ≠ 0 := fun h => hy (Dy.V_eq_zero.1 h)
    omega
  unfold Dy.divR
  rw [Dy.V_zero, Int.zero_mul, Int.neg_zero]; simp [fl_0 vy]
theorem rk_zero : Dy.Rk (0, 0) := ⟨Dy.ok_zero, Dy.ok_zero, Int.le_refl _⟩
theorem nz_of {q s : Int × Int} {p : Int × Int} (hp : Dy.Rk p) (hq : Dy.Rk q) (h : Dy.Got (Dy.cDiv 0 (Dy.E p) (Dy.E q)) s) : Dy.nz0 q := by
  by_cases h0 : Dy.nz0 q
  · exact h0
  · rw [Dy.cDiv_zero hp hq h0] at h; exact absurd h.e0 (by decide)
/-- A quotient of 0. -/
theorem div_0 {q : Int × Int} (hq : Dy.Rk q) (h0 : Dy.nz0 q) : Dy.Got (Dy.cDiv 0 (Dy.E (0, 0)) (Dy.E q)) (0, 0) := by
  have hl := hq.le
  have n1 : q.1 ≠ 0 := by unfold Dy.nz0 at h0; omega
  have n2 : q.2 ≠ 0 := by unfold Dy.nz0 at h0; omega
  rw [Dy.cDiv_E rk_zero hq h0]
  have e1 : Dy.lo4 Dy.divR (0, 0) q = 0 := by unfold Dy.lo4; simp only [divR_0 n1, divR_0 n2]; decide
  have e2 : Dy.hi4 Dy.divR (0, 0) q = 0 := by unfold Dy.hi4; simp only [divR_0 n1, divR_0 n2]; decide
  rw [e1, e2]
  exact Dy.got_ok (Int.le_refl _) Dy.ok_zero Dy.ok_zero
/-- Of what is not below 0, by what is not, no quotient is. -/
theorem div_nn {p q s : Int × Int} (hp : Dy.Rk p) (hq : Dy.Rk q) (p0 : 0 ≤ p.1) (q0 : 0 ≤ q.1) (h : Dy.Got (Dy.cDiv 0 (Dy.E p) (Dy.E q)) s) : 0 ≤ s.1 := by
  have h0 := nz_of hp hq h
  have hl := hq.le
  have hpl := hp.le
  have y1 : 0 < q.1 := by unfold Dy.nz0 at h0; omega
  have y2 : 0 < q.2 := by omega
  rw [Dy.cDiv_E hp hq h0] at h
  have d : ∀ x y, 0 ≤ x → 0 < y → 0 ≤ Dy.divR x y false := fun x y hx hy => by
    have vy := Dy.V_pos.2 hy
    rw [Dy.divR_pos hy]
    exact Dy.fl_nonneg (by omega) (Int.mul_nonneg (Dy.V_nonneg.2 hx) (by have := Dy.one_pos'; omega))
  have l : 0 ≤ Dy.lo4 Dy.divR p q := Dy.le_lo4 (d _ _ p0 y1) (d _ _ p0 y2) (d _ _ (by omega) y1) (d _ _ (by omega) y2)
  obtain ⟨_, c1, c2⟩ := Dy.res_err (congrArg (·.2) h.1)
  have lh : Dy.lo4 Dy.divR p q ≤ Dy.hi4 Dy.divR p q := by
    have := Dy.divR_le (a := p.1) (b := q.1) (by omega)
    unfold Dy.lo4 Dy.hi4; omega
  have := (Dy.got_of lh c1 c2).uniq h
  rw [← this]
  show 0 ≤ Dy.pin _
  unfold Dy.pin
  have := Dy.top_eq
  omega
theorem kept_w {p q : Int × Int} (hp : Dy.Rk p) (hq : Dy.Rk q) (w : Dy.Wi q p) : Dy.Wn (Dy.clip 13830554455654793216 4607182418800017408 (Dy.E p)) (Dy.clip 13830554455654793216 4607182418800017408 (Dy.E q)) :=
  Dy.wn_clip (x := (-4607182418800017408 : Int)) (y := (4607182418800017408 : Int)) (Dy.ok_neg (Dy.ok_B (by decide) (by decide))) (Dy.ok_B (by decide) (by decide)) (by decide) (by decide) ⟨p, q, rfl, rfl, hp, hq, w⟩
theorem pos_enc {p : Int × Int} (hp : Dy.Rk p) : (Dy.flt (Dy.E p).2 0 || Dy.feq (Dy.E p).2 0) = decide (p.2 ≤ 0) ∧ (Dy.fgt (Dy.E p).1 0 || Dy.feq (Dy.E p).1 0) = decide (0 ≤ p.1) :=
  ⟨Dy.fle_enc hp.hi Dy.ok_zero, Dy.fge_enc hp.lo Dy.ok_zero⟩
set_option maxHeartbeats 4000000 in
theorem slopeM_mf {i i' o o' d d' : Nat × Nat} (wi : Dy.Wn i i') (wo : Dy.Wn o o') (wd : Dy.Wn d d') (hi : ∀ p, i = Dy.E p → Dy.Rk p → 0 ≤ p.1) (ho : ∀ p, o = Dy.E p → Dy.Rk p → 0 ≤ p.1) : Dy.MF Dy.Wn (slopeM i o d) (slopeM i' o' d') := by
  unfold slopeM
  refine Dy.MF.bind (Dy.mf_mul wi wo) (fun _ => (Dy.z_sub _ _).bind fun _ => slopeT_z _ _ _) fun m m' wm => ?_
  refine Dy.MF.bind (Dy.mf_sub wd wm) (fun _ => slopeT_z _ _ _) fun s s' ws => ?_
  obtain ⟨p, p', rfl, rfl, hp, hp', w⟩ := ws
  rw [(pos_enc hp).1, (pos_enc hp).2, (pos_enc hp').1, (pos_enc hp').2]
  have a := w.lo; have b := w.hi; have c := hp.le; have c' := hp'.le
  obtain ⟨x, x', rfl, rfl, hx, hx', wx⟩ := wi
  obtain ⟨y, y', rfl, rfl, hy, hy', wy⟩ := wo
  have x0 := hi x rfl hx
  have y0 := ho y rfl hy
  have a1 := wx.lo; have b1 := wx.hi; have a2 := wy.lo; have b2 := wy.hi
  have gm := Dy.got_max hx hy
  have gm' := Dy.got_max hx' hy'
  have wm : Dy.Wi (Dy.rMax x' y') (Dy.rMax x y) := ⟨by unfold Dy.rMax; dsimp only; omega, by unfold Dy.rMax; dsimp only; omega⟩
  have m0 : 0 ≤ (Dy.rMax x y).1 := by unfold Dy.rMax; dsimp only; omega
  have m0' : 0 ≤ (Dy.rMax x' y').1 := by unfold Dy.rMax; dsimp only; omega
  generalize Dy.rMax x y = M at *
  generalize Dy.rMax x' y' = M' at *
  by_cases h1 : p.2 ≤ 0
  · rw [decide_eq_true h1, decide_eq_true (show p'.2 ≤ 0 by omega), if_pos rfl, if_pos rfl]
    exact Dy.MF.pure (kept_w hp hp' w)
  · rw [decide_eq_false h1, if_neg (by decide)]
    by_cases h2 : 0 ≤ p.1
    · rw [decide_eq_true h2, if_pos rfl]
      intro e he
      have e0 : e = 0 := Dy.Cm.Z.bind (Dy.z_max _ _) (fun _ => Dy.Cm.Z.bind (Dy.z_div _ _) fun _ => Dy.Cm.Z.pure _) e he
      subst e0
      have he' : (Dy.cDiv (Dy.cMax 0 (Dy.E x) (Dy.E y)).2 (Dy.E p) (Dy.cMax 0 (Dy.E x) (Dy.E y)).1).2 = 0 := he
      rw [gm.1] at he'
      obtain ⟨s, hs⟩ := Dy.got_of_good (Dy.good_div gm.rk.E_W) he'
      have v : ((do let x ← Dy.mMax (Dy.E x) (Dy.E y); let q ← Dy.mDiv (Dy.E p) x; pure (Dy.clip 13830554455654793216 4607182418800017408 q) : Dy.Cm (Nat × Nat)) 0).1 = Dy.clip 13830554455654793216 4607182418800017408 (Dy.E s) := by
        show Dy.clip 13830554455654793216 4607182418800017408 (Dy.cDiv (Dy.cMax 0 (Dy.E x) (Dy.E y)).2 (Dy.E p) (Dy.cMax 0 (Dy.E x) (Dy.E y)).1).1 = _
        rw [gm.1]; show Dy.clip 13830554455654793216 4607182418800017408 (Dy.cDiv 0 (Dy.E p) (Dy.E M)).1 = _; rw [hs.1]
      rw [v]
      by_cases h3 : p'.2 ≤ 0
      · rw [decide_eq_true h3, if_pos rfl]
        refine ⟨rfl, kept_w hs.rk hp' ?_⟩
        have g0 := div_0 gm.rk (nz_of hp gm.rk hs)
        obtain ⟨s', hs', ws⟩ := Dy.mono_div hp gm.rk rk_zero gm.rk ⟨by dsimp only; omega, by dsimp only; omega⟩ (Dy.Wi.refl _) hs
        have := hs'.uniq g0
        subst this
        have q1 := ws.lo; have q2 := ws.hi
        dsimp only at q1 q2
        exact ⟨by omega, by omega⟩
      · rw [decide_eq_false h3, if_neg (by decide), decide_eq_true (show 0 ≤ p'.1 by omega), if_pos rfl]
        obtain ⟨s', hs', ws⟩ := Dy.mono_div hp gm.rk hp' gm'.rk w wm hs
        show (Dy.cDiv (Dy.cMax 0 (Dy.E x') (Dy.E y')).2 (Dy.E p') (Dy.cMax 0 (Dy.E x') (Dy.E y')).1).2 = 0 ∧ Dy.Wn _ (Dy.clip 13830554455654793216 4607182418800017408 (Dy.cDiv (Dy.cMax 0 (Dy.E x') (Dy.E y')).2 (Dy.E p') (Dy.cMax 0 (Dy.E x') (Dy.E y')).1).1)
        rw [gm'.1]
        show (Dy.cDiv 0 (Dy.E p') (Dy.E M')).2 = 0 ∧ Dy.Wn _ (Dy.clip 13830554455654793216 4607182418800017408 (Dy.cDiv 0 (Dy.E p') (Dy.E M')).1)
        rw [hs'.1]
        exact ⟨rfl, kept_w hs.rk hs'.rk ws⟩
    · rw [decide_eq_false h2, if_neg (by decide)]
      have hP : Dy.Rk (0, p.2) := ⟨Dy.ok_zero, hp.hi, by dsimp only; omega⟩
      have hL : Dy.Rk (p.1, 0) := ⟨hp.lo, Dy.ok_zero, by dsimp only; omega⟩
      intro e he
      have e0 : e = 0 := Dy.Cm.Z.bind (Dy.z_max _ _) (fun _ => Dy.Cm.Z.bind (Dy.z_div _ _) fun _ => Dy.Cm.Z.pure _) e he
      subst e0
      have he' : (Dy.cDiv (Dy.cMax 0 (Dy.E x) (Dy.E y)).2 (Dy.E (0, p.2)) (Dy.cMax 0 (Dy.E x) (Dy.E y)).1).2 = 0 := he
      rw [gm.1] at he'
      obtain ⟨s, hs⟩ := Dy.got_of_good (Dy.good_div gm.rk.E_W) he'
      have s0 := div_nn hP gm.rk (Int.le_refl _) m0 hs
      have v : ((do let x ← Dy.mMax (Dy.E x) (Dy.E y); let q ← Dy.mDiv (0, (Dy.E p).2) x; pure (Dy.clip 13830554455654793216 4607182418800017408 (Dy.iHull ((Dy.E p).1, 0) q)) : Dy.Cm (Nat × Nat)) 0).1 = Dy.clip 13830554455654793216 4607182418800017408 (Dy.E (min p.1 s.1, max 0 s.2)) := by
        show Dy.clip 13830554455654793216 4607182418800017408 (Dy.iHull (Dy.E (p.1, 0)) (Dy.cDiv (Dy.cMax 0 (Dy.E x) (Dy.E y)).2 (Dy.E (0, p.2)) (Dy.cMax 0 (Dy.E x) (Dy.E y)).1).1) = _
        rw [gm.1]; show Dy.clip 13830554455654793216 4607182418800017408 (Dy.iHull (Dy.E (p.1, 0)) (Dy.cDiv 0 (Dy.E (0, p.2)) (Dy.E M)).1) = _; rw [hs.1, Dy.iHull_E hL hs.rk]
      have rH : Dy.Rk (min p.1 s.1, max 0 s.2) := hL.hull hs.rk
      have sl := hs.rk.le
      rw [v]
      by_cases h3 : p'.2 ≤ 0
      · rw [decide_eq_true h3, if_pos rfl]
        exact ⟨rfl, kept_w rH hp' ⟨by dsimp only; omega, by dsimp only; omega⟩⟩
      · rw [decide_eq_false h3, if_neg (by decide)]
        by_cases h4 : 0 ≤ p'.1
        · rw [decide_eq_true h4, if_pos rfl]
          obtain ⟨s', hs', ws⟩ := Dy.mono_div hP gm.rk hp' gm'.rk ⟨by dsimp only; omega, by dsimp only; omega⟩ wm hs
          have q1 := ws.lo; have q2 := ws.hi
          show (Dy.cDiv (Dy.cMax 0 (Dy.E x') (Dy.E y')).2 (Dy.E p') (Dy.cMax 0 (Dy.E x') (Dy.E y')).1).2 = 0 ∧ Dy.Wn _ (Dy.clip 13830554455654793216 4607182418800017408 (Dy.cDiv (Dy.cMax 0 (Dy.E x') (Dy.E y')).2 (Dy.E p') (Dy.cMax 0 (Dy.E x') (Dy.E y')).1).1)
          rw [gm'.1]
          show (Dy.cDiv 0 (Dy.E p') (Dy.E M')).2 = 0 ∧ Dy.Wn _ (Dy.clip 13830554455654793216 4607182418800017408 (Dy.cDiv 0 (Dy.E p') (Dy.E M')).1)
          rw [hs'.1]
          exact ⟨rfl, kept_w rH hs'.rk ⟨by dsimp only; omega, by dsimp only; omega⟩⟩
        · rw [decide_eq_false h4, if_neg (by decide)]
          have hP' : Dy.Rk (0, p'.2) := ⟨Dy.ok_zero, hp'.hi, by dsimp only; omega⟩
          have hL' : Dy.Rk (p'.1, 0) := ⟨hp'.lo, Dy.ok_zero, by dsimp only; omega⟩
          obtain ⟨s', hs', ws⟩ := Dy.mono_div hP gm.rk hP' gm'.rk ⟨by dsimp only; omega, by dsimp only; omega⟩ wm hs
          have q1 := ws.lo; have q2 := ws.hi
          show (Dy.cDiv (Dy.cMax 0 (Dy.E x') (Dy.E y')).2 (Dy.E (0, p'.2)) (Dy.cMax 0 (Dy.E x') (Dy.E y')).1).2 = 0 ∧ Dy.Wn _ (Dy.clip 13830554455654793216 4607182418800017408 (Dy.iHull (Dy.E (p'.1, 0)) (Dy.cDiv (Dy.cMax 0 (Dy.E x') (Dy.E y')).2 (Dy.E (0, p'.2)) (Dy.cMax 0 (Dy.E x') (Dy.E y')).1).1))
          rw [gm'.1]
          show (Dy.cDiv 0 (Dy.E (0, p'.2)) (Dy.E M')).2 = 0 ∧ Dy.Wn _ (Dy.clip 13830554455654793216 4607182418800017408 (Dy.iHull (Dy.E (p'.1, 0)) (Dy.cDiv 0 (Dy.E (0, p'.2)) (Dy.E M')).1))
          rw [hs'.1]
          refine ⟨rfl, ?_⟩
          show Dy.Wn _ (Dy.clip 13830554455654793216 4607182418800017408 (Dy.iHull (Dy.E (p'.1, 0)) (Dy.E s')))
          rw [Dy.iHull_E hL' hs'.rk]
          have sl' := hs'.rk.le
          exact kept_w rH (hL'.hull hs'.rk) ⟨by dsimp only; omega, by dsimp only; omega⟩
/-- A value. -/
def orenM (rho sigma i o d : Nat × Nat) : Dy.Cm (Nat × Nat) := do
  let s ← slopeM i o d
  let ab ← pairM sigma
  let m ← Dy.mMul ab.2 s
  let a ← Dy.mAdd ab.1 m
  let v ← Dy.mMul rho a
  pure (Dy.clip 0 4607182418800017408 v)
theorem orenM_mf {rho rho' sigma sigma' i i' o o' d d' : Nat × Nat} (wr : Dy.Wn rho rho') (wg : Dy.Wn sigma sigma') (wi : Dy.Wn i i') (wo : Dy.Wn o o') (wd : Dy.Wn d d') (hi : ∀ p, i = Dy.E p → Dy.Rk p → 0 ≤ p.1) (ho : ∀ p, o = Dy.E p → Dy.Rk p → 0 ≤ p.1) : Dy.MF Dy.Wn (orenM rho sigma i o d) (orenM rho' sigma' i' o' d') := by
  unfold orenM
  refine Dy.MF.bind (slopeM_mf wi wo wd hi ho) (fun _ => (pairM_z _).bind fun _ => by (repeat (with_reducible first | refine Dy.Cm.Z.bind ?_ (fun _ => ?_) | exact Dy.z_num _ | exact Dy.z_add _ _ | exact Dy.z_sub _ _ | exact Dy.z_mul _ _ | exact Dy.z_div _ _ | exact Dy.z_sqr _ | exact Dy.z_sqrt _ | exact Dy.z_max _ _ | exact Dy.Cm.Z.pure _))) fun s s' ws => ?_
  refine Dy.MF.bind (pairM_mf wg) (fun _ => by (repeat (with_reducible first | refine Dy.Cm.Z.bind ?_ (fun _ => ?_) | exact Dy.z_num _ | exact Dy.z_add _ _ | exact Dy.z_sub _ _ | exact Dy.z_mul _ _ | exact Dy.z_div _ _ | exact Dy.z_sqr _ | exact Dy.z_sqrt _ | exact Dy.z_max _ _ | exact Dy.Cm.Z.pure _))) fun ab ab' wab => ?_
  refine Dy.MF.bind (Dy.mf_mul wab.2 ws) (fun _ => by (repeat (with_reducible first | refine Dy.Cm.Z.bind ?_ (fun _ => ?_) | exact Dy.z_num _ | exact Dy.z_add _ _ | exact Dy.z_sub _ _ | exact Dy.z_mul _ _ | exact Dy.z_div _ _ | exact Dy.z_sqr _ | exact Dy.z_sqrt _ | exact Dy.z_max _ _ | exact Dy.Cm.Z.pure _))) fun m m' wm => ?_
  refine Dy.MF.bind (Dy.mf_add wab.1 wm) (fun _ => by (repeat (with_reducible first | refine Dy.Cm.Z.bind ?_ (fun _ => ?_) | exact Dy.z_num _ | exact Dy.z_add _ _ | exact Dy.z_sub _ _ | exact Dy.z_mul _ _ | exact Dy.z_div _ _ | exact Dy.z_sqr _ | exact Dy.z_sqrt _ | exact Dy.z_max _ _ | exact Dy.Cm.Z.pure _))) fun a a' wa => ?_
  refine Dy.MF.bind (Dy.mf_mul wr wa) (fun _ => by (repeat (with_reducible first | refine Dy.Cm.Z.bind ?_ (fun _ => ?_) | exact Dy.z_num _ | exact Dy.z_add _ _ | exact Dy.z_sub _ _ | exact Dy.z_mul _ _ | exact Dy.z_div _ _ | exact Dy.z_sqr _ | exact Dy.z_sqrt _ | exact Dy.z_max _ _ | exact Dy.Cm.Z.pure _))) fun v v' wv => ?_
  exact Dy.MF.pure (Dy.wn_clip (x := 0) (y := (4607182418800017408 : Int)) Dy.ok_zero (Dy.ok_B (by decide) (by decide)) rfl (by decide) wv)
end Go.Proofs.Ytiphdhpacklboaa
