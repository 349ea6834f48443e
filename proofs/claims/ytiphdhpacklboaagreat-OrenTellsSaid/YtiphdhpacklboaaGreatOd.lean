/- Plain: what burnishref08 tells is what oren tells. -/
import Derived.Test.YtiphdhpacklboaaGreatOc
namespace Go.Proofs.YtiphdhpacklboaaGreat
open Go Go.RowKit
def S {α : Type} (x : Dy.Cm α) : Prop := ∀ e, e ≠ 0 → (x e).2 = e
theorem S.bind {α β : Type} {x : Dy.Cm α} {k : α → Dy.Cm β} (h : S x) (hk : ∀ a, S (k a)) : S (x >>= k) := fun e he => by
 show (k (x e).1 (x e).2).2 = e
 rw [h e he]; exact hk _ e he
theorem s_pure {α : Type} (a : α) : S (pure a : Dy.Cm α) := fun e _ => rfl
theorem s_ite {α : Type} {b : Bool} {x y : Dy.Cm α} (hx : S x) (hy : S y) : S (if b = true then x else y) := by cases b; exact hy; exact hx
theorem s_ask {c : Int} (r : Bool) (x : (Nat × Nat) × Int) (h : c ≠ 0) : (Dy.cAsk c r x).2 = c := by rw [ask_no.1 h]
theorem s_num (x : Nat) : S (Dy.mNum x) := fun e h => s_ask _ _ h
theorem s_add (a b : Nat × Nat) : S (Dy.mAdd a b) := fun e h => s_ask _ _ h
theorem s_sub (a b : Nat × Nat) : S (Dy.mSub a b) := fun e h => s_ask _ _ h
theorem s_mul (a b : Nat × Nat) : S (Dy.mMul a b) := fun e h => s_ask _ _ h
theorem s_div (a b : Nat × Nat) : S (Dy.mDiv a b) := fun e h => s_ask _ _ h
theorem s_max (a b : Nat × Nat) : S (Dy.mMax a b) := fun e h => s_ask _ _ h
theorem s_sqr (a : Nat × Nat) : S (Dy.mSqr a) := fun e h => s_ask _ _ h
theorem s_sqrt (a : Nat × Nat) : S (Dy.mSqrt a) := fun e h => s_ask _ _ h
def Eqv {α : Type} (r s : α × Int) : Prop := r = s ∨ (r.2 ≠ 0 ∧ r.2 = s.2)
theorem eqv_l {α : Type} {r r' s : α × Int} (e : r = r') (h : Eqv r' s) : Eqv r s := e ▸ h
theorem eqv_r {α : Type} {r s s' : α × Int} (e : s = s') (h : Eqv r s') : Eqv r s := e ▸ h
theorem eqv_bind {α β : Type} {m : Dy.Cm α} {k l : α → Dy.Cm β} (h : ∀ a, m 0 = (a, 0) → Eqv (k a 0) (l a 0)) (hk : ∀ a, S (k a)) (hl : ∀ a, S (l a)) : Eqv ((m >>= k) 0) ((m >>= l) 0) := by
 show Eqv (k (m 0).1 (m 0).2) (l (m 0).1 (m 0).2)
 by_cases e : (m 0).2 = 0
 ·rw [e]; exact h _ (Prod.ext rfl e)
 ·exact Or.inr ⟨by rw [hk _ _ e]; exact e, by rw [hk _ _ e, hl _ _ e]⟩
theorem told_eqv {r s : (Nat × Nat) × Int} (h : Eqv r s) : Dy.told r = Dy.told s := by
 rcases h with rfl | ⟨h, e⟩
 ·rfl
 ·unfold Dy.told
  rw [if_pos (by simpa using h), if_pos (by rw [← e]; simpa using h), e]
theorem eqv_ok {α : Type} {r s : α × Int} (h : Eqv r s) (e : s.2 = 0) : r = s := by
 rcases h with h | ⟨h, k⟩
 ·exact h
 ·exact absurd (k.trans e) h
theorem told_ok {r : (Nat × Nat) × Int} (h : r.2 = 0) : Dy.told r = (r.1, 0) := by unfold Dy.told; rw [if_neg (by simp [h])]
theorem told_no {r : (Nat × Nat) × Int} (h : r.2 ≠ 0) : Dy.told r = ((0, 0), r.2) := by unfold Dy.told; rw [if_pos (by simpa using h)]
theorem num460718 : Dy.cNum 0 4607182418800017408 = ((4607182418800017408, 4607182418800017408), 0) := by decide +kernel
theorem num461393 : Dy.cNum 0 4613937818241073152 = ((4613937818241073152, 4613937818241073152), 0) := by decide +kernel
theorem num461168 : Dy.cNum 0 4611686018427387904 = ((4611686018427387904, 4611686018427387904), 0) := by decide +kernel
theorem wiT {a : Nat × Nat} (ha : Dy.WW a) (r : Dy.ivR a = true) {l h : Nat} (wl : Dy.W l) (wh : Dy.W h) (rl : Dy.right l = true) (rh : Dy.right h = true) : withT a l h = wiB l h a := by
 obtain ⟨r1, r2, -⟩ := Dy.ivR_of r
 unfold withT wiB
 rw [Dy.fge_dec ha.1 wl r1 rl, Dy.fle_dec ha.2 wh r2 rh, Dy.flt_dec ha.1 wl r1 rl, Dy.fgt_dec ha.2 wh r2 rh, Bool.eq_iff_iff]
 simp
theorem wr0 : Dy.W 0 ∧ Dy.right 0 = true := ⟨by unfold Dy.W; decide, by decide +kernel⟩
theorem wrO : Dy.W 4607182418800017408 ∧ Dy.right 4607182418800017408 = true := ⟨by unfold Dy.W; decide, by decide +kernel⟩
theorem wrN : Dy.W 13830554455654793216 ∧ Dy.right 13830554455654793216 = true := ⟨by unfold Dy.W; decide, by decide +kernel⟩
theorem wi0 {a : Nat × Nat} (ha : Dy.WW a) (r : Dy.ivR a = true) : withT a 0 4607182418800017408 = wiB 0 4607182418800017408 a := wiT ha r wr0.1 wrO.1 wr0.2 wrO.2
theorem wiN {a : Nat × Nat} (ha : Dy.WW a) (r : Dy.ivR a = true) : withT a 13830554455654793216 4607182418800017408 = wiB 13830554455654793216 4607182418800017408 a := wiT ha r wrN.1 wrO.1 wrN.2 wrO.2
theorem ok_O : Dy.ok (4607182418800017408 : Int) := Dy.ok_B (by decide) (by decide)
theorem ok_N : Dy.ok (-4607182418800017408 : Int) := Dy.ok_neg ok_O
theorem wn_01 {a : Nat × Nat} (ha : Dy.WW a) (r : Dy.ivR a = true) (h : wiB 0 4607182418800017408 a = true) : Dy.Wn (0, 4607182418800017408) a := by
 obtain ⟨r1, r2, r3⟩ := Dy.ivR_of r
 have e2 : (4607182418800017408 : Nat) = Dy.enc 4607182418800017408 := by decide
 unfold wiB at h
 rw [Dy.flt_dec ha.1 wr0.1 r1 wr0.2, Dy.fgt_dec ha.2 wrO.1 r2 wrO.2, Dy.dec_zero, e2, Dy.dec_enc ok_O] at h
 simp at h
 refine ⟨(0, 4607182418800017408), (Dy.dec a.1, Dy.dec a.2), ?_, ?_, ⟨Dy.ok_zero, ok_O, by decide⟩, ⟨Dy.ok_dec ha.1 r1, Dy.ok_dec ha.2 r2, r3⟩, h.1, h.2⟩
 ·show ((0 : Nat), (4607182418800017408 : Nat)) = (Dy.enc 0, Dy.enc _); rw [← e2]; rfl
 ·show a = (Dy.enc (Dy.dec a.1), Dy.enc (Dy.dec a.2)); rw [Dy.enc_of_dec ha.1 r1, Dy.enc_of_dec ha.2 r2]
theorem pair_eqv (a : Nat × Nat) : Eqv (pairR a 0) (pairM a 0) := by
 unfold pairR pairM
 refine eqv_l (Dy.cs_num num461168) ?_
 refine eqv_r (Dy.cs_num num461168) ?_
 refine eqv_r (Dy.cs_num num460718) ?_
 refine eqv_bind (fun x1 h1 => ?_) ?_ ?_
 refine eqv_l (Dy.cs_num num461168) ?_
 refine eqv_l (Dy.cs_num num461393) ?_
 refine eqv_r (Dy.cs_num num461393) ?_
 refine eqv_bind (fun x2 h2 => ?_) ?_ ?_
 refine eqv_bind (fun x3 h3 => ?_) ?_ ?_
 refine eqv_l (Dy.cs_num num460718) ?_
 refine eqv_bind (fun x4 h4 => ?_) ?_ ?_
 refine eqv_bind (fun x5 h5 => ?_) ?_ ?_
 refine eqv_bind (fun x6 h6 => ?_) ?_ ?_
 refine eqv_bind (fun x7 h7 => ?_) ?_ ?_
 exact Or.inl rfl
 all_goals exact fun _ => by (repeat (with_reducible first | refine S.bind ?_ (fun _ => ?_) | refine s_ite ?_ ?_ | exact s_num _ | exact s_add _ _ | exact s_sub _ _ | exact s_mul _ _ | exact s_div _ _ | exact s_sqr _ | exact s_sqrt _ | exact s_max _ _ | exact s_pure _))
theorem pair_no : (pairM (0, 4607182418800017408) 0).2 = 0 := by decide +kernel
theorem pair_mf {a : Nat × Nat} (w : Dy.Wn (0, 4607182418800017408) a) : (pairM a 0).2 = 0 ∧ Dy.Wn (pairM (0, 4607182418800017408) 0).1.1 (pairM a 0).1.1 ∧ Dy.Wn (pairM (0, 4607182418800017408) 0).1.2 (pairM a 0).1.2 := pairM_mf w 0 pair_no
theorem slope_eqv {i o d : Nat × Nat} (hi : Dy.WW i) (ho : Dy.WW o) : Eqv (slopeR i o d 0) (slopeM i o d 0) := by
 unfold slopeR slopeM
 refine eqv_bind (fun x1 h1 => ?_) ?_ ?_
 ·have g1 := Dy.good_mul (a := i) (b := o) (err := 0)
  rw [show Dy.cMul 0 i o = (x1, 0) from h1] at g1
  refine eqv_bind (fun x2 h2 => ?_) ?_ ?_
  ·have g2 := Dy.good_sub (a := d) (b := x1) g1.1 (err := 0)
   rw [show Dy.cSub 0 d x1 = (x2, 0) from h2] at g2
   obtain ⟨⟨w1, w2⟩, g3⟩ := g2
   obtain ⟨r1, r2, r3⟩ := Dy.ivR_of g3
   dsimp only at w1 w2 r1 r2 r3
   have f1 : Dy.fgt x2.2 0 = decide (0 < Dy.dec x2.2) := (Dy.fgt_dec w2 wr0.1 r2 wr0.2).trans (by rw [Dy.dec_zero])
   have f2 : (Dy.flt x2.2 0 || Dy.feq x2.2 0) = decide (Dy.dec x2.2 ≤ 0) := (Dy.fle_dec w2 wr0.1 r2 wr0.2).trans (by rw [Dy.dec_zero])
   rw [f1, f2]
   by_cases c : 0 < Dy.dec x2.2
   ·rw [if_pos (decide_eq_true c), if_neg (by simp; omega)]
    cases c2 : (Dy.fgt x2.1 0 || Dy.feq x2.1 0) with
    | true =>
     rw [if_pos rfl]
     refine eqv_bind (fun x3 h3 => ?_) ?_ ?_
     ·rw [if_pos rfl]; exact Or.inl rfl
     all_goals exact fun _ => by (repeat (with_reducible first | refine S.bind ?_ (fun _ => ?_) | refine s_ite ?_ ?_ | exact s_num _ | exact s_add _ _ | exact s_sub _ _ | exact s_mul _ _ | exact s_div _ _ | exact s_sqr _ | exact s_sqrt _ | exact s_max _ _ | exact s_pure _))
    | false =>
     rw [if_neg (show ¬ false = true by decide)]
     refine eqv_bind (fun x3 h3 => ?_) ?_ ?_
     ·rw [if_neg (show ¬ false = true by decide)]
      have gm := Dy.good_max (a := i) (b := o) hi ho (err := 0)
      rw [show Dy.cMax 0 i o = (x3, 0) from h3] at gm
      refine eqv_bind (fun x4 h4 => ?_) ?_ ?_
      ·have gd := Dy.good_div (a := (0, x2.2)) (b := x3) gm.1 (err := 0)
       rw [show Dy.cDiv 0 (0, x2.2) x3 = (x4, 0) from h4] at gd
       obtain ⟨⟨v1, v2⟩, g4⟩ := gd
       obtain ⟨s1, s2, s3⟩ := Dy.ivR_of g4
       have e : hullT (x2.1, 0) x4 = Dy.iHull (x2.1, 0) x4 := by
        unfold hullT Dy.iHull
        rw [lessT_eq w1 v1 r1 s1, moreT_eq wr0.1 v2 wr0.2 s2]
       rw [← e]; exact Or.inl rfl
      all_goals exact fun _ => by (repeat (with_reducible first | refine S.bind ?_ (fun _ => ?_) | refine s_ite ?_ ?_ | exact s_num _ | exact s_add _ _ | exact s_sub _ _ | exact s_mul _ _ | exact s_div _ _ | exact s_sqr _ | exact s_sqrt _ | exact s_max _ _ | exact s_pure _))
     all_goals exact fun _ => by (repeat (with_reducible first | refine S.bind ?_ (fun _ => ?_) | refine s_ite ?_ ?_ | exact s_num _ | exact s_add _ _ | exact s_sub _ _ | exact s_mul _ _ | exact s_div _ _ | exact s_sqr _ | exact s_sqrt _ | exact s_max _ _ | exact s_pure _))
   ·rw [if_neg (by simp; omega), if_pos (by simp; omega)]; exact Or.inl rfl
  all_goals exact fun _ => by (repeat (with_reducible first | refine S.bind ?_ (fun _ => ?_) | refine s_ite ?_ ?_ | exact s_num _ | exact s_add _ _ | exact s_sub _ _ | exact s_mul _ _ | exact s_div _ _ | exact s_sqr _ | exact s_sqrt _ | exact s_max _ _ | exact s_pure _))
 all_goals exact fun _ => by (repeat (with_reducible first | refine S.bind ?_ (fun _ => ?_) | refine s_ite ?_ ?_ | exact s_num _ | exact s_add _ _ | exact s_sub _ _ | exact s_mul _ _ | exact s_div _ _ | exact s_sqr _ | exact s_sqrt _ | exact s_max _ _ | exact s_pure _))
def GP {α : Type} (Q : α → Prop) (x : Dy.Cm α) : Prop := ∀ e, Q (x e).1
theorem gp_bind {α β : Type} {Q : α → Prop} {R : β → Prop} {x : Dy.Cm α} {k : α → Dy.Cm β} (h : GP Q x) (hk : ∀ a, Q a → GP R (k a)) : GP R (x >>= k) := fun e => hk _ (h e) _
def GI (a : Nat × Nat) : Prop := Dy.WW a ∧ Dy.ivR a = true
theorem gp_any {α β : Type} {R : β → Prop} {x : Dy.Cm α} {k : α → Dy.Cm β} (hk : ∀ a, GP R (k a)) : GP R (x >>= k) := fun e => hk _ _
theorem wn_kept {l : Int} (kl : Dy.ok l) (ll : l ≤ 4607182418800017408) {a : Nat × Nat} (h : GI a) : Dy.Wn (Dy.enc l, 4607182418800017408) (Dy.clip (Dy.enc l) 4607182418800017408 a) := by
 obtain ⟨p, hp, rfl⟩ := Dy.rk_of h.1 h.2
 have e2 : (4607182418800017408 : Nat) = Dy.enc 4607182418800017408 := by decide
 rw [e2]
 obtain ⟨e, k⟩ := Dy.clip_E hp kl ok_O
 rw [e]
 exact ⟨(l, 4607182418800017408), _, rfl, rfl, ⟨kl, ok_O, ll⟩, k, by show l ≤ min (max p.1 l) _; omega, by show min (max p.2 l) _ ≤ _; omega⟩
theorem slope_in (i o d : Nat × Nat) (hi : Dy.WW i) (ho : Dy.WW o) : GP (Dy.Wn (13830554455654793216, 4607182418800017408)) (slopeM i o d) := by
 have eN : (13830554455654793216 : Nat) = Dy.enc (-4607182418800017408) := by decide
 have kk : ∀ a, GI a → Dy.Wn (13830554455654793216, 4607182418800017408) (Dy.clip 13830554455654793216 4607182418800017408 a) := fun a ha => by
  rw [eN]; exact wn_kept ok_N (by decide) ha
 unfold slopeM
 refine gp_bind (Q := GI) (fun e => Dy.good_mul) fun m hm => ?_
 refine gp_bind (Q := GI) (fun e => Dy.good_sub hm.1) fun s hs => ?_
 intro e
 by_cases c : (Dy.flt s.2 0 || Dy.feq s.2 0) = true
 ·rw [if_pos c]; exact kk _ hs
 ·rw [if_neg c]
  obtain ⟨r1, r2, r3⟩ := Dy.ivR_of hs.2
  have c' : ¬ Dy.dec s.2 ≤ 0 := fun hh => c ((Dy.fle_dec hs.1.2 wr0.1 r2 wr0.2).trans (by rw [Dy.dec_zero]; simpa using hh))
  by_cases c2 : (Dy.fgt s.1 0 || Dy.feq s.1 0) = true
  ·rw [if_pos c2]
   exact gp_bind (Q := GI) (fun e => Dy.good_max hi ho) (fun x hx => gp_bind (Q := GI) (fun e => Dy.good_div hx.1) fun q hq e => kk _ hq) e
  ·rw [if_neg c2]
   have c3 : ¬ 0 ≤ Dy.dec s.1 := fun hh => c2 ((Dy.fge_dec hs.1.1 wr0.1 r1 wr0.2).trans (by rw [Dy.dec_zero]; simpa using hh))
   refine gp_bind (Q := GI) (fun e => Dy.good_max hi ho) (fun x hx => gp_bind (Q := GI) (fun e => Dy.good_div hx.1) fun q hq e => ?_) e
   refine kk _ ?_
   exact Dy.good_hull (a := (s.1, 0)) (b := q) ⟨hs.1.1, wr0.1⟩ hq.1 (Dy.ivR_mk r1 wr0.2 (by show Dy.dec s.1 ≤ Dy.dec 0; rw [Dy.dec_zero]; omega)) hq.2
theorem valR_mf {r r' s s' : Nat × Nat} {p p' : (Nat × Nat) × (Nat × Nat)} (wr : Dy.Wn r r') (w1 : Dy.Wn p.1 p'.1) (w2 : Dy.Wn p.2 p'.2) (ws : Dy.Wn s s') : Dy.MF Dy.Wn (valR r p s) (valR r' p' s') := by
 unfold valR
 refine Dy.MF.bind (R := Dy.Wn) (Dy.mf_mul w2 ws) (fun _ => (Dy.z_add _ _).bind fun _ => (Dy.z_mul _ _).bind fun _ => Dy.Cm.Z.pure _) (fun m m' wm => ?_)
 refine Dy.MF.bind (R := Dy.Wn) (Dy.mf_add w1 wm) (fun _ => (Dy.z_mul _ _).bind fun _ => Dy.Cm.Z.pure _) (fun a a' wa => ?_)
 refine Dy.MF.bind (R := Dy.Wn) (Dy.mf_mul wr wa) (fun _ => Dy.Cm.Z.pure _) (fun v v' wv => ?_)
 exact Dy.MF.pure (Dy.wn_clip (x := 0) (y := (4607182418800017408 : Int)) Dy.ok_zero ok_O rfl (by decide) wv)
theorem val_no : (valR (0, 4607182418800017408) (pairM (0, 4607182418800017408) 0).1 (13830554455654793216, 4607182418800017408) 0).2 = 0 := by decide +kernel
theorem s_pair (a : Nat × Nat) : S (pairM a) := by unfold pairM; (repeat (with_reducible first | refine S.bind ?_ (fun _ => ?_) | refine s_ite ?_ ?_ | exact s_num _ | exact s_add _ _ | exact s_sub _ _ | exact s_mul _ _ | exact s_div _ _ | exact s_sqr _ | exact s_sqrt _ | exact s_max _ _ | exact s_pure _))
attribute [local irreducible] pairM slopeM pairR slopeR
theorem oPairR_eq {a : Nat × Nat} (ha : Dy.WW a) : oPairR a = oPair a := by
 unfold oPairR oPair oL1
 cases r : Dy.ivR a with
 | false => simp
 | true =>
  rw [if_pos rfl, if_pos rfl, wi0 ha r]
  cases h : wiB 0 4607182418800017408 a with
  | false => simp
  | true =>
   have k := (pair_mf (wn_01 ha r h)).1
   rw [if_pos rfl, if_pos rfl, if_neg (by decide), eqv_ok (pair_eqv a) k]
   unfold told2
   rw [if_neg (by simp [k])]
theorem oSlopeR_eq {i o d : Nat × Nat} (hi : Dy.WW i) (ho : Dy.WW o) (hd : Dy.WW d) : oSlopeR i o d = oSlope i o d := by
 unfold oSlopeR oSlope oL3
 cases r1 : Dy.ivR i with
 | false => simp
 | true =>
  cases r2 : Dy.ivR o with
  | false => simp
  | true =>
   cases r3 : Dy.ivR d with
   | false => simp
   | true =>
    rw [wi0 hi r1, wi0 ho r2, wiN hd r3, told_eqv (slope_eqv (d := d) hi ho)]
    cases wiB 0 4607182418800017408 i <;> cases wiB 0 4607182418800017408 o <;> cases wiB 13830554455654793216 4607182418800017408 d <;> simp
theorem oPair_ok {a : Nat × Nat} (r : Dy.ivR a = true) (k : wiB 0 4607182418800017408 a = true) (h : (pairM a 0).2 = 0) : oPair a = ((pairM a 0).1, 0) := by
 unfold oPair oL1 told2
 rw [r, k]; simp [h]
theorem oPair_no {a : Nat × Nat} (r : Dy.ivR a = true) (k : wiB 0 4607182418800017408 a = false) : (oPair a).2 = 2 := by
 unfold oPair oL1
 rw [r, k]; simp
theorem oSlope_no {i o d : Nat × Nat} (r1 : Dy.ivR i = true) (r2 : Dy.ivR o = true) (r3 : Dy.ivR d = true) (k : (wiB 0 4607182418800017408 i && wiB 0 4607182418800017408 o && wiB 13830554455654793216 4607182418800017408 d) = false) : (oSlope i o d).2 = 2 := by
 unfold oSlope oL3
 rw [r1, r2, r3, k]; simp
theorem oSlope_ok {i o d : Nat × Nat} (r1 : Dy.ivR i = true) (r2 : Dy.ivR o = true) (r3 : Dy.ivR d = true) (k : (wiB 0 4607182418800017408 i && wiB 0 4607182418800017408 o && wiB 13830554455654793216 4607182418800017408 d) = true) : oSlope i o d = Dy.told (slopeM i o d 0) := by
 unfold oSlope oL3
 rw [r1, r2, r3, k]; simp
theorem orenM_ok {r s i o d x : Nat × Nat} {p : (Nat × Nat) × (Nat × Nat)} (h1 : slopeM i o d 0 = (x, 0)) (h2 : pairM s 0 = (p, 0)) : orenM r s i o d 0 = valR r p x 0 := by
 unfold orenM
 exact (Dy.cm_s h1).trans (Dy.cm_s h2)
theorem orenM_no {r s i o d : Nat × Nat} (h : (slopeM i o d 0).2 ≠ 0) : (orenM r s i o d 0).2 = (slopeM i o d 0).2 := by
 unfold orenM
 rw [Dy.cm_s (x := slopeM i o d) (e := 0) (a := (slopeM i o d 0).1) (e' := (slopeM i o d 0).2) rfl]
 exact S.bind (s_pair _) (fun _ => by (repeat (with_reducible first | refine S.bind ?_ (fun _ => ?_) | refine s_ite ?_ ?_ | exact s_num _ | exact s_add _ _ | exact s_sub _ _ | exact s_mul _ _ | exact s_div _ _ | exact s_sqr _ | exact s_sqrt _ | exact s_max _ _ | exact s_pure _))) _ h
theorem oValR_eq {r s i o d : Nat × Nat} (hr : Dy.WW r) (hs : Dy.WW s) (hi : Dy.WW i) (ho : Dy.WW o) (hd : Dy.WW d) : oValR r s i o d = oVal r s i o d := by
 unfold oValR oVal
 rw [oPairR_eq hs, oSlopeR_eq hi ho hd]
 unfold oL5
 cases r1 : Dy.ivR r with
 | false => simp
 | true =>
 cases r2 : Dy.ivR s with
 | false => simp
 | true =>
 cases r3 : Dy.ivR i with
 | false => simp
 | true =>
 cases r4 : Dy.ivR o with
 | false => simp
 | true =>
 cases r5 : Dy.ivR d with
 | false => simp
 | true =>
 rw [wi0 hr r1]
 cases k1 : wiB 0 4607182418800017408 r with
 | false => simp
 | true =>
 cases k2 : wiB 0 4607182418800017408 s with
 | false =>
  have e := oPair_no r2 k2
  rw [e]; simp
 | true =>
 obtain ⟨pm, pw1, pw2⟩ := pair_mf (wn_01 hs r2 k2)
 rw [oPair_ok r2 k2 pm]
 cases k3 : (wiB 0 4607182418800017408 i && wiB 0 4607182418800017408 o && wiB 13830554455654793216 4607182418800017408 d) with
 | false =>
  have e := oSlope_no r3 r4 r5 k3
  have k3' : (wiB 0 4607182418800017408 i && (wiB 0 4607182418800017408 o && wiB 13830554455654793216 4607182418800017408 d)) = false := by rw [← Bool.and_assoc]; exact k3
  rw [e]; simp [Bool.and_assoc, k3']
 | true =>
 have k3' : (wiB 0 4607182418800017408 i && (wiB 0 4607182418800017408 o && wiB 13830554455654793216 4607182418800017408 d)) = true := by rw [← Bool.and_assoc]; exact k3
 rw [oSlope_ok r3 r4 r5 k3]
 have kk : (true && true && wiB 0 4607182418800017408 i && wiB 0 4607182418800017408 o && wiB 13830554455654793216 4607182418800017408 d) = true := by simpa [Bool.and_assoc] using k3'
 rw [kk]
 by_cases e : (slopeM i o d 0).2 = 0
 ·rw [told_ok e]
  have hv := (valR_mf (wn_01 hr r1 k1) pw1 pw2 (slope_in i o d hi ho 0) 0 val_no).1
  have ho' := orenM_ok (r := r) (s := s) (x := (slopeM i o d 0).1) (p := (pairM s 0).1) (Prod.ext rfl e) (Prod.ext rfl pm)
  rw [ho', told_ok hv]; simp
 ·rw [told_no e]
  have h := orenM_no (r := r) (s := s) e
  rw [told_no (by rw [h]; exact e), h]; simp [e]
def ctPair08 : Ct := ⟨2, [], [vp 0 1], { binds := [⟨fun us i => pairU (oPair (gF us 0, gF us 1)) i, 5, upto 0 2⟩], needs := [], val := .tup [vp 2 3, vp 4 5, vi .i64 6], upd := [] }⟩
theorem ctPair08_ok : CtOk Tryz.prog 7 ctPair08 := by
 refine CtOk.swap ctPairR_ok fun ρ us h1 hm hF _ i => ?_
 match ρ, hm with
 | u0 :: u1 :: l, _ =>
  simp [evs, upto, E.ev] at h1
  subst h1
  simp [FactsL, Facts] at hF
  obtain ⟨⟨a1, rfl, wa1⟩, ⟨a2, rfl, wa2⟩⟩ := hF
  exact congrArg (fun r => pairU r i) (oPairR_eq (a := (a1, a2)) ⟨wa1, wa2⟩)
def ctSlope08 : Ct := ⟨6, [], [vp 0 1, vp 2 3, vp 4 5], { binds := [⟨fun us i => calR (oSlope (gF us 0, gF us 1) (gF us 2, gF us 3) (gF us 4, gF us 5)) i, 3, upto 0 6⟩], needs := [], val := .tup [vp 6 7, vi .i64 8], upd := [] }⟩
theorem ctSlope08_ok : CtOk Tryz.prog 9 ctSlope08 := by
 refine CtOk.swap ctSlopeR_ok fun ρ us h1 hm hF _ i => ?_
 match ρ, hm with
 | u0 :: u1 :: u2 :: u3 :: u4 :: u5 :: l, _ =>
  simp [evs, upto, E.ev] at h1
  subst h1
  simp [FactsL, Facts] at hF
  obtain ⟨⟨⟨a1, rfl, wa1⟩, ⟨a2, rfl, wa2⟩⟩, ⟨⟨b1, rfl, wb1⟩, ⟨b2, rfl, wb2⟩⟩, ⟨c1, rfl, wc1⟩, ⟨c2, rfl, wc2⟩⟩ := hF
  exact congrArg (fun r => calR r i) (oSlopeR_eq (i := (a1, a2)) (o := (b1, b2)) (d := (c1, c2)) ⟨wa1, wa2⟩ ⟨wb1, wb2⟩ ⟨wc1, wc2⟩)
def ctVal08 : Ct := ⟨10, [], [vp 0 1, vp 2 3, vp 4 5, vp 6 7, vp 8 9], { binds := [⟨fun us i => calR (oVal (gF us 0, gF us 1) (gF us 2, gF us 3) (gF us 4, gF us 5) (gF us 6, gF us 7) (gF us 8, gF us 9)) i, 3, upto 0 10⟩], needs := [], val := .tup [vp 10 11, vi .i64 12], upd := [] }⟩
theorem ctVal08_ok : CtOk Tryz.prog 11 ctVal08 := by
 refine CtOk.swap ctValueR_ok fun ρ us h1 hm hF _ i => ?_
 match ρ, hm with
 | u0 :: u1 :: u2 :: u3 :: u4 :: u5 :: u6 :: u7 :: u8 :: u9 :: l, _ =>
  simp [evs, upto, E.ev] at h1
  subst h1
  simp [FactsL, Facts] at hF
  obtain ⟨⟨⟨a1, rfl, wa1⟩, ⟨a2, rfl, wa2⟩⟩, ⟨⟨b1, rfl, wb1⟩, ⟨b2, rfl, wb2⟩⟩, ⟨⟨c1, rfl, wc1⟩, ⟨c2, rfl, wc2⟩⟩, ⟨⟨d1, rfl, wd1⟩, ⟨d2, rfl, wd2⟩⟩, ⟨e1, rfl, we1⟩, ⟨e2, rfl, we2⟩⟩ := hF
  exact congrArg (fun r => calR r i) (oValR_eq (r := (a1, a2)) (s := (b1, b2)) (i := (c1, c2)) (o := (d1, d2)) (d := (e1, e2)) ⟨wa1, wa2⟩ ⟨wb1, wb2⟩ ⟨wc1, wc2⟩ ⟨wd1, wd2⟩ ⟨we1, we2⟩)
def oD0 : List (Nat × Ct) := (7, ctPair08) :: (9, ctSlope08) :: (11, ctVal08) :: oc9
theorem oD0_ok : AllOk Tryz.prog oD0 := ⟨ctPair08_ok, ctSlope08_ok, ctVal08_ok, oc9_ok⟩
end Go.Proofs.YtiphdhpacklboaaGreat
