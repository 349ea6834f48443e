/- Plain: what burnishref06 tells is what fresnel tells. -/
import Derived.Test.YtiphdhpacklboaaGreatUq
namespace Go.Proofs.YtiphdhpacklboaaGreat
open Go Go.RowKit
set_option linter.unusedSimpArgs false
set_option linter.unusedVariables false
def S {α : Type} (x : Dy.Cm α) : Prop := ∀ e, e ≠ 0 → (x e).2 = e
theorem S.bind {α β : Type} {x : Dy.Cm α} {k : α → Dy.Cm β} (h : S x) (hk : ∀ a, S (k a)) : S (x >>= k) := fun e he => by
 show (k (x e).1 (x e).2).2 = e
 rw [h e he]; exact hk _ e he
theorem s_pure {α : Type} (a : α) : S (pure a : Dy.Cm α) := fun e _ => rfl
theorem s_ask {c : Int} (r : Bool) (x : (Nat × Nat) × Int) (h : c ≠ 0) : (Dy.cAsk c r x).2 = c := by rw [ask_no.1 h]
theorem s_num (x : Nat) : S (Dy.mNum x) := fun e h => s_ask _ _ h
theorem s_add (a b : Nat × Nat) : S (Dy.mAdd a b) := fun e h => s_ask _ _ h
theorem s_sub (a b : Nat × Nat) : S (Dy.mSub a b) := fun e h => s_ask _ _ h
theorem s_mul (a b : Nat × Nat) : S (Dy.mMul a b) := fun e h => s_ask _ _ h
theorem s_div (a b : Nat × Nat) : S (Dy.mDiv a b) := fun e h => s_ask _ _ h
theorem s_max (a b : Nat × Nat) : S (Dy.mMax a b) := fun e h => s_ask _ _ h
theorem s_sqr (a : Nat × Nat) : S (Dy.mSqr a) := fun e h => s_ask _ _ h
theorem s_sqrt (a : Nat × Nat) : S (Dy.mSqrt a) := fun e h => s_ask _ _ h
theorem told_err {r s : (Nat × Nat) × Int} (h : r.2 ≠ 0) (e : r.2 = s.2) : Dy.told r = Dy.told s := by
 unfold Dy.told
 rw [if_pos (by simpa using h), if_pos (by rw [← e]; simpa using h), e]
theorem same_bind {α : Type} {m : Dy.Cm α} {k l : α → Dy.Cm (Nat × Nat)} (h : ∀ a, m 0 = (a, 0) → Dy.told (k a 0) = Dy.told (l a 0)) (hk : ∀ a, S (k a)) (hl : ∀ a, S (l a)) : Dy.told ((m >>= k) 0) = Dy.told ((m >>= l) 0) := by
 show Dy.told (k (m 0).1 (m 0).2) = Dy.told (l (m 0).1 (m 0).2)
 by_cases e : (m 0).2 = 0
 ·rw [e]; exact h _ (Prod.ext rfl e)
 ·exact told_err (by rw [hk _ _ e]; exact e) (by rw [hk _ _ e, hl _ _ e])
theorem dup_l {α : Type} {m : Dy.Cm α} {k : α → Dy.Cm (Nat × Nat)} {a : α} (h : m 0 = (a, 0)) : Dy.told ((m >>= k) 0) = Dy.told (k a 0) := by rw [Dy.cm_s h]
theorem num_l {x : Nat} {k : Nat × Nat → Dy.Cm (Nat × Nat)} (h : Dy.cNum 0 x = ((x, x), 0)) : Dy.told ((Dy.mNum x >>= k) 0) = Dy.told (k (x, x) 0) := dup_l h
theorem pure_l {α : Type} {a : α} {k : α → Dy.Cm (Nat × Nat)} : Dy.told (((pure a : Dy.Cm α) >>= k) 0) = Dy.told (k a 0) := rfl
theorem num460718 : Dy.cNum 0 4607182418800017408 = ((4607182418800017408, 4607182418800017408), 0) := by decide +kernel
theorem num460267 : Dy.cNum 0 4602678819172646912 = ((4602678819172646912, 4602678819172646912), 0) := by decide +kernel
theorem num461618 : Dy.cNum 0 4616189618054758400 = ((4616189618054758400, 4616189618054758400), 0) := by decide +kernel
theorem num461168 : Dy.cNum 0 4611686018427387904 = ((4611686018427387904, 4611686018427387904), 0) := by decide +kernel
theorem num0 : Dy.cNum 0 0 = ((0, 0), 0) := by decide +kernel
theorem wiT {a : Nat × Nat} (ha : Dy.WW a) (r : Dy.ivR a = true) {l h : Nat} (wl : Dy.W l) (wh : Dy.W h) (rl : Dy.right l = true) (rh : Dy.right h = true) : withT a l h = wiB l h a := by
 obtain ⟨r1, r2, -⟩ := Dy.ivR_of r
 unfold withT wiB
 rw [Dy.fge_dec ha.1 wl r1 rl, Dy.fle_dec ha.2 wh r2 rh, Dy.flt_dec ha.1 wl r1 rl, Dy.fgt_dec ha.2 wh r2 rh, Bool.eq_iff_iff]
 simp
theorem diel_same (cos n : Nat × Nat) : Dy.told (dielR cos n 0) = Dy.told (dielM cos n 0) := by
 unfold dielR dielM
 refine Eq.trans ?_ (num_l num460718).symm
 refine same_bind (fun x1 h1 => ?_) ?_ ?_
 refine (num_l num460718).trans ?_
 refine same_bind (fun x2 h2 => ?_) ?_ ?_
 refine same_bind (fun x3 h3 => ?_) ?_ ?_
 refine same_bind (fun x4 h4 => ?_) ?_ ?_
 refine same_bind (fun x5 h5 => ?_) ?_ ?_
 refine same_bind (fun x6 h6 => ?_) ?_ ?_
 refine same_bind (fun x7 h7 => ?_) ?_ ?_
 refine same_bind (fun x8 h8 => ?_) ?_ ?_
 refine same_bind (fun x9 h9 => ?_) ?_ ?_
 refine Eq.trans ?_ (dup_l h7).symm
 refine same_bind (fun x10 h10 => ?_) ?_ ?_
 refine (num_l num460718).trans ?_
 refine same_bind (fun x11 h11 => ?_) ?_ ?_
 refine Eq.trans ?_ (dup_l h6).symm
 refine same_bind (fun x12 h12 => ?_) ?_ ?_
 refine (num_l num460718).trans ?_
 refine same_bind (fun x13 h13 => ?_) ?_ ?_
 refine same_bind (fun x14 h14 => ?_) ?_ ?_
 refine same_bind (fun x15 h15 => ?_) ?_ ?_
 refine (num_l num460267).trans ?_
 refine Eq.trans ?_ (num_l num460267).symm
 refine same_bind (fun x16 h16 => ?_) ?_ ?_
 refine (num_l num460718).trans ?_
 refine same_bind (fun x17 h17 => ?_) ?_ ?_
 refine same_bind (fun x18 h18 => ?_) ?_ ?_
 rfl
 all_goals exact fun _ => by (repeat (with_reducible first | refine S.bind ?_ (fun _ => ?_) | exact s_num _ | exact s_add _ _ | exact s_sub _ _ | exact s_mul _ _ | exact s_div _ _ | exact s_sqr _ | exact s_sqrt _ | exact s_max _ _ | exact s_pure _))
def ekM (a b : Nat × Nat) : Dy.Cm (Nat × Nat) := do
 let x ← Dy.mSqr a
 let y ← Dy.mSqr b
 Dy.mMul x y
theorem ekM_mf {a a' b b' : Nat × Nat} (wa : Dy.Wn a a') (wb : Dy.Wn b b') : Dy.MF Dy.Wn (ekM a b) (ekM a' b') := by
 unfold ekM
 refine Dy.MF.bind (R := Dy.Wn) (Dy.mf_sqr wa) (fun _ => Dy.Cm.Z.bind (Dy.z_sqr _) fun _ => Dy.z_mul _ _) (fun x x' wx => ?_)
 refine Dy.MF.bind (R := Dy.Wn) (Dy.mf_sqr wb) (fun _ => Dy.z_mul _ _) (fun y y' wy => ?_)
 exact Dy.mf_mul wx wy
theorem ek_no : (ekM (4589168020290535424, 4625196817309499392) (4589168020290535424, 4625196817309499392) 0).2 = 0 := by decide +kernel
theorem ek_ok {a b x y : Nat × Nat} (hx : Dy.mSqr a 0 = (x, 0)) (hy : Dy.mSqr b 0 = (y, 0)) (wa : Dy.Wn (4589168020290535424, 4625196817309499392) a) (wb : Dy.Wn (4589168020290535424, 4625196817309499392) b) : ∃ z, Dy.mMul x y 0 = (z, 0) := by
 have h := (ekM_mf wa wb 0 ek_no).1
 have e : ekM a b 0 = Dy.mMul x y 0 := (Dy.cm_s hx).trans (Dy.cm_s hy)
 rw [e] at h
 exact ⟨_, Prod.ext rfl h⟩
theorem wn_wiB {a : Nat × Nat} (ha : Dy.WW a) (r : Dy.ivR a = true) (h : wiB 4589168020290535424 4625196817309499392 a = true) : Dy.Wn (4589168020290535424, 4625196817309499392) a := by
 obtain ⟨r1, r2, r3⟩ := Dy.ivR_of r
 have k1 : Dy.ok (4589168020290535424 : Int) := Dy.ok_B (by decide) (by decide)
 have k2 : Dy.ok (4625196817309499392 : Int) := Dy.ok_B (by decide) (by decide)
 have e1 : (4589168020290535424 : Nat) = Dy.enc 4589168020290535424 := by decide
 have e2 : (4625196817309499392 : Nat) = Dy.enc 4625196817309499392 := by decide
 unfold wiB at h
 rw [e1, e2, Dy.flt_dec ha.1 (Dy.W_enc k1) r1 (Dy.right_enc k1), Dy.fgt_dec ha.2 (Dy.W_enc k2) r2 (Dy.right_enc k2), Dy.dec_enc k1, Dy.dec_enc k2] at h
 simp at h
 refine ⟨(4589168020290535424, 4625196817309499392), (Dy.dec a.1, Dy.dec a.2), ?_, ?_, ⟨k1, k2, by decide⟩, ⟨Dy.ok_dec ha.1 r1, Dy.ok_dec ha.2 r2, r3⟩, h.1, h.2⟩
 ·show ((4589168020290535424 : Nat), (4625196817309499392 : Nat)) = (Dy.enc _, Dy.enc _); rw [← e1, ← e2]
 ·show a = (Dy.enc (Dy.dec a.1), Dy.enc (Dy.dec a.2)); rw [Dy.enc_of_dec ha.1 r1, Dy.enc_of_dec ha.2 r2]
theorem cond_same (cos : Nat × Nat) {eta k : Nat × Nat} (we : Dy.Wn (4589168020290535424, 4625196817309499392) eta) (wk : Dy.Wn (4589168020290535424, 4625196817309499392) k) : Dy.told (condR cos eta k 0) = Dy.told (condM cos eta k 0) := by
 unfold condR condM
 refine Eq.trans ?_ (num_l num460267).symm
 refine same_bind (fun x1 h1 => ?_) ?_ ?_
 refine (num_l num460718).trans ?_
 refine Eq.trans ?_ (num_l num460718).symm
 refine same_bind (fun x2 h2 => ?_) ?_ ?_
 refine (pure_l).trans ?_
 refine Eq.trans ?_ (pure_l).symm
 refine same_bind (fun x3 h3 => ?_) ?_ ?_
 refine same_bind (fun x4 h4 => ?_) ?_ ?_
 obtain ⟨ek, hek⟩ := ek_ok h3 h4 we wk
 refine (dup_l hek).trans ?_
 refine (dup_l h3).trans ?_
 refine (dup_l h4).trans ?_
 refine same_bind (fun x5 h5 => ?_) ?_ ?_
 refine same_bind (fun x6 h6 => ?_) ?_ ?_
 refine same_bind (fun x7 h7 => ?_) ?_ ?_
 refine (num_l num461618).trans ?_
 refine Eq.trans ?_ (num_l num461618).symm
 refine Eq.trans ?_ (dup_l hek).symm
 refine same_bind (fun x8 h8 => ?_) ?_ ?_
 refine same_bind (fun x9 h9 => ?_) ?_ ?_
 refine same_bind (fun x10 h10 => ?_) ?_ ?_
 refine (num_l num460267).trans ?_
 refine same_bind (fun x11 h11 => ?_) ?_ ?_
 refine (num_l num0).trans ?_
 refine Eq.trans ?_ (num_l num0).symm
 refine same_bind (fun x12 h12 => ?_) ?_ ?_
 refine same_bind (fun x13 h13 => ?_) ?_ ?_
 refine same_bind (fun x14 h14 => ?_) ?_ ?_
 refine same_bind (fun x15 h15 => ?_) ?_ ?_
 refine (num_l num461168).trans ?_
 refine Eq.trans ?_ (num_l num461168).symm
 refine same_bind (fun x16 h16 => ?_) ?_ ?_
 refine same_bind (fun x17 h17 => ?_) ?_ ?_
 refine same_bind (fun x18 h18 => ?_) ?_ ?_
 refine same_bind (fun x19 h19 => ?_) ?_ ?_
 refine same_bind (fun x20 h20 => ?_) ?_ ?_
 refine (pure_l).trans ?_
 refine Eq.trans ?_ (pure_l).symm
 refine same_bind (fun x21 h21 => ?_) ?_ ?_
 refine same_bind (fun x22 h22 => ?_) ?_ ?_
 refine same_bind (fun x23 h23 => ?_) ?_ ?_
 refine same_bind (fun x24 h24 => ?_) ?_ ?_
 refine same_bind (fun x25 h25 => ?_) ?_ ?_
 refine same_bind (fun x26 h26 => ?_) ?_ ?_
 refine same_bind (fun x27 h27 => ?_) ?_ ?_
 refine same_bind (fun x28 h28 => ?_) ?_ ?_
 refine (pure_l).trans ?_
 refine (num_l num460267).trans ?_
 refine Eq.trans ?_ (pure_l).symm
 refine same_bind (fun x29 h29 => ?_) ?_ ?_
 rfl
 all_goals exact fun _ => by (repeat (with_reducible first | refine S.bind ?_ (fun _ => ?_) | exact s_num _ | exact s_add _ _ | exact s_sub _ _ | exact s_mul _ _ | exact s_div _ _ | exact s_sqr _ | exact s_sqrt _ | exact s_max _ _ | exact s_pure _))
theorem wR0 : Dy.W 0 ∧ Dy.right 0 = true := ⟨by unfold Dy.W; decide, by decide +kernel⟩
theorem wR460718 : Dy.W 4607182418800017408 ∧ Dy.right 4607182418800017408 = true := ⟨by unfold Dy.W; decide, by decide +kernel⟩
theorem wR460746 : Dy.W 4607463893776728064 ∧ Dy.right 4607463893776728064 = true := ⟨by unfold Dy.W; decide, by decide +kernel⟩
theorem wR461618 : Dy.W 4616189618054758400 ∧ Dy.right 4616189618054758400 = true := ⟨by unfold Dy.W; decide, by decide +kernel⟩
theorem wR458916 : Dy.W 4589168020290535424 ∧ Dy.right 4589168020290535424 = true := ⟨by unfold Dy.W; decide, by decide +kernel⟩
theorem wR462519 : Dy.W 4625196817309499392 ∧ Dy.right 4625196817309499392 = true := ⟨by unfold Dy.W; decide, by decide +kernel⟩
theorem dielGR_eq {cos n : Nat × Nat} (hc : Dy.WW cos) (hn : Dy.WW n) : dielGR cos n = dielG cos n := by
 unfold dielGR dielG
 cases rc : Dy.ivR cos with
 | false => rw [if_neg (by decide), if_neg (by simp)]
 | true =>
  cases rn : Dy.ivR n with
  | false => rw [if_pos rfl, if_neg (by decide), if_neg (by simp)]
  | true =>
   rw [if_pos rfl, if_pos rfl, if_pos (show (true && true) = true from rfl), wiT hc rc (wR0.1) (wR460718.1) wR0.2 wR460718.2, wiT hn rn (wR460746.1) (wR461618.1) wR460746.2 wR461618.2, diel_same]
theorem condGR_eq {cos eta k : Nat × Nat} (hc : Dy.WW cos) (he : Dy.WW eta) (hk : Dy.WW k) : condGR cos eta k = condG cos eta k := by
 unfold condGR condG
 cases rc : Dy.ivR cos with
 | false => rw [if_neg (by decide), if_neg (by simp)]
 | true =>
  cases re : Dy.ivR eta with
  | false => rw [if_pos rfl, if_neg (by decide), if_neg (by simp)]
  | true =>
   cases rk : Dy.ivR k with
   | false => rw [if_pos rfl, if_pos rfl, if_neg (by decide), if_neg (by simp)]
   | true =>
    rw [if_pos rfl, if_pos rfl, if_pos rfl, if_pos (show (true && (true && true)) = true from rfl), wiT hc rc (wR0.1) (wR460718.1) wR0.2 wR460718.2, wiT he re (wR458916.1) (wR462519.1) wR458916.2 wR462519.2, wiT hk rk (wR458916.1) (wR462519.1) wR458916.2 wR462519.2]
    cases h1 : wiB 4589168020290535424 4625196817309499392 eta with
    | false => rw [if_neg (show ¬ false = true by decide), if_neg (show ¬ (false && _) = true by simp)]
    | true =>
     cases h2 : wiB 4589168020290535424 4625196817309499392 k with
     | false => rw [if_pos rfl, if_neg (show ¬ false = true by decide), if_neg (show ¬ (true && false) = true by decide)]
     | true => rw [if_pos rfl, if_pos rfl, if_pos (show (true && true) = true from rfl), cond_same cos (wn_wiB he re h1) (wn_wiB hk rk h2)]
def ctDiel06 : Ct := ⟨4, [], [vp 0 1, vp 2 3], { binds := [⟨fun us i => calR (dielG (gF us 0, gF us 1) (gF us 2, gF us 3)) i, 3, upto 0 4⟩], needs := [], val := .tup [vp 4 5, vi .i64 6], upd := [] }⟩
theorem ctDiel06_ok : CtOk Tryz.prog 15 ctDiel06 := by
 refine CtOk.swap ctDielR_ok fun ρ us h1 hm hF _ i => ?_
 match ρ, hm with
 | u0 :: u1 :: u2 :: u3 :: l, _ =>
  simp [evs, upto, E.ev] at h1
  subst h1
  simp [FactsL, Facts] at hF
  obtain ⟨⟨⟨a1, rfl, wa1⟩, ⟨a2, rfl, wa2⟩⟩, ⟨b1, rfl, wb1⟩, ⟨b2, rfl, wb2⟩⟩ := hF
  exact congrArg (fun r => calR r i) (dielGR_eq (cos := (a1, a2)) (n := (b1, b2)) ⟨wa1, wa2⟩ ⟨wb1, wb2⟩)
def ctCond06 : Ct := ⟨6, [], [vp 0 1, vp 2 3, vp 4 5], { binds := [⟨fun us i => calR (condG (gF us 0, gF us 1) (gF us 2, gF us 3) (gF us 4, gF us 5)) i, 3, upto 0 6⟩], needs := [], val := .tup [vp 6 7, vi .i64 8], upd := [] }⟩
theorem ctCond06_ok : CtOk Tryz.prog 17 ctCond06 := by
 refine CtOk.swap ctCondR_ok fun ρ us h1 hm hF _ i => ?_
 match ρ, hm with
 | u0 :: u1 :: u2 :: u3 :: u4 :: u5 :: l, _ =>
  simp [evs, upto, E.ev] at h1
  subst h1
  simp [FactsL, Facts] at hF
  obtain ⟨⟨⟨a1, rfl, wa1⟩, ⟨a2, rfl, wa2⟩⟩, ⟨⟨b1, rfl, wb1⟩, ⟨b2, rfl, wb2⟩⟩, ⟨c1, rfl, wc1⟩, ⟨c2, rfl, wc2⟩⟩ := hF
  exact congrArg (fun r => calR r i) (condGR_eq (cos := (a1, a2)) (eta := (b1, b2)) (k := (c1, c2)) ⟨wa1, wa2⟩ ⟨wb1, wb2⟩ ⟨wc1, wc2⟩)
def uR0 : List (Nat × Ct) := (15, ctDiel06) :: (17, ctCond06) :: uq5
theorem uR0_ok : AllOk Tryz.prog uR0 := ⟨ctDiel06_ok, ctCond06_ok, uq5_ok⟩
end Go.Proofs.YtiphdhpacklboaaGreat
