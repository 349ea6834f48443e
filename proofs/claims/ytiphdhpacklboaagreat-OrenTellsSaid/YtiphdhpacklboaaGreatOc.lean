/- A reckoning of programs by symbols: burnishref08. -/
import Derived.Test.YtiphdhpacklboaaGreatOa
namespace Go.Proofs.YtiphdhpacklboaaGreat
open Go Go.RowKit
set_option linter.unusedSimpArgs false
set_option linter.unusedVariables false
def endT (x l h : Nat) : Nat := if Dy.flt x l = true then l else if Dy.fgt x h = true then h else x
def keptT (l h : Nat) (a : Nat × Nat) : Nat × Nat := (endT a.1 l h, endT a.2 l h)
theorem endT_eq {x l h : Nat} (wx : Dy.W x) (wl : Dy.W l) (wh : Dy.W h) (rx : Dy.right x = true) (rl : Dy.right l = true) (rh : Dy.right h = true) (lh : Dy.dec l ≤ Dy.dec h) : endT x l h = Dy.dmin (Dy.dmax x l) h := by
 unfold endT Dy.dmin Dy.dmax
 rw [Dy.flt_dec wx wl rx rl, Dy.fgt_dec wx wh rx rh]
 by_cases h1 : Dy.dec x < Dy.dec l
 ·rw [decide_eq_true h1, if_pos rfl, if_pos h1]
  by_cases h2 : Dy.dec h < Dy.dec l
  ·omega
  ·rw [if_neg h2]
 ·rw [decide_eq_false h1, if_neg (by decide), if_neg h1]
  by_cases h2 : Dy.dec h < Dy.dec x
  ·rw [decide_eq_true h2, if_pos rfl, if_pos h2]
  ·rw [decide_eq_false h2, if_neg (by decide), if_neg h2]
def oc0 : List (Nat × Ct) := oa11
theorem oc0_ok : AllOk Tryz.prog oc0 := oa11_ok
def ctPi2L : Ct := ⟨0, [], [], { val := .agg [.fl (.l (.f 4614256656552045848)), .fl (.l (.f 4614256656552045849))] }⟩
set_option maxRecDepth 100000 in
theorem ctPi2L_ok : CtOk Tryz.prog 24 ctPi2L := by
 refine CtOk.of_eval2 oc0_ok (dr_ok oc0_ok) Tryz.func24 rfl (by decide) [] 200 (by kernel_rfl) rfl (.bind ⟨fun us _ => .f (Dy.ldx (gF us 0) (gI us 1)), 1, [(.l (.f 4843940237547941144)), (.l (.i (-51)))]⟩ (.need ⟨nLdx, [(.l (.i (-51)))]⟩ (.bind ⟨fun us _ => .f (Dy.ldx (gF us 0) (gI us 1)), 1, [(.l (.f 4843940237547941145)), (.l (.i (-51)))]⟩ (.need ⟨nLdx, [(.l (.i (-51)))]⟩ (.done .ret ⟨[.agg [.fl (.v 0), .fl (.v 1)]], [], 2, []⟩))))) (by kernel_rfl) (by kernel_rfl) (by kernel_rfl) (fun us hl hF hB hN => ?_)
 match us, hl with
 | [], _ =>
  refine T.HH.h ?_
  refine T.hbind (us := [.f 4843940237547941144, .i (-51)]) (xs := [.f 4614256656552045848]) rfl (uF (show Dy.ldx 4843940237547941144 (-51) = 4614256656552045848 from by decide +kernel)) rfl ?_
  refine T.hneed (us := [.i (-51)]) rfl rfl ?_
  refine T.hbind (us := [.f 4843940237547941145, .i (-51)]) (xs := [.f 4614256656552045849]) rfl (uF (show Dy.ldx 4843940237547941145 (-51) = 4614256656552045849 from by decide +kernel)) rfl ?_
  refine T.hneed (us := [.i (-51)]) rfl rfl ?_
  exact T.hdone ⟨⟨rfl, rfl, trivial⟩, trivial, rfl⟩
def oc1 : List (Nat × Ct) := (24, ctPi2L) :: oc0
theorem oc1_ok : AllOk Tryz.prog oc1 := ⟨ctPi2L_ok, oc0_ok⟩
def ctEnd : Ct := ⟨3, [], [vf 0, vf 1, vf 2], { binds := [⟨fun us i => fRes (endT (gF us 0) (gF us 1) (gF us 2)) i, 1, upto 0 3⟩], needs := [], val := vf 3, upd := [] }⟩
set_option maxRecDepth 100000 in
set_option maxHeartbeats 8000000 in
theorem ctEnd_ok : CtOk Tryz.prog 66 ctEnd := by
 refine CtOk.of_eval2 oc1_ok (dr_ok oc1_ok) Tryz.func66 rfl (by decide) [] 200 (by kernel_rfl) rfl (.bind ⟨fun us _ => cB Dy.flt us, 1, [(.v 0), (.v 1)]⟩ (.ite (.v 3) (.done .ret ⟨[.fl (.v 1)], [], 4, []⟩) (.bind ⟨fun us _ => cB Dy.fgt us, 1, [(.v 0), (.v 2)]⟩ (.ite (.v 4) (.done .ret ⟨[.fl (.v 2)], [], 5, []⟩) (.done .ret ⟨[.fl (.v 0)], [], 5, []⟩))))) (by kernel_rfl) (by kernel_rfl) (by kernel_rfl) (fun us hl hF hB hN => ?_)
 match us, hl with
 | [u0, u1, u2], _ =>
  simp [FactsB, FactsL, Facts, ctEnd] at hF hB
  simp [NeedsAt, runB, evs, E.ev, upto, resl, List.range, List.range.loop, ctEnd] at hN
  obtain ⟨⟨x, rfl, wx⟩, ⟨l, rfl, wl⟩, ⟨h, rfl, wh⟩⟩ := hF
  refine T.HH.h ?_
  obtain ⟨t0, e1⟩ : ∃ t0, (Dy.flt x l) = t0 := ⟨_, rfl⟩
  refine T.hbind (us := [.f x, .f l]) (xs := [.b t0]) rfl (uB e1) rfl ?_
  refine T.hite (x := t0) ?_ ?_ ?_
  ·rfl
  ·intro c3
   refine T.hdone ?_
   have e00 : endT (x) (l) (h) = l := by simp only [endT, e1, c3] <;> simp_all
   exact ⟨(congrArg (fun r => some (fRes r 0)) e00.symm), trivial, rfl⟩
  ·intro c3
   obtain ⟨t3, e4⟩ : ∃ t3, (Dy.fgt x h) = t3 := ⟨_, rfl⟩
   refine T.hbind (us := [.f x, .f h]) (xs := [.b t3]) rfl (uB e4) rfl ?_
   refine T.hite (x := t3) ?_ ?_ ?_
   ·rfl
   ·intro c6
    refine T.hdone ?_
    have e00 : endT (x) (l) (h) = h := by simp only [endT, e1, c3, e4, c6] <;> simp_all
    exact ⟨(congrArg (fun r => some (fRes r 0)) e00.symm), trivial, rfl⟩
   ·intro c6
    refine T.hdone ?_
    have e00 : endT (x) (l) (h) = x := by simp only [endT, e1, c3, e4, c6] <;> simp_all
    exact ⟨(congrArg (fun r => some (fRes r 0)) e00.symm), trivial, rfl⟩
def oc2 : List (Nat × Ct) := (66, ctEnd) :: oc1
theorem oc2_ok : AllOk Tryz.prog oc2 := ⟨ctEnd_ok, oc1_ok⟩
def ctKept06E : Ct := ⟨2, [], [vp 0 1, .fl (.l (.f 0)), .fl (.l (.f 4607182418800017408))], { binds := [⟨fun us i => ivU (keptT 0 4607182418800017408 (gF us 0, gF us 1)) i, 2, upto 0 2⟩], needs := [], val := vp 2 3, upd := [] }⟩
set_option maxRecDepth 100000 in
set_option maxHeartbeats 8000000 in
theorem ctKept06E_ok : CtOk Tryz.prog 33 ctKept06E := by
 refine CtOk.of_eval2 oc2_ok (dr_ok oc2_ok) Tryz.func33 rfl (by decide) [] 200 (by kernel_rfl) rfl (.bind ⟨fun us i => fRes (endT (gF us 0) (gF us 1) (gF us 2)) i, 1, [(.v 0), (.l (.f 0)), (.l (.f 4607182418800017408))]⟩ (.bind ⟨fun us i => fRes (endT (gF us 0) (gF us 1) (gF us 2)) i, 1, [(.v 1), (.l (.f 0)), (.l (.f 4607182418800017408))]⟩ (.done .ret ⟨[.agg [.fl (.v 2), .fl (.v 3)]], [], 4, []⟩))) (by kernel_rfl) (by kernel_rfl) (by kernel_rfl) (fun us hl hF hB hN => ?_)
 match us, hl with
 | [u0, u1], _ =>
  simp [FactsB, FactsL, Facts, ctKept06E] at hF hB
  simp [NeedsAt, runB, evs, E.ev, upto, resl, List.range, List.range.loop, ctKept06E] at hN
  obtain ⟨⟨a1, rfl, wa1⟩, ⟨a2, rfl, wa2⟩⟩ := hF
  refine T.HH.h ?_
  obtain ⟨t0, e1⟩ : ∃ t0, ((endT (a1) (0) (4607182418800017408))) = t0 := ⟨_, rfl⟩
  refine T.hbind (us := [.f a1, .f 0, .f 4607182418800017408]) (xs := [.f t0]) rfl (uF e1) rfl ?_
  obtain ⟨t2, e3⟩ : ∃ t2, ((endT (a2) (0) (4607182418800017408))) = t2 := ⟨_, rfl⟩
  refine T.hbind (us := [.f a2, .f 0, .f 4607182418800017408]) (xs := [.f t2]) rfl (uF e3) rfl ?_
  refine T.hdone ?_
  have e00 : keptT 0 4607182418800017408 (a1, a2) = (t0, t2) := by simp only [keptT, e1, e3] <;> simp_all
  exact ⟨⟨vI e00 0, vI e00 1, trivial⟩, trivial, rfl⟩
def oc3 : List (Nat × Ct) := (33, ctKept06E) :: oc2
theorem oc3_ok : AllOk Tryz.prog oc3 := ⟨ctKept06E_ok, oc2_ok⟩
def ctKept06 : Ct := ⟨2, [], [vp 0 1, .fl (.l (.f 0)), .fl (.l (.f 4607182418800017408))], { binds := [⟨fun us i => ivU (Dy.clip 0 4607182418800017408 (gF us 0, gF us 1)) i, 2, upto 0 2⟩], needs := [⟨rN, [.v 0, .v 1]⟩], val := vp 2 3, upd := [] }⟩
theorem ctKept06_ok : CtOk Tryz.prog 33 ctKept06 := by
 refine CtOk.swap ctKept06E_ok fun ρ us h1 hm hF hN i => ?_
 match ρ, hm with
 | u0 :: u1 :: l, _ =>
  simp [evs, upto, E.ev] at h1
  subst h1
  simp [FactsL, Facts] at hF
  obtain ⟨⟨a1, rfl, wa1⟩, ⟨a2, rfl, wa2⟩⟩ := hF
  simp [NeedsAt, evs, E.ev, rN, gF, U.F] at hN
  obtain ⟨r1, r2⟩ := hN
  have wl : Dy.W 0 := by unfold Dy.W; decide
  have wh : Dy.W 4607182418800017408 := by unfold Dy.W; decide
  have rl : Dy.right 0 = true := by decide +kernel
  have rh : Dy.right 4607182418800017408 = true := by decide +kernel
  have lh : Dy.dec 0 ≤ Dy.dec 4607182418800017408 := by decide +kernel
  have e : keptT 0 4607182418800017408 (a1, a2) = Dy.clip 0 4607182418800017408 (a1, a2) := by
   unfold keptT Dy.clip
   rw [endT_eq wa1 wl wh r1 rl rh lh, endT_eq wa2 wl wh r2 rl rh lh]
  exact congrArg (fun r => ivU r i) e
def oc4 : List (Nat × Ct) := (33, ctKept06) :: oc3
theorem oc4_ok : AllOk Tryz.prog oc4 := ⟨ctKept06_ok, oc3_ok⟩
def ctKept06nE : Ct := ⟨2, [], [vp 0 1, .fl (.l (.f 13830554455654793216)), .fl (.l (.f 4607182418800017408))], { binds := [⟨fun us i => ivU (keptT 13830554455654793216 4607182418800017408 (gF us 0, gF us 1)) i, 2, upto 0 2⟩], needs := [], val := vp 2 3, upd := [] }⟩
set_option maxRecDepth 100000 in
set_option maxHeartbeats 8000000 in
theorem ctKept06nE_ok : CtOk Tryz.prog 33 ctKept06nE := by
 refine CtOk.of_eval2 oc4_ok (dr_ok oc4_ok) Tryz.func33 rfl (by decide) [] 200 (by kernel_rfl) rfl (.bind ⟨fun us i => fRes (endT (gF us 0) (gF us 1) (gF us 2)) i, 1, [(.v 0), (.l (.f 13830554455654793216)), (.l (.f 4607182418800017408))]⟩ (.bind ⟨fun us i => fRes (endT (gF us 0) (gF us 1) (gF us 2)) i, 1, [(.v 1), (.l (.f 13830554455654793216)), (.l (.f 4607182418800017408))]⟩ (.done .ret ⟨[.agg [.fl (.v 2), .fl (.v 3)]], [], 4, []⟩))) (by kernel_rfl) (by kernel_rfl) (by kernel_rfl) (fun us hl hF hB hN => ?_)
 match us, hl with
 | [u0, u1], _ =>
  simp [FactsB, FactsL, Facts, ctKept06nE] at hF hB
  simp [NeedsAt, runB, evs, E.ev, upto, resl, List.range, List.range.loop, ctKept06nE] at hN
  obtain ⟨⟨a1, rfl, wa1⟩, ⟨a2, rfl, wa2⟩⟩ := hF
  refine T.HH.h ?_
  obtain ⟨t0, e1⟩ : ∃ t0, ((endT (a1) (13830554455654793216) (4607182418800017408))) = t0 := ⟨_, rfl⟩
  refine T.hbind (us := [.f a1, .f 13830554455654793216, .f 4607182418800017408]) (xs := [.f t0]) rfl (uF e1) rfl ?_
  obtain ⟨t2, e3⟩ : ∃ t2, ((endT (a2) (13830554455654793216) (4607182418800017408))) = t2 := ⟨_, rfl⟩
  refine T.hbind (us := [.f a2, .f 13830554455654793216, .f 4607182418800017408]) (xs := [.f t2]) (ρ' := [.f a1, .f a2, .f t0, .f t2]) rfl (uF e3) rfl ?_
  refine T.hdone ?_
  have e00 : keptT 13830554455654793216 4607182418800017408 (a1, a2) = (t0, t2) := by simp only [keptT, e1, e3] <;> simp_all
  exact ⟨⟨vI e00 0, vI e00 1, trivial⟩, trivial, rfl⟩
def oc5 : List (Nat × Ct) := (33, ctKept06nE) :: oc4
theorem oc5_ok : AllOk Tryz.prog oc5 := ⟨ctKept06nE_ok, oc4_ok⟩
def ctKept06n : Ct := ⟨2, [], [vp 0 1, .fl (.l (.f 13830554455654793216)), .fl (.l (.f 4607182418800017408))], { binds := [⟨fun us i => ivU (Dy.clip 13830554455654793216 4607182418800017408 (gF us 0, gF us 1)) i, 2, upto 0 2⟩], needs := [⟨rN, [.v 0, .v 1]⟩], val := vp 2 3, upd := [] }⟩
theorem ctKept06n_ok : CtOk Tryz.prog 33 ctKept06n := by
 refine CtOk.swap ctKept06nE_ok fun ρ us h1 hm hF hN i => ?_
 match ρ, hm with
 | u0 :: u1 :: l, _ =>
  simp [evs, upto, E.ev] at h1
  subst h1
  simp [FactsL, Facts] at hF
  obtain ⟨⟨a1, rfl, wa1⟩, ⟨a2, rfl, wa2⟩⟩ := hF
  simp [NeedsAt, evs, E.ev, rN, gF, U.F] at hN
  obtain ⟨r1, r2⟩ := hN
  have wl : Dy.W 13830554455654793216 := by unfold Dy.W; decide
  have wh : Dy.W 4607182418800017408 := by unfold Dy.W; decide
  have rl : Dy.right 13830554455654793216 = true := by decide +kernel
  have rh : Dy.right 4607182418800017408 = true := by decide +kernel
  have lh : Dy.dec 13830554455654793216 ≤ Dy.dec 4607182418800017408 := by decide +kernel
  have e : keptT 13830554455654793216 4607182418800017408 (a1, a2) = Dy.clip 13830554455654793216 4607182418800017408 (a1, a2) := by
   unfold keptT Dy.clip
   rw [endT_eq wa1 wl wh r1 rl rh lh, endT_eq wa2 wl wh r2 rl rh lh]
  exact congrArg (fun r => ivU r i) e
def oc6 : List (Nat × Ct) := (33, ctKept06n) :: oc5
theorem oc6_ok : AllOk Tryz.prog oc6 := ⟨ctKept06n_ok, oc5_ok⟩
theorem hull_ends {a b : Nat × Nat} (wa : Dy.W a.1) (wb : Dy.W b.1) (va : Dy.W a.2) (vb : Dy.W b.2) (ra : Dy.right a.1 = true) (rb : Dy.right b.1 = true) (sa : Dy.right a.2 = true) (sb : Dy.right b.2 = true) : Dy.WW (hullT a b) ∧ Dy.right (hullT a b).1 = true ∧ Dy.right (hullT a b).2 = true := by
 unfold hullT lessT moreT
 refine ⟨⟨?_, ?_⟩, ?_, ?_⟩ <;> (dsimp only; split) <;> assumption
def pairR (sigma : Nat × Nat) : Dy.Cm ((Nat × Nat) × (Nat × Nat)) := do
 let two ← Dy.mNum 4611686018427387904
 let h ← Dy.mDiv (4614256656552045848, 4614256656552045849) two
 let two ← Dy.mNum 4611686018427387904
 let three ← Dy.mNum 4613937818241073152
 let t ← Dy.mDiv two three
 let d ← Dy.mSub h t
 let one ← Dy.mNum 4607182418800017408
 let m ← Dy.mMul d sigma
 let s ← Dy.mAdd (4614256656552045848, 4614256656552045849) m
 let a ← Dy.mDiv one s
 let b ← Dy.mMul sigma a
 pure ((a, b))
def oPairR (a : Nat × Nat) : ((Nat × Nat) × (Nat × Nat)) × Int := if Dy.ivR a = true then (if withT a 0 4607182418800017408 = true then ((pairR a 0).1, 0) else (((0, 0), (0, 0)), 2)) else (((0, 0), (0, 0)), 20)
def slopeR (i o d : Nat × Nat) : Dy.Cm (Nat × Nat) := do
 let m ← Dy.mMul i o
 let s ← Dy.mSub d m
 if Dy.fgt s.2 0 = true then do
  let x ← Dy.mMax i o
  if (Dy.fgt s.1 0 || Dy.feq s.1 0) = true then do
   let q ← Dy.mDiv s x
   pure (Dy.clip 13830554455654793216 4607182418800017408 q)
  else do
   let q ← Dy.mDiv (0, s.2) x
   let h ← pure (hullT (s.1, 0) q)
   pure (Dy.clip 13830554455654793216 4607182418800017408 h)
 else pure (Dy.clip 13830554455654793216 4607182418800017408 s)
def oSlopeR (i o d : Nat × Nat) : (Nat × Nat) × Int := if Dy.ivR i = true then (if Dy.ivR o = true then (if Dy.ivR d = true then (if withT i 0 4607182418800017408 = true then (if withT o 0 4607182418800017408 = true then (if withT d 13830554455654793216 4607182418800017408 = true then Dy.told (slopeR i o d 0) else ((0, 0), 2)) else ((0, 0), 2)) else ((0, 0), 2)) else ((0, 0), 20)) else ((0, 0), 20)) else ((0, 0), 20)
def valR (rho : Nat × Nat) (ab : (Nat × Nat) × (Nat × Nat)) (s : Nat × Nat) : Dy.Cm (Nat × Nat) := do
 let m ← Dy.mMul ab.2 s
 let a ← Dy.mAdd ab.1 m
 let v ← Dy.mMul rho a
 pure (Dy.clip 0 4607182418800017408 v)
def oValR (r s i o d : Nat × Nat) : (Nat × Nat) × Int := if Dy.ivR r = true then (if Dy.ivR s = true then (if Dy.ivR i = true then (if Dy.ivR o = true then (if Dy.ivR d = true then (if withT r 0 4607182418800017408 = true then (if (oPairR s).2 ≠ 0 then ((0, 0), (oPairR s).2) else if (oSlopeR i o d).2 ≠ 0 then ((0, 0), (oSlopeR i o d).2) else ((valR r (oPairR s).1 (oSlopeR i o d).1 0).1, 0)) else ((0, 0), 2)) else ((0, 0), 20)) else ((0, 0), 20)) else ((0, 0), 20)) else ((0, 0), 20)) else ((0, 0), 20)
def ctPairR : Ct := ⟨2, [], [vp 0 1], { binds := [⟨fun us i => pairU ((oPairR (gF us 0, gF us 1))) i, 5, upto 0 2⟩], needs := [], val := .tup [vp 2 3, vp 4 5, vi .i64 6], upd := [] }⟩
set_option maxRecDepth 100000 in
set_option maxHeartbeats 8000000 in
theorem ctPairR_ok : CtOk Tryz.prog 7 ctPairR := by
 refine CtOk.of_eval2 oc6_ok (dr_ok oc6_ok) Tryz.func7 rfl (by decide) [] 200 (by kernel_rfl) rfl (.bind ⟨fIv1 Dy.ivR, 1, [(.v 0), (.v 1)]⟩ (.bind ⟨fun us _ => nB us, 1, [(.v 2)]⟩ (.ite (.v 3) (.done .ret ⟨[.tup [.agg [.fl (.l (.f 0)), .fl (.l (.f 0))], .agg [.fl (.l (.f 0)), .fl (.l (.f 0))], .it .i64 (.l (.i 20))]], [], 4, []⟩) (.bind ⟨fun us i => bRes (withT (gF us 0, gF us 1) (gF us 2) (gF us 3)) i, 1, [(.v 0), (.v 1), (.l (.f 0)), (.l (.f 4607182418800017408))]⟩ (.bind ⟨fun us _ => nB us, 1, [(.v 4)]⟩ (.ite (.v 5) (.done .ret ⟨[.tup [.agg [.fl (.l (.f 0)), .fl (.l (.f 0))], .agg [.fl (.l (.f 0)), .fl (.l (.f 0))], .it .i64 (.l (.i 2))]], [], 6, []⟩) (.bind ⟨calF0 Dy.cNum, 3, [(.l (.i 0)), (.l (.f 4611686018427387904))]⟩ (.bind ⟨calF2 Dy.cDiv, 3, [(.v 8), (.l (.f 4614256656552045848)), (.l (.f 4614256656552045849)), (.v 6), (.v 7)]⟩ (.bind ⟨calF0 Dy.cNum, 3, [(.v 11), (.l (.f 4611686018427387904))]⟩ (.bind ⟨calF0 Dy.cNum, 3, [(.v 14), (.l (.f 4613937818241073152))]⟩ (.bind ⟨calF2 Dy.cDiv, 3, [(.v 17), (.v 12), (.v 13), (.v 15), (.v 16)]⟩ (.bind ⟨calF2 Dy.cSub, 3, [(.v 20), (.v 9), (.v 10), (.v 18), (.v 19)]⟩ (.bind ⟨calF0 Dy.cNum, 3, [(.v 23), (.l (.f 4607182418800017408))]⟩ (.bind ⟨calF2 Dy.cMul, 3, [(.v 26), (.v 21), (.v 22), (.v 0), (.v 1)]⟩ (.bind ⟨calF2 Dy.cAdd, 3, [(.v 29), (.l (.f 4614256656552045848)), (.l (.f 4614256656552045849)), (.v 27), (.v 28)]⟩ (.bind ⟨calF2 Dy.cDiv, 3, [(.v 32), (.v 24), (.v 25), (.v 30), (.v 31)]⟩ (.bind ⟨calF2 Dy.cMul, 3, [(.v 35), (.v 0), (.v 1), (.v 33), (.v 34)]⟩ (.done .ret ⟨[.tup [.agg [.fl (.v 33), .fl (.v 34)], .agg [.fl (.v 36), .fl (.v 37)], .it .i64 (.l (.i 0))]], [], 39, []⟩)))))))))))))))))) (by kernel_rfl) (by kernel_rfl) (by kernel_rfl) (fun us hl hF hB hN => ?_)
 match us, hl with
 | [u0, u1], _ =>
  simp [FactsB, FactsL, Facts, ctPairR] at hF hB
  simp [NeedsAt, runB, evs, E.ev, upto, resl, List.range, List.range.loop, ctPairR] at hN
  obtain ⟨⟨a1, rfl, wa1⟩, ⟨a2, rfl, wa2⟩⟩ := hF
  refine T.HH.h ?_
  obtain ⟨t0, e1⟩ : ∃ t0, (Dy.ivR (a1, a2)) = t0 := ⟨_, rfl⟩
  refine T.hbind (us := [.f a1, .f a2]) (xs := [.b t0]) rfl (uB e1) rfl ?_
  obtain ⟨t2, e3⟩ : ∃ t2, (!t0) = t2 := ⟨_, rfl⟩
  refine T.hbind (us := [.b t0]) (xs := [.b t2]) rfl (uB e3) rfl ?_
  refine T.hite (x := t2) ?_ ?_ ?_
  ·rfl
  ·intro c5
   refine T.hdone ?_
   have e00 : (oPairR (a1, a2)) = (((0, 0), (0, 0)), 20) := by simp only [oPairR, e1, e3, c5] <;> simp_all
   exact ⟨⟨⟨(congrArg (fun r => some (pairU r 0)) e00.symm), (congrArg (fun r => some (pairU r 1)) e00.symm), trivial⟩, ⟨(congrArg (fun r => some (pairU r 2)) e00.symm), (congrArg (fun r => some (pairU r 3)) e00.symm), trivial⟩, ⟨rfl, (congrArg (fun r => some (pairU r 4)) e00.symm)⟩, trivial⟩, trivial, rfl⟩
  ·intro c5
   have B5 : t0 = true := by cases hh : t0 with | true => rfl | false => rw [hh] at e3; rw [c5] at e3; cases e3
   have r5 := e1.trans B5
   obtain ⟨t5, e6⟩ : ∃ t5, ((withT (a1, a2) (0) (4607182418800017408))) = t5 := ⟨_, rfl⟩
   refine T.hbind (us := [.f a1, .f a2, .f 0, .f 4607182418800017408]) (xs := [.b t5]) rfl (uB e6) rfl ?_
   obtain ⟨t7, e8⟩ : ∃ t7, (!t5) = t7 := ⟨_, rfl⟩
   refine T.hbind (us := [.b t5]) (xs := [.b t7]) rfl (uB e8) rfl ?_
   refine T.hite (x := t7) ?_ ?_ ?_
   ·rfl
   ·intro c10
    refine T.hdone ?_
    have e00 : (oPairR (a1, a2)) = (((0, 0), (0, 0)), 2) := by simp only [oPairR, e1, e3, c5, e6, e8, c10] <;> simp_all
    exact ⟨⟨⟨(congrArg (fun r => some (pairU r 0)) e00.symm), (congrArg (fun r => some (pairU r 1)) e00.symm), trivial⟩, ⟨(congrArg (fun r => some (pairU r 2)) e00.symm), (congrArg (fun r => some (pairU r 3)) e00.symm), trivial⟩, ⟨rfl, (congrArg (fun r => some (pairU r 4)) e00.symm)⟩, trivial⟩, trivial, rfl⟩
   ·intro c10
    obtain ⟨t10, t11, t12, e13⟩ := Dy.ex3 (Dy.cNum 0 4611686018427387904)
    refine T.hbind (us := [.i 0, .f 4611686018427387904]) (xs := [.f t10, .f t11, .i t12]) rfl (uC e13) rfl ?_
    obtain ⟨t14, t15, t16, e17⟩ := Dy.ex3 (Dy.cDiv t12 (4614256656552045848, 4614256656552045849) (t10, t11))
    refine T.hbind (us := [.i t12, .f 4614256656552045848, .f 4614256656552045849, .f t10, .f t11]) (xs := [.f t14, .f t15, .i t16]) rfl (uC e17) rfl ?_
    obtain ⟨t18, t19, t20, e21⟩ := Dy.ex3 (Dy.cNum t16 4611686018427387904)
    refine T.hbind (us := [.i t16, .f 4611686018427387904]) (xs := [.f t18, .f t19, .i t20]) rfl (uC e21) rfl ?_
    obtain ⟨t22, t23, t24, e25⟩ := Dy.ex3 (Dy.cNum t20 4613937818241073152)
    refine T.hbind (us := [.i t20, .f 4613937818241073152]) (xs := [.f t22, .f t23, .i t24]) (ρ' := [.f a1, .f a2, .b t0, .b t2, .b t5, .b t7, .f t10, .f t11, .i t12, .f t14, .f t15, .i t16, .f t18, .f t19, .i t20, .f t22, .f t23, .i t24]) rfl (uC e25) rfl ?_
    obtain ⟨t26, t27, t28, e29⟩ := Dy.ex3 (Dy.cDiv t24 (t18, t19) (t22, t23))
    refine T.hbind (us := [.i t24, .f t18, .f t19, .f t22, .f t23]) (xs := [.f t26, .f t27, .i t28]) rfl (uC e29) rfl ?_
    obtain ⟨t30, t31, t32, e33⟩ := Dy.ex3 (Dy.cSub t28 (t14, t15) (t26, t27))
    refine T.hbind (us := [.i t28, .f t14, .f t15, .f t26, .f t27]) (xs := [.f t30, .f t31, .i t32]) rfl (uC e33) rfl ?_
    obtain ⟨t34, t35, t36, e37⟩ := Dy.ex3 (Dy.cNum t32 4607182418800017408)
    refine T.hbind (us := [.i t32, .f 4607182418800017408]) (xs := [.f t34, .f t35, .i t36]) rfl (uC e37) rfl ?_
    obtain ⟨t38, t39, t40, e41⟩ := Dy.ex3 (Dy.cMul t36 (t30, t31) (a1, a2))
    refine T.hbind (us := [.i t36, .f t30, .f t31, .f a1, .f a2]) (xs := [.f t38, .f t39, .i t40]) rfl (uC e41) rfl ?_
    obtain ⟨t42, t43, t44, e45⟩ := Dy.ex3 (Dy.cAdd t40 (4614256656552045848, 4614256656552045849) (t38, t39))
    refine T.hbind (us := [.i t40, .f 4614256656552045848, .f 4614256656552045849, .f t38, .f t39]) (xs := [.f t42, .f t43, .i t44]) rfl (uC e45) rfl ?_
    obtain ⟨t46, t47, t48, e49⟩ := Dy.ex3 (Dy.cDiv t44 (t34, t35) (t42, t43))
    refine T.hbind (us := [.i t44, .f t34, .f t35, .f t42, .f t43]) (xs := [.f t46, .f t47, .i t48]) rfl (uC e49) rfl ?_
    obtain ⟨t50, t51, t52, e53⟩ := Dy.ex3 (Dy.cMul t48 (a1, a2) (t46, t47))
    refine T.hbind (us := [.i t48, .f a1, .f a2, .f t46, .f t47]) (xs := [.f t50, .f t51, .i t52]) rfl (uC e53) rfl ?_
    refine T.hdone ?_
    have eM : pairR (a1, a2) 0 = (((t46, t47), (t50, t51)), t52) := by
     unfold pairR
     refine (Dy.cs_num e13).trans ?_
     refine (Dy.cs_div e17).trans ?_
     refine (Dy.cs_num e21).trans ?_
     refine (Dy.cs_num e25).trans ?_
     refine (Dy.cs_div e29).trans ?_
     refine (Dy.cs_sub e33).trans ?_
     refine (Dy.cs_num e37).trans ?_
     refine (Dy.cs_mul e41).trans ?_
     refine (Dy.cs_add e45).trans ?_
     refine (Dy.cs_div e49).trans ?_
     first | exact e53 | (refine (Dy.cs_mul e53).trans ?_; rfl) | (refine (Dy.cs_mul e53).trans ?_; rw [Dy.cm_pure]; simp only [e1, e3, c5, e6, e8, c10]) | (refine (Dy.cs_mul e53).trans ?_; simp only [e1, e3, c5, e6, e8, c10, Bool.false_eq_true, reduceIte]; rfl)
    have e00 : (oPairR (a1, a2)) = (((t46, t47), (t50, t51)), 0) := by simp only [oPairR, eM, e1, e3, c5, e6, e8, c10] <;> simp_all
    exact ⟨⟨⟨(congrArg (fun r => some (pairU r 0)) e00.symm), (congrArg (fun r => some (pairU r 1)) e00.symm), trivial⟩, ⟨(congrArg (fun r => some (pairU r 2)) e00.symm), (congrArg (fun r => some (pairU r 3)) e00.symm), trivial⟩, ⟨rfl, (congrArg (fun r => some (pairU r 4)) e00.symm)⟩, trivial⟩, trivial, rfl⟩
def oc7 : List (Nat × Ct) := (7, ctPairR) :: oc6
theorem oc7_ok : AllOk Tryz.prog oc7 := ⟨ctPairR_ok, oc6_ok⟩
def ctSlopeR : Ct := ⟨6, [], [vp 0 1, vp 2 3, vp 4 5], { binds := [⟨fun us i => calR ((oSlopeR (gF us 0, gF us 1) (gF us 2, gF us 3) (gF us 4, gF us 5))) i, 3, upto 0 6⟩], needs := [], val := .tup [vp 6 7, vi .i64 8], upd := [] }⟩
set_option maxRecDepth 100000 in
set_option maxHeartbeats 8000000 in
theorem ctSlopeR_ok : CtOk Tryz.prog 9 ctSlopeR := by
 refine CtOk.of_eval2 oc7_ok (dr_ok oc7_ok) Tryz.func9 rfl (by decide) [] 200 (by kernel_rfl) rfl (.bind ⟨fIv1 Dy.ivR, 1, [(.v 0), (.v 1)]⟩ (.bind ⟨fun us _ => nB us, 1, [(.v 6)]⟩ (.ite (.v 7) (.done .ret ⟨[.tup [.agg [.fl (.l (.f 0)), .fl (.l (.f 0))], .it .i64 (.l (.i 20))]], [], 8, []⟩) (.bind ⟨fIv1 Dy.ivR, 1, [(.v 2), (.v 3)]⟩ (.bind ⟨fun us _ => nB us, 1, [(.v 8)]⟩ (.ite (.v 9) (.done .ret ⟨[.tup [.agg [.fl (.l (.f 0)), .fl (.l (.f 0))], .it .i64 (.l (.i 20))]], [], 10, []⟩) (.bind ⟨fIv1 Dy.ivR, 1, [(.v 4), (.v 5)]⟩ (.bind ⟨fun us _ => nB us, 1, [(.v 10)]⟩ (.ite (.v 11) (.done .ret ⟨[.tup [.agg [.fl (.l (.f 0)), .fl (.l (.f 0))], .it .i64 (.l (.i 20))]], [], 12, []⟩) (.bind ⟨fun us i => bRes (withT (gF us 0, gF us 1) (gF us 2) (gF us 3)) i, 1, [(.v 0), (.v 1), (.l (.f 0)), (.l (.f 4607182418800017408))]⟩ (.bind ⟨fun us _ => nB us, 1, [(.v 12)]⟩ (.ite (.v 13) (.done .ret ⟨[.tup [.agg [.fl (.l (.f 0)), .fl (.l (.f 0))], .it .i64 (.l (.i 2))]], [], 14, []⟩) (.bind ⟨fun us i => bRes (withT (gF us 0, gF us 1) (gF us 2) (gF us 3)) i, 1, [(.v 2), (.v 3), (.l (.f 0)), (.l (.f 4607182418800017408))]⟩ (.bind ⟨fun us _ => nB us, 1, [(.v 14)]⟩ (.ite (.v 15) (.done .ret ⟨[.tup [.agg [.fl (.l (.f 0)), .fl (.l (.f 0))], .it .i64 (.l (.i 2))]], [], 16, []⟩) (.bind ⟨fun us i => bRes (withT (gF us 0, gF us 1) (gF us 2) (gF us 3)) i, 1, [(.v 4), (.v 5), (.l (.f 13830554455654793216)), (.l (.f 4607182418800017408))]⟩ (.bind ⟨fun us _ => nB us, 1, [(.v 16)]⟩ (.ite (.v 17) (.done .ret ⟨[.tup [.agg [.fl (.l (.f 0)), .fl (.l (.f 0))], .it .i64 (.l (.i 2))]], [], 18, []⟩) (.bind ⟨calF2 Dy.cMul, 3, [(.l (.i 0)), (.v 0), (.v 1), (.v 2), (.v 3)]⟩ (.bind ⟨calF2 Dy.cSub, 3, [(.v 20), (.v 4), (.v 5), (.v 18), (.v 19)]⟩ (.bind ⟨fun us _ => cB Dy.fgt us, 1, [(.v 22), (.l (.f 0))]⟩ (.ite (.v 24) (.bind ⟨calF2 Dy.cMax, 3, [(.v 23), (.v 0), (.v 1), (.v 2), (.v 3)]⟩ (.bind ⟨fun us _ => cB (fun a b => Dy.fgt a b || Dy.feq a b) us, 1, [(.v 21), (.l (.f 0))]⟩ (.ite (.v 28) (.bind ⟨calF2 Dy.cDiv, 3, [(.v 27), (.v 21), (.v 22), (.v 25), (.v 26)]⟩ (.bind ⟨fun us _ => jB (fun a b => a != b) us, 1, [(.v 31), (.l (.i 0))]⟩ (.ite (.v 32) (.done .ret ⟨[.tup [.agg [.fl (.l (.f 0)), .fl (.l (.f 0))], .it .i64 (.v 31)]], [], 33, []⟩) (.bind ⟨fun us i => ivU (Dy.clip 13830554455654793216 4607182418800017408 (gF us 0, gF us 1)) i, 2, [(.v 29), (.v 30)]⟩ (.need ⟨rN, [(.v 29), (.v 30)]⟩ (.done .ret ⟨[.tup [.agg [.fl (.v 33), .fl (.v 34)], .it .i64 (.l (.i 0))]], [], 35, []⟩)))))) (.bind ⟨calF2 Dy.cDiv, 3, [(.v 27), (.l (.f 0)), (.v 22), (.v 25), (.v 26)]⟩ (.bind ⟨fun us i => ivU (hullT (gF us 0, gF us 1) (gF us 2, gF us 3)) i, 2, [(.v 21), (.l (.f 0)), (.v 29), (.v 30)]⟩ (.bind ⟨fun us _ => jB (fun a b => a != b) us, 1, [(.v 31), (.l (.i 0))]⟩ (.ite (.v 34) (.done .ret ⟨[.tup [.agg [.fl (.l (.f 0)), .fl (.l (.f 0))], .it .i64 (.v 31)]], [], 35, []⟩) (.bind ⟨fun us i => ivU (Dy.clip 13830554455654793216 4607182418800017408 (gF us 0, gF us 1)) i, 2, [(.v 32), (.v 33)]⟩ (.need ⟨rN, [(.v 32), (.v 33)]⟩ (.done .ret ⟨[.tup [.agg [.fl (.v 35), .fl (.v 36)], .it .i64 (.l (.i 0))]], [], 37, []⟩)))))))))) (.bind ⟨fun us _ => jB (fun a b => a != b) us, 1, [(.v 23), (.l (.i 0))]⟩ (.ite (.v 25) (.done .ret ⟨[.tup [.agg [.fl (.l (.f 0)), .fl (.l (.f 0))], .it .i64 (.v 23)]], [], 26, []⟩) (.bind ⟨fun us i => ivU (Dy.clip 13830554455654793216 4607182418800017408 (gF us 0, gF us 1)) i, 2, [(.v 21), (.v 22)]⟩ (.need ⟨rN, [(.v 21), (.v 22)]⟩ (.done .ret ⟨[.tup [.agg [.fl (.v 26), .fl (.v 27)], .it .i64 (.l (.i 0))]], [], 28, []⟩))))))))))))))))))))))))))) (by kernel_rfl) (by kernel_rfl) (by kernel_rfl) (fun us hl hF hB hN => ?_)
 match us, hl with
 | [u0, u1, u2, u3, u4, u5], _ =>
  simp [FactsB, FactsL, Facts, ctSlopeR] at hF hB
  simp [NeedsAt, runB, evs, E.ev, upto, resl, List.range, List.range.loop, ctSlopeR] at hN
  obtain ⟨⟨⟨a1, rfl, wa1⟩, ⟨a2, rfl, wa2⟩⟩, ⟨⟨b1, rfl, wb1⟩, ⟨b2, rfl, wb2⟩⟩, ⟨c1, rfl, wc1⟩, ⟨c2, rfl, wc2⟩⟩ := hF
  refine T.HH.h ?_
  obtain ⟨t0, e1⟩ : ∃ t0, (Dy.ivR (a1, a2)) = t0 := ⟨_, rfl⟩
  refine T.hbind (us := [.f a1, .f a2]) (xs := [.b t0]) (ρ' := [.f a1, .f a2, .f b1, .f b2, .f c1, .f c2, .b t0]) rfl (uB e1) rfl ?_
  obtain ⟨t2, e3⟩ : ∃ t2, (!t0) = t2 := ⟨_, rfl⟩
  refine T.hbind (us := [.b t0]) (xs := [.b t2]) rfl (uB e3) rfl ?_
  refine T.hite (x := t2) ?_ ?_ ?_
  ·rfl
  ·intro c5
   refine T.hdone ?_
   have e00 : (oSlopeR (a1, a2) (b1, b2) (c1, c2)) = ((0, 0), 20) := by simp only [oSlopeR, Dy.told, e1, e3, c5] <;> simp_all
   exact ⟨⟨⟨vC e00 0, vC e00 1, trivial⟩, ⟨rfl, vC e00 2⟩, trivial⟩, trivial, rfl⟩
  ·intro c5
   have B5 : t0 = true := by cases hh : t0 with | true => rfl | false => rw [hh] at e3; rw [c5] at e3; cases e3
   have r5 := e1.trans B5
   obtain ⟨t5, e6⟩ : ∃ t5, (Dy.ivR (b1, b2)) = t5 := ⟨_, rfl⟩
   refine T.hbind (us := [.f b1, .f b2]) (xs := [.b t5]) rfl (uB e6) rfl ?_
   obtain ⟨t7, e8⟩ : ∃ t7, (!t5) = t7 := ⟨_, rfl⟩
   refine T.hbind (us := [.b t5]) (xs := [.b t7]) rfl (uB e8) rfl ?_
   refine T.hite (x := t7) ?_ ?_ ?_
   ·rfl
   ·intro c10
    refine T.hdone ?_
    have e00 : (oSlopeR (a1, a2) (b1, b2) (c1, c2)) = ((0, 0), 20) := by simp only [oSlopeR, Dy.told, e1, e3, c5, e6, e8, c10] <;> simp_all
    exact ⟨⟨⟨vC e00 0, vC e00 1, trivial⟩, ⟨rfl, vC e00 2⟩, trivial⟩, trivial, rfl⟩
   ·intro c10
    have B10 : t5 = true := by cases hh : t5 with | true => rfl | false => rw [hh] at e8; rw [c10] at e8; cases e8
    have r10 := e6.trans B10
    obtain ⟨t10, e11⟩ : ∃ t10, (Dy.ivR (c1, c2)) = t10 := ⟨_, rfl⟩
    refine T.hbind (us := [.f c1, .f c2]) (xs := [.b t10]) rfl (uB e11) rfl ?_
    obtain ⟨t12, e13⟩ : ∃ t12, (!t10) = t12 := ⟨_, rfl⟩
    refine T.hbind (us := [.b t10]) (xs := [.b t12]) rfl (uB e13) rfl ?_
    refine T.hite (x := t12) ?_ ?_ ?_
    ·rfl
    ·intro c15
     refine T.hdone ?_
     have e00 : (oSlopeR (a1, a2) (b1, b2) (c1, c2)) = ((0, 0), 20) := by simp only [oSlopeR, Dy.told, e1, e3, c5, e6, e8, c10, e11, e13, c15] <;> simp_all
     exact ⟨⟨⟨vC e00 0, vC e00 1, trivial⟩, ⟨rfl, vC e00 2⟩, trivial⟩, trivial, rfl⟩
    ·intro c15
     have B15 : t10 = true := by cases hh : t10 with | true => rfl | false => rw [hh] at e13; rw [c15] at e13; cases e13
     have r15 := e11.trans B15
     obtain ⟨t15, e16⟩ : ∃ t15, ((withT (a1, a2) (0) (4607182418800017408))) = t15 := ⟨_, rfl⟩
     refine T.hbind (us := [.f a1, .f a2, .f 0, .f 4607182418800017408]) (xs := [.b t15]) rfl (uB e16) rfl ?_
     obtain ⟨t17, e18⟩ : ∃ t17, (!t15) = t17 := ⟨_, rfl⟩
     refine T.hbind (us := [.b t15]) (xs := [.b t17]) rfl (uB e18) rfl ?_
     refine T.hite (x := t17) ?_ ?_ ?_
     ·rfl
     ·intro c20
      refine T.hdone ?_
      have e00 : (oSlopeR (a1, a2) (b1, b2) (c1, c2)) = ((0, 0), 2) := by simp only [oSlopeR, Dy.told, e1, e3, c5, e6, e8, c10, e11, e13, c15, e16, e18, c20] <;> simp_all
      exact ⟨⟨⟨vC e00 0, vC e00 1, trivial⟩, ⟨rfl, vC e00 2⟩, trivial⟩, trivial, rfl⟩
     ·intro c20
      obtain ⟨t20, e21⟩ : ∃ t20, ((withT (b1, b2) (0) (4607182418800017408))) = t20 := ⟨_, rfl⟩
      refine T.hbind (us := [.f b1, .f b2, .f 0, .f 4607182418800017408]) (xs := [.b t20]) (ρ' := [.f a1, .f a2, .f b1, .f b2, .f c1, .f c2, .b t0, .b t2, .b t5, .b t7, .b t10, .b t12, .b t15, .b t17, .b t20]) rfl (uB e21) rfl ?_
      obtain ⟨t22, e23⟩ : ∃ t22, (!t20) = t22 := ⟨_, rfl⟩
      refine T.hbind (us := [.b t20]) (xs := [.b t22]) rfl (uB e23) rfl ?_
      refine T.hite (x := t22) ?_ ?_ ?_
      ·rfl
      ·intro c25
       refine T.hdone ?_
       have e00 : (oSlopeR (a1, a2) (b1, b2) (c1, c2)) = ((0, 0), 2) := by simp only [oSlopeR, Dy.told, e1, e3, c5, e6, e8, c10, e11, e13, c15, e16, e18, c20, e21, e23, c25] <;> simp_all
       exact ⟨⟨⟨vC e00 0, vC e00 1, trivial⟩, ⟨rfl, vC e00 2⟩, trivial⟩, trivial, rfl⟩
      ·intro c25
       obtain ⟨t25, e26⟩ : ∃ t25, ((withT (c1, c2) (13830554455654793216) (4607182418800017408))) = t25 := ⟨_, rfl⟩
       refine T.hbind (us := [.f c1, .f c2, .f 13830554455654793216, .f 4607182418800017408]) (xs := [.b t25]) rfl (uB e26) rfl ?_
       obtain ⟨t27, e28⟩ : ∃ t27, (!t25) = t27 := ⟨_, rfl⟩
       refine T.hbind (us := [.b t25]) (xs := [.b t27]) rfl (uB e28) rfl ?_
       refine T.hite (x := t27) ?_ ?_ ?_
       ·rfl
       ·intro c30
        refine T.hdone ?_
        have e00 : (oSlopeR (a1, a2) (b1, b2) (c1, c2)) = ((0, 0), 2) := by simp only [oSlopeR, Dy.told, e1, e3, c5, e6, e8, c10, e11, e13, c15, e16, e18, c20, e21, e23, c25, e26, e28, c30] <;> simp_all
        exact ⟨⟨⟨vC e00 0, vC e00 1, trivial⟩, ⟨rfl, vC e00 2⟩, trivial⟩, trivial, rfl⟩
       ·intro c30
        obtain ⟨t30, t31, t32, e33⟩ := Dy.ex3 (Dy.cMul 0 (a1, a2) (b1, b2))
        have g33 := Dy.good_mul (a := (a1, a2)) (b := (b1, b2)) (err := 0)
        rw [e33] at g33
        refine T.hbind (us := [.i 0, .f a1, .f a2, .f b1, .f b2]) (xs := [.f t30, .f t31, .i t32]) rfl (uC e33) rfl ?_
        obtain ⟨t34, t35, t36, e37⟩ := Dy.ex3 (Dy.cSub t32 (c1, c2) (t30, t31))
        have g37 := Dy.good_sub (a := (c1, c2)) (b := (t30, t31)) ⟨g33.1.1, g33.1.2⟩ (err := t32)
        rw [e37] at g37
        refine T.hbind (us := [.i t32, .f c1, .f c2, .f t30, .f t31]) (xs := [.f t34, .f t35, .i t36]) rfl (uC e37) rfl ?_
        obtain ⟨t38, e39⟩ : ∃ t38, (Dy.fgt t35 0) = t38 := ⟨_, rfl⟩
        refine T.hbind (us := [.f t35, .f 0]) (xs := [.b t38]) rfl (uB e39) rfl ?_
        refine T.hite (x := t38) ?_ ?_ ?_
        ·rfl
        ·intro c41
         obtain ⟨t41, t42, t43, e44⟩ := Dy.ex3 (Dy.cMax t36 (a1, a2) (b1, b2))
         have g44 := Dy.good_max (a := (a1, a2)) (b := (b1, b2)) ⟨wa1, wa2⟩ ⟨wb1, wb2⟩ (err := t36)
         rw [e44] at g44
         refine T.hbind (us := [.i t36, .f a1, .f a2, .f b1, .f b2]) (xs := [.f t41, .f t42, .i t43]) rfl (uC e44) rfl ?_
         obtain ⟨t45, e46⟩ : ∃ t45, (Dy.fgt t34 0 || Dy.feq t34 0) = t45 := ⟨_, rfl⟩
         refine T.hbind (us := [.f t34, .f 0]) (xs := [.b t45]) (ρ' := [.f a1, .f a2, .f b1, .f b2, .f c1, .f c2, .b t0, .b t2, .b t5, .b t7, .b t10, .b t12, .b t15, .b t17, .b t20, .b t22, .b t25, .b t27, .f t30, .f t31, .i t32, .f t34, .f t35, .i t36, .b t38, .f t41, .f t42, .i t43, .b t45]) rfl (uB e46) rfl ?_
         refine T.hite (x := t45) ?_ ?_ ?_
         ·rfl
         ·intro c48
          obtain ⟨t48, t49, t50, e51⟩ := Dy.ex3 (Dy.cDiv t43 (t34, t35) (t41, t42))
          have g51 := Dy.good_div (a := (t34, t35)) (b := (t41, t42)) ⟨g44.1.1, g44.1.2⟩ (err := t43)
          rw [e51] at g51
          refine T.hbind (us := [.i t43, .f t34, .f t35, .f t41, .f t42]) (xs := [.f t48, .f t49, .i t50]) rfl (uC e51) rfl ?_
          obtain ⟨t52, e53⟩ : ∃ t52, (t50 != 0) = t52 := ⟨_, rfl⟩
          refine T.hbind (us := [.i t50, .i 0]) (xs := [.b t52]) rfl (uB e53) rfl ?_
          refine T.hite (x := t52) ?_ ?_ ?_
          ·rfl
          ·intro c55
           refine T.hdone ?_
           have eM : slopeR (a1, a2) (b1, b2) (c1, c2) 0 = (Dy.clip 13830554455654793216 4607182418800017408 (t48, t49), t50) := by
            unfold slopeR
            refine (Dy.cs_mul e33).trans ?_
            refine (Dy.cs_sub e37).trans ?_
            refine (Dy.cif_t (e39.trans c41)).trans ?_
            refine (Dy.cs_max e44).trans ?_
            refine (Dy.cif_t (e46.trans c48)).trans ?_
            first | exact e51 | (refine (Dy.cs_div e51).trans ?_; rfl) | (refine (Dy.cs_div e51).trans ?_; rw [Dy.cm_pure]; simp only [e1, e3, c5, e6, e8, c10, e11, e13, c15, e16, e18, c20, e21, e23, c25, e26, e28, c30, e39, c41, e46, c48, e53, c55]) | (refine (Dy.cs_div e51).trans ?_; simp only [e1, e3, c5, e6, e8, c10, e11, e13, c15, e16, e18, c20, e21, e23, c25, e26, e28, c30, e39, c41, e46, c48, e53, c55, Bool.false_eq_true, reduceIte]; rfl)
           have e00 : (oSlopeR (a1, a2) (b1, b2) (c1, c2)) = ((0, 0), t50) := by simp only [oSlopeR, Dy.told, eM, e1, e3, c5, e6, e8, c10, e11, e13, c15, e16, e18, c20, e21, e23, c25, e26, e28, c30, e39, c41, e46, c48, e53, c55] <;> simp_all
           exact ⟨⟨⟨vC e00 0, vC e00 1, trivial⟩, ⟨rfl, vC e00 2⟩, trivial⟩, trivial, rfl⟩
          ·intro c55
           obtain ⟨t55, t56, e57⟩ := Dy.ex2 (Dy.clip 13830554455654793216 4607182418800017408 (t48, t49))
           have k57 := clip_ends (a := (t48, t49)) (l := 13830554455654793216) (h := 4607182418800017408) ⟨g51.1.1, g51.1.2⟩ ((Dy.ivR_of g51.2).1) ((Dy.ivR_of g51.2).2.1) (show Dy.W 13830554455654793216 from by unfold Dy.W; decide) (show Dy.right 13830554455654793216 = true from by decide +kernel) (show Dy.W 4607182418800017408 from by unfold Dy.W; decide) (show Dy.right 4607182418800017408 = true from by decide +kernel)
           rw [e57] at k57
           refine T.hbind (us := [.f t48, .f t49]) (xs := [.f t55, .f t56]) rfl (uI e57) rfl ?_
           refine T.hneed (us := [.f t48, .f t49]) rfl (show (Dy.right t48 && Dy.right t49) = true from by rw [(Dy.ivR_of g51.2).1, (Dy.ivR_of g51.2).2.1]; rfl) ?_
           refine T.hdone ?_
           have eM : slopeR (a1, a2) (b1, b2) (c1, c2) 0 = ((t55, t56), t50) := by
            unfold slopeR
            refine (Dy.cs_mul e33).trans ?_
            refine (Dy.cs_sub e37).trans ?_
            refine (Dy.cif_t (e39.trans c41)).trans ?_
            refine (Dy.cs_max e44).trans ?_
            refine (Dy.cif_t (e46.trans c48)).trans ?_
            refine (Dy.cs_div e51).trans ?_
            first | exact congrArg (fun r => (r, t50)) e57 | (refine (Dy.cm_p e57).trans ?_; rfl) | (rw [Dy.cm_pure]; simp only [Dy.iHull, e1, e3, c5, e6, e8, c10, e11, e13, c15, e16, e18, c20, e21, e23, c25, e26, e28, c30, e39, c41, e46, c48, e53, c55, e57])
           have e00 : (oSlopeR (a1, a2) (b1, b2) (c1, c2)) = ((t55, t56), 0) := by simp only [oSlopeR, Dy.told, eM, e1, e3, c5, e6, e8, c10, e11, e13, c15, e16, e18, c20, e21, e23, c25, e26, e28, c30, e39, c41, e46, c48, e53, c55] <;> simp_all
           exact ⟨⟨⟨vC e00 0, vC e00 1, trivial⟩, ⟨rfl, vC e00 2⟩, trivial⟩, trivial, rfl⟩
         ·intro c48
          obtain ⟨t58, t59, t60, e61⟩ := Dy.ex3 (Dy.cDiv t43 (0, t35) (t41, t42))
          have g61 := Dy.good_div (a := (0, t35)) (b := (t41, t42)) ⟨g44.1.1, g44.1.2⟩ (err := t43)
          rw [e61] at g61
          refine T.hbind (us := [.i t43, .f 0, .f t35, .f t41, .f t42]) (xs := [.f t58, .f t59, .i t60]) rfl (uC e61) rfl ?_
          obtain ⟨t62, t63, e64⟩ := Dy.ex2 (hullT (t34, 0) (t58, t59))
          have k64 := hull_ends (a := (t34, 0)) (b := (t58, t59)) g37.1.1 g61.1.1 (show Dy.W 0 from by unfold Dy.W; decide) g61.1.2 ((Dy.ivR_of g37.2).1) ((Dy.ivR_of g61.2).1) (show Dy.right 0 = true from by decide +kernel) ((Dy.ivR_of g61.2).2.1)
          rw [e64] at k64
          refine T.hbind (us := [.f t34, .f 0, .f t58, .f t59]) (xs := [.f t62, .f t63]) rfl (uI e64) rfl ?_
          obtain ⟨t65, e66⟩ : ∃ t65, (t60 != 0) = t65 := ⟨_, rfl⟩
          refine T.hbind (us := [.i t60, .i 0]) (xs := [.b t65]) rfl (uB e66) rfl ?_
          refine T.hite (x := t65) ?_ ?_ ?_
          ·rfl
          ·intro c68
           refine T.hdone ?_
           have eM : slopeR (a1, a2) (b1, b2) (c1, c2) 0 = (Dy.clip 13830554455654793216 4607182418800017408 (t62, t63), t60) := by
            unfold slopeR
            refine (Dy.cs_mul e33).trans ?_
            refine (Dy.cs_sub e37).trans ?_
            refine (Dy.cif_t (e39.trans c41)).trans ?_
            refine (Dy.cs_max e44).trans ?_
            refine (Dy.cif_f (e46.trans c48)).trans ?_
            refine (Dy.cs_div e61).trans ?_
            first | exact congrArg (fun r => (r, t60)) e64 | (refine (Dy.cm_p e64).trans ?_; rfl) | (rw [Dy.cm_pure]; simp only [Dy.iHull, e1, e3, c5, e6, e8, c10, e11, e13, c15, e16, e18, c20, e21, e23, c25, e26, e28, c30, e39, c41, e46, c48, e66, c68, e64])
           have e00 : (oSlopeR (a1, a2) (b1, b2) (c1, c2)) = ((0, 0), t60) := by simp only [oSlopeR, Dy.told, eM, e1, e3, c5, e6, e8, c10, e11, e13, c15, e16, e18, c20, e21, e23, c25, e26, e28, c30, e39, c41, e46, c48, e66, c68] <;> simp_all
           exact ⟨⟨⟨vC e00 0, vC e00 1, trivial⟩, ⟨rfl, vC e00 2⟩, trivial⟩, trivial, rfl⟩
          ·intro c68
           obtain ⟨t68, t69, e70⟩ := Dy.ex2 (Dy.clip 13830554455654793216 4607182418800017408 (t62, t63))
           have k70 := clip_ends (a := (t62, t63)) (l := 13830554455654793216) (h := 4607182418800017408) ⟨k64.1.1, k64.1.2⟩ k64.2.1 k64.2.2 (show Dy.W 13830554455654793216 from by unfold Dy.W; decide) (show Dy.right 13830554455654793216 = true from by decide +kernel) (show Dy.W 4607182418800017408 from by unfold Dy.W; decide) (show Dy.right 4607182418800017408 = true from by decide +kernel)
           rw [e70] at k70
           refine T.hbind (us := [.f t62, .f t63]) (xs := [.f t68, .f t69]) rfl (uI e70) rfl ?_
           refine T.hneed (us := [.f t62, .f t63]) rfl (show (Dy.right t62 && Dy.right t63) = true from by rw [k64.2.1, k64.2.2]; rfl) ?_
           refine T.hdone ?_
           have eM : slopeR (a1, a2) (b1, b2) (c1, c2) 0 = ((t68, t69), t60) := by
            unfold slopeR
            refine (Dy.cs_mul e33).trans ?_
            refine (Dy.cs_sub e37).trans ?_
            refine (Dy.cif_t (e39.trans c41)).trans ?_
            refine (Dy.cs_max e44).trans ?_
            refine (Dy.cif_f (e46.trans c48)).trans ?_
            refine (Dy.cs_div e61).trans ?_
            refine (Dy.cm_p e64).trans ?_
            first | exact congrArg (fun r => (r, t60)) e70 | (refine (Dy.cm_p e70).trans ?_; rfl) | (rw [Dy.cm_pure]; simp only [Dy.iHull, e1, e3, c5, e6, e8, c10, e11, e13, c15, e16, e18, c20, e21, e23, c25, e26, e28, c30, e39, c41, e46, c48, e66, c68, e70])
           have e00 : (oSlopeR (a1, a2) (b1, b2) (c1, c2)) = ((t68, t69), 0) := by simp only [oSlopeR, Dy.told, eM, e1, e3, c5, e6, e8, c10, e11, e13, c15, e16, e18, c20, e21, e23, c25, e26, e28, c30, e39, c41, e46, c48, e66, c68] <;> simp_all
           exact ⟨⟨⟨vC e00 0, vC e00 1, trivial⟩, ⟨rfl, vC e00 2⟩, trivial⟩, trivial, rfl⟩
        ·intro c41
         obtain ⟨t71, e72⟩ : ∃ t71, (t36 != 0) = t71 := ⟨_, rfl⟩
         refine T.hbind (us := [.i t36, .i 0]) (xs := [.b t71]) (ρ' := [.f a1, .f a2, .f b1, .f b2, .f c1, .f c2, .b t0, .b t2, .b t5, .b t7, .b t10, .b t12, .b t15, .b t17, .b t20, .b t22, .b t25, .b t27, .f t30, .f t31, .i t32, .f t34, .f t35, .i t36, .b t38, .b t71]) rfl (uB e72) rfl ?_
         refine T.hite (x := t71) ?_ ?_ ?_
         ·rfl
         ·intro c74
          refine T.hdone ?_
          have eM : slopeR (a1, a2) (b1, b2) (c1, c2) 0 = (Dy.clip 13830554455654793216 4607182418800017408 (t34, t35), t36) := by
           unfold slopeR
           refine (Dy.cs_mul e33).trans ?_
           first | exact e37 | (refine (Dy.cs_sub e37).trans ?_; rfl) | (refine (Dy.cs_sub e37).trans ?_; rw [Dy.cm_pure]; simp only [e1, e3, c5, e6, e8, c10, e11, e13, c15, e16, e18, c20, e21, e23, c25, e26, e28, c30, e39, c41, e72, c74]) | (refine (Dy.cs_sub e37).trans ?_; simp only [e1, e3, c5, e6, e8, c10, e11, e13, c15, e16, e18, c20, e21, e23, c25, e26, e28, c30, e39, c41, e72, c74, Bool.false_eq_true, reduceIte]; rfl)
          have e00 : (oSlopeR (a1, a2) (b1, b2) (c1, c2)) = ((0, 0), t36) := by simp only [oSlopeR, Dy.told, eM, e1, e3, c5, e6, e8, c10, e11, e13, c15, e16, e18, c20, e21, e23, c25, e26, e28, c30, e39, c41, e72, c74] <;> simp_all
          exact ⟨⟨⟨vC e00 0, vC e00 1, trivial⟩, ⟨rfl, vC e00 2⟩, trivial⟩, trivial, rfl⟩
         ·intro c74
          obtain ⟨t74, t75, e76⟩ := Dy.ex2 (Dy.clip 13830554455654793216 4607182418800017408 (t34, t35))
          have k76 := clip_ends (a := (t34, t35)) (l := 13830554455654793216) (h := 4607182418800017408) ⟨g37.1.1, g37.1.2⟩ ((Dy.ivR_of g37.2).1) ((Dy.ivR_of g37.2).2.1) (show Dy.W 13830554455654793216 from by unfold Dy.W; decide) (show Dy.right 13830554455654793216 = true from by decide +kernel) (show Dy.W 4607182418800017408 from by unfold Dy.W; decide) (show Dy.right 4607182418800017408 = true from by decide +kernel)
          rw [e76] at k76
          refine T.hbind (us := [.f t34, .f t35]) (xs := [.f t74, .f t75]) rfl (uI e76) rfl ?_
          refine T.hneed (us := [.f t34, .f t35]) rfl (show (Dy.right t34 && Dy.right t35) = true from by rw [(Dy.ivR_of g37.2).1, (Dy.ivR_of g37.2).2.1]; rfl) ?_
          refine T.hdone ?_
          have eM : slopeR (a1, a2) (b1, b2) (c1, c2) 0 = ((t74, t75), t36) := by
           unfold slopeR
           refine (Dy.cs_mul e33).trans ?_
           refine (Dy.cs_sub e37).trans ?_
           refine (Dy.cif_f (e39.trans c41)).trans ?_
           first | exact congrArg (fun r => (r, t36)) e76 | (refine (Dy.cm_p e76).trans ?_; rfl) | (rw [Dy.cm_pure]; simp only [Dy.iHull, e1, e3, c5, e6, e8, c10, e11, e13, c15, e16, e18, c20, e21, e23, c25, e26, e28, c30, e39, c41, e72, c74, e76])
          have e00 : (oSlopeR (a1, a2) (b1, b2) (c1, c2)) = ((t74, t75), 0) := by simp only [oSlopeR, Dy.told, eM, e1, e3, c5, e6, e8, c10, e11, e13, c15, e16, e18, c20, e21, e23, c25, e26, e28, c30, e39, c41, e72, c74] <;> simp_all
          exact ⟨⟨⟨vC e00 0, vC e00 1, trivial⟩, ⟨rfl, vC e00 2⟩, trivial⟩, trivial, rfl⟩
def oc8 : List (Nat × Ct) := (9, ctSlopeR) :: oc7
theorem oc8_ok : AllOk Tryz.prog oc8 := ⟨ctSlopeR_ok, oc7_ok⟩
def ctValueR : Ct := ⟨10, [], [vp 0 1, vp 2 3, vp 4 5, vp 6 7, vp 8 9], { binds := [⟨fun us i => calR ((oValR (gF us 0, gF us 1) (gF us 2, gF us 3) (gF us 4, gF us 5) (gF us 6, gF us 7) (gF us 8, gF us 9))) i, 3, upto 0 10⟩], needs := [], val := .tup [vp 10 11, vi .i64 12], upd := [] }⟩
set_option maxRecDepth 100000 in
set_option maxHeartbeats 8000000 in
theorem ctValueR_ok : CtOk Tryz.prog 11 ctValueR := by
 refine CtOk.of_eval2 oc8_ok (dr_ok oc8_ok) Tryz.func11 rfl (by decide) [] 200 (by kernel_rfl) rfl (.bind ⟨fIv1 Dy.ivR, 1, [(.v 0), (.v 1)]⟩ (.bind ⟨fun us _ => nB us, 1, [(.v 10)]⟩ (.ite (.v 11) (.done .ret ⟨[.tup [.agg [.fl (.l (.f 0)), .fl (.l (.f 0))], .it .i64 (.l (.i 20))]], [], 12, []⟩) (.bind ⟨fIv1 Dy.ivR, 1, [(.v 2), (.v 3)]⟩ (.bind ⟨fun us _ => nB us, 1, [(.v 12)]⟩ (.ite (.v 13) (.done .ret ⟨[.tup [.agg [.fl (.l (.f 0)), .fl (.l (.f 0))], .it .i64 (.l (.i 20))]], [], 14, []⟩) (.bind ⟨fIv1 Dy.ivR, 1, [(.v 4), (.v 5)]⟩ (.bind ⟨fun us _ => nB us, 1, [(.v 14)]⟩ (.ite (.v 15) (.done .ret ⟨[.tup [.agg [.fl (.l (.f 0)), .fl (.l (.f 0))], .it .i64 (.l (.i 20))]], [], 16, []⟩) (.bind ⟨fIv1 Dy.ivR, 1, [(.v 6), (.v 7)]⟩ (.bind ⟨fun us _ => nB us, 1, [(.v 16)]⟩ (.ite (.v 17) (.done .ret ⟨[.tup [.agg [.fl (.l (.f 0)), .fl (.l (.f 0))], .it .i64 (.l (.i 20))]], [], 18, []⟩) (.bind ⟨fIv1 Dy.ivR, 1, [(.v 8), (.v 9)]⟩ (.bind ⟨fun us _ => nB us, 1, [(.v 18)]⟩ (.ite (.v 19) (.done .ret ⟨[.tup [.agg [.fl (.l (.f 0)), .fl (.l (.f 0))], .it .i64 (.l (.i 20))]], [], 20, []⟩) (.bind ⟨fun us i => bRes (withT (gF us 0, gF us 1) (gF us 2) (gF us 3)) i, 1, [(.v 0), (.v 1), (.l (.f 0)), (.l (.f 4607182418800017408))]⟩ (.bind ⟨fun us _ => nB us, 1, [(.v 20)]⟩ (.ite (.v 21) (.done .ret ⟨[.tup [.agg [.fl (.l (.f 0)), .fl (.l (.f 0))], .it .i64 (.l (.i 2))]], [], 22, []⟩) (.bind ⟨fun us i => pairU ((oPairR (gF us 0, gF us 1))) i, 5, [(.v 2), (.v 3)]⟩ (.bind ⟨fun us _ => jB (fun a b => a != b) us, 1, [(.v 26), (.l (.i 0))]⟩ (.ite (.v 27) (.done .ret ⟨[.tup [.agg [.fl (.l (.f 0)), .fl (.l (.f 0))], .it .i64 (.v 26)]], [], 28, []⟩) (.bind ⟨fun us i => calR ((oSlopeR (gF us 0, gF us 1) (gF us 2, gF us 3) (gF us 4, gF us 5))) i, 3, [(.v 4), (.v 5), (.v 6), (.v 7), (.v 8), (.v 9)]⟩ (.bind ⟨fun us _ => jB (fun a b => a != b) us, 1, [(.v 30), (.l (.i 0))]⟩ (.ite (.v 31) (.done .ret ⟨[.tup [.agg [.fl (.l (.f 0)), .fl (.l (.f 0))], .it .i64 (.v 30)]], [], 32, []⟩) (.bind ⟨calF2 Dy.cMul, 3, [(.l (.i 0)), (.v 24), (.v 25), (.v 28), (.v 29)]⟩ (.bind ⟨calF2 Dy.cAdd, 3, [(.v 34), (.v 22), (.v 23), (.v 32), (.v 33)]⟩ (.bind ⟨calF2 Dy.cMul, 3, [(.v 37), (.v 0), (.v 1), (.v 35), (.v 36)]⟩ (.bind ⟨fun us i => ivU (Dy.clip 0 4607182418800017408 (gF us 0, gF us 1)) i, 2, [(.v 38), (.v 39)]⟩ (.need ⟨rN, [(.v 38), (.v 39)]⟩ (.done .ret ⟨[.tup [.agg [.fl (.v 41), .fl (.v 42)], .it .i64 (.l (.i 0))]], [], 43, []⟩)))))))))))))))))))))))))))))) (by kernel_rfl) (by kernel_rfl) (by kernel_rfl) (fun us hl hF hB hN => ?_)
 match us, hl with
 | [u0, u1, u2, u3, u4, u5, u6, u7, u8, u9], _ =>
  simp [FactsB, FactsL, Facts, ctValueR] at hF hB
  simp [NeedsAt, runB, evs, E.ev, upto, resl, List.range, List.range.loop, ctValueR] at hN
  obtain ⟨⟨⟨r1, rfl, wr1⟩, ⟨r2, rfl, wr2⟩⟩, ⟨⟨s1, rfl, ws1⟩, ⟨s2, rfl, ws2⟩⟩, ⟨⟨a1, rfl, wa1⟩, ⟨a2, rfl, wa2⟩⟩, ⟨⟨b1, rfl, wb1⟩, ⟨b2, rfl, wb2⟩⟩, ⟨c1, rfl, wc1⟩, ⟨c2, rfl, wc2⟩⟩ := hF
  refine T.HH.h ?_
  obtain ⟨t0, e1⟩ : ∃ t0, (Dy.ivR (r1, r2)) = t0 := ⟨_, rfl⟩
  refine T.hbind (us := [.f r1, .f r2]) (xs := [.b t0]) rfl (uB e1) rfl ?_
  obtain ⟨t2, e3⟩ : ∃ t2, (!t0) = t2 := ⟨_, rfl⟩
  refine T.hbind (us := [.b t0]) (xs := [.b t2]) rfl (uB e3) rfl ?_
  refine T.hite (x := t2) ?_ ?_ ?_
  ·rfl
  ·intro c5
   refine T.hdone ?_
   have e00 : (oValR (r1, r2) (s1, s2) (a1, a2) (b1, b2) (c1, c2)) = ((0, 0), 20) := by simp only [oValR, e1, e3, c5] <;> simp_all
   exact ⟨⟨⟨vC e00 0, vC e00 1, trivial⟩, ⟨rfl, vC e00 2⟩, trivial⟩, trivial, rfl⟩
  ·intro c5
   have B5 : t0 = true := by cases hh : t0 with | true => rfl | false => rw [hh] at e3; rw [c5] at e3; cases e3
   have r5 := e1.trans B5
   obtain ⟨t5, e6⟩ : ∃ t5, (Dy.ivR (s1, s2)) = t5 := ⟨_, rfl⟩
   refine T.hbind (us := [.f s1, .f s2]) (xs := [.b t5]) rfl (uB e6) rfl ?_
   obtain ⟨t7, e8⟩ : ∃ t7, (!t5) = t7 := ⟨_, rfl⟩
   refine T.hbind (us := [.b t5]) (xs := [.b t7]) rfl (uB e8) rfl ?_
   refine T.hite (x := t7) ?_ ?_ ?_
   ·rfl
   ·intro c10
    refine T.hdone ?_
    have e00 : (oValR (r1, r2) (s1, s2) (a1, a2) (b1, b2) (c1, c2)) = ((0, 0), 20) := by simp only [oValR, e1, e3, c5, e6, e8, c10] <;> simp_all
    exact ⟨⟨⟨vC e00 0, vC e00 1, trivial⟩, ⟨rfl, vC e00 2⟩, trivial⟩, trivial, rfl⟩
   ·intro c10
    have B10 : t5 = true := by cases hh : t5 with | true => rfl | false => rw [hh] at e8; rw [c10] at e8; cases e8
    have r10 := e6.trans B10
    obtain ⟨t10, e11⟩ : ∃ t10, (Dy.ivR (a1, a2)) = t10 := ⟨_, rfl⟩
    refine T.hbind (us := [.f a1, .f a2]) (xs := [.b t10]) rfl (uB e11) rfl ?_
    obtain ⟨t12, e13⟩ : ∃ t12, (!t10) = t12 := ⟨_, rfl⟩
    refine T.hbind (us := [.b t10]) (xs := [.b t12]) rfl (uB e13) rfl ?_
    refine T.hite (x := t12) ?_ ?_ ?_
    ·rfl
    ·intro c15
     refine T.hdone ?_
     have e00 : (oValR (r1, r2) (s1, s2) (a1, a2) (b1, b2) (c1, c2)) = ((0, 0), 20) := by simp only [oValR, e1, e3, c5, e6, e8, c10, e11, e13, c15] <;> simp_all
     exact ⟨⟨⟨vC e00 0, vC e00 1, trivial⟩, ⟨rfl, vC e00 2⟩, trivial⟩, trivial, rfl⟩
    ·intro c15
     have B15 : t10 = true := by cases hh : t10 with | true => rfl | false => rw [hh] at e13; rw [c15] at e13; cases e13
     have r15 := e11.trans B15
     obtain ⟨t15, e16⟩ : ∃ t15, (Dy.ivR (b1, b2)) = t15 := ⟨_, rfl⟩
     refine T.hbind (us := [.f b1, .f b2]) (xs := [.b t15]) (ρ' := [.f r1, .f r2, .f s1, .f s2, .f a1, .f a2, .f b1, .f b2, .f c1, .f c2, .b t0, .b t2, .b t5, .b t7, .b t10, .b t12, .b t15]) rfl (uB e16) rfl ?_
     obtain ⟨t17, e18⟩ : ∃ t17, (!t15) = t17 := ⟨_, rfl⟩
     refine T.hbind (us := [.b t15]) (xs := [.b t17]) rfl (uB e18) rfl ?_
     refine T.hite (x := t17) ?_ ?_ ?_
     ·rfl
     ·intro c20
      refine T.hdone ?_
      have e00 : (oValR (r1, r2) (s1, s2) (a1, a2) (b1, b2) (c1, c2)) = ((0, 0), 20) := by simp only [oValR, e1, e3, c5, e6, e8, c10, e11, e13, c15, e16, e18, c20] <;> simp_all
      exact ⟨⟨⟨vC e00 0, vC e00 1, trivial⟩, ⟨rfl, vC e00 2⟩, trivial⟩, trivial, rfl⟩
     ·intro c20
      have B20 : t15 = true := by cases hh : t15 with | true => rfl | false => rw [hh] at e18; rw [c20] at e18; cases e18
      have r20 := e16.trans B20
      obtain ⟨t20, e21⟩ : ∃ t20, (Dy.ivR (c1, c2)) = t20 := ⟨_, rfl⟩
      refine T.hbind (us := [.f c1, .f c2]) (xs := [.b t20]) rfl (uB e21) rfl ?_
      obtain ⟨t22, e23⟩ : ∃ t22, (!t20) = t22 := ⟨_, rfl⟩
      refine T.hbind (us := [.b t20]) (xs := [.b t22]) rfl (uB e23) rfl ?_
      refine T.hite (x := t22) ?_ ?_ ?_
      ·rfl
      ·intro c25
       refine T.hdone ?_
       have e00 : (oValR (r1, r2) (s1, s2) (a1, a2) (b1, b2) (c1, c2)) = ((0, 0), 20) := by simp only [oValR, e1, e3, c5, e6, e8, c10, e11, e13, c15, e16, e18, c20, e21, e23, c25] <;> simp_all
       exact ⟨⟨⟨vC e00 0, vC e00 1, trivial⟩, ⟨rfl, vC e00 2⟩, trivial⟩, trivial, rfl⟩
      ·intro c25
       have B25 : t20 = true := by cases hh : t20 with | true => rfl | false => rw [hh] at e23; rw [c25] at e23; cases e23
       have r25 := e21.trans B25
       obtain ⟨t25, e26⟩ : ∃ t25, ((withT (r1, r2) (0) (4607182418800017408))) = t25 := ⟨_, rfl⟩
       refine T.hbind (us := [.f r1, .f r2, .f 0, .f 4607182418800017408]) (xs := [.b t25]) rfl (uB e26) rfl ?_
       obtain ⟨t27, e28⟩ : ∃ t27, (!t25) = t27 := ⟨_, rfl⟩
       refine T.hbind (us := [.b t25]) (xs := [.b t27]) rfl (uB e28) rfl ?_
       refine T.hite (x := t27) ?_ ?_ ?_
       ·rfl
       ·intro c30
        refine T.hdone ?_
        have e00 : (oValR (r1, r2) (s1, s2) (a1, a2) (b1, b2) (c1, c2)) = ((0, 0), 2) := by simp only [oValR, e1, e3, c5, e6, e8, c10, e11, e13, c15, e16, e18, c20, e21, e23, c25, e26, e28, c30] <;> simp_all
        exact ⟨⟨⟨vC e00 0, vC e00 1, trivial⟩, ⟨rfl, vC e00 2⟩, trivial⟩, trivial, rfl⟩
       ·intro c30
        obtain ⟨t30, t31, t32, t33, t34, e35⟩ := Dy.ex5 ((oPairR (s1, s2)))
        refine T.hbind (us := [.f s1, .f s2]) (xs := [.f t30, .f t31, .f t32, .f t33, .i t34]) rfl (congrArg (fun r => [pairU r 0, pairU r 1, pairU r 2, pairU r 3, pairU r 4]) e35) rfl ?_
        obtain ⟨t36, e37⟩ : ∃ t36, (t34 != 0) = t36 := ⟨_, rfl⟩
        refine T.hbind (us := [.i t34, .i 0]) (xs := [.b t36]) rfl (uB e37) rfl ?_
        refine T.hite (x := t36) ?_ ?_ ?_
        ·rfl
        ·intro c39
         refine T.hdone ?_
         have e00 : (oValR (r1, r2) (s1, s2) (a1, a2) (b1, b2) (c1, c2)) = ((0, 0), t34) := by simp only [oValR, e1, e3, c5, e6, e8, c10, e11, e13, c15, e16, e18, c20, e21, e23, c25, e26, e28, c30, e35, e37, c39] <;> simp_all
         exact ⟨⟨⟨vC e00 0, vC e00 1, trivial⟩, ⟨rfl, vC e00 2⟩, trivial⟩, trivial, rfl⟩
        ·intro c39
         obtain ⟨t39, t40, t41, e42⟩ := Dy.ex3 ((oSlopeR (a1, a2) (b1, b2) (c1, c2)))
         refine T.hbind (us := [.f a1, .f a2, .f b1, .f b2, .f c1, .f c2]) (xs := [.f t39, .f t40, .i t41]) (ρ' := [.f r1, .f r2, .f s1, .f s2, .f a1, .f a2, .f b1, .f b2, .f c1, .f c2, .b t0, .b t2, .b t5, .b t7, .b t10, .b t12, .b t15, .b t17, .b t20, .b t22, .b t25, .b t27, .f t30, .f t31, .f t32, .f t33, .i t34, .b t36, .f t39, .f t40, .i t41]) rfl (uC e42) rfl ?_
         obtain ⟨t43, e44⟩ : ∃ t43, (t41 != 0) = t43 := ⟨_, rfl⟩
         refine T.hbind (us := [.i t41, .i 0]) (xs := [.b t43]) rfl (uB e44) rfl ?_
         refine T.hite (x := t43) ?_ ?_ ?_
         ·rfl
         ·intro c46
          refine T.hdone ?_
          have e00 : (oValR (r1, r2) (s1, s2) (a1, a2) (b1, b2) (c1, c2)) = ((0, 0), t41) := by simp only [oValR, e1, e3, c5, e6, e8, c10, e11, e13, c15, e16, e18, c20, e21, e23, c25, e26, e28, c30, e35, e37, c39, e42, e44, c46] <;> simp_all
          exact ⟨⟨⟨vC e00 0, vC e00 1, trivial⟩, ⟨rfl, vC e00 2⟩, trivial⟩, trivial, rfl⟩
         ·intro c46
          obtain ⟨t46, t47, t48, e49⟩ := Dy.ex3 (Dy.cMul 0 (t32, t33) (t39, t40))
          refine T.hbind (us := [.i 0, .f t32, .f t33, .f t39, .f t40]) (xs := [.f t46, .f t47, .i t48]) rfl (uC e49) rfl ?_
          obtain ⟨t50, t51, t52, e53⟩ := Dy.ex3 (Dy.cAdd t48 (t30, t31) (t46, t47))
          refine T.hbind (us := [.i t48, .f t30, .f t31, .f t46, .f t47]) (xs := [.f t50, .f t51, .i t52]) rfl (uC e53) rfl ?_
          obtain ⟨t54, t55, t56, e57⟩ := Dy.ex3 (Dy.cMul t52 (r1, r2) (t50, t51))
          have g57 := Dy.good_mul (a := (r1, r2)) (b := (t50, t51)) (err := t52)
          rw [e57] at g57
          refine T.hbind (us := [.i t52, .f r1, .f r2, .f t50, .f t51]) (xs := [.f t54, .f t55, .i t56]) rfl (uC e57) rfl ?_
          obtain ⟨t58, t59, e60⟩ := Dy.ex2 (Dy.clip 0 4607182418800017408 (t54, t55))
          have k60 := clip_ends (a := (t54, t55)) (l := 0) (h := 4607182418800017408) ⟨g57.1.1, g57.1.2⟩ ((Dy.ivR_of g57.2).1) ((Dy.ivR_of g57.2).2.1) (show Dy.W 0 from by unfold Dy.W; decide) (show Dy.right 0 = true from by decide +kernel) (show Dy.W 4607182418800017408 from by unfold Dy.W; decide) (show Dy.right 4607182418800017408 = true from by decide +kernel)
          rw [e60] at k60
          refine T.hbind (us := [.f t54, .f t55]) (xs := [.f t58, .f t59]) rfl (uI e60) rfl ?_
          refine T.hneed (us := [.f t54, .f t55]) rfl (show (Dy.right t54 && Dy.right t55) = true from by rw [(Dy.ivR_of g57.2).1, (Dy.ivR_of g57.2).2.1]; rfl) ?_
          refine T.hdone ?_
          have eM : valR (r1, r2) ((t30, t31), (t32, t33)) (t39, t40) 0 = ((t58, t59), t56) := by
           unfold valR
           refine (Dy.cs_mul e49).trans ?_
           refine (Dy.cs_add e53).trans ?_
           refine (Dy.cs_mul e57).trans ?_
           first | exact congrArg (fun r => (r, t56)) e60 | (refine (Dy.cm_p e60).trans ?_; rfl) | (rw [Dy.cm_pure]; simp only [Dy.iHull, e1, e3, c5, e6, e8, c10, e11, e13, c15, e16, e18, c20, e21, e23, c25, e26, e28, c30, e35, e37, c39, e42, e44, c46, e60])
          have e00 : (oValR (r1, r2) (s1, s2) (a1, a2) (b1, b2) (c1, c2)) = ((t58, t59), 0) := by simp only [oValR, eM, e1, e3, c5, e6, e8, c10, e11, e13, c15, e16, e18, c20, e21, e23, c25, e26, e28, c30, e35, e37, c39, e42, e44, c46] <;> simp_all
          exact ⟨⟨⟨vC e00 0, vC e00 1, trivial⟩, ⟨rfl, vC e00 2⟩, trivial⟩, trivial, rfl⟩
def oc9 : List (Nat × Ct) := (11, ctValueR) :: oc8
theorem oc9_ok : AllOk Tryz.prog oc9 := ⟨ctValueR_ok, oc8_ok⟩
end Go.Proofs.YtiphdhpacklboaaGreat
