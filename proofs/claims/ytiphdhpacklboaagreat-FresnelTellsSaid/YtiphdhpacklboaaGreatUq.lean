/- A reckoning of programs by symbols: burnishref06. -/
import Derived.Test.YtiphdhpacklboaaGreatUp
namespace Go.Proofs.YtiphdhpacklboaaGreat
open Go Go.RowKit
set_option linter.unusedSimpArgs false
set_option linter.unusedVariables false
def endT (x l h : Nat) : Nat := if Dy.flt x l = true then l else if Dy.fgt x h = true then h else x
def keptT (l h : Nat) (a : Nat × Nat) : Nat × Nat := (endT a.1 l h, endT a.2 l h)
theorem endT_eq {x l h : Nat} (wx : Dy.W x) (wl : Dy.W l) (wh : Dy.W h) (rx : Dy.right x = true) (rl : Dy.right l = true) (rh : Dy.right h = true) (lh : Dy.dec l ≤ Dy.dec h) : endT x l h = Dy.dmin (Dy.dmax x l) h := by
 unfold endT Dy.dmin Dy.dmax
 rw [Dy.flt_dec wx wl rx rl, Dy.fgt_dec wx wh rx rh]
 by_cases h1 : Dy.dec x < Dy.dec l
 ·rw [decide_eq_true h1, if_pos rfl, if_pos h1]
  by_cases h2 : Dy.dec h < Dy.dec l
  ·omega
  ·rw [if_neg h2]
 ·rw [decide_eq_false h1, if_neg (by decide), if_neg h1]
  by_cases h2 : Dy.dec h < Dy.dec x
  ·rw [decide_eq_true h2, if_pos rfl, if_pos h2]
  ·rw [decide_eq_false h2, if_neg (by decide), if_neg h2]
def uq0 : List (Nat × Ct) := up9
theorem uq0_ok : AllOk Tryz.prog uq0 := up9_ok
def ctEnd : Ct := ⟨3, [], [vf 0, vf 1, vf 2], { binds := [⟨fun us i => fRes (endT (gF us 0) (gF us 1) (gF us 2)) i, 1, upto 0 3⟩], needs := [], val := vf 3, upd := [] }⟩
set_option maxRecDepth 100000 in
set_option maxHeartbeats 8000000 in
theorem ctEnd_ok : CtOk Tryz.prog 66 ctEnd := by
 refine CtOk.of_eval2 uq0_ok (dr_ok uq0_ok) Tryz.func66 rfl (by decide) [] 200 (by kernel_rfl) rfl (.bind ⟨fun us _ => cB Dy.flt us, 1, [(.v 0), (.v 1)]⟩ (.ite (.v 3) (.done .ret ⟨[.fl (.v 1)], [], 4, []⟩) (.bind ⟨fun us _ => cB Dy.fgt us, 1, [(.v 0), (.v 2)]⟩ (.ite (.v 4) (.done .ret ⟨[.fl (.v 2)], [], 5, []⟩) (.done .ret ⟨[.fl (.v 0)], [], 5, []⟩))))) (by kernel_rfl) (by kernel_rfl) (by kernel_rfl) (fun us hl hF hB hN => ?_)
 match us, hl with
 | [u0, u1, u2], _ =>
  simp [FactsB, FactsL, Facts, ctEnd] at hF hB
  simp [NeedsAt, runB, evs, E.ev, upto, resl, List.range, List.range.loop, ctEnd] at hN
  obtain ⟨⟨x, rfl, wx⟩, ⟨l, rfl, wl⟩, ⟨h, rfl, wh⟩⟩ := hF
  refine T.HH.h ?_
  obtain ⟨t0, e1⟩ : ∃ t0, (Dy.flt x l) = t0 := ⟨_, rfl⟩
  refine T.hbind (us := [.f x, .f l]) (xs := [.b t0]) rfl (congrArg (fun r => [U.b r]) e1) rfl ?_
  refine T.hite (x := t0) ?_ ?_ ?_
  ·rfl
  ·intro c3
   refine T.hdone ?_
   have e00 : endT (x) (l) (h) = l := by simp only [endT, e1, c3] <;> simp_all
   exact ⟨(congrArg (fun r => some (fRes r 0)) e00.symm), trivial, rfl⟩
  ·intro c3
   obtain ⟨t3, e4⟩ : ∃ t3, (Dy.fgt x h) = t3 := ⟨_, rfl⟩
   refine T.hbind (us := [.f x, .f h]) (xs := [.b t3]) rfl (congrArg (fun r => [U.b r]) e4) rfl ?_
   refine T.hite (x := t3) ?_ ?_ ?_
   ·rfl
   ·intro c6
    refine T.hdone ?_
    have e00 : endT (x) (l) (h) = h := by simp only [endT, e1, c3, e4, c6] <;> simp_all
    exact ⟨(congrArg (fun r => some (fRes r 0)) e00.symm), trivial, rfl⟩
   ·intro c6
    refine T.hdone ?_
    have e00 : endT (x) (l) (h) = x := by simp only [endT, e1, c3, e4, c6] <;> simp_all
    exact ⟨(congrArg (fun r => some (fRes r 0)) e00.symm), trivial, rfl⟩
def uq1 : List (Nat × Ct) := (66, ctEnd) :: uq0
theorem uq1_ok : AllOk Tryz.prog uq1 := ⟨ctEnd_ok, uq0_ok⟩
def ctKept06E : Ct := ⟨2, [], [vp 0 1, .fl (.l (.f 0)), .fl (.l (.f 4607182418800017408))], { binds := [⟨fun us i => ivU (keptT 0 4607182418800017408 (gF us 0, gF us 1)) i, 2, upto 0 2⟩], needs := [], val := vp 2 3, upd := [] }⟩
set_option maxRecDepth 100000 in
set_option maxHeartbeats 8000000 in
theorem ctKept06E_ok : CtOk Tryz.prog 33 ctKept06E := by
 refine CtOk.of_eval2 uq1_ok (dr_ok uq1_ok) Tryz.func33 rfl (by decide) [] 200 (by kernel_rfl) rfl (.bind ⟨fun us i => fRes (endT (gF us 0) (gF us 1) (gF us 2)) i, 1, [(.v 0), (.l (.f 0)), (.l (.f 4607182418800017408))]⟩ (.bind ⟨fun us i => fRes (endT (gF us 0) (gF us 1) (gF us 2)) i, 1, [(.v 1), (.l (.f 0)), (.l (.f 4607182418800017408))]⟩ (.done .ret ⟨[.agg [.fl (.v 2), .fl (.v 3)]], [], 4, []⟩))) (by kernel_rfl) (by kernel_rfl) (by kernel_rfl) (fun us hl hF hB hN => ?_)
 match us, hl with
 | [u0, u1], _ =>
  simp [FactsB, FactsL, Facts, ctKept06E] at hF hB
  simp [NeedsAt, runB, evs, E.ev, upto, resl, List.range, List.range.loop, ctKept06E] at hN
  obtain ⟨⟨a1, rfl, wa1⟩, ⟨a2, rfl, wa2⟩⟩ := hF
  refine T.HH.h ?_
  obtain ⟨t0, e1⟩ : ∃ t0, ((endT (a1) (0) (4607182418800017408))) = t0 := ⟨_, rfl⟩
  refine T.hbind (us := [.f a1, .f 0, .f 4607182418800017408]) (xs := [.f t0]) rfl (congrArg (fun r => [U.f r]) e1) rfl ?_
  obtain ⟨t2, e3⟩ : ∃ t2, ((endT (a2) (0) (4607182418800017408))) = t2 := ⟨_, rfl⟩
  refine T.hbind (us := [.f a2, .f 0, .f 4607182418800017408]) (xs := [.f t2]) (ρ' := [.f a1, .f a2, .f t0, .f t2]) rfl (congrArg (fun r => [U.f r]) e3) rfl ?_
  refine T.hdone ?_
  have e00 : keptT 0 4607182418800017408 (a1, a2) = (t0, t2) := by simp only [keptT, e1, e3] <;> simp_all
  exact ⟨⟨(congrArg (fun r => some (ivU r 0)) e00.symm), (congrArg (fun r => some (ivU r 1)) e00.symm), trivial⟩, trivial, rfl⟩
def uq2 : List (Nat × Ct) := (33, ctKept06E) :: uq1
theorem uq2_ok : AllOk Tryz.prog uq2 := ⟨ctKept06E_ok, uq1_ok⟩
def ctKept06 : Ct := ⟨2, [], [vp 0 1, .fl (.l (.f 0)), .fl (.l (.f 4607182418800017408))], { binds := [⟨fun us i => ivU (Dy.clip 0 4607182418800017408 (gF us 0, gF us 1)) i, 2, upto 0 2⟩], needs := [⟨nIv, [.v 0, .v 1]⟩], val := vp 2 3, upd := [] }⟩
theorem ctKept06_ok : CtOk Tryz.prog 33 ctKept06 := by
 refine CtOk.swap ctKept06E_ok fun ρ us h1 hm hF hN i => ?_
 match ρ, hm with
 | u0 :: u1 :: l, _ =>
  simp [evs, upto, E.ev] at h1
  subst h1
  simp [FactsL, Facts] at hF
  obtain ⟨⟨a1, rfl, wa1⟩, ⟨a2, rfl, wa2⟩⟩ := hF
  simp [NeedsAt, evs, E.ev, nIv, gF, U.F] at hN
  obtain ⟨r1, r2, r3⟩ := Dy.ivR_of hN
  have wl : Dy.W 0 := by unfold Dy.W; decide
  have wh : Dy.W 4607182418800017408 := by unfold Dy.W; decide
  have rl : Dy.right 0 = true := by decide +kernel
  have rh : Dy.right 4607182418800017408 = true := by decide +kernel
  have lh : Dy.dec 0 ≤ Dy.dec 4607182418800017408 := by decide +kernel
  have e : keptT 0 4607182418800017408 (a1, a2) = Dy.clip 0 4607182418800017408 (a1, a2) := by
   unfold keptT Dy.clip
   rw [endT_eq wa1 wl wh r1 rl rh lh, endT_eq wa2 wl wh r2 rl rh lh]
  exact congrArg (fun r => ivU r i) e
def uq3 : List (Nat × Ct) := (33, ctKept06) :: uq2
theorem uq3_ok : AllOk Tryz.prog uq3 := ⟨ctKept06_ok, uq2_ok⟩
def dielR (cos n : Nat × Nat) : Dy.Cm (Nat × Nat) := do
 let n2 ← Dy.mSqr n
 let one ← Dy.mNum 4607182418800017408
 let d ← Dy.mSub n2 one
 let c2 ← Dy.mSqr cos
 let s ← Dy.mAdd d c2
 let g ← Dy.mSqrt s
 let a ← Dy.mSub g cos
 let b ← Dy.mAdd g cos
 let r ← Dy.mDiv a b
 let p ← Dy.mSqr r
 let x ← Dy.mMul cos b
 let one ← Dy.mNum 4607182418800017408
 let x1 ← Dy.mSub x one
 let y ← Dy.mMul cos a
 let one ← Dy.mNum 4607182418800017408
 let y1 ← Dy.mAdd y one
 let z ← Dy.mDiv x1 y1
 let q ← Dy.mSqr z
 let h ← Dy.mNum 4602678819172646912
 let hp ← Dy.mMul h p
 let one ← Dy.mNum 4607182418800017408
 let oq ← Dy.mAdd one q
 let v ← Dy.mMul hp oq
 pure (Dy.clip 0 4607182418800017408 v)
def dielGR (cos n : Nat × Nat) : (Nat × Nat) × Int := if Dy.ivR cos = true then (if Dy.ivR n = true then (if withT cos 0 4607182418800017408 = true then (if withT n 4607463893776728064 4616189618054758400 = true then Dy.told (dielR cos n 0) else ((0, 0), 2)) else ((0, 0), 2)) else ((0, 0), 20)) else ((0, 0), 20)
def ctDielR : Ct := ⟨4, [], [vp 0 1, vp 2 3], { binds := [⟨fun us i => calR (dielGR (gF us 0, gF us 1) (gF us 2, gF us 3)) i, 3, upto 0 4⟩], needs := [], val := .tup [vp 4 5, vi .i64 6], upd := [] }⟩
set_option maxRecDepth 100000 in
set_option maxHeartbeats 8000000 in
theorem ctDielR_ok : CtOk Tryz.prog 15 ctDielR := by
 refine CtOk.of_eval2 uq3_ok (dr_ok uq3_ok) Tryz.func15 rfl (by decide) [] 200 (by kernel_rfl) rfl (.bind ⟨fIv1 Dy.ivR, 1, [(.v 0), (.v 1)]⟩ (.bind ⟨fun us _ => nB us, 1, [(.v 4)]⟩ (.ite (.v 5) (.done .ret ⟨[.tup [.agg [.fl (.l (.f 0)), .fl (.l (.f 0))], .it .i64 (.l (.i 20))]], [], 6, []⟩) (.bind ⟨fIv1 Dy.ivR, 1, [(.v 2), (.v 3)]⟩ (.bind ⟨fun us _ => nB us, 1, [(.v 6)]⟩ (.ite (.v 7) (.done .ret ⟨[.tup [.agg [.fl (.l (.f 0)), .fl (.l (.f 0))], .it .i64 (.l (.i 20))]], [], 8, []⟩) (.bind ⟨fun us i => bRes (withT (gF us 0, gF us 1) (gF us 2) (gF us 3)) i, 1, [(.v 0), (.v 1), (.l (.f 0)), (.l (.f 4607182418800017408))]⟩ (.bind ⟨fun us _ => nB us, 1, [(.v 8)]⟩ (.ite (.v 9) (.done .ret ⟨[.tup [.agg [.fl (.l (.f 0)), .fl (.l (.f 0))], .it .i64 (.l (.i 2))]], [], 10, []⟩) (.bind ⟨fun us i => bRes (withT (gF us 0, gF us 1) (gF us 2) (gF us 3)) i, 1, [(.v 2), (.v 3), (.l (.f 4607463893776728064)), (.l (.f 4616189618054758400))]⟩ (.bind ⟨fun us _ => nB us, 1, [(.v 10)]⟩ (.ite (.v 11) (.done .ret ⟨[.tup [.agg [.fl (.l (.f 0)), .fl (.l (.f 0))], .it .i64 (.l (.i 2))]], [], 12, []⟩) (.bind ⟨calF1 Dy.cSqr, 3, [(.l (.i 0)), (.v 2), (.v 3)]⟩ (.bind ⟨calF0 Dy.cNum, 3, [(.v 14), (.l (.f 4607182418800017408))]⟩ (.bind ⟨calF2 Dy.cSub, 3, [(.v 17), (.v 12), (.v 13), (.v 15), (.v 16)]⟩ (.bind ⟨calF1 Dy.cSqr, 3, [(.v 20), (.v 0), (.v 1)]⟩ (.bind ⟨calF2 Dy.cAdd, 3, [(.v 23), (.v 18), (.v 19), (.v 21), (.v 22)]⟩ (.bind ⟨calF1 Dy.cSqrt, 3, [(.v 26), (.v 24), (.v 25)]⟩ (.bind ⟨calF2 Dy.cSub, 3, [(.v 29), (.v 27), (.v 28), (.v 0), (.v 1)]⟩ (.bind ⟨calF2 Dy.cAdd, 3, [(.v 32), (.v 27), (.v 28), (.v 0), (.v 1)]⟩ (.bind ⟨calF2 Dy.cDiv, 3, [(.v 35), (.v 30), (.v 31), (.v 33), (.v 34)]⟩ (.bind ⟨calF1 Dy.cSqr, 3, [(.v 38), (.v 36), (.v 37)]⟩ (.bind ⟨calF2 Dy.cMul, 3, [(.v 41), (.v 0), (.v 1), (.v 33), (.v 34)]⟩ (.bind ⟨calF0 Dy.cNum, 3, [(.v 44), (.l (.f 4607182418800017408))]⟩ (.bind ⟨calF2 Dy.cSub, 3, [(.v 47), (.v 42), (.v 43), (.v 45), (.v 46)]⟩ (.bind ⟨calF2 Dy.cMul, 3, [(.v 50), (.v 0), (.v 1), (.v 30), (.v 31)]⟩ (.bind ⟨calF0 Dy.cNum, 3, [(.v 53), (.l (.f 4607182418800017408))]⟩ (.bind ⟨calF2 Dy.cAdd, 3, [(.v 56), (.v 51), (.v 52), (.v 54), (.v 55)]⟩ (.bind ⟨calF2 Dy.cDiv, 3, [(.v 59), (.v 48), (.v 49), (.v 57), (.v 58)]⟩ (.bind ⟨calF1 Dy.cSqr, 3, [(.v 62), (.v 60), (.v 61)]⟩ (.bind ⟨calF0 Dy.cNum, 3, [(.v 65), (.l (.f 4602678819172646912))]⟩ (.bind ⟨calF2 Dy.cMul, 3, [(.v 68), (.v 66), (.v 67), (.v 39), (.v 40)]⟩ (.bind ⟨calF0 Dy.cNum, 3, [(.v 71), (.l (.f 4607182418800017408))]⟩ (.bind ⟨calF2 Dy.cAdd, 3, [(.v 74), (.v 72), (.v 73), (.v 63), (.v 64)]⟩ (.bind ⟨calF2 Dy.cMul, 3, [(.v 77), (.v 69), (.v 70), (.v 75), (.v 76)]⟩ (.bind ⟨fun us _ => jB (fun a b => a != b) us, 1, [(.v 80), (.l (.i 0))]⟩ (.ite (.v 81) (.done .ret ⟨[.tup [.agg [.fl (.l (.f 0)), .fl (.l (.f 0))], .it .i64 (.v 80)]], [], 82, []⟩) (.bind ⟨fun us i => ivU (Dy.clip 0 4607182418800017408 (gF us 0, gF us 1)) i, 2, [(.v 78), (.v 79)]⟩ (.need ⟨nIv, [(.v 78), (.v 79)]⟩ (.done .ret ⟨[.tup [.agg [.fl (.v 82), .fl (.v 83)], .it .i64 (.l (.i 0))]], [], 84, []⟩)))))))))))))))))))))))))))))))))))))))) (by kernel_rfl) (by kernel_rfl) (by kernel_rfl) (fun us hl hF hB hN => ?_)
 match us, hl with
 | [u0, u1, u2, u3], _ =>
  simp [FactsB, FactsL, Facts, ctDielR] at hF hB
  simp [NeedsAt, runB, evs, E.ev, upto, resl, List.range, List.range.loop, ctDielR] at hN
  obtain ⟨⟨⟨a1, rfl, wa1⟩, ⟨a2, rfl, wa2⟩⟩, ⟨b1, rfl, wb1⟩, ⟨b2, rfl, wb2⟩⟩ := hF
  refine T.HH.h ?_
  obtain ⟨t0, e1⟩ : ∃ t0, (Dy.ivR (a1, a2)) = t0 := ⟨_, rfl⟩
  refine T.hbind (us := [.f a1, .f a2]) (xs := [.b t0]) rfl (congrArg (fun r => [U.b r]) e1) rfl ?_
  obtain ⟨t2, e3⟩ : ∃ t2, (!t0) = t2 := ⟨_, rfl⟩
  refine T.hbind (us := [.b t0]) (xs := [.b t2]) rfl (congrArg (fun r => [U.b r]) e3) rfl ?_
  refine T.hite (x := t2) ?_ ?_ ?_
  ·rfl
  ·intro c5
   refine T.hdone ?_
   have e00 : dielGR (a1, a2) (b1, b2) = ((0, 0), 20) := by simp only [dielGR, Dy.told, e1, e3, c5] <;> simp_all
   exact ⟨⟨⟨(congrArg (fun r => some (calR r 0)) e00.symm), (congrArg (fun r => some (calR r 1)) e00.symm), trivial⟩, ⟨rfl, (congrArg (fun r => some (calR r 2)) e00.symm)⟩, trivial⟩, trivial, rfl⟩
  ·intro c5
   have B5 : t0 = true := by cases hh : t0 with | true => rfl | false => rw [hh] at e3; rw [c5] at e3; cases e3
   have r5 := e1.trans B5
   obtain ⟨t5, e6⟩ : ∃ t5, (Dy.ivR (b1, b2)) = t5 := ⟨_, rfl⟩
   refine T.hbind (us := [.f b1, .f b2]) (xs := [.b t5]) rfl (congrArg (fun r => [U.b r]) e6) rfl ?_
   obtain ⟨t7, e8⟩ : ∃ t7, (!t5) = t7 := ⟨_, rfl⟩
   refine T.hbind (us := [.b t5]) (xs := [.b t7]) (ρ' := [.f a1, .f a2, .f b1, .f b2, .b t0, .b t2, .b t5, .b t7]) rfl (congrArg (fun r => [U.b r]) e8) rfl ?_
   refine T.hite (x := t7) ?_ ?_ ?_
   ·rfl
   ·intro c10
    refine T.hdone ?_
    have e00 : dielGR (a1, a2) (b1, b2) = ((0, 0), 20) := by simp only [dielGR, Dy.told, e1, e3, c5, e6, e8, c10] <;> simp_all
    exact ⟨⟨⟨(congrArg (fun r => some (calR r 0)) e00.symm), (congrArg (fun r => some (calR r 1)) e00.symm), trivial⟩, ⟨rfl, (congrArg (fun r => some (calR r 2)) e00.symm)⟩, trivial⟩, trivial, rfl⟩
   ·intro c10
    have B10 : t5 = true := by cases hh : t5 with | true => rfl | false => rw [hh] at e8; rw [c10] at e8; cases e8
    have r10 := e6.trans B10
    obtain ⟨t10, e11⟩ : ∃ t10, ((withT (a1, a2) (0) (4607182418800017408))) = t10 := ⟨_, rfl⟩
    refine T.hbind (us := [.f a1, .f a2, .f 0, .f 4607182418800017408]) (xs := [.b t10]) rfl (congrArg (fun r => [U.b r]) e11) rfl ?_
    obtain ⟨t12, e13⟩ : ∃ t12, (!t10) = t12 := ⟨_, rfl⟩
    refine T.hbind (us := [.b t10]) (xs := [.b t12]) rfl (congrArg (fun r => [U.b r]) e13) rfl ?_
    refine T.hite (x := t12) ?_ ?_ ?_
    ·rfl
    ·intro c15
     refine T.hdone ?_
     have e00 : dielGR (a1, a2) (b1, b2) = ((0, 0), 2) := by simp only [dielGR, Dy.told, e1, e3, c5, e6, e8, c10, e11, e13, c15] <;> simp_all
     exact ⟨⟨⟨(congrArg (fun r => some (calR r 0)) e00.symm), (congrArg (fun r => some (calR r 1)) e00.symm), trivial⟩, ⟨rfl, (congrArg (fun r => some (calR r 2)) e00.symm)⟩, trivial⟩, trivial, rfl⟩
    ·intro c15
     obtain ⟨t15, e16⟩ : ∃ t15, ((withT (b1, b2) (4607463893776728064) (4616189618054758400))) = t15 := ⟨_, rfl⟩
     refine T.hbind (us := [.f b1, .f b2, .f 4607463893776728064, .f 4616189618054758400]) (xs := [.b t15]) rfl (congrArg (fun r => [U.b r]) e16) rfl ?_
     obtain ⟨t17, e18⟩ : ∃ t17, (!t15) = t17 := ⟨_, rfl⟩
     refine T.hbind (us := [.b t15]) (xs := [.b t17]) (ρ' := [.f a1, .f a2, .f b1, .f b2, .b t0, .b t2, .b t5, .b t7, .b t10, .b t12, .b t15, .b t17]) rfl (congrArg (fun r => [U.b r]) e18) rfl ?_
     refine T.hite (x := t17) ?_ ?_ ?_
     ·rfl
     ·intro c20
      refine T.hdone ?_
      have e00 : dielGR (a1, a2) (b1, b2) = ((0, 0), 2) := by simp only [dielGR, Dy.told, e1, e3, c5, e6, e8, c10, e11, e13, c15, e16, e18, c20] <;> simp_all
      exact ⟨⟨⟨(congrArg (fun r => some (calR r 0)) e00.symm), (congrArg (fun r => some (calR r 1)) e00.symm), trivial⟩, ⟨rfl, (congrArg (fun r => some (calR r 2)) e00.symm)⟩, trivial⟩, trivial, rfl⟩
     ·intro c20
      obtain ⟨t20, t21, t22, e23⟩ := Dy.ex3 (Dy.cSqr 0 (b1, b2))
      refine T.hbind (us := [.i 0, .f b1, .f b2]) (xs := [.f t20, .f t21, .i t22]) rfl (congrArg (fun r => [calR r 0, calR r 1, calR r 2]) e23) rfl ?_
      obtain ⟨t24, t25, t26, e27⟩ := Dy.ex3 (Dy.cNum t22 4607182418800017408)
      refine T.hbind (us := [.i t22, .f 4607182418800017408]) (xs := [.f t24, .f t25, .i t26]) rfl (congrArg (fun r => [calR r 0, calR r 1, calR r 2]) e27) rfl ?_
      obtain ⟨t28, t29, t30, e31⟩ := Dy.ex3 (Dy.cSub t26 (t20, t21) (t24, t25))
      refine T.hbind (us := [.i t26, .f t20, .f t21, .f t24, .f t25]) (xs := [.f t28, .f t29, .i t30]) rfl (congrArg (fun r => [calR r 0, calR r 1, calR r 2]) e31) rfl ?_
      obtain ⟨t32, t33, t34, e35⟩ := Dy.ex3 (Dy.cSqr t30 (a1, a2))
      refine T.hbind (us := [.i t30, .f a1, .f a2]) (xs := [.f t32, .f t33, .i t34]) (ρ' := [.f a1, .f a2, .f b1, .f b2, .b t0, .b t2, .b t5, .b t7, .b t10, .b t12, .b t15, .b t17, .f t20, .f t21, .i t22, .f t24, .f t25, .i t26, .f t28, .f t29, .i t30, .f t32, .f t33, .i t34]) rfl (congrArg (fun r => [calR r 0, calR r 1, calR r 2]) e35) rfl ?_
      obtain ⟨t36, t37, t38, e39⟩ := Dy.ex3 (Dy.cAdd t34 (t28, t29) (t32, t33))
      refine T.hbind (us := [.i t34, .f t28, .f t29, .f t32, .f t33]) (xs := [.f t36, .f t37, .i t38]) rfl (congrArg (fun r => [calR r 0, calR r 1, calR r 2]) e39) rfl ?_
      obtain ⟨t40, t41, t42, e43⟩ := Dy.ex3 (Dy.cSqrt t38 (t36, t37))
      refine T.hbind (us := [.i t38, .f t36, .f t37]) (xs := [.f t40, .f t41, .i t42]) rfl (congrArg (fun r => [calR r 0, calR r 1, calR r 2]) e43) rfl ?_
      obtain ⟨t44, t45, t46, e47⟩ := Dy.ex3 (Dy.cSub t42 (t40, t41) (a1, a2))
      refine T.hbind (us := [.i t42, .f t40, .f t41, .f a1, .f a2]) (xs := [.f t44, .f t45, .i t46]) rfl (congrArg (fun r => [calR r 0, calR r 1, calR r 2]) e47) rfl ?_
      obtain ⟨t48, t49, t50, e51⟩ := Dy.ex3 (Dy.cAdd t46 (t40, t41) (a1, a2))
      refine T.hbind (us := [.i t46, .f t40, .f t41, .f a1, .f a2]) (xs := [.f t48, .f t49, .i t50]) (ρ' := [.f a1, .f a2, .f b1, .f b2, .b t0, .b t2, .b t5, .b t7, .b t10, .b t12, .b t15, .b t17, .f t20, .f t21, .i t22, .f t24, .f t25, .i t26, .f t28, .f t29, .i t30, .f t32, .f t33, .i t34, .f t36, .f t37, .i t38, .f t40, .f t41, .i t42, .f t44, .f t45, .i t46, .f t48, .f t49, .i t50]) rfl (congrArg (fun r => [calR r 0, calR r 1, calR r 2]) e51) rfl ?_
      obtain ⟨t52, t53, t54, e55⟩ := Dy.ex3 (Dy.cDiv t50 (t44, t45) (t48, t49))
      refine T.hbind (us := [.i t50, .f t44, .f t45, .f t48, .f t49]) (xs := [.f t52, .f t53, .i t54]) rfl (congrArg (fun r => [calR r 0, calR r 1, calR r 2]) e55) rfl ?_
      obtain ⟨t56, t57, t58, e59⟩ := Dy.ex3 (Dy.cSqr t54 (t52, t53))
      refine T.hbind (us := [.i t54, .f t52, .f t53]) (xs := [.f t56, .f t57, .i t58]) rfl (congrArg (fun r => [calR r 0, calR r 1, calR r 2]) e59) rfl ?_
      obtain ⟨t60, t61, t62, e63⟩ := Dy.ex3 (Dy.cMul t58 (a1, a2) (t48, t49))
      refine T.hbind (us := [.i t58, .f a1, .f a2, .f t48, .f t49]) (xs := [.f t60, .f t61, .i t62]) rfl (congrArg (fun r => [calR r 0, calR r 1, calR r 2]) e63) rfl ?_
      obtain ⟨t64, t65, t66, e67⟩ := Dy.ex3 (Dy.cNum t62 4607182418800017408)
      refine T.hbind (us := [.i t62, .f 4607182418800017408]) (xs := [.f t64, .f t65, .i t66]) (ρ' := [.f a1, .f a2, .f b1, .f b2, .b t0, .b t2, .b t5, .b t7, .b t10, .b t12, .b t15, .b t17, .f t20, .f t21, .i t22, .f t24, .f t25, .i t26, .f t28, .f t29, .i t30, .f t32, .f t33, .i t34, .f t36, .f t37, .i t38, .f t40, .f t41, .i t42, .f t44, .f t45, .i t46, .f t48, .f t49, .i t50, .f t52, .f t53, .i t54, .f t56, .f t57, .i t58, .f t60, .f t61, .i t62, .f t64, .f t65, .i t66]) rfl (congrArg (fun r => [calR r 0, calR r 1, calR r 2]) e67) rfl ?_
      obtain ⟨t68, t69, t70, e71⟩ := Dy.ex3 (Dy.cSub t66 (t60, t61) (t64, t65))
      refine T.hbind (us := [.i t66, .f t60, .f t61, .f t64, .f t65]) (xs := [.f t68, .f t69, .i t70]) rfl (congrArg (fun r => [calR r 0, calR r 1, calR r 2]) e71) rfl ?_
      obtain ⟨t72, t73, t74, e75⟩ := Dy.ex3 (Dy.cMul t70 (a1, a2) (t44, t45))
      refine T.hbind (us := [.i t70, .f a1, .f a2, .f t44, .f t45]) (xs := [.f t72, .f t73, .i t74]) rfl (congrArg (fun r => [calR r 0, calR r 1, calR r 2]) e75) rfl ?_
      obtain ⟨t76, t77, t78, e79⟩ := Dy.ex3 (Dy.cNum t74 4607182418800017408)
      refine T.hbind (us := [.i t74, .f 4607182418800017408]) (xs := [.f t76, .f t77, .i t78]) rfl (congrArg (fun r => [calR r 0, calR r 1, calR r 2]) e79) rfl ?_
      obtain ⟨t80, t81, t82, e83⟩ := Dy.ex3 (Dy.cAdd t78 (t72, t73) (t76, t77))
      refine T.hbind (us := [.i t78, .f t72, .f t73, .f t76, .f t77]) (xs := [.f t80, .f t81, .i t82]) (ρ' := [.f a1, .f a2, .f b1, .f b2, .b t0, .b t2, .b t5, .b t7, .b t10, .b t12, .b t15, .b t17, .f t20, .f t21, .i t22, .f t24, .f t25, .i t26, .f t28, .f t29, .i t30, .f t32, .f t33, .i t34, .f t36, .f t37, .i t38, .f t40, .f t41, .i t42, .f t44, .f t45, .i t46, .f t48, .f t49, .i t50, .f t52, .f t53, .i t54, .f t56, .f t57, .i t58, .f t60, .f t61, .i t62, .f t64, .f t65, .i t66, .f t68, .f t69, .i t70, .f t72, .f t73, .i t74, .f t76, .f t77, .i t78, .f t80, .f t81, .i t82]) rfl (congrArg (fun r => [calR r 0, calR r 1, calR r 2]) e83) rfl ?_
      obtain ⟨t84, t85, t86, e87⟩ := Dy.ex3 (Dy.cDiv t82 (t68, t69) (t80, t81))
      refine T.hbind (us := [.i t82, .f t68, .f t69, .f t80, .f t81]) (xs := [.f t84, .f t85, .i t86]) rfl (congrArg (fun r => [calR r 0, calR r 1, calR r 2]) e87) rfl ?_
      obtain ⟨t88, t89, t90, e91⟩ := Dy.ex3 (Dy.cSqr t86 (t84, t85))
      refine T.hbind (us := [.i t86, .f t84, .f t85]) (xs := [.f t88, .f t89, .i t90]) rfl (congrArg (fun r => [calR r 0, calR r 1, calR r 2]) e91) rfl ?_
      obtain ⟨t92, t93, t94, e95⟩ := Dy.ex3 (Dy.cNum t90 4602678819172646912)
      refine T.hbind (us := [.i t90, .f 4602678819172646912]) (xs := [.f t92, .f t93, .i t94]) rfl (congrArg (fun r => [calR r 0, calR r 1, calR r 2]) e95) rfl ?_
      obtain ⟨t96, t97, t98, e99⟩ := Dy.ex3 (Dy.cMul t94 (t92, t93) (t56, t57))
      refine T.hbind (us := [.i t94, .f t92, .f t93, .f t56, .f t57]) (xs := [.f t96, .f t97, .i t98]) (ρ' := [.f a1, .f a2, .f b1, .f b2, .b t0, .b t2, .b t5, .b t7, .b t10, .b t12, .b t15, .b t17, .f t20, .f t21, .i t22, .f t24, .f t25, .i t26, .f t28, .f t29, .i t30, .f t32, .f t33, .i t34, .f t36, .f t37, .i t38, .f t40, .f t41, .i t42, .f t44, .f t45, .i t46, .f t48, .f t49, .i t50, .f t52, .f t53, .i t54, .f t56, .f t57, .i t58, .f t60, .f t61, .i t62, .f t64, .f t65, .i t66, .f t68, .f t69, .i t70, .f t72, .f t73, .i t74, .f t76, .f t77, .i t78, .f t80, .f t81, .i t82, .f t84, .f t85, .i t86, .f t88, .f t89, .i t90, .f t92, .f t93, .i t94, .f t96, .f t97, .i t98]) rfl (congrArg (fun r => [calR r 0, calR r 1, calR r 2]) e99) rfl ?_
      obtain ⟨t100, t101, t102, e103⟩ := Dy.ex3 (Dy.cNum t98 4607182418800017408)
      refine T.hbind (us := [.i t98, .f 4607182418800017408]) (xs := [.f t100, .f t101, .i t102]) rfl (congrArg (fun r => [calR r 0, calR r 1, calR r 2]) e103) rfl ?_
      obtain ⟨t104, t105, t106, e107⟩ := Dy.ex3 (Dy.cAdd t102 (t100, t101) (t88, t89))
      refine T.hbind (us := [.i t102, .f t100, .f t101, .f t88, .f t89]) (xs := [.f t104, .f t105, .i t106]) rfl (congrArg (fun r => [calR r 0, calR r 1, calR r 2]) e107) rfl ?_
      obtain ⟨t108, t109, t110, e111⟩ := Dy.ex3 (Dy.cMul t106 (t96, t97) (t104, t105))
      have g111 := Dy.good_mul (a := (t96, t97)) (b := (t104, t105)) (err := t106)
      rw [e111] at g111
      refine T.hbind (us := [.i t106, .f t96, .f t97, .f t104, .f t105]) (xs := [.f t108, .f t109, .i t110]) rfl (congrArg (fun r => [calR r 0, calR r 1, calR r 2]) e111) rfl ?_
      obtain ⟨t112, e113⟩ : ∃ t112, (t110 != 0) = t112 := ⟨_, rfl⟩
      refine T.hbind (us := [.i t110, .i 0]) (xs := [.b t112]) (ρ' := [.f a1, .f a2, .f b1, .f b2, .b t0, .b t2, .b t5, .b t7, .b t10, .b t12, .b t15, .b t17, .f t20, .f t21, .i t22, .f t24, .f t25, .i t26, .f t28, .f t29, .i t30, .f t32, .f t33, .i t34, .f t36, .f t37, .i t38, .f t40, .f t41, .i t42, .f t44, .f t45, .i t46, .f t48, .f t49, .i t50, .f t52, .f t53, .i t54, .f t56, .f t57, .i t58, .f t60, .f t61, .i t62, .f t64, .f t65, .i t66, .f t68, .f t69, .i t70, .f t72, .f t73, .i t74, .f t76, .f t77, .i t78, .f t80, .f t81, .i t82, .f t84, .f t85, .i t86, .f t88, .f t89, .i t90, .f t92, .f t93, .i t94, .f t96, .f t97, .i t98, .f t100, .f t101, .i t102, .f t104, .f t105, .i t106, .f t108, .f t109, .i t110, .b t112]) rfl (congrArg (fun r => [U.b r]) e113) rfl ?_
      refine T.hite (x := t112) ?_ ?_ ?_
      ·rfl
      ·intro c115
       refine T.hdone ?_
       have eM : dielR (a1, a2) (b1, b2) 0 = (Dy.clip 0 4607182418800017408 (t108, t109), t110) := by
        unfold dielR
        refine (Dy.cs_sqr e23).trans ?_
        refine (Dy.cs_num e27).trans ?_
        refine (Dy.cs_sub e31).trans ?_
        refine (Dy.cs_sqr e35).trans ?_
        refine (Dy.cs_add e39).trans ?_
        refine (Dy.cs_sqrt e43).trans ?_
        refine (Dy.cs_sub e47).trans ?_
        refine (Dy.cs_add e51).trans ?_
        refine (Dy.cs_div e55).trans ?_
        refine (Dy.cs_sqr e59).trans ?_
        refine (Dy.cs_mul e63).trans ?_
        refine (Dy.cs_num e67).trans ?_
        refine (Dy.cs_sub e71).trans ?_
        refine (Dy.cs_mul e75).trans ?_
        refine (Dy.cs_num e79).trans ?_
        refine (Dy.cs_add e83).trans ?_
        refine (Dy.cs_div e87).trans ?_
        refine (Dy.cs_sqr e91).trans ?_
        refine (Dy.cs_num e95).trans ?_
        refine (Dy.cs_mul e99).trans ?_
        refine (Dy.cs_num e103).trans ?_
        refine (Dy.cs_add e107).trans ?_
        first | exact e111 | (refine (Dy.cs_mul e111).trans ?_; rfl) | (refine (Dy.cs_mul e111).trans ?_; rw [Dy.cm_pure]; simp only [e1, e3, c5, e6, e8, c10, e11, e13, c15, e16, e18, c20, e113, c115])
       have e00 : dielGR (a1, a2) (b1, b2) = ((0, 0), t110) := by simp only [dielGR, Dy.told, eM, e1, e3, c5, e6, e8, c10, e11, e13, c15, e16, e18, c20, e113, c115] <;> simp_all
       exact ⟨⟨⟨(congrArg (fun r => some (calR r 0)) e00.symm), (congrArg (fun r => some (calR r 1)) e00.symm), trivial⟩, ⟨rfl, (congrArg (fun r => some (calR r 2)) e00.symm)⟩, trivial⟩, trivial, rfl⟩
      ·intro c115
       obtain ⟨t115, t116, e117⟩ := Dy.ex2 (Dy.clip 0 4607182418800017408 (t108, t109))
       refine T.hbind (us := [.f t108, .f t109]) (xs := [.f t115, .f t116]) rfl (congrArg (fun r => [ivU r 0, ivU r 1]) e117) rfl ?_
       refine T.hneed (us := [.f t108, .f t109]) rfl (g111.2) ?_
       refine T.hdone ?_
       have eM : dielR (a1, a2) (b1, b2) 0 = ((t115, t116), t110) := by
        unfold dielR
        refine (Dy.cs_sqr e23).trans ?_
        refine (Dy.cs_num e27).trans ?_
        refine (Dy.cs_sub e31).trans ?_
        refine (Dy.cs_sqr e35).trans ?_
        refine (Dy.cs_add e39).trans ?_
        refine (Dy.cs_sqrt e43).trans ?_
        refine (Dy.cs_sub e47).trans ?_
        refine (Dy.cs_add e51).trans ?_
        refine (Dy.cs_div e55).trans ?_
        refine (Dy.cs_sqr e59).trans ?_
        refine (Dy.cs_mul e63).trans ?_
        refine (Dy.cs_num e67).trans ?_
        refine (Dy.cs_sub e71).trans ?_
        refine (Dy.cs_mul e75).trans ?_
        refine (Dy.cs_num e79).trans ?_
        refine (Dy.cs_add e83).trans ?_
        refine (Dy.cs_div e87).trans ?_
        refine (Dy.cs_sqr e91).trans ?_
        refine (Dy.cs_num e95).trans ?_
        refine (Dy.cs_mul e99).trans ?_
        refine (Dy.cs_num e103).trans ?_
        refine (Dy.cs_add e107).trans ?_
        refine (Dy.cs_mul e111).trans ?_
        first | exact congrArg (fun r => (r, t110)) e117 | (refine (Dy.cm_p e117).trans ?_; rfl) | (rw [Dy.cm_pure]; simp only [Dy.iHull, e1, e3, c5, e6, e8, c10, e11, e13, c15, e16, e18, c20, e113, c115, e117])
       have e00 : dielGR (a1, a2) (b1, b2) = ((t115, t116), 0) := by simp only [dielGR, Dy.told, eM, e1, e3, c5, e6, e8, c10, e11, e13, c15, e16, e18, c20, e113, c115] <;> simp_all
       exact ⟨⟨⟨(congrArg (fun r => some (calR r 0)) e00.symm), (congrArg (fun r => some (calR r 1)) e00.symm), trivial⟩, ⟨rfl, (congrArg (fun r => some (calR r 2)) e00.symm)⟩, trivial⟩, trivial, rfl⟩
def uq4 : List (Nat × Ct) := (15, ctDielR) :: uq3
theorem uq4_ok : AllOk Tryz.prog uq4 := ⟨ctDielR_ok, uq3_ok⟩
def condR (cos eta k : Nat × Nat) : Dy.Cm (Nat × Nat) := do
 let c2 ← Dy.mSqr cos
 let one ← Dy.mNum 4607182418800017408
 let d ← Dy.mSub one c2
 let s2 ← pure (Dy.clip 0 4607182418800017408 d)
 let e2 ← Dy.mSqr eta
 let k2 ← Dy.mSqr k
 let ek ← Dy.mMul e2 k2
 let e2 ← Dy.mSqr eta
 let k2 ← Dy.mSqr k
 let t ← Dy.mSub e2 k2
 let t0 ← Dy.mSub t s2
 let t02 ← Dy.mSqr t0
 let four ← Dy.mNum 4616189618054758400
 let ek4 ← Dy.mMul four ek
 let u ← Dy.mAdd t02 ek4
 let ab ← Dy.mSqrt u
 let half ← Dy.mNum 4602678819172646912
 let abt ← Dy.mAdd ab t0
 let nul ← Dy.mNum 0
 let mx ← Dy.mMax abt nul
 let hm ← Dy.mMul half mx
 let a ← Dy.mSqrt hm
 let t1 ← Dy.mAdd ab c2
 let two ← Dy.mNum 4611686018427387904
 let ta ← Dy.mMul two a
 let t2 ← Dy.mMul ta cos
 let x ← Dy.mSub t1 t2
 let y ← Dy.mAdd t1 t2
 let q ← Dy.mDiv x y
 let rs ← pure (Dy.clip 0 4607182418800017408 q)
 let ca ← Dy.mMul c2 ab
 let s4 ← Dy.mSqr s2
 let t3 ← Dy.mAdd ca s4
 let t4 ← Dy.mMul t2 s2
 let x2 ← Dy.mSub t3 t4
 let y2 ← Dy.mAdd t3 t4
 let q2 ← Dy.mDiv x2 y2
 let m ← Dy.mMul rs q2
 let rp ← pure (Dy.clip 0 4607182418800017408 m)
 let half ← Dy.mNum 4602678819172646912
 let sum ← Dy.mAdd rs rp
 let v ← Dy.mMul half sum
 pure (v)
def condGR (cos eta k : Nat × Nat) : (Nat × Nat) × Int := if Dy.ivR cos = true then (if Dy.ivR eta = true then (if Dy.ivR k = true then (if withT cos 0 4607182418800017408 = true then (if withT eta 4589168020290535424 4625196817309499392 = true then (if withT k 4589168020290535424 4625196817309499392 = true then Dy.told (condR cos eta k 0) else ((0, 0), 2)) else ((0, 0), 2)) else ((0, 0), 2)) else ((0, 0), 20)) else ((0, 0), 20)) else ((0, 0), 20)
def ctCondR : Ct := ⟨6, [], [vp 0 1, vp 2 3, vp 4 5], { binds := [⟨fun us i => calR (condGR (gF us 0, gF us 1) (gF us 2, gF us 3) (gF us 4, gF us 5)) i, 3, upto 0 6⟩], needs := [], val := .tup [vp 6 7, vi .i64 8], upd := [] }⟩
set_option maxRecDepth 100000 in
set_option maxHeartbeats 8000000 in
theorem ctCondR_ok : CtOk Tryz.prog 17 ctCondR := by
 refine CtOk.of_eval2 uq4_ok (dr_ok uq4_ok) Tryz.func17 rfl (by decide) [] 200 (by kernel_rfl) rfl (.bind ⟨fIv1 Dy.ivR, 1, [(.v 0), (.v 1)]⟩ (.bind ⟨fun us _ => nB us, 1, [(.v 6)]⟩ (.ite (.v 7) (.done .ret ⟨[.tup [.agg [.fl (.l (.f 0)), .fl (.l (.f 0))], .it .i64 (.l (.i 20))]], [], 8, []⟩) (.bind ⟨fIv1 Dy.ivR, 1, [(.v 2), (.v 3)]⟩ (.bind ⟨fun us _ => nB us, 1, [(.v 8)]⟩ (.ite (.v 9) (.done .ret ⟨[.tup [.agg [.fl (.l (.f 0)), .fl (.l (.f 0))], .it .i64 (.l (.i 20))]], [], 10, []⟩) (.bind ⟨fIv1 Dy.ivR, 1, [(.v 4), (.v 5)]⟩ (.bind ⟨fun us _ => nB us, 1, [(.v 10)]⟩ (.ite (.v 11) (.done .ret ⟨[.tup [.agg [.fl (.l (.f 0)), .fl (.l (.f 0))], .it .i64 (.l (.i 20))]], [], 12, []⟩) (.bind ⟨fun us i => bRes (withT (gF us 0, gF us 1) (gF us 2) (gF us 3)) i, 1, [(.v 0), (.v 1), (.l (.f 0)), (.l (.f 4607182418800017408))]⟩ (.bind ⟨fun us _ => nB us, 1, [(.v 12)]⟩ (.ite (.v 13) (.done .ret ⟨[.tup [.agg [.fl (.l (.f 0)), .fl (.l (.f 0))], .it .i64 (.l (.i 2))]], [], 14, []⟩) (.bind ⟨fun us i => bRes (withT (gF us 0, gF us 1) (gF us 2) (gF us 3)) i, 1, [(.v 2), (.v 3), (.l (.f 4589168020290535424)), (.l (.f 4625196817309499392))]⟩ (.bind ⟨fun us _ => nB us, 1, [(.v 14)]⟩ (.ite (.v 15) (.done .ret ⟨[.tup [.agg [.fl (.l (.f 0)), .fl (.l (.f 0))], .it .i64 (.l (.i 2))]], [], 16, []⟩) (.bind ⟨fun us i => bRes (withT (gF us 0, gF us 1) (gF us 2) (gF us 3)) i, 1, [(.v 4), (.v 5), (.l (.f 4589168020290535424)), (.l (.f 4625196817309499392))]⟩ (.bind ⟨fun us _ => nB us, 1, [(.v 16)]⟩ (.ite (.v 17) (.done .ret ⟨[.tup [.agg [.fl (.l (.f 0)), .fl (.l (.f 0))], .it .i64 (.l (.i 2))]], [], 18, []⟩) (.bind ⟨calF1 Dy.cSqr, 3, [(.l (.i 0)), (.v 0), (.v 1)]⟩ (.bind ⟨calF0 Dy.cNum, 3, [(.v 20), (.l (.f 4607182418800017408))]⟩ (.bind ⟨calF2 Dy.cSub, 3, [(.v 23), (.v 21), (.v 22), (.v 18), (.v 19)]⟩ (.bind ⟨fun us i => ivU (Dy.clip 0 4607182418800017408 (gF us 0, gF us 1)) i, 2, [(.v 24), (.v 25)]⟩ (.need ⟨nIv, [(.v 24), (.v 25)]⟩ (.bind ⟨calF1 Dy.cSqr, 3, [(.v 26), (.v 2), (.v 3)]⟩ (.bind ⟨calF1 Dy.cSqr, 3, [(.v 31), (.v 4), (.v 5)]⟩ (.bind ⟨calF2 Dy.cMul, 3, [(.v 34), (.v 29), (.v 30), (.v 32), (.v 33)]⟩ (.bind ⟨calF1 Dy.cSqr, 3, [(.v 37), (.v 2), (.v 3)]⟩ (.bind ⟨calF1 Dy.cSqr, 3, [(.v 40), (.v 4), (.v 5)]⟩ (.bind ⟨calF2 Dy.cSub, 3, [(.v 43), (.v 38), (.v 39), (.v 41), (.v 42)]⟩ (.bind ⟨calF2 Dy.cSub, 3, [(.v 46), (.v 44), (.v 45), (.v 27), (.v 28)]⟩ (.bind ⟨calF1 Dy.cSqr, 3, [(.v 49), (.v 47), (.v 48)]⟩ (.bind ⟨calF0 Dy.cNum, 3, [(.v 52), (.l (.f 4616189618054758400))]⟩ (.bind ⟨calF2 Dy.cMul, 3, [(.v 55), (.v 53), (.v 54), (.v 35), (.v 36)]⟩ (.bind ⟨calF2 Dy.cAdd, 3, [(.v 58), (.v 50), (.v 51), (.v 56), (.v 57)]⟩ (.bind ⟨calF1 Dy.cSqrt, 3, [(.v 61), (.v 59), (.v 60)]⟩ (.bind ⟨calF0 Dy.cNum, 3, [(.v 64), (.l (.f 4602678819172646912))]⟩ (.bind ⟨calF2 Dy.cAdd, 3, [(.v 67), (.v 62), (.v 63), (.v 47), (.v 48)]⟩ (.bind ⟨calF0 Dy.cNum, 3, [(.v 70), (.l (.f 0))]⟩ (.bind ⟨calF2 Dy.cMax, 3, [(.v 73), (.v 68), (.v 69), (.v 71), (.v 72)]⟩ (.bind ⟨calF2 Dy.cMul, 3, [(.v 76), (.v 65), (.v 66), (.v 74), (.v 75)]⟩ (.bind ⟨calF1 Dy.cSqrt, 3, [(.v 79), (.v 77), (.v 78)]⟩ (.bind ⟨calF2 Dy.cAdd, 3, [(.v 82), (.v 62), (.v 63), (.v 18), (.v 19)]⟩ (.bind ⟨calF0 Dy.cNum, 3, [(.v 85), (.l (.f 4611686018427387904))]⟩ (.bind ⟨calF2 Dy.cMul, 3, [(.v 88), (.v 86), (.v 87), (.v 80), (.v 81)]⟩ (.bind ⟨calF2 Dy.cMul, 3, [(.v 91), (.v 89), (.v 90), (.v 0), (.v 1)]⟩ (.bind ⟨calF2 Dy.cSub, 3, [(.v 94), (.v 83), (.v 84), (.v 92), (.v 93)]⟩ (.bind ⟨calF2 Dy.cAdd, 3, [(.v 97), (.v 83), (.v 84), (.v 92), (.v 93)]⟩ (.bind ⟨calF2 Dy.cDiv, 3, [(.v 100), (.v 95), (.v 96), (.v 98), (.v 99)]⟩ (.bind ⟨fun us i => ivU (Dy.clip 0 4607182418800017408 (gF us 0, gF us 1)) i, 2, [(.v 101), (.v 102)]⟩ (.need ⟨nIv, [(.v 101), (.v 102)]⟩ (.bind ⟨calF2 Dy.cMul, 3, [(.v 103), (.v 18), (.v 19), (.v 62), (.v 63)]⟩ (.bind ⟨calF1 Dy.cSqr, 3, [(.v 108), (.v 27), (.v 28)]⟩ (.bind ⟨calF2 Dy.cAdd, 3, [(.v 111), (.v 106), (.v 107), (.v 109), (.v 110)]⟩ (.bind ⟨calF2 Dy.cMul, 3, [(.v 114), (.v 92), (.v 93), (.v 27), (.v 28)]⟩ (.bind ⟨calF2 Dy.cSub, 3, [(.v 117), (.v 112), (.v 113), (.v 115), (.v 116)]⟩ (.bind ⟨calF2 Dy.cAdd, 3, [(.v 120), (.v 112), (.v 113), (.v 115), (.v 116)]⟩ (.bind ⟨calF2 Dy.cDiv, 3, [(.v 123), (.v 118), (.v 119), (.v 121), (.v 122)]⟩ (.bind ⟨calF2 Dy.cMul, 3, [(.v 126), (.v 104), (.v 105), (.v 124), (.v 125)]⟩ (.bind ⟨fun us i => ivU (Dy.clip 0 4607182418800017408 (gF us 0, gF us 1)) i, 2, [(.v 127), (.v 128)]⟩ (.need ⟨nIv, [(.v 127), (.v 128)]⟩ (.bind ⟨calF0 Dy.cNum, 3, [(.v 129), (.l (.f 4602678819172646912))]⟩ (.bind ⟨calF2 Dy.cAdd, 3, [(.v 134), (.v 104), (.v 105), (.v 130), (.v 131)]⟩ (.bind ⟨calF2 Dy.cMul, 3, [(.v 137), (.v 132), (.v 133), (.v 135), (.v 136)]⟩ (.bind ⟨fun us _ => jB (fun a b => a != b) us, 1, [(.v 140), (.l (.i 0))]⟩ (.ite (.v 141) (.done .ret ⟨[.tup [.agg [.fl (.l (.f 0)), .fl (.l (.f 0))], .it .i64 (.v 140)]], [], 142, []⟩) (.done .ret ⟨[.tup [.agg [.fl (.v 138), .fl (.v 139)], .it .i64 (.l (.i 0))]], [], 142, []⟩)))))))))))))))))))))))))))))))))))))))))))))))))))))))))))))))))) (by kernel_rfl) (by kernel_rfl) (by kernel_rfl) (fun us hl hF hB hN => ?_)
 match us, hl with
 | [u0, u1, u2, u3, u4, u5], _ =>
  simp [FactsB, FactsL, Facts, ctCondR] at hF hB
  simp [NeedsAt, runB, evs, E.ev, upto, resl, List.range, List.range.loop, ctCondR] at hN
  obtain ⟨⟨⟨a1, rfl, wa1⟩, ⟨a2, rfl, wa2⟩⟩, ⟨⟨b1, rfl, wb1⟩, ⟨b2, rfl, wb2⟩⟩, ⟨c1x, rfl, wc1x⟩, ⟨c2x, rfl, wc2x⟩⟩ := hF
  refine T.HH.h ?_
  obtain ⟨t0, e1⟩ : ∃ t0, (Dy.ivR (a1, a2)) = t0 := ⟨_, rfl⟩
  refine T.hbind (us := [.f a1, .f a2]) (xs := [.b t0]) rfl (congrArg (fun r => [U.b r]) e1) rfl ?_
  obtain ⟨t2, e3⟩ : ∃ t2, (!t0) = t2 := ⟨_, rfl⟩
  refine T.hbind (us := [.b t0]) (xs := [.b t2]) rfl (congrArg (fun r => [U.b r]) e3) rfl ?_
  refine T.hite (x := t2) ?_ ?_ ?_
  ·rfl
  ·intro c5
   refine T.hdone ?_
   have e00 : condGR (a1, a2) (b1, b2) (c1x, c2x) = ((0, 0), 20) := by simp only [condGR, Dy.told, e1, e3, c5] <;> simp_all
   exact ⟨⟨⟨(congrArg (fun r => some (calR r 0)) e00.symm), (congrArg (fun r => some (calR r 1)) e00.symm), trivial⟩, ⟨rfl, (congrArg (fun r => some (calR r 2)) e00.symm)⟩, trivial⟩, trivial, rfl⟩
  ·intro c5
   have B5 : t0 = true := by cases hh : t0 with | true => rfl | false => rw [hh] at e3; rw [c5] at e3; cases e3
   have r5 := e1.trans B5
   obtain ⟨t5, e6⟩ : ∃ t5, (Dy.ivR (b1, b2)) = t5 := ⟨_, rfl⟩
   refine T.hbind (us := [.f b1, .f b2]) (xs := [.b t5]) (ρ' := [.f a1, .f a2, .f b1, .f b2, .f c1x, .f c2x, .b t0, .b t2, .b t5]) rfl (congrArg (fun r => [U.b r]) e6) rfl ?_
   obtain ⟨t7, e8⟩ : ∃ t7, (!t5) = t7 := ⟨_, rfl⟩
   refine T.hbind (us := [.b t5]) (xs := [.b t7]) rfl (congrArg (fun r => [U.b r]) e8) rfl ?_
   refine T.hite (x := t7) ?_ ?_ ?_
   ·rfl
   ·intro c10
    refine T.hdone ?_
    have e00 : condGR (a1, a2) (b1, b2) (c1x, c2x) = ((0, 0), 20) := by simp only [condGR, Dy.told, e1, e3, c5, e6, e8, c10] <;> simp_all
    exact ⟨⟨⟨(congrArg (fun r => some (calR r 0)) e00.symm), (congrArg (fun r => some (calR r 1)) e00.symm), trivial⟩, ⟨rfl, (congrArg (fun r => some (calR r 2)) e00.symm)⟩, trivial⟩, trivial, rfl⟩
   ·intro c10
    have B10 : t5 = true := by cases hh : t5 with | true => rfl | false => rw [hh] at e8; rw [c10] at e8; cases e8
    have r10 := e6.trans B10
    obtain ⟨t10, e11⟩ : ∃ t10, (Dy.ivR (c1x, c2x)) = t10 := ⟨_, rfl⟩
    refine T.hbind (us := [.f c1x, .f c2x]) (xs := [.b t10]) rfl (congrArg (fun r => [U.b r]) e11) rfl ?_
    obtain ⟨t12, e13⟩ : ∃ t12, (!t10) = t12 := ⟨_, rfl⟩
    refine T.hbind (us := [.b t10]) (xs := [.b t12]) rfl (congrArg (fun r => [U.b r]) e13) rfl ?_
    refine T.hite (x := t12) ?_ ?_ ?_
    ·rfl
    ·intro c15
     refine T.hdone ?_
     have e00 : condGR (a1, a2) (b1, b2) (c1x, c2x) = ((0, 0), 20) := by simp only [condGR, Dy.told, e1, e3, c5, e6, e8, c10, e11, e13, c15] <;> simp_all
     exact ⟨⟨⟨(congrArg (fun r => some (calR r 0)) e00.symm), (congrArg (fun r => some (calR r 1)) e00.symm), trivial⟩, ⟨rfl, (congrArg (fun r => some (calR r 2)) e00.symm)⟩, trivial⟩, trivial, rfl⟩
    ·intro c15
     have B15 : t10 = true := by cases hh : t10 with | true => rfl | false => rw [hh] at e13; rw [c15] at e13; cases e13
     have r15 := e11.trans B15
     obtain ⟨t15, e16⟩ : ∃ t15, ((withT (a1, a2) (0) (4607182418800017408))) = t15 := ⟨_, rfl⟩
     refine T.hbind (us := [.f a1, .f a2, .f 0, .f 4607182418800017408]) (xs := [.b t15]) (ρ' := [.f a1, .f a2, .f b1, .f b2, .f c1x, .f c2x, .b t0, .b t2, .b t5, .b t7, .b t10, .b t12, .b t15]) rfl (congrArg (fun r => [U.b r]) e16) rfl ?_
     obtain ⟨t17, e18⟩ : ∃ t17, (!t15) = t17 := ⟨_, rfl⟩
     refine T.hbind (us := [.b t15]) (xs := [.b t17]) rfl (congrArg (fun r => [U.b r]) e18) rfl ?_
     refine T.hite (x := t17) ?_ ?_ ?_
     ·rfl
     ·intro c20
      refine T.hdone ?_
      have e00 : condGR (a1, a2) (b1, b2) (c1x, c2x) = ((0, 0), 2) := by simp only [condGR, Dy.told, e1, e3, c5, e6, e8, c10, e11, e13, c15, e16, e18, c20] <;> simp_all
      exact ⟨⟨⟨(congrArg (fun r => some (calR r 0)) e00.symm), (congrArg (fun r => some (calR r 1)) e00.symm), trivial⟩, ⟨rfl, (congrArg (fun r => some (calR r 2)) e00.symm)⟩, trivial⟩, trivial, rfl⟩
     ·intro c20
      obtain ⟨t20, e21⟩ : ∃ t20, ((withT (b1, b2) (4589168020290535424) (4625196817309499392))) = t20 := ⟨_, rfl⟩
      refine T.hbind (us := [.f b1, .f b2, .f 4589168020290535424, .f 4625196817309499392]) (xs := [.b t20]) rfl (congrArg (fun r => [U.b r]) e21) rfl ?_
      obtain ⟨t22, e23⟩ : ∃ t22, (!t20) = t22 := ⟨_, rfl⟩
      refine T.hbind (us := [.b t20]) (xs := [.b t22]) rfl (congrArg (fun r => [U.b r]) e23) rfl ?_
      refine T.hite (x := t22) ?_ ?_ ?_
      ·rfl
      ·intro c25
       refine T.hdone ?_
       have e00 : condGR (a1, a2) (b1, b2) (c1x, c2x) = ((0, 0), 2) := by simp only [condGR, Dy.told, e1, e3, c5, e6, e8, c10, e11, e13, c15, e16, e18, c20, e21, e23, c25] <;> simp_all
       exact ⟨⟨⟨(congrArg (fun r => some (calR r 0)) e00.symm), (congrArg (fun r => some (calR r 1)) e00.symm), trivial⟩, ⟨rfl, (congrArg (fun r => some (calR r 2)) e00.symm)⟩, trivial⟩, trivial, rfl⟩
      ·intro c25
       obtain ⟨t25, e26⟩ : ∃ t25, ((withT (c1x, c2x) (4589168020290535424) (4625196817309499392))) = t25 := ⟨_, rfl⟩
       refine T.hbind (us := [.f c1x, .f c2x, .f 4589168020290535424, .f 4625196817309499392]) (xs := [.b t25]) (ρ' := [.f a1, .f a2, .f b1, .f b2, .f c1x, .f c2x, .b t0, .b t2, .b t5, .b t7, .b t10, .b t12, .b t15, .b t17, .b t20, .b t22, .b t25]) rfl (congrArg (fun r => [U.b r]) e26) rfl ?_
       obtain ⟨t27, e28⟩ : ∃ t27, (!t25) = t27 := ⟨_, rfl⟩
       refine T.hbind (us := [.b t25]) (xs := [.b t27]) rfl (congrArg (fun r => [U.b r]) e28) rfl ?_
       refine T.hite (x := t27) ?_ ?_ ?_
       ·rfl
       ·intro c30
        refine T.hdone ?_
        have e00 : condGR (a1, a2) (b1, b2) (c1x, c2x) = ((0, 0), 2) := by simp only [condGR, Dy.told, e1, e3, c5, e6, e8, c10, e11, e13, c15, e16, e18, c20, e21, e23, c25, e26, e28, c30] <;> simp_all
        exact ⟨⟨⟨(congrArg (fun r => some (calR r 0)) e00.symm), (congrArg (fun r => some (calR r 1)) e00.symm), trivial⟩, ⟨rfl, (congrArg (fun r => some (calR r 2)) e00.symm)⟩, trivial⟩, trivial, rfl⟩
       ·intro c30
        obtain ⟨t30, t31, t32, e33⟩ := Dy.ex3 (Dy.cSqr 0 (a1, a2))
        have g33 := Dy.good_sqr (a := (a1, a2)) ⟨wa1, wa2⟩ (err := 0)
        rw [e33] at g33
        refine T.hbind (us := [.i 0, .f a1, .f a2]) (xs := [.f t30, .f t31, .i t32]) rfl (congrArg (fun r => [calR r 0, calR r 1, calR r 2]) e33) rfl ?_
        obtain ⟨t34, t35, t36, e37⟩ := Dy.ex3 (Dy.cNum t32 4607182418800017408)
        refine T.hbind (us := [.i t32, .f 4607182418800017408]) (xs := [.f t34, .f t35, .i t36]) rfl (congrArg (fun r => [calR r 0, calR r 1, calR r 2]) e37) rfl ?_
        obtain ⟨t38, t39, t40, e41⟩ := Dy.ex3 (Dy.cSub t36 (t34, t35) (t30, t31))
        have g41 := Dy.good_sub (a := (t34, t35)) (b := (t30, t31)) ⟨g33.1.1, g33.1.2⟩ (err := t36)
        rw [e41] at g41
        refine T.hbind (us := [.i t36, .f t34, .f t35, .f t30, .f t31]) (xs := [.f t38, .f t39, .i t40]) (ρ' := [.f a1, .f a2, .f b1, .f b2, .f c1x, .f c2x, .b t0, .b t2, .b t5, .b t7, .b t10, .b t12, .b t15, .b t17, .b t20, .b t22, .b t25, .b t27, .f t30, .f t31, .i t32, .f t34, .f t35, .i t36, .f t38, .f t39, .i t40]) rfl (congrArg (fun r => [calR r 0, calR r 1, calR r 2]) e41) rfl ?_
        obtain ⟨t42, t43, e44⟩ := Dy.ex2 (Dy.clip 0 4607182418800017408 (t38, t39))
        refine T.hbind (us := [.f t38, .f t39]) (xs := [.f t42, .f t43]) rfl (congrArg (fun r => [ivU r 0, ivU r 1]) e44) rfl ?_
        refine T.hneed (us := [.f t38, .f t39]) rfl (g41.2) ?_
        obtain ⟨t45, t46, t47, e48⟩ := Dy.ex3 (Dy.cSqr t40 (b1, b2))
        refine T.hbind (us := [.i t40, .f b1, .f b2]) (xs := [.f t45, .f t46, .i t47]) rfl (congrArg (fun r => [calR r 0, calR r 1, calR r 2]) e48) rfl ?_
        obtain ⟨t49, t50, t51, e52⟩ := Dy.ex3 (Dy.cSqr t47 (c1x, c2x))
        refine T.hbind (us := [.i t47, .f c1x, .f c2x]) (xs := [.f t49, .f t50, .i t51]) rfl (congrArg (fun r => [calR r 0, calR r 1, calR r 2]) e52) rfl ?_
        obtain ⟨t53, t54, t55, e56⟩ := Dy.ex3 (Dy.cMul t51 (t45, t46) (t49, t50))
        refine T.hbind (us := [.i t51, .f t45, .f t46, .f t49, .f t50]) (xs := [.f t53, .f t54, .i t55]) (ρ' := [.f a1, .f a2, .f b1, .f b2, .f c1x, .f c2x, .b t0, .b t2, .b t5, .b t7, .b t10, .b t12, .b t15, .b t17, .b t20, .b t22, .b t25, .b t27, .f t30, .f t31, .i t32, .f t34, .f t35, .i t36, .f t38, .f t39, .i t40, .f t42, .f t43, .f t45, .f t46, .i t47, .f t49, .f t50, .i t51, .f t53, .f t54, .i t55]) rfl (congrArg (fun r => [calR r 0, calR r 1, calR r 2]) e56) rfl ?_
        obtain ⟨t57, t58, t59, e60⟩ := Dy.ex3 (Dy.cSqr t55 (b1, b2))
        refine T.hbind (us := [.i t55, .f b1, .f b2]) (xs := [.f t57, .f t58, .i t59]) rfl (congrArg (fun r => [calR r 0, calR r 1, calR r 2]) e60) rfl ?_
        obtain ⟨t61, t62, t63, e64⟩ := Dy.ex3 (Dy.cSqr t59 (c1x, c2x))
        refine T.hbind (us := [.i t59, .f c1x, .f c2x]) (xs := [.f t61, .f t62, .i t63]) rfl (congrArg (fun r => [calR r 0, calR r 1, calR r 2]) e64) rfl ?_
        obtain ⟨t65, t66, t67, e68⟩ := Dy.ex3 (Dy.cSub t63 (t57, t58) (t61, t62))
        refine T.hbind (us := [.i t63, .f t57, .f t58, .f t61, .f t62]) (xs := [.f t65, .f t66, .i t67]) rfl (congrArg (fun r => [calR r 0, calR r 1, calR r 2]) e68) rfl ?_
        obtain ⟨t69, t70, t71, e72⟩ := Dy.ex3 (Dy.cSub t67 (t65, t66) (t42, t43))
        refine T.hbind (us := [.i t67, .f t65, .f t66, .f t42, .f t43]) (xs := [.f t69, .f t70, .i t71]) (ρ' := [.f a1, .f a2, .f b1, .f b2, .f c1x, .f c2x, .b t0, .b t2, .b t5, .b t7, .b t10, .b t12, .b t15, .b t17, .b t20, .b t22, .b t25, .b t27, .f t30, .f t31, .i t32, .f t34, .f t35, .i t36, .f t38, .f t39, .i t40, .f t42, .f t43, .f t45, .f t46, .i t47, .f t49, .f t50, .i t51, .f t53, .f t54, .i t55, .f t57, .f t58, .i t59, .f t61, .f t62, .i t63, .f t65, .f t66, .i t67, .f t69, .f t70, .i t71]) rfl (congrArg (fun r => [calR r 0, calR r 1, calR r 2]) e72) rfl ?_
        obtain ⟨t73, t74, t75, e76⟩ := Dy.ex3 (Dy.cSqr t71 (t69, t70))
        refine T.hbind (us := [.i t71, .f t69, .f t70]) (xs := [.f t73, .f t74, .i t75]) rfl (congrArg (fun r => [calR r 0, calR r 1, calR r 2]) e76) rfl ?_
        obtain ⟨t77, t78, t79, e80⟩ := Dy.ex3 (Dy.cNum t75 4616189618054758400)
        refine T.hbind (us := [.i t75, .f 4616189618054758400]) (xs := [.f t77, .f t78, .i t79]) rfl (congrArg (fun r => [calR r 0, calR r 1, calR r 2]) e80) rfl ?_
        obtain ⟨t81, t82, t83, e84⟩ := Dy.ex3 (Dy.cMul t79 (t77, t78) (t53, t54))
        refine T.hbind (us := [.i t79, .f t77, .f t78, .f t53, .f t54]) (xs := [.f t81, .f t82, .i t83]) rfl (congrArg (fun r => [calR r 0, calR r 1, calR r 2]) e84) rfl ?_
        obtain ⟨t85, t86, t87, e88⟩ := Dy.ex3 (Dy.cAdd t83 (t73, t74) (t81, t82))
        refine T.hbind (us := [.i t83, .f t73, .f t74, .f t81, .f t82]) (xs := [.f t85, .f t86, .i t87]) (ρ' := [.f a1, .f a2, .f b1, .f b2, .f c1x, .f c2x, .b t0, .b t2, .b t5, .b t7, .b t10, .b t12, .b t15, .b t17, .b t20, .b t22, .b t25, .b t27, .f t30, .f t31, .i t32, .f t34, .f t35, .i t36, .f t38, .f t39, .i t40, .f t42, .f t43, .f t45, .f t46, .i t47, .f t49, .f t50, .i t51, .f t53, .f t54, .i t55, .f t57, .f t58, .i t59, .f t61, .f t62, .i t63, .f t65, .f t66, .i t67, .f t69, .f t70, .i t71, .f t73, .f t74, .i t75, .f t77, .f t78, .i t79, .f t81, .f t82, .i t83, .f t85, .f t86, .i t87]) rfl (congrArg (fun r => [calR r 0, calR r 1, calR r 2]) e88) rfl ?_
        obtain ⟨t89, t90, t91, e92⟩ := Dy.ex3 (Dy.cSqrt t87 (t85, t86))
        refine T.hbind (us := [.i t87, .f t85, .f t86]) (xs := [.f t89, .f t90, .i t91]) rfl (congrArg (fun r => [calR r 0, calR r 1, calR r 2]) e92) rfl ?_
        obtain ⟨t93, t94, t95, e96⟩ := Dy.ex3 (Dy.cNum t91 4602678819172646912)
        refine T.hbind (us := [.i t91, .f 4602678819172646912]) (xs := [.f t93, .f t94, .i t95]) rfl (congrArg (fun r => [calR r 0, calR r 1, calR r 2]) e96) rfl ?_
        obtain ⟨t97, t98, t99, e100⟩ := Dy.ex3 (Dy.cAdd t95 (t89, t90) (t69, t70))
        refine T.hbind (us := [.i t95, .f t89, .f t90, .f t69, .f t70]) (xs := [.f t97, .f t98, .i t99]) rfl (congrArg (fun r => [calR r 0, calR r 1, calR r 2]) e100) rfl ?_
        obtain ⟨t101, t102, t103, e104⟩ := Dy.ex3 (Dy.cNum t99 0)
        refine T.hbind (us := [.i t99, .f 0]) (xs := [.f t101, .f t102, .i t103]) (ρ' := [.f a1, .f a2, .f b1, .f b2, .f c1x, .f c2x, .b t0, .b t2, .b t5, .b t7, .b t10, .b t12, .b t15, .b t17, .b t20, .b t22, .b t25, .b t27, .f t30, .f t31, .i t32, .f t34, .f t35, .i t36, .f t38, .f t39, .i t40, .f t42, .f t43, .f t45, .f t46, .i t47, .f t49, .f t50, .i t51, .f t53, .f t54, .i t55, .f t57, .f t58, .i t59, .f t61, .f t62, .i t63, .f t65, .f t66, .i t67, .f t69, .f t70, .i t71, .f t73, .f t74, .i t75, .f t77, .f t78, .i t79, .f t81, .f t82, .i t83, .f t85, .f t86, .i t87, .f t89, .f t90, .i t91, .f t93, .f t94, .i t95, .f t97, .f t98, .i t99, .f t101, .f t102, .i t103]) rfl (congrArg (fun r => [calR r 0, calR r 1, calR r 2]) e104) rfl ?_
        obtain ⟨t105, t106, t107, e108⟩ := Dy.ex3 (Dy.cMax t103 (t97, t98) (t101, t102))
        refine T.hbind (us := [.i t103, .f t97, .f t98, .f t101, .f t102]) (xs := [.f t105, .f t106, .i t107]) rfl (congrArg (fun r => [calR r 0, calR r 1, calR r 2]) e108) rfl ?_
        obtain ⟨t109, t110, t111, e112⟩ := Dy.ex3 (Dy.cMul t107 (t93, t94) (t105, t106))
        refine T.hbind (us := [.i t107, .f t93, .f t94, .f t105, .f t106]) (xs := [.f t109, .f t110, .i t111]) rfl (congrArg (fun r => [calR r 0, calR r 1, calR r 2]) e112) rfl ?_
        obtain ⟨t113, t114, t115, e116⟩ := Dy.ex3 (Dy.cSqrt t111 (t109, t110))
        refine T.hbind (us := [.i t111, .f t109, .f t110]) (xs := [.f t113, .f t114, .i t115]) rfl (congrArg (fun r => [calR r 0, calR r 1, calR r 2]) e116) rfl ?_
        obtain ⟨t117, t118, t119, e120⟩ := Dy.ex3 (Dy.cAdd t115 (t89, t90) (t30, t31))
        refine T.hbind (us := [.i t115, .f t89, .f t90, .f t30, .f t31]) (xs := [.f t117, .f t118, .i t119]) (ρ' := [.f a1, .f a2, .f b1, .f b2, .f c1x, .f c2x, .b t0, .b t2, .b t5, .b t7, .b t10, .b t12, .b t15, .b t17, .b t20, .b t22, .b t25, .b t27, .f t30, .f t31, .i t32, .f t34, .f t35, .i t36, .f t38, .f t39, .i t40, .f t42, .f t43, .f t45, .f t46, .i t47, .f t49, .f t50, .i t51, .f t53, .f t54, .i t55, .f t57, .f t58, .i t59, .f t61, .f t62, .i t63, .f t65, .f t66, .i t67, .f t69, .f t70, .i t71, .f t73, .f t74, .i t75, .f t77, .f t78, .i t79, .f t81, .f t82, .i t83, .f t85, .f t86, .i t87, .f t89, .f t90, .i t91, .f t93, .f t94, .i t95, .f t97, .f t98, .i t99, .f t101, .f t102, .i t103, .f t105, .f t106, .i t107, .f t109, .f t110, .i t111, .f t113, .f t114, .i t115, .f t117, .f t118, .i t119]) rfl (congrArg (fun r => [calR r 0, calR r 1, calR r 2]) e120) rfl ?_
        obtain ⟨t121, t122, t123, e124⟩ := Dy.ex3 (Dy.cNum t119 4611686018427387904)
        refine T.hbind (us := [.i t119, .f 4611686018427387904]) (xs := [.f t121, .f t122, .i t123]) rfl (congrArg (fun r => [calR r 0, calR r 1, calR r 2]) e124) rfl ?_
        obtain ⟨t125, t126, t127, e128⟩ := Dy.ex3 (Dy.cMul t123 (t121, t122) (t113, t114))
        refine T.hbind (us := [.i t123, .f t121, .f t122, .f t113, .f t114]) (xs := [.f t125, .f t126, .i t127]) rfl (congrArg (fun r => [calR r 0, calR r 1, calR r 2]) e128) rfl ?_
        obtain ⟨t129, t130, t131, e132⟩ := Dy.ex3 (Dy.cMul t127 (t125, t126) (a1, a2))
        refine T.hbind (us := [.i t127, .f t125, .f t126, .f a1, .f a2]) (xs := [.f t129, .f t130, .i t131]) rfl (congrArg (fun r => [calR r 0, calR r 1, calR r 2]) e132) rfl ?_
        obtain ⟨t133, t134, t135, e136⟩ := Dy.ex3 (Dy.cSub t131 (t117, t118) (t129, t130))
        refine T.hbind (us := [.i t131, .f t117, .f t118, .f t129, .f t130]) (xs := [.f t133, .f t134, .i t135]) (ρ' := [.f a1, .f a2, .f b1, .f b2, .f c1x, .f c2x, .b t0, .b t2, .b t5, .b t7, .b t10, .b t12, .b t15, .b t17, .b t20, .b t22, .b t25, .b t27, .f t30, .f t31, .i t32, .f t34, .f t35, .i t36, .f t38, .f t39, .i t40, .f t42, .f t43, .f t45, .f t46, .i t47, .f t49, .f t50, .i t51, .f t53, .f t54, .i t55, .f t57, .f t58, .i t59, .f t61, .f t62, .i t63, .f t65, .f t66, .i t67, .f t69, .f t70, .i t71, .f t73, .f t74, .i t75, .f t77, .f t78, .i t79, .f t81, .f t82, .i t83, .f t85, .f t86, .i t87, .f t89, .f t90, .i t91, .f t93, .f t94, .i t95, .f t97, .f t98, .i t99, .f t101, .f t102, .i t103, .f t105, .f t106, .i t107, .f t109, .f t110, .i t111, .f t113, .f t114, .i t115, .f t117, .f t118, .i t119, .f t121, .f t122, .i t123, .f t125, .f t126, .i t127, .f t129, .f t130, .i t131, .f t133, .f t134, .i t135]) rfl (congrArg (fun r => [calR r 0, calR r 1, calR r 2]) e136) rfl ?_
        obtain ⟨t137, t138, t139, e140⟩ := Dy.ex3 (Dy.cAdd t135 (t117, t118) (t129, t130))
        have g140 := Dy.good_add (a := (t117, t118)) (b := (t129, t130)) (err := t135)
        rw [e140] at g140
        refine T.hbind (us := [.i t135, .f t117, .f t118, .f t129, .f t130]) (xs := [.f t137, .f t138, .i t139]) rfl (congrArg (fun r => [calR r 0, calR r 1, calR r 2]) e140) rfl ?_
        obtain ⟨t141, t142, t143, e144⟩ := Dy.ex3 (Dy.cDiv t139 (t133, t134) (t137, t138))
        have g144 := Dy.good_div (a := (t133, t134)) (b := (t137, t138)) ⟨g140.1.1, g140.1.2⟩ (err := t139)
        rw [e144] at g144
        refine T.hbind (us := [.i t139, .f t133, .f t134, .f t137, .f t138]) (xs := [.f t141, .f t142, .i t143]) rfl (congrArg (fun r => [calR r 0, calR r 1, calR r 2]) e144) rfl ?_
        obtain ⟨t145, t146, e147⟩ := Dy.ex2 (Dy.clip 0 4607182418800017408 (t141, t142))
        refine T.hbind (us := [.f t141, .f t142]) (xs := [.f t145, .f t146]) rfl (congrArg (fun r => [ivU r 0, ivU r 1]) e147) rfl ?_
        refine T.hneed (us := [.f t141, .f t142]) rfl (g144.2) ?_
        obtain ⟨t148, t149, t150, e151⟩ := Dy.ex3 (Dy.cMul t143 (t30, t31) (t89, t90))
        refine T.hbind (us := [.i t143, .f t30, .f t31, .f t89, .f t90]) (xs := [.f t148, .f t149, .i t150]) (ρ' := [.f a1, .f a2, .f b1, .f b2, .f c1x, .f c2x, .b t0, .b t2, .b t5, .b t7, .b t10, .b t12, .b t15, .b t17, .b t20, .b t22, .b t25, .b t27, .f t30, .f t31, .i t32, .f t34, .f t35, .i t36, .f t38, .f t39, .i t40, .f t42, .f t43, .f t45, .f t46, .i t47, .f t49, .f t50, .i t51, .f t53, .f t54, .i t55, .f t57, .f t58, .i t59, .f t61, .f t62, .i t63, .f t65, .f t66, .i t67, .f t69, .f t70, .i t71, .f t73, .f t74, .i t75, .f t77, .f t78, .i t79, .f t81, .f t82, .i t83, .f t85, .f t86, .i t87, .f t89, .f t90, .i t91, .f t93, .f t94, .i t95, .f t97, .f t98, .i t99, .f t101, .f t102, .i t103, .f t105, .f t106, .i t107, .f t109, .f t110, .i t111, .f t113, .f t114, .i t115, .f t117, .f t118, .i t119, .f t121, .f t122, .i t123, .f t125, .f t126, .i t127, .f t129, .f t130, .i t131, .f t133, .f t134, .i t135, .f t137, .f t138, .i t139, .f t141, .f t142, .i t143, .f t145, .f t146, .f t148, .f t149, .i t150]) rfl (congrArg (fun r => [calR r 0, calR r 1, calR r 2]) e151) rfl ?_
        obtain ⟨t152, t153, t154, e155⟩ := Dy.ex3 (Dy.cSqr t150 (t42, t43))
        refine T.hbind (us := [.i t150, .f t42, .f t43]) (xs := [.f t152, .f t153, .i t154]) rfl (congrArg (fun r => [calR r 0, calR r 1, calR r 2]) e155) rfl ?_
        obtain ⟨t156, t157, t158, e159⟩ := Dy.ex3 (Dy.cAdd t154 (t148, t149) (t152, t153))
        refine T.hbind (us := [.i t154, .f t148, .f t149, .f t152, .f t153]) (xs := [.f t156, .f t157, .i t158]) rfl (congrArg (fun r => [calR r 0, calR r 1, calR r 2]) e159) rfl ?_
        obtain ⟨t160, t161, t162, e163⟩ := Dy.ex3 (Dy.cMul t158 (t129, t130) (t42, t43))
        refine T.hbind (us := [.i t158, .f t129, .f t130, .f t42, .f t43]) (xs := [.f t160, .f t161, .i t162]) rfl (congrArg (fun r => [calR r 0, calR r 1, calR r 2]) e163) rfl ?_
        obtain ⟨t164, t165, t166, e167⟩ := Dy.ex3 (Dy.cSub t162 (t156, t157) (t160, t161))
        refine T.hbind (us := [.i t162, .f t156, .f t157, .f t160, .f t161]) (xs := [.f t164, .f t165, .i t166]) (ρ' := [.f a1, .f a2, .f b1, .f b2, .f c1x, .f c2x, .b t0, .b t2, .b t5, .b t7, .b t10, .b t12, .b t15, .b t17, .b t20, .b t22, .b t25, .b t27, .f t30, .f t31, .i t32, .f t34, .f t35, .i t36, .f t38, .f t39, .i t40, .f t42, .f t43, .f t45, .f t46, .i t47, .f t49, .f t50, .i t51, .f t53, .f t54, .i t55, .f t57, .f t58, .i t59, .f t61, .f t62, .i t63, .f t65, .f t66, .i t67, .f t69, .f t70, .i t71, .f t73, .f t74, .i t75, .f t77, .f t78, .i t79, .f t81, .f t82, .i t83, .f t85, .f t86, .i t87, .f t89, .f t90, .i t91, .f t93, .f t94, .i t95, .f t97, .f t98, .i t99, .f t101, .f t102, .i t103, .f t105, .f t106, .i t107, .f t109, .f t110, .i t111, .f t113, .f t114, .i t115, .f t117, .f t118, .i t119, .f t121, .f t122, .i t123, .f t125, .f t126, .i t127, .f t129, .f t130, .i t131, .f t133, .f t134, .i t135, .f t137, .f t138, .i t139, .f t141, .f t142, .i t143, .f t145, .f t146, .f t148, .f t149, .i t150, .f t152, .f t153, .i t154, .f t156, .f t157, .i t158, .f t160, .f t161, .i t162, .f t164, .f t165, .i t166]) rfl (congrArg (fun r => [calR r 0, calR r 1, calR r 2]) e167) rfl ?_
        obtain ⟨t168, t169, t170, e171⟩ := Dy.ex3 (Dy.cAdd t166 (t156, t157) (t160, t161))
        refine T.hbind (us := [.i t166, .f t156, .f t157, .f t160, .f t161]) (xs := [.f t168, .f t169, .i t170]) rfl (congrArg (fun r => [calR r 0, calR r 1, calR r 2]) e171) rfl ?_
        obtain ⟨t172, t173, t174, e175⟩ := Dy.ex3 (Dy.cDiv t170 (t164, t165) (t168, t169))
        refine T.hbind (us := [.i t170, .f t164, .f t165, .f t168, .f t169]) (xs := [.f t172, .f t173, .i t174]) rfl (congrArg (fun r => [calR r 0, calR r 1, calR r 2]) e175) rfl ?_
        obtain ⟨t176, t177, t178, e179⟩ := Dy.ex3 (Dy.cMul t174 (t145, t146) (t172, t173))
        have g179 := Dy.good_mul (a := (t145, t146)) (b := (t172, t173)) (err := t174)
        rw [e179] at g179
        refine T.hbind (us := [.i t174, .f t145, .f t146, .f t172, .f t173]) (xs := [.f t176, .f t177, .i t178]) rfl (congrArg (fun r => [calR r 0, calR r 1, calR r 2]) e179) rfl ?_
        obtain ⟨t180, t181, e182⟩ := Dy.ex2 (Dy.clip 0 4607182418800017408 (t176, t177))
        refine T.hbind (us := [.f t176, .f t177]) (xs := [.f t180, .f t181]) (ρ' := [.f a1, .f a2, .f b1, .f b2, .f c1x, .f c2x, .b t0, .b t2, .b t5, .b t7, .b t10, .b t12, .b t15, .b t17, .b t20, .b t22, .b t25, .b t27, .f t30, .f t31, .i t32, .f t34, .f t35, .i t36, .f t38, .f t39, .i t40, .f t42, .f t43, .f t45, .f t46, .i t47, .f t49, .f t50, .i t51, .f t53, .f t54, .i t55, .f t57, .f t58, .i t59, .f t61, .f t62, .i t63, .f t65, .f t66, .i t67, .f t69, .f t70, .i t71, .f t73, .f t74, .i t75, .f t77, .f t78, .i t79, .f t81, .f t82, .i t83, .f t85, .f t86, .i t87, .f t89, .f t90, .i t91, .f t93, .f t94, .i t95, .f t97, .f t98, .i t99, .f t101, .f t102, .i t103, .f t105, .f t106, .i t107, .f t109, .f t110, .i t111, .f t113, .f t114, .i t115, .f t117, .f t118, .i t119, .f t121, .f t122, .i t123, .f t125, .f t126, .i t127, .f t129, .f t130, .i t131, .f t133, .f t134, .i t135, .f t137, .f t138, .i t139, .f t141, .f t142, .i t143, .f t145, .f t146, .f t148, .f t149, .i t150, .f t152, .f t153, .i t154, .f t156, .f t157, .i t158, .f t160, .f t161, .i t162, .f t164, .f t165, .i t166, .f t168, .f t169, .i t170, .f t172, .f t173, .i t174, .f t176, .f t177, .i t178, .f t180, .f t181]) rfl (congrArg (fun r => [ivU r 0, ivU r 1]) e182) rfl ?_
        refine T.hneed (us := [.f t176, .f t177]) rfl (g179.2) ?_
        obtain ⟨t183, t184, t185, e186⟩ := Dy.ex3 (Dy.cNum t178 4602678819172646912)
        refine T.hbind (us := [.i t178, .f 4602678819172646912]) (xs := [.f t183, .f t184, .i t185]) rfl (congrArg (fun r => [calR r 0, calR r 1, calR r 2]) e186) rfl ?_
        obtain ⟨t187, t188, t189, e190⟩ := Dy.ex3 (Dy.cAdd t185 (t145, t146) (t180, t181))
        refine T.hbind (us := [.i t185, .f t145, .f t146, .f t180, .f t181]) (xs := [.f t187, .f t188, .i t189]) rfl (congrArg (fun r => [calR r 0, calR r 1, calR r 2]) e190) rfl ?_
        obtain ⟨t191, t192, t193, e194⟩ := Dy.ex3 (Dy.cMul t189 (t183, t184) (t187, t188))
        refine T.hbind (us := [.i t189, .f t183, .f t184, .f t187, .f t188]) (xs := [.f t191, .f t192, .i t193]) rfl (congrArg (fun r => [calR r 0, calR r 1, calR r 2]) e194) rfl ?_
        obtain ⟨t195, e196⟩ : ∃ t195, (t193 != 0) = t195 := ⟨_, rfl⟩
        refine T.hbind (us := [.i t193, .i 0]) (xs := [.b t195]) (ρ' := [.f a1, .f a2, .f b1, .f b2, .f c1x, .f c2x, .b t0, .b t2, .b t5, .b t7, .b t10, .b t12, .b t15, .b t17, .b t20, .b t22, .b t25, .b t27, .f t30, .f t31, .i t32, .f t34, .f t35, .i t36, .f t38, .f t39, .i t40, .f t42, .f t43, .f t45, .f t46, .i t47, .f t49, .f t50, .i t51, .f t53, .f t54, .i t55, .f t57, .f t58, .i t59, .f t61, .f t62, .i t63, .f t65, .f t66, .i t67, .f t69, .f t70, .i t71, .f t73, .f t74, .i t75, .f t77, .f t78, .i t79, .f t81, .f t82, .i t83, .f t85, .f t86, .i t87, .f t89, .f t90, .i t91, .f t93, .f t94, .i t95, .f t97, .f t98, .i t99, .f t101, .f t102, .i t103, .f t105, .f t106, .i t107, .f t109, .f t110, .i t111, .f t113, .f t114, .i t115, .f t117, .f t118, .i t119, .f t121, .f t122, .i t123, .f t125, .f t126, .i t127, .f t129, .f t130, .i t131, .f t133, .f t134, .i t135, .f t137, .f t138, .i t139, .f t141, .f t142, .i t143, .f t145, .f t146, .f t148, .f t149, .i t150, .f t152, .f t153, .i t154, .f t156, .f t157, .i t158, .f t160, .f t161, .i t162, .f t164, .f t165, .i t166, .f t168, .f t169, .i t170, .f t172, .f t173, .i t174, .f t176, .f t177, .i t178, .f t180, .f t181, .f t183, .f t184, .i t185, .f t187, .f t188, .i t189, .f t191, .f t192, .i t193, .b t195]) rfl (congrArg (fun r => [U.b r]) e196) rfl ?_
        refine T.hite (x := t195) ?_ ?_ ?_
        ·rfl
        ·intro c198
         refine T.hdone ?_
         have eM : condR (a1, a2) (b1, b2) (c1x, c2x) 0 = ((t191, t192), t193) := by
          unfold condR
          refine (Dy.cs_sqr e33).trans ?_
          refine (Dy.cs_num e37).trans ?_
          refine (Dy.cs_sub e41).trans ?_
          refine (Dy.cm_p e44).trans ?_
          refine (Dy.cs_sqr e48).trans ?_
          refine (Dy.cs_sqr e52).trans ?_
          refine (Dy.cs_mul e56).trans ?_
          refine (Dy.cs_sqr e60).trans ?_
          refine (Dy.cs_sqr e64).trans ?_
          refine (Dy.cs_sub e68).trans ?_
          refine (Dy.cs_sub e72).trans ?_
          refine (Dy.cs_sqr e76).trans ?_
          refine (Dy.cs_num e80).trans ?_
          refine (Dy.cs_mul e84).trans ?_
          refine (Dy.cs_add e88).trans ?_
          refine (Dy.cs_sqrt e92).trans ?_
          refine (Dy.cs_num e96).trans ?_
          refine (Dy.cs_add e100).trans ?_
          refine (Dy.cs_num e104).trans ?_
          refine (Dy.cs_max e108).trans ?_
          refine (Dy.cs_mul e112).trans ?_
          refine (Dy.cs_sqrt e116).trans ?_
          refine (Dy.cs_add e120).trans ?_
          refine (Dy.cs_num e124).trans ?_
          refine (Dy.cs_mul e128).trans ?_
          refine (Dy.cs_mul e132).trans ?_
          refine (Dy.cs_sub e136).trans ?_
          refine (Dy.cs_add e140).trans ?_
          refine (Dy.cs_div e144).trans ?_
          refine (Dy.cm_p e147).trans ?_
          refine (Dy.cs_mul e151).trans ?_
          refine (Dy.cs_sqr e155).trans ?_
          refine (Dy.cs_add e159).trans ?_
          refine (Dy.cs_mul e163).trans ?_
          refine (Dy.cs_sub e167).trans ?_
          refine (Dy.cs_add e171).trans ?_
          refine (Dy.cs_div e175).trans ?_
          refine (Dy.cs_mul e179).trans ?_
          refine (Dy.cm_p e182).trans ?_
          refine (Dy.cs_num e186).trans ?_
          refine (Dy.cs_add e190).trans ?_
          first | exact e194 | (refine (Dy.cs_mul e194).trans ?_; rfl) | (refine (Dy.cs_mul e194).trans ?_; rw [Dy.cm_pure]; simp only [e1, e3, c5, e6, e8, c10, e11, e13, c15, e16, e18, c20, e21, e23, c25, e26, e28, c30, e196, c198])
         have e00 : condGR (a1, a2) (b1, b2) (c1x, c2x) = ((0, 0), t193) := by simp only [condGR, Dy.told, eM, e1, e3, c5, e6, e8, c10, e11, e13, c15, e16, e18, c20, e21, e23, c25, e26, e28, c30, e196, c198] <;> simp_all
         exact ⟨⟨⟨(congrArg (fun r => some (calR r 0)) e00.symm), (congrArg (fun r => some (calR r 1)) e00.symm), trivial⟩, ⟨rfl, (congrArg (fun r => some (calR r 2)) e00.symm)⟩, trivial⟩, trivial, rfl⟩
        ·intro c198
         refine T.hdone ?_
         have eM : condR (a1, a2) (b1, b2) (c1x, c2x) 0 = ((t191, t192), t193) := by
          unfold condR
          refine (Dy.cs_sqr e33).trans ?_
          refine (Dy.cs_num e37).trans ?_
          refine (Dy.cs_sub e41).trans ?_
          refine (Dy.cm_p e44).trans ?_
          refine (Dy.cs_sqr e48).trans ?_
          refine (Dy.cs_sqr e52).trans ?_
          refine (Dy.cs_mul e56).trans ?_
          refine (Dy.cs_sqr e60).trans ?_
          refine (Dy.cs_sqr e64).trans ?_
          refine (Dy.cs_sub e68).trans ?_
          refine (Dy.cs_sub e72).trans ?_
          refine (Dy.cs_sqr e76).trans ?_
          refine (Dy.cs_num e80).trans ?_
          refine (Dy.cs_mul e84).trans ?_
          refine (Dy.cs_add e88).trans ?_
          refine (Dy.cs_sqrt e92).trans ?_
          refine (Dy.cs_num e96).trans ?_
          refine (Dy.cs_add e100).trans ?_
          refine (Dy.cs_num e104).trans ?_
          refine (Dy.cs_max e108).trans ?_
          refine (Dy.cs_mul e112).trans ?_
          refine (Dy.cs_sqrt e116).trans ?_
          refine (Dy.cs_add e120).trans ?_
          refine (Dy.cs_num e124).trans ?_
          refine (Dy.cs_mul e128).trans ?_
          refine (Dy.cs_mul e132).trans ?_
          refine (Dy.cs_sub e136).trans ?_
          refine (Dy.cs_add e140).trans ?_
          refine (Dy.cs_div e144).trans ?_
          refine (Dy.cm_p e147).trans ?_
          refine (Dy.cs_mul e151).trans ?_
          refine (Dy.cs_sqr e155).trans ?_
          refine (Dy.cs_add e159).trans ?_
          refine (Dy.cs_mul e163).trans ?_
          refine (Dy.cs_sub e167).trans ?_
          refine (Dy.cs_add e171).trans ?_
          refine (Dy.cs_div e175).trans ?_
          refine (Dy.cs_mul e179).trans ?_
          refine (Dy.cm_p e182).trans ?_
          refine (Dy.cs_num e186).trans ?_
          refine (Dy.cs_add e190).trans ?_
          first | exact e194 | (refine (Dy.cs_mul e194).trans ?_; rfl) | (refine (Dy.cs_mul e194).trans ?_; rw [Dy.cm_pure]; simp only [e1, e3, c5, e6, e8, c10, e11, e13, c15, e16, e18, c20, e21, e23, c25, e26, e28, c30, e196, c198])
         have e00 : condGR (a1, a2) (b1, b2) (c1x, c2x) = ((t191, t192), 0) := by simp only [condGR, Dy.told, eM, e1, e3, c5, e6, e8, c10, e11, e13, c15, e16, e18, c20, e21, e23, c25, e26, e28, c30, e196, c198] <;> simp_all
         exact ⟨⟨⟨(congrArg (fun r => some (calR r 0)) e00.symm), (congrArg (fun r => some (calR r 1)) e00.symm), trivial⟩, ⟨rfl, (congrArg (fun r => some (calR r 2)) e00.symm)⟩, trivial⟩, trivial, rfl⟩
def uq5 : List (Nat × Ct) := (17, ctCondR) :: uq4
theorem uq5_ok : AllOk Tryz.prog uq5 := ⟨ctCondR_ok, uq4_ok⟩
end Go.Proofs.YtiphdhpacklboaaGreat
