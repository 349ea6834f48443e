/- A reckoning of programs by symbols: rough surfaces (oren). -/
import Derived.Test.YthmkjnhgialnlaaYv
namespace Go.Proofs.Ythmkjnhgialnlaa
open Go Go.RowKit
set_option linter.unusedSimpArgs false
set_option linter.unusedVariables false

theorem bne0 {x : Int} (h : (x != 0) = false) : x = 0 := by simpa using h
theorem oL1_R {a : Nat × Nat} {l h : Nat} (k : oL1 a l h = 0) : Dy.ivR a = true := by
  unfold oL1 at k
  by_cases c : Dy.ivR a = true
  · exact c
  · rw [if_neg c] at k; cases k
theorem oL3_R {a b c : Nat × Nat} {l h m n p q : Nat} (k : oL3 a b c l h m n p q = 0) : Dy.ivR a = true ∧ Dy.ivR b = true ∧ Dy.ivR c = true := by
  unfold oL3 at k
  by_cases x : (Dy.ivR a && Dy.ivR b && Dy.ivR c) = true
  · simp only [Bool.and_eq_true] at x; exact ⟨x.1.1, x.1.2, x.2⟩
  · rw [if_neg x] at k; cases k
theorem oL5_R {a b c d e : Nat × Nat} {l h m n p q r s t u : Nat} (k : oL5 a b c d e l h m n p q r s t u = 0) : Dy.ivR a = true ∧ Dy.ivR b = true ∧ Dy.ivR c = true ∧ Dy.ivR d = true ∧ Dy.ivR e = true := by
  unfold oL5 at k
  by_cases x : (Dy.ivR a && Dy.ivR b && Dy.ivR c && Dy.ivR d && Dy.ivR e) = true
  · simp only [Bool.and_eq_true] at x; exact ⟨x.1.1.1.1, x.1.1.1.2, x.1.1.2, x.1.2, x.2⟩
  · rw [if_neg x] at k; cases k
/-- The pair, with its error. -/
def oPair (a : Nat × Nat) : ((Nat × Nat) × (Nat × Nat)) × Int := if (oL1 a 0 4607182418800017408 != 0) = true then (((0, 0), (0, 0)), oL1 a 0 4607182418800017408) else told2 (pairM a 0)
/-- The slope, with its error. -/
def oSlope (a b c : Nat × Nat) : (Nat × Nat) × Int := if (oL3 a b c 0 4607182418800017408 0 4607182418800017408 13830554455654793216 4607182418800017408 != 0) = true then ((0, 0), oL3 a b c 0 4607182418800017408 0 4607182418800017408 13830554455654793216 4607182418800017408) else Dy.told (slopeM a b c 0)
/-- A value, with its error. -/
def oVal (r s a b c : Nat × Nat) : (Nat × Nat) × Int := if (oL5 r s a b c 0 4607182418800017408 0 4607182418800017408 0 4607182418800017408 0 4607182418800017408 13830554455654793216 4607182418800017408 != 0) = true then ((0, 0), oL5 r s a b c 0 4607182418800017408 0 4607182418800017408 0 4607182418800017408 0 4607182418800017408 13830554455654793216 4607182418800017408) else Dy.told (orenM r s a b c 0)
attribute [local irreducible] pairM slopeM
def x0 : List (Nat × Ct) := o7
theorem x0_ok : AllOk Try.prog x0 := o7_ok
def ctPair : Ct := ⟨2, [], [vp 0 1], { binds := [⟨fun us i => pairU ((oPair (gF us 0, gF us 1))) i, 5, upto 0 2⟩], needs := [], val := .tup [vp 2 3, vp 4 5, vi .i64 6], upd := [] }⟩
set_option maxRecDepth 100000 in
set_option maxHeartbeats 8000000 in
theorem ctPair_ok : CtOk Try.prog 18 ctPair := by
  refine CtOk.of_eval2 x0_ok (dr_ok x0_ok) Try.func18 rfl (by decide) [] 200 (by kernel_rfl) rfl (.bind ⟨fun us i => iRes ((oL1 (gF us 0, gF us 1) (gF us 2) (gF us 3))) i, 1, [(.v 0), (.v 1), (.l (.f 0)), (.l (.f 4607182418800017408))]⟩ (.bind ⟨fun us _ => jB (fun a b => a != b) us, 1, [(.v 2), (.l (.i 0))]⟩ (.ite (.v 3) (.done .ret ⟨[.tup [.agg [.fl (.l (.f 0)), .fl (.l (.f 0))], .agg [.fl (.l (.f 0)), .fl (.l (.f 0))], .it .i64 (.v 2)]], [], 4, []⟩) (.bind ⟨fun us i => pairU (pairM (gF us 1, gF us 2) (gI us 0)) i, 5, [(.l (.i 0)), (.v 0), (.v 1)]⟩ (.bind ⟨fun us _ => jB (fun a b => a != b) us, 1, [(.v 8), (.l (.i 0))]⟩ (.ite (.v 9) (.done .ret ⟨[.tup [.agg [.fl (.l (.f 0)), .fl (.l (.f 0))], .agg [.fl (.l (.f 0)), .fl (.l (.f 0))], .it .i64 (.v 8)]], [], 10, []⟩) (.done .ret ⟨[.tup [.agg [.fl (.v 4), .fl (.v 5)], .agg [.fl (.v 6), .fl (.v 7)], .it .i64 (.l (.i 0))]], [], 10, []⟩))))))) (by kernel_rfl) (by kernel_rfl) (by kernel_rfl) (fun us hl hF hB hN => ?_)
  match us, hl with
  | [u0, u1], _ =>
    simp [FactsB, FactsL, Facts, ctPair] at hF hB
    simp [NeedsAt, runB, evs, E.ev, upto, resl, List.range, List.range.loop, ctPair] at hN
    obtain ⟨⟨a1, rfl, wa1⟩, ⟨a2, rfl, wa2⟩⟩ := hF
    refine T.HH.h ?_
    obtain ⟨t0, e1⟩ : ∃ t0, (((oL1 (a1, a2) (0) (4607182418800017408)))) = t0 := ⟨_, rfl⟩
    refine T.hbind (us := [.f a1, .f a2, .f 0, .f 4607182418800017408]) (xs := [.i t0]) (ρ' := [.f a1, .f a2, .i t0]) rfl (congrArg (fun r => [U.i r]) e1) rfl ?_
    obtain ⟨t2, e3⟩ : ∃ t2, (t0 != 0) = t2 := ⟨_, rfl⟩
    refine T.hbind (us := [.i t0, .i 0]) (xs := [.b t2]) (ρ' := [.f a1, .f a2, .i t0, .b t2]) rfl (congrArg (fun r => [U.b r]) e3) rfl ?_
    refine T.hite (x := t2) ?_ ?_ ?_
    · rfl
    · intro c5
      refine T.hdone ?_
      have e00 : (oPair (a1, a2)) = (((0, 0), (0, 0)), t0) := by simp only [oPair, told2, e1, e3, c5, reduceIte, Bool.false_eq_true, Bool.true_eq_false, Bool.true_and, Bool.false_and, Bool.and_true, Bool.and_false, Bool.true_or, Bool.false_or, Bool.or_true, Bool.or_false, Bool.not_true, Bool.not_false, Dy.cm_bind, Dy.cm_pure, Dy.mNum, Dy.mAdd, Dy.mSub, Dy.mMul, Dy.mDiv, Dy.mSqr, Dy.mSqrt, Dy.mMax] <;> simp_all
      exact ⟨⟨⟨(congrArg (fun r => some (pairU r 0)) e00.symm), (congrArg (fun r => some (pairU r 1)) e00.symm), trivial⟩, ⟨(congrArg (fun r => some (pairU r 2)) e00.symm), (congrArg (fun r => some (pairU r 3)) e00.symm), trivial⟩, ⟨rfl, (congrArg (fun r => some (pairU r 4)) e00.symm)⟩, trivial⟩, trivial, rfl⟩
    · intro c5
      have rr := oL1_R (e1.trans (bne0 (e3.trans c5)))
      obtain ⟨t5, t6, t7, t8, t9, e10⟩ : ∃ t5 t6 t7 t8 t9, (pairM (a1, a2) (0)) = (((t5, t6), (t7, t8)), t9) := Dy.ex5 _
      refine T.hbind (us := [.i 0, .f a1, .f a2]) (xs := [.f t5, .f t6, .f t7, .f t8, .i t9]) (ρ' := [.f a1, .f a2, .i t0, .b t2, .f t5, .f t6, .f t7, .f t8, .i t9]) rfl (congrArg (fun r => [pairU r 0, pairU r 1, pairU r 2, pairU r 3, pairU r 4]) e10) rfl ?_
      obtain ⟨t11, e12⟩ : ∃ t11, (t9 != 0) = t11 := ⟨_, rfl⟩
      refine T.hbind (us := [.i t9, .i 0]) (xs := [.b t11]) (ρ' := [.f a1, .f a2, .i t0, .b t2, .f t5, .f t6, .f t7, .f t8, .i t9, .b t11]) rfl (congrArg (fun r => [U.b r]) e12) rfl ?_
      refine T.hite (x := t11) ?_ ?_ ?_
      · rfl
      · intro c14
        refine T.hdone ?_
        have e00 : (oPair (a1, a2)) = (((0, 0), (0, 0)), t9) := by simp only [oPair, told2, e1, e3, c5, e10, e12, c14, reduceIte, Bool.false_eq_true, Bool.true_eq_false, Bool.true_and, Bool.false_and, Bool.and_true, Bool.and_false, Bool.true_or, Bool.false_or, Bool.or_true, Bool.or_false, Bool.not_true, Bool.not_false, Dy.cm_bind, Dy.cm_pure, Dy.mNum, Dy.mAdd, Dy.mSub, Dy.mMul, Dy.mDiv, Dy.mSqr, Dy.mSqrt, Dy.mMax] <;> simp_all
        exact ⟨⟨⟨(congrArg (fun r => some (pairU r 0)) e00.symm), (congrArg (fun r => some (pairU r 1)) e00.symm), trivial⟩, ⟨(congrArg (fun r => some (pairU r 2)) e00.symm), (congrArg (fun r => some (pairU r 3)) e00.symm), trivial⟩, ⟨rfl, (congrArg (fun r => some (pairU r 4)) e00.symm)⟩, trivial⟩, trivial, rfl⟩
      · intro c14
        refine T.hdone ?_
        have e00 : (oPair (a1, a2)) = (((t5, t6), (t7, t8)), 0) := by simp only [oPair, told2, e1, e3, c5, e10, e12, c14, reduceIte, Bool.false_eq_true, Bool.true_eq_false, Bool.true_and, Bool.false_and, Bool.and_true, Bool.and_false, Bool.true_or, Bool.false_or, Bool.or_true, Bool.or_false, Bool.not_true, Bool.not_false, Dy.cm_bind, Dy.cm_pure, Dy.mNum, Dy.mAdd, Dy.mSub, Dy.mMul, Dy.mDiv, Dy.mSqr, Dy.mSqrt, Dy.mMax] <;> simp_all
        exact ⟨⟨⟨(congrArg (fun r => some (pairU r 0)) e00.symm), (congrArg (fun r => some (pairU r 1)) e00.symm), trivial⟩, ⟨(congrArg (fun r => some (pairU r 2)) e00.symm), (congrArg (fun r => some (pairU r 3)) e00.symm), trivial⟩, ⟨rfl, (congrArg (fun r => some (pairU r 4)) e00.symm)⟩, trivial⟩, trivial, rfl⟩

def x1 : List (Nat × Ct) := (18, ctPair) :: x0
theorem x1_ok : AllOk Try.prog x1 := ⟨ctPair_ok, x0_ok⟩

def ctSlope : Ct := ⟨6, [], [vp 0 1, vp 2 3, vp 4 5], { binds := [⟨fun us i => calR ((oSlope (gF us 0, gF us 1) (gF us 2, gF us 3) (gF us 4, gF us 5))) i, 3, upto 0 6⟩], needs := [], val := .tup [vp 6 7, vi .i64 8], upd := [] }⟩
set_option maxRecDepth 100000 in
set_option maxHeartbeats 8000000 in
theorem ctSlope_ok : CtOk Try.prog 59 ctSlope := by
  refine CtOk.of_eval2 x1_ok (dr_ok x1_ok) Try.func59 rfl (by decide) [] 200 (by kernel_rfl) rfl (.bind ⟨fun us i => iRes ((oL3 (gF us 0, gF us 1) (gF us 4, gF us 5) (gF us 8, gF us 9) (gF us 2) (gF us 3) (gF us 6) (gF us 7) (gF us 10) (gF us 11))) i, 1, [(.v 0), (.v 1), (.l (.f 0)), (.l (.f 4607182418800017408)), (.v 2), (.v 3), (.l (.f 0)), (.l (.f 4607182418800017408)), (.v 4), (.v 5), (.l (.f 13830554455654793216)), (.l (.f 4607182418800017408))]⟩ (.bind ⟨fun us _ => jB (fun a b => a != b) us, 1, [(.v 6), (.l (.i 0))]⟩ (.ite (.v 7) (.done .ret ⟨[.tup [.agg [.fl (.l (.f 0)), .fl (.l (.f 0))], .it .i64 (.v 6)]], [], 8, []⟩) (.bind ⟨fun us i => calR (slopeM (gF us 1, gF us 2) (gF us 3, gF us 4) (gF us 5, gF us 6) (gI us 0)) i, 3, [(.l (.i 0)), (.v 0), (.v 1), (.v 2), (.v 3), (.v 4), (.v 5)]⟩ (.need ⟨nIv, [(.v 0), (.v 1)]⟩ (.need ⟨nIv, [(.v 2), (.v 3)]⟩ (.bind ⟨fun us _ => jB (fun a b => a != b) us, 1, [(.v 10), (.l (.i 0))]⟩ (.ite (.v 11) (.done .ret ⟨[.tup [.agg [.fl (.l (.f 0)), .fl (.l (.f 0))], .it .i64 (.v 10)]], [], 12, []⟩) (.done .ret ⟨[.tup [.agg [.fl (.v 8), .fl (.v 9)], .it .i64 (.l (.i 0))]], [], 12, []⟩))))))))) (by kernel_rfl) (by kernel_rfl) (by kernel_rfl) (fun us hl hF hB hN => ?_)
  match us, hl with
  | [u0, u1, u2, u3, u4, u5], _ =>
    simp [FactsB, FactsL, Facts, ctSlope] at hF hB
    simp [NeedsAt, runB, evs, E.ev, upto, resl, List.range, List.range.loop, ctSlope] at hN
    obtain ⟨⟨⟨a1, rfl, wa1⟩, ⟨a2, rfl, wa2⟩⟩, ⟨⟨b1, rfl, wb1⟩, ⟨b2, rfl, wb2⟩⟩, ⟨c1, rfl, wc1⟩, ⟨c2, rfl, wc2⟩⟩ := hF
    refine T.HH.h ?_
    obtain ⟨t0, e1⟩ : ∃ t0, (((oL3 (a1, a2) (b1, b2) (c1, c2) (0) (4607182418800017408) (0) (4607182418800017408) (13830554455654793216) (4607182418800017408)))) = t0 := ⟨_, rfl⟩
    refine T.hbind (us := [.f a1, .f a2, .f 0, .f 4607182418800017408, .f b1, .f b2, .f 0, .f 4607182418800017408, .f c1, .f c2, .f 13830554455654793216, .f 4607182418800017408]) (xs := [.i t0]) (ρ' := [.f a1, .f a2, .f b1, .f b2, .f c1, .f c2, .i t0]) rfl (congrArg (fun r => [U.i r]) e1) rfl ?_
    obtain ⟨t2, e3⟩ : ∃ t2, (t0 != 0) = t2 := ⟨_, rfl⟩
    refine T.hbind (us := [.i t0, .i 0]) (xs := [.b t2]) (ρ' := [.f a1, .f a2, .f b1, .f b2, .f c1, .f c2, .i t0, .b t2]) rfl (congrArg (fun r => [U.b r]) e3) rfl ?_
    refine T.hite (x := t2) ?_ ?_ ?_
    · rfl
    · intro c5
      refine T.hdone ?_
      have e00 : (oSlope (a1, a2) (b1, b2) (c1, c2)) = ((0, 0), t0) := by simp only [oSlope, Dy.told, e1, e3, c5, reduceIte, Bool.false_eq_true, Bool.true_eq_false, Bool.true_and, Bool.false_and, Bool.and_true, Bool.and_false, Bool.true_or, Bool.false_or, Bool.or_true, Bool.or_false, Bool.not_true, Bool.not_false, Dy.cm_bind, Dy.cm_pure, Dy.mNum, Dy.mAdd, Dy.mSub, Dy.mMul, Dy.mDiv, Dy.mSqr, Dy.mSqrt, Dy.mMax] <;> simp_all
      exact ⟨⟨⟨(congrArg (fun r => some (calR r 0)) e00.symm), (congrArg (fun r => some (calR r 1)) e00.symm), trivial⟩, ⟨rfl, (congrArg (fun r => some (calR r 2)) e00.symm)⟩, trivial⟩, trivial, rfl⟩
    · intro c5
      have rr := oL3_R (e1.trans (bne0 (e3.trans c5)))
      obtain ⟨t5, t6, t7, e8⟩ : ∃ t5 t6 t7, (slopeM (a1, a2) (b1, b2) (c1, c2) (0)) = ((t5, t6), t7) := Dy.ex3 _
      refine T.hbind (us := [.i 0, .f a1, .f a2, .f b1, .f b2, .f c1, .f c2]) (xs := [.f t5, .f t6, .i t7]) (ρ' := [.f a1, .f a2, .f b1, .f b2, .f c1, .f c2, .i t0, .b t2, .f t5, .f t6, .i t7]) rfl (congrArg (fun r => [calR r 0, calR r 1, calR r 2]) e8) rfl ?_
      refine T.hneed (us := [.f a1, .f a2]) rfl (rr.1) ?_
      refine T.hneed (us := [.f b1, .f b2]) rfl (rr.2.1) ?_
      obtain ⟨t9, e10⟩ : ∃ t9, (t7 != 0) = t9 := ⟨_, rfl⟩
      refine T.hbind (us := [.i t7, .i 0]) (xs := [.b t9]) (ρ' := [.f a1, .f a2, .f b1, .f b2, .f c1, .f c2, .i t0, .b t2, .f t5, .f t6, .i t7, .b t9]) rfl (congrArg (fun r => [U.b r]) e10) rfl ?_
      refine T.hite (x := t9) ?_ ?_ ?_
      · rfl
      · intro c12
        refine T.hdone ?_
        have e00 : (oSlope (a1, a2) (b1, b2) (c1, c2)) = ((0, 0), t7) := by simp only [oSlope, Dy.told, e1, e3, c5, e8, e10, c12, reduceIte, Bool.false_eq_true, Bool.true_eq_false, Bool.true_and, Bool.false_and, Bool.and_true, Bool.and_false, Bool.true_or, Bool.false_or, Bool.or_true, Bool.or_false, Bool.not_true, Bool.not_false, Dy.cm_bind, Dy.cm_pure, Dy.mNum, Dy.mAdd, Dy.mSub, Dy.mMul, Dy.mDiv, Dy.mSqr, Dy.mSqrt, Dy.mMax] <;> simp_all
        exact ⟨⟨⟨(congrArg (fun r => some (calR r 0)) e00.symm), (congrArg (fun r => some (calR r 1)) e00.symm), trivial⟩, ⟨rfl, (congrArg (fun r => some (calR r 2)) e00.symm)⟩, trivial⟩, trivial, rfl⟩
      · intro c12
        refine T.hdone ?_
        have e00 : (oSlope (a1, a2) (b1, b2) (c1, c2)) = ((t5, t6), 0) := by simp only [oSlope, Dy.told, e1, e3, c5, e8, e10, c12, reduceIte, Bool.false_eq_true, Bool.true_eq_false, Bool.true_and, Bool.false_and, Bool.and_true, Bool.and_false, Bool.true_or, Bool.false_or, Bool.or_true, Bool.or_false, Bool.not_true, Bool.not_false, Dy.cm_bind, Dy.cm_pure, Dy.mNum, Dy.mAdd, Dy.mSub, Dy.mMul, Dy.mDiv, Dy.mSqr, Dy.mSqrt, Dy.mMax] <;> simp_all
        exact ⟨⟨⟨(congrArg (fun r => some (calR r 0)) e00.symm), (congrArg (fun r => some (calR r 1)) e00.symm), trivial⟩, ⟨rfl, (congrArg (fun r => some (calR r 2)) e00.symm)⟩, trivial⟩, trivial, rfl⟩

def x2 : List (Nat × Ct) := (59, ctSlope) :: x1
theorem x2_ok : AllOk Try.prog x2 := ⟨ctSlope_ok, x1_ok⟩

def ctValue : Ct := ⟨10, [], [vp 0 1, vp 2 3, vp 4 5, vp 6 7, vp 8 9], { binds := [⟨fun us i => calR ((oVal (gF us 0, gF us 1) (gF us 2, gF us 3) (gF us 4, gF us 5) (gF us 6, gF us 7) (gF us 8, gF us 9))) i, 3, upto 0 10⟩], needs := [], val := .tup [vp 10 11, vi .i64 12], upd := [] }⟩
set_option maxRecDepth 100000 in
set_option maxHeartbeats 8000000 in
theorem ctValue_ok : CtOk Try.prog 17 ctValue := by
  refine CtOk.of_eval2 x2_ok (dr_ok x2_ok) Try.func17 rfl (by decide) [] 200 (by kernel_rfl) rfl (.bind ⟨fun us i => iRes ((oL5 (gF us 0, gF us 1) (gF us 4, gF us 5) (gF us 8, gF us 9) (gF us 12, gF us 13) (gF us 16, gF us 17) (gF us 2) (gF us 3) (gF us 6) (gF us 7) (gF us 10) (gF us 11) (gF us 14) (gF us 15) (gF us 18) (gF us 19))) i, 1, [(.v 0), (.v 1), (.l (.f 0)), (.l (.f 4607182418800017408)), (.v 2), (.v 3), (.l (.f 0)), (.l (.f 4607182418800017408)), (.v 4), (.v 5), (.l (.f 0)), (.l (.f 4607182418800017408)), (.v 6), (.v 7), (.l (.f 0)), (.l (.f 4607182418800017408)), (.v 8), (.v 9), (.l (.f 13830554455654793216)), (.l (.f 4607182418800017408))]⟩ (.bind ⟨fun us _ => jB (fun a b => a != b) us, 1, [(.v 10), (.l (.i 0))]⟩ (.ite (.v 11) (.done .ret ⟨[.tup [.agg [.fl (.l (.f 0)), .fl (.l (.f 0))], .it .i64 (.v 10)]], [], 12, []⟩) (.bind ⟨fun us i => calR (slopeM (gF us 1, gF us 2) (gF us 3, gF us 4) (gF us 5, gF us 6) (gI us 0)) i, 3, [(.l (.i 0)), (.v 4), (.v 5), (.v 6), (.v 7), (.v 8), (.v 9)]⟩ (.need ⟨nIv, [(.v 4), (.v 5)]⟩ (.need ⟨nIv, [(.v 6), (.v 7)]⟩ (.bind ⟨fun us i => pairU (pairM (gF us 1, gF us 2) (gI us 0)) i, 5, [(.v 14), (.v 2), (.v 3)]⟩ (.bind ⟨calF2 Dy.cMul, 3, [(.v 19), (.v 17), (.v 18), (.v 12), (.v 13)]⟩ (.bind ⟨calF2 Dy.cAdd, 3, [(.v 22), (.v 15), (.v 16), (.v 20), (.v 21)]⟩ (.bind ⟨calF2 Dy.cMul, 3, [(.v 25), (.v 0), (.v 1), (.v 23), (.v 24)]⟩ (.bind ⟨fun us i => ivU (Dy.clip (gF us 2) (gF us 3) (gF us 0, gF us 1)) i, 2, [(.v 26), (.v 27), (.l (.f 0)), (.l (.f 4607182418800017408))]⟩ (.need ⟨rN, [(.v 26), (.v 27)]⟩ (.need ⟨rN, [(.l (.f 0)), (.l (.f 4607182418800017408))]⟩ (.bind ⟨fun us _ => jB (fun a b => a != b) us, 1, [(.v 28), (.l (.i 0))]⟩ (.ite (.v 31) (.done .ret ⟨[.tup [.agg [.fl (.l (.f 0)), .fl (.l (.f 0))], .it .i64 (.v 28)]], [], 32, []⟩) (.done .ret ⟨[.tup [.agg [.fl (.v 29), .fl (.v 30)], .it .i64 (.l (.i 0))]], [], 32, []⟩)))))))))))))))) (by kernel_rfl) (by kernel_rfl) (by kernel_rfl) (fun us hl hF hB hN => ?_)
  match us, hl with
  | [u0, u1, u2, u3, u4, u5, u6, u7, u8, u9], _ =>
    simp [FactsB, FactsL, Facts, ctValue] at hF hB
    simp [NeedsAt, runB, evs, E.ev, upto, resl, List.range, List.range.loop, ctValue] at hN
    obtain ⟨⟨⟨r1, rfl, wr1⟩, ⟨r2, rfl, wr2⟩⟩, ⟨⟨s1, rfl, ws1⟩, ⟨s2, rfl, ws2⟩⟩, ⟨⟨a1, rfl, wa1⟩, ⟨a2, rfl, wa2⟩⟩, ⟨⟨b1, rfl, wb1⟩, ⟨b2, rfl, wb2⟩⟩, ⟨c1, rfl, wc1⟩, ⟨c2, rfl, wc2⟩⟩ := hF
    refine T.HH.h ?_
    obtain ⟨t0, e1⟩ : ∃ t0, (((oL5 (r1, r2) (s1, s2) (a1, a2) (b1, b2) (c1, c2) (0) (4607182418800017408) (0) (4607182418800017408) (0) (4607182418800017408) (0) (4607182418800017408) (13830554455654793216) (4607182418800017408)))) = t0 := ⟨_, rfl⟩
    refine T.hbind (us := [.f r1, .f r2, .f 0, .f 4607182418800017408, .f s1, .f s2, .f 0, .f 4607182418800017408, .f a1, .f a2, .f 0, .f 4607182418800017408, .f b1, .f b2, .f 0, .f 4607182418800017408, .f c1, .f c2, .f 13830554455654793216, .f 4607182418800017408]) (xs := [.i t0]) (ρ' := [.f r1, .f r2, .f s1, .f s2, .f a1, .f a2, .f b1, .f b2, .f c1, .f c2, .i t0]) rfl (congrArg (fun r => [U.i r]) e1) rfl ?_
    obtain ⟨t2, e3⟩ : ∃ t2, (t0 != 0) = t2 := ⟨_, rfl⟩
    refine T.hbind (us := [.i t0, .i 0]) (xs := [.b t2]) (ρ' := [.f r1, .f r2, .f s1, .f s2, .f a1, .f a2, .f b1, .f b2, .f c1, .f c2, .i t0, .b t2]) rfl (congrArg (fun r => [U.b r]) e3) rfl ?_
    refine T.hite (x := t2) ?_ ?_ ?_
    · rfl
    · intro c5
      refine T.hdone ?_
      have e00 : (oVal (r1, r2) (s1, s2) (a1, a2) (b1, b2) (c1, c2)) = ((0, 0), t0) := by simp only [oVal, Dy.told, e1, e3, c5, reduceIte, Bool.false_eq_true, Bool.true_eq_false, Bool.true_and, Bool.false_and, Bool.and_true, Bool.and_false, Bool.true_or, Bool.false_or, Bool.or_true, Bool.or_false, Bool.not_true, Bool.not_false, Dy.cm_bind, Dy.cm_pure, Dy.mNum, Dy.mAdd, Dy.mSub, Dy.mMul, Dy.mDiv, Dy.mSqr, Dy.mSqrt, Dy.mMax] <;> simp_all
      exact ⟨⟨⟨(congrArg (fun r => some (calR r 0)) e00.symm), (congrArg (fun r => some (calR r 1)) e00.symm), trivial⟩, ⟨rfl, (congrArg (fun r => some (calR r 2)) e00.symm)⟩, trivial⟩, trivial, rfl⟩
    · intro c5
      have rr := oL5_R (e1.trans (bne0 (e3.trans c5)))
      obtain ⟨t5, t6, t7, e8⟩ : ∃ t5 t6 t7, (slopeM (a1, a2) (b1, b2) (c1, c2) (0)) = ((t5, t6), t7) := Dy.ex3 _
      refine T.hbind (us := [.i 0, .f a1, .f a2, .f b1, .f b2, .f c1, .f c2]) (xs := [.f t5, .f t6, .i t7]) (ρ' := [.f r1, .f r2, .f s1, .f s2, .f a1, .f a2, .f b1, .f b2, .f c1, .f c2, .i t0, .b t2, .f t5, .f t6, .i t7]) rfl (congrArg (fun r => [calR r 0, calR r 1, calR r 2]) e8) rfl ?_
      refine T.hneed (us := [.f a1, .f a2]) rfl (rr.2.2.1) ?_
      refine T.hneed (us := [.f b1, .f b2]) rfl (rr.2.2.2.1) ?_
      obtain ⟨t9, t10, t11, t12, t13, e14⟩ : ∃ t9 t10 t11 t12 t13, (pairM (s1, s2) (t7)) = (((t9, t10), (t11, t12)), t13) := Dy.ex5 _
      refine T.hbind (us := [.i t7, .f s1, .f s2]) (xs := [.f t9, .f t10, .f t11, .f t12, .i t13]) (ρ' := [.f r1, .f r2, .f s1, .f s2, .f a1, .f a2, .f b1, .f b2, .f c1, .f c2, .i t0, .b t2, .f t5, .f t6, .i t7, .f t9, .f t10, .f t11, .f t12, .i t13]) rfl (congrArg (fun r => [pairU r 0, pairU r 1, pairU r 2, pairU r 3, pairU r 4]) e14) rfl ?_
      obtain ⟨t15, t16, t17, e18⟩ : ∃ t15 t16 t17, (Dy.cMul t13 (t11, t12) (t5, t6)) = ((t15, t16), t17) := Dy.ex3 _
      have g18 := Dy.good_mul (a := (t11, t12)) (b := (t5, t6)) (err := t13)
      rw [e18] at g18
      refine T.hbind (us := [.i t13, .f t11, .f t12, .f t5, .f t6]) (xs := [.f t15, .f t16, .i t17]) (ρ' := [.f r1, .f r2, .f s1, .f s2, .f a1, .f a2, .f b1, .f b2, .f c1, .f c2, .i t0, .b t2, .f t5, .f t6, .i t7, .f t9, .f t10, .f t11, .f t12, .i t13, .f t15, .f t16, .i t17]) rfl (congrArg (fun r => [calR r 0, calR r 1, calR r 2]) e18) rfl ?_
      obtain ⟨t19, t20, t21, e22⟩ : ∃ t19 t20 t21, (Dy.cAdd t17 (t9, t10) (t15, t16)) = ((t19, t20), t21) := Dy.ex3 _
      have g22 := Dy.good_add (a := (t9, t10)) (b := (t15, t16)) (err := t17)
      rw [e22] at g22
      refine T.hbind (us := [.i t17, .f t9, .f t10, .f t15, .f t16]) (xs := [.f t19, .f t20, .i t21]) (ρ' := [.f r1, .f r2, .f s1, .f s2, .f a1, .f a2, .f b1, .f b2, .f c1, .f c2, .i t0, .b t2, .f t5, .f t6, .i t7, .f t9, .f t10, .f t11, .f t12, .i t13, .f t15, .f t16, .i t17, .f t19, .f t20, .i t21]) rfl (congrArg (fun r => [calR r 0, calR r 1, calR r 2]) e22) rfl ?_
      obtain ⟨t23, t24, t25, e26⟩ : ∃ t23 t24 t25, (Dy.cMul t21 (r1, r2) (t19, t20)) = ((t23, t24), t25) := Dy.ex3 _
      have g26 := Dy.good_mul (a := (r1, r2)) (b := (t19, t20)) (err := t21)
      rw [e26] at g26
      refine T.hbind (us := [.i t21, .f r1, .f r2, .f t19, .f t20]) (xs := [.f t23, .f t24, .i t25]) (ρ' := [.f r1, .f r2, .f s1, .f s2, .f a1, .f a2, .f b1, .f b2, .f c1, .f c2, .i t0, .b t2, .f t5, .f t6, .i t7, .f t9, .f t10, .f t11, .f t12, .i t13, .f t15, .f t16, .i t17, .f t19, .f t20, .i t21, .f t23, .f t24, .i t25]) rfl (congrArg (fun r => [calR r 0, calR r 1, calR r 2]) e26) rfl ?_
      obtain ⟨t27, t28, e29⟩ : ∃ t27 t28, (Dy.clip (0) (4607182418800017408) (t23, t24)) = (t27, t28) := Dy.ex2 _
      have k29 := clip_ends (a := (t23, t24)) (l := 0) (h := 4607182418800017408) ⟨g26.1.1, g26.1.2⟩ ((Dy.ivR_of g26.2).1) ((Dy.ivR_of g26.2).2.1) (show Dy.W 0 from by unfold Dy.W; decide) (show Dy.right 0 = true from by decide +kernel) (show Dy.W 4607182418800017408 from by unfold Dy.W; decide) (show Dy.right 4607182418800017408 = true from by decide +kernel)
      rw [e29] at k29
      refine T.hbind (us := [.f t23, .f t24, .f 0, .f 4607182418800017408]) (xs := [.f t27, .f t28]) (ρ' := [.f r1, .f r2, .f s1, .f s2, .f a1, .f a2, .f b1, .f b2, .f c1, .f c2, .i t0, .b t2, .f t5, .f t6, .i t7, .f t9, .f t10, .f t11, .f t12, .i t13, .f t15, .f t16, .i t17, .f t19, .f t20, .i t21, .f t23, .f t24, .i t25, .f t27, .f t28]) rfl (congrArg (fun r => [ivU r 0, ivU r 1]) e29) rfl ?_
      refine T.hneed (us := [.f t23, .f t24]) rfl (show (Dy.right t23 && Dy.right t24) = true from by rw [(Dy.ivR_of g26.2).1, (Dy.ivR_of g26.2).2.1]; rfl) ?_
      refine T.hneed (us := [.f 0, .f 4607182418800017408]) rfl (show (Dy.right 0 && Dy.right 4607182418800017408) = true from by rw [(show Dy.right 0 = true from by decide +kernel), (show Dy.right 4607182418800017408 = true from by decide +kernel)]; rfl) ?_
      obtain ⟨t30, e31⟩ : ∃ t30, (t25 != 0) = t30 := ⟨_, rfl⟩
      refine T.hbind (us := [.i t25, .i 0]) (xs := [.b t30]) (ρ' := [.f r1, .f r2, .f s1, .f s2, .f a1, .f a2, .f b1, .f b2, .f c1, .f c2, .i t0, .b t2, .f t5, .f t6, .i t7, .f t9, .f t10, .f t11, .f t12, .i t13, .f t15, .f t16, .i t17, .f t19, .f t20, .i t21, .f t23, .f t24, .i t25, .f t27, .f t28, .b t30]) rfl (congrArg (fun r => [U.b r]) e31) rfl ?_
      refine T.hite (x := t30) ?_ ?_ ?_
      · rfl
      · intro c33
        refine T.hdone ?_
        have eM : orenM (r1, r2) (s1, s2) (a1, a2) (b1, b2) (c1, c2) 0 = ((t27, t28), t25) := by
          unfold orenM
          refine (Dy.cm_s (x := slopeM (a1, a2) (b1, b2) (c1, c2)) e8).trans ?_
          refine (Dy.cm_s (x := pairM (s1, s2)) e14).trans ?_
          refine (Dy.cs_mul e18).trans ?_
          refine (Dy.cs_add e22).trans ?_
          refine (Dy.cs_mul e26).trans ?_
          first | exact congrArg (fun r => (r, t25)) e29 | (rw [Dy.cm_pure]; simp only [Dy.iHull, e1, e3, c5, e31, c33, e29])
        have e00 : (oVal (r1, r2) (s1, s2) (a1, a2) (b1, b2) (c1, c2)) = ((0, 0), t25) := by simp only [oVal, Dy.told, eM, e1, e3, c5, e31, c33, reduceIte, Bool.false_eq_true, Bool.true_eq_false, Bool.true_and, Bool.false_and, Bool.and_true, Bool.and_false, Bool.true_or, Bool.false_or, Bool.or_true, Bool.or_false, Bool.not_true, Bool.not_false] <;> simp_all
        exact ⟨⟨⟨(congrArg (fun r => some (calR r 0)) e00.symm), (congrArg (fun r => some (calR r 1)) e00.symm), trivial⟩, ⟨rfl, (congrArg (fun r => some (calR r 2)) e00.symm)⟩, trivial⟩, trivial, rfl⟩
      · intro c33
        refine T.hdone ?_
        have eM : orenM (r1, r2) (s1, s2) (a1, a2) (b1, b2) (c1, c2) 0 = ((t27, t28), t25) := by
          unfold orenM
          refine (Dy.cm_s (x := slopeM (a1, a2) (b1, b2) (c1, c2)) e8).trans ?_
          refine (Dy.cm_s (x := pairM (s1, s2)) e14).trans ?_
          refine (Dy.cs_mul e18).trans ?_
          refine (Dy.cs_add e22).trans ?_
          refine (Dy.cs_mul e26).trans ?_
          first | exact congrArg (fun r => (r, t25)) e29 | (rw [Dy.cm_pure]; simp only [Dy.iHull, e1, e3, c5, e31, c33, e29])
        have e00 : (oVal (r1, r2) (s1, s2) (a1, a2) (b1, b2) (c1, c2)) = ((t27, t28), 0) := by simp only [oVal, Dy.told, eM, e1, e3, c5, e31, c33, reduceIte, Bool.false_eq_true, Bool.true_eq_false, Bool.true_and, Bool.false_and, Bool.and_true, Bool.and_false, Bool.true_or, Bool.false_or, Bool.or_true, Bool.or_false, Bool.not_true, Bool.not_false] <;> simp_all
        exact ⟨⟨⟨(congrArg (fun r => some (calR r 0)) e00.symm), (congrArg (fun r => some (calR r 1)) e00.symm), trivial⟩, ⟨rfl, (congrArg (fun r => some (calR r 2)) e00.symm)⟩, trivial⟩, trivial, rfl⟩

def x3 : List (Nat × Ct) := (17, ctValue) :: x2
theorem x3_ok : AllOk Try.prog x3 := ⟨ctValue_ok, x2_ok⟩

def ctP08 : Ct := ⟨1, [], [vf 0], { binds := [⟨fun us _ => fB Ieee.double.add us, 1, [(.v 0), (.l (.f 0))]⟩, ⟨fun us _ => fB Ieee.double.add us, 1, [(.v 0), (.l (.f 0))]⟩], needs := [⟨fN Ieee.double.add, [(.v 0), (.l (.f 0))]⟩, ⟨fN Ieee.double.add, [(.v 0), (.l (.f 0))]⟩], val := .agg [.fl (.v 1), .fl (.v 2)], upd := [] }⟩
theorem ctP08_ok : CtOk Try.prog 14 ctP08 := CtOk.flat x3_ok (dr_ok x3_ok) Try.func14 rfl (by decide) [] 200 ⟨[.agg [.fl (.v 1), .fl (.v 2)]], [], 3, []⟩ (by kernel_rfl) rfl (by kernel_rfl) rfl (by kernel_rfl) (by kernel_rfl) (by kernel_rfl) (by kernel_rfl)

def x4 : List (Nat × Ct) := (14, ctP08) :: x3
theorem x4_ok : AllOk Try.prog x4 := ⟨ctP08_ok, x3_ok⟩

def ctAwake08 : Ct := ctTrue
theorem ctAwake08_ok : CtOk Try.prog 19 ctAwake08 := ctTrue_ok x4_ok (dr_ok x4_ok) Try.func19 rfl (by decide) 200 _ rfl (by kernel_rfl)

def x5 : List (Nat × Ct) := (19, ctAwake08) :: x4
theorem x5_ok : AllOk Try.prog x5 := ⟨ctAwake08_ok, x4_ok⟩

def ctAskV : Ct := ⟨10, [], [.agg [.fl (.v 0), .fl (.v 1), .fl (.v 2), .fl (.v 3), .fl (.v 4), .fl (.v 5), .fl (.v 6), .fl (.v 7), .fl (.v 8), .fl (.v 9)]], { binds := [⟨fun us i => calR ((oVal (gF us 0, gF us 1) (gF us 2, gF us 3) (gF us 4, gF us 5) (gF us 6, gF us 7) (gF us 8, gF us 9))) i, 3, [(.v 0), (.v 1), (.v 2), (.v 3), (.v 4), (.v 5), (.v 6), (.v 7), (.v 8), (.v 9)]⟩], needs := [], val := .tup [.agg [.fl (.v 10), .fl (.v 11)], .it .i64 (.v 12)], upd := [] }⟩
theorem ctAskV_ok : CtOk Try.prog 37 ctAskV := CtOk.flat x5_ok (dr_ok x5_ok) Try.func37 rfl (by decide) [] 200 ⟨[.tup [.agg [.fl (.v 10), .fl (.v 11)], .it .i64 (.v 12)]], [], 13, []⟩ (by kernel_rfl) rfl (by kernel_rfl) rfl (by kernel_rfl) (by kernel_rfl) (by kernel_rfl) (by kernel_rfl)

def x6 : List (Nat × Ct) := (37, ctAskV) :: x5
theorem x6_ok : AllOk Try.prog x6 := ⟨ctAskV_ok, x5_ok⟩

def ctAskW : Ct := ⟨10, [], [.agg [vi .u32 0, vi .u32 1, vi .u32 2, vi .u32 3, vi .u32 4, vi .u32 5, vi .u32 6, vi .u32 7, vi .u32 8, vi .u32 9]], { binds := [⟨fun us i => ivU (spanF (gF us 0) (gF us 1) (gI us 2) (gI us 3)) i, 2, [(.l (.f 0)), (.l (.f 4607182418800017408)), (.v 0), (.v 1)]⟩, ⟨fun us i => ivU (spanF (gF us 0) (gF us 1) (gI us 2) (gI us 3)) i, 2, [(.l (.f 0)), (.l (.f 4607182418800017408)), (.v 2), (.v 3)]⟩, ⟨fun us i => ivU (spanF (gF us 0) (gF us 1) (gI us 2) (gI us 3)) i, 2, [(.l (.f 0)), (.l (.f 4607182418800017408)), (.v 4), (.v 5)]⟩, ⟨fun us i => ivU (spanF (gF us 0) (gF us 1) (gI us 2) (gI us 3)) i, 2, [(.l (.f 0)), (.l (.f 4607182418800017408)), (.v 6), (.v 7)]⟩, ⟨fun us i => ivU (spanF (gF us 0) (gF us 1) (gI us 2) (gI us 3)) i, 2, [(.l (.f 13830554455654793216)), (.l (.f 4607182418800017408)), (.v 8), (.v 9)]⟩], needs := [⟨nSpan, [(.l (.f 0)), (.l (.f 4607182418800017408)), (.v 0), (.v 1)]⟩, ⟨nSpan, [(.l (.f 0)), (.l (.f 4607182418800017408)), (.v 2), (.v 3)]⟩, ⟨nSpan, [(.l (.f 0)), (.l (.f 4607182418800017408)), (.v 4), (.v 5)]⟩, ⟨nSpan, [(.l (.f 0)), (.l (.f 4607182418800017408)), (.v 6), (.v 7)]⟩, ⟨nSpan, [(.l (.f 13830554455654793216)), (.l (.f 4607182418800017408)), (.v 8), (.v 9)]⟩], val := .agg [.fl (.v 10), .fl (.v 11), .fl (.v 12), .fl (.v 13), .fl (.v 14), .fl (.v 15), .fl (.v 16), .fl (.v 17), .fl (.v 18), .fl (.v 19)], upd := [] }⟩
theorem ctAskW_ok : CtOk Try.prog 36 ctAskW := CtOk.flat x6_ok (dr_ok x6_ok) Try.func36 rfl (by decide) [] 200 ⟨[.agg [.fl (.v 10), .fl (.v 11), .fl (.v 12), .fl (.v 13), .fl (.v 14), .fl (.v 15), .fl (.v 16), .fl (.v 17), .fl (.v 18), .fl (.v 19)]], [], 20, []⟩ (by kernel_rfl) rfl (by kernel_rfl) rfl (by kernel_rfl) (by kernel_rfl) (by kernel_rfl) (by kernel_rfl)

def x7 : List (Nat × Ct) := (36, ctAskW) :: x6
theorem x7_ok : AllOk Try.prog x7 := ⟨ctAskW_ok, x6_ok⟩

end Go.Proofs.Ythmkjnhgialnlaa
