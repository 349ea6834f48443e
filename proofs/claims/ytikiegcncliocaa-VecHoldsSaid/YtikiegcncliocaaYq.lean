/- A reckoning of programs by symbols: intervals, parts of them. -/
import Derived.Test.YtikiegcncliocaaYp
namespace Go.Proofs.Ytikiegcncliocaa
open Go Go.RowKit
set_option linter.unusedSimpArgs false
set_option linter.unusedVariables false

def q0 : List (Nat × Ct) := t8
theorem q0_ok : AllOk Try.prog q0 := t8_ok
def ctMax : Ct := ⟨5, [[vi .i64 0]], [.ptr 0 0, vp 1 2, vp 3 4], { binds := [⟨fun us i => calR (Dy.cMax (gI us 0) (gF us 1, gF us 2) (gF us 3, gF us 4)) i, 3, upto 0 5⟩], needs := [⟨nIv, [.v 1, .v 2]⟩, ⟨nIv, [.v 3, .v 4]⟩], val := vp 5 6, upd := [(0, [vi .i64 7])] }⟩
set_option maxRecDepth 100000 in
set_option maxHeartbeats 4000000 in
theorem ctMax_ok : CtOk Try.prog 93 ctMax := by
  refine CtOk.of_eval2 q0_ok (dr_ok q0_ok) Try.func93 rfl (by decide) [] 200 (by kernel_rfl) rfl (.bind ⟨fun us _ => gB Dy.dmax us, 1, [(.v 1), (.v 3)]⟩ (.need ⟨rN, [(.v 1), (.v 3)]⟩ (.bind ⟨fun us _ => gB Dy.dmax us, 1, [(.v 2), (.v 4)]⟩ (.need ⟨rN, [(.v 2), (.v 4)]⟩ (.bind ⟨fun us i => calR (Dy.cAsk (gI us 0) (Dy.ivR (gF us 3, gF us 4) && Dy.ivR (gF us 5, gF us 6)) ((gF us 1, gF us 2), 0)) i, 3, [(.v 0), (.v 5), (.v 6), (.v 1), (.v 2), (.v 3), (.v 4)]⟩ (.done .ret ⟨[.agg [.fl (.v 7), .fl (.v 8)]], [some ([.it .i64 (.v 9)])], 10, [0]⟩)))))) (by kernel_rfl) (by kernel_rfl) (by kernel_rfl) (fun us hl hF hB hN => ?_)
  match us, hl with
  | [u0, u1, u2, u3, u4], _ =>
    simp [FactsB, FactsL, Facts, ctMax] at hF hB
    simp [NeedsAt, runB, evs, E.ev, upto, resl, List.range, List.range.loop, ctMax] at hN
    obtain ⟨⟨⟨a1, rfl, w1⟩, ⟨a2, rfl, w2⟩⟩, ⟨b1, rfl, w3⟩, ⟨b2, rfl, w4⟩⟩ := hF
    obtain ⟨e, rfl⟩ := hB
    simp [nIv, gF, U.F] at hN
    have r1 := Dy.ivR_of hN.1
    have r2 := Dy.ivR_of hN.2
    simp at r1 r2
    refine T.HH.h ?_
    refine T.hbind (us := [.f a1, .f b1]) (xs := [.f (Dy.dmax a1 b1)]) (ρ' := [.i e, .f a1, .f a2, .f b1, .f b2, .f (Dy.dmax a1 b1)]) rfl (rfl) rfl ?_
    refine T.hneed (us := [.f a1, .f b1]) rfl (show (Dy.right a1 && Dy.right b1) = true from by simp [r1, r2]) ?_
    refine T.hbind (us := [.f a2, .f b2]) (xs := [.f (Dy.dmax a2 b2)]) (ρ' := [.i e, .f a1, .f a2, .f b1, .f b2, .f (Dy.dmax a1 b1), .f (Dy.dmax a2 b2)]) rfl (rfl) rfl ?_
    refine T.hneed (us := [.f a2, .f b2]) rfl (show (Dy.right a2 && Dy.right b2) = true from by simp [r1, r2]) ?_
    refine T.hbind (us := [.i e, .f (Dy.dmax a1 b1), .f (Dy.dmax a2 b2), .f a1, .f a2, .f b1, .f b2]) (xs := [.f ((Dy.cAsk (e) (Dy.ivR (a1, a2) && Dy.ivR (b1, b2)) (((Dy.dmax a1 b1), (Dy.dmax a2 b2)), 0)).1.1), .f ((Dy.cAsk (e) (Dy.ivR (a1, a2) && Dy.ivR (b1, b2)) (((Dy.dmax a1 b1), (Dy.dmax a2 b2)), 0)).1.2), .i ((Dy.cAsk (e) (Dy.ivR (a1, a2) && Dy.ivR (b1, b2)) (((Dy.dmax a1 b1), (Dy.dmax a2 b2)), 0)).2)]) (ρ' := [.i e, .f a1, .f a2, .f b1, .f b2, .f (Dy.dmax a1 b1), .f (Dy.dmax a2 b2), .f ((Dy.cAsk (e) (Dy.ivR (a1, a2) && Dy.ivR (b1, b2)) (((Dy.dmax a1 b1), (Dy.dmax a2 b2)), 0)).1.1), .f ((Dy.cAsk (e) (Dy.ivR (a1, a2) && Dy.ivR (b1, b2)) (((Dy.dmax a1 b1), (Dy.dmax a2 b2)), 0)).1.2), .i ((Dy.cAsk (e) (Dy.ivR (a1, a2) && Dy.ivR (b1, b2)) (((Dy.dmax a1 b1), (Dy.dmax a2 b2)), 0)).2)]) rfl (rfl) rfl ?_
    refine T.hdone ?_
    have e0 : Dy.cMax (e) (a1, a2) (b1, b2) = Dy.cAsk e (Dy.ivR (a1, a2) && Dy.ivR (b1, b2)) ((Dy.dmax a1 b1, Dy.dmax a2 b2), 0) := rfl
    exact ⟨⟨(congrArg (fun r => some (calR r 0)) e0.symm), (congrArg (fun r => some (calR r 1)) e0.symm), trivial⟩, ⟨⟨⟨rfl, (congrArg (fun r => some (calR r 2)) e0.symm)⟩, trivial⟩, trivial⟩, rfl⟩

def q1 : List (Nat × Ct) := (93, ctMax) :: q0
theorem q1_ok : AllOk Try.prog q1 := ⟨ctMax_ok, q0_ok⟩

def ctMeet : Ct := ⟨4, [], [vp 0 1, vp 2 3], { binds := [⟨fun us i => meetU (iMeet (gF us 0, gF us 1) (gF us 2, gF us 3)) i, 3, upto 0 4⟩], needs := [⟨nIv, [.v 0, .v 1]⟩, ⟨nIv, [.v 2, .v 3]⟩], val := .tup [vp 4 5, vb 6], upd := [] }⟩
set_option maxRecDepth 100000 in
set_option maxHeartbeats 4000000 in
theorem ctMeet_ok : CtOk Try.prog 16 ctMeet := by
  refine CtOk.of_eval2 q1_ok (dr_ok q1_ok) Try.func16 rfl (by decide) [] 200 (by kernel_rfl) rfl (.bind ⟨fun us _ => gB Dy.dmax us, 1, [(.v 0), (.v 2)]⟩ (.need ⟨rN, [(.v 0), (.v 2)]⟩ (.bind ⟨fun us _ => gB Dy.dmin us, 1, [(.v 1), (.v 3)]⟩ (.need ⟨rN, [(.v 1), (.v 3)]⟩ (.bind ⟨fun us _ => cB Dy.fgt us, 1, [(.v 4), (.v 5)]⟩ (.ite (.v 6) (.done .ret ⟨[.tup [.agg [.fl (.l (.f 0)), .fl (.l (.f 0))], .bo (.l (.b false))]], [], 7, []⟩) (.done .ret ⟨[.tup [.agg [.fl (.v 4), .fl (.v 5)], .bo (.l (.b true))]], [], 7, []⟩))))))) (by kernel_rfl) (by kernel_rfl) (by kernel_rfl) (fun us hl hF hB hN => ?_)
  match us, hl with
  | [u0, u1, u2, u3], _ =>
    simp [FactsB, FactsL, Facts, ctMeet] at hF hB
    simp [NeedsAt, runB, evs, E.ev, upto, resl, List.range, List.range.loop, ctMeet] at hN
    obtain ⟨⟨⟨a1, rfl, w1⟩, ⟨a2, rfl, w2⟩⟩, ⟨b1, rfl, w3⟩, ⟨b2, rfl, w4⟩⟩ := hF
    simp [nIv, gF, U.F] at hN
    have r1 := Dy.ivR_of hN.1
    have r2 := Dy.ivR_of hN.2
    simp at r1 r2
    refine T.HH.h ?_
    refine T.hbind (us := [.f a1, .f b1]) (xs := [.f (Dy.dmax a1 b1)]) (ρ' := [.f a1, .f a2, .f b1, .f b2, .f (Dy.dmax a1 b1)]) rfl (rfl) rfl ?_
    refine T.hneed (us := [.f a1, .f b1]) rfl (show (Dy.right a1 && Dy.right b1) = true from by simp [r1, r2]) ?_
    refine T.hbind (us := [.f a2, .f b2]) (xs := [.f (Dy.dmin a2 b2)]) (ρ' := [.f a1, .f a2, .f b1, .f b2, .f (Dy.dmax a1 b1), .f (Dy.dmin a2 b2)]) rfl (rfl) rfl ?_
    refine T.hneed (us := [.f a2, .f b2]) rfl (show (Dy.right a2 && Dy.right b2) = true from by simp [r1, r2]) ?_
    refine T.hbind (us := [.f (Dy.dmax a1 b1), .f (Dy.dmin a2 b2)]) (xs := [.b (Dy.fgt (Dy.dmax a1 b1) (Dy.dmin a2 b2))]) (ρ' := [.f a1, .f a2, .f b1, .f b2, .f (Dy.dmax a1 b1), .f (Dy.dmin a2 b2), .b (Dy.fgt (Dy.dmax a1 b1) (Dy.dmin a2 b2))]) rfl (rfl) rfl ?_
    refine T.hite (x := (Dy.fgt (Dy.dmax a1 b1) (Dy.dmin a2 b2))) rfl (fun c1 => ?_) (fun c1 => ?_)
    · skip
      refine T.hdone ?_
      have e0 : iMeet (a1, a2) (b1, b2) = ((0, 0), false) := by unfold iMeet; rw [if_pos c1]
      exact ⟨⟨⟨(congrArg (fun r => some (meetU r 0)) e0.symm), (congrArg (fun r => some (meetU r 1)) e0.symm), trivial⟩, (congrArg (fun r => some (meetU r 2)) e0.symm), trivial⟩, trivial, rfl⟩
    · skip
      refine T.hdone ?_
      have e0 : iMeet (a1, a2) (b1, b2) = ((Dy.dmax a1 b1, Dy.dmin a2 b2), true) := by unfold iMeet; rw [if_neg (by rw [c1]; decide)]
      exact ⟨⟨⟨(congrArg (fun r => some (meetU r 0)) e0.symm), (congrArg (fun r => some (meetU r 1)) e0.symm), trivial⟩, (congrArg (fun r => some (meetU r 2)) e0.symm), trivial⟩, trivial, rfl⟩

def q2 : List (Nat × Ct) := (16, ctMeet) :: q1
theorem q2_ok : AllOk Try.prog q2 := ⟨ctMeet_ok, q1_ok⟩

def ctPoint : Ct := ⟨1, [], [vf 0], { binds := [⟨fun us _ => fB Ieee.double.add us, 1, [(.v 0), (.l (.f 0))]⟩, ⟨fun us _ => fB Ieee.double.add us, 1, [(.v 0), (.l (.f 0))]⟩], needs := [⟨fN Ieee.double.add, [(.v 0), (.l (.f 0))]⟩, ⟨fN Ieee.double.add, [(.v 0), (.l (.f 0))]⟩], val := .agg [.fl (.v 1), .fl (.v 2)], upd := [] }⟩
theorem ctPoint_ok : CtOk Try.prog 75 ctPoint := CtOk.flat q2_ok (dr_ok q2_ok) Try.func75 rfl (by decide) [] 200 ⟨[.agg [.fl (.v 1), .fl (.v 2)]], [], 3, []⟩ (by kernel_rfl) rfl (by kernel_rfl) rfl (by kernel_rfl) (by kernel_rfl) (by kernel_rfl) (by kernel_rfl)

def q3 : List (Nat × Ct) := (75, ctPoint) :: q2
theorem q3_ok : AllOk Try.prog q3 := ⟨ctPoint_ok, q2_ok⟩

def ctFrac : Ct := ⟨1, [], [vi .u32 0], { binds := [⟨fun us _ => nF us, 1, [(.v 0)]⟩, ⟨fun us _ => fB Ieee.double.div us, 1, [(.v 1), (.l (.f 4751297606873776128))]⟩], needs := [⟨nN, [(.v 0)]⟩, ⟨fN Ieee.double.div, [(.v 1), (.l (.f 4751297606873776128))]⟩], val := .fl (.v 2), upd := [] }⟩
theorem ctFrac_ok : CtOk Try.prog 22 ctFrac := CtOk.flat q3_ok (dr_ok q3_ok) Try.func22 rfl (by decide) [] 200 ⟨[.fl (.v 2)], [], 3, []⟩ (by kernel_rfl) rfl (by kernel_rfl) rfl (by kernel_rfl) (by kernel_rfl) (by kernel_rfl) (by kernel_rfl)

def q4 : List (Nat × Ct) := (22, ctFrac) :: q3
theorem q4_ok : AllOk Try.prog q4 := ⟨ctFrac_ok, q3_ok⟩

def fRes (x : Nat) (_ : Nat) : U := .f x
def ctBtw : Ct := ⟨3, [], [vf 0, vf 1, vi .u32 2], { binds := [⟨fun us i => fRes (btwF (gF us 0) (gF us 1) (gI us 2)) i, 1, upto 0 3⟩], needs := [⟨nBtw, [.v 0, .v 1, .v 2]⟩], val := vf 3, upd := [] }⟩
set_option maxRecDepth 100000 in
set_option maxHeartbeats 8000000 in
theorem ctBtw_ok : CtOk Try.prog 51 ctBtw := by
  refine CtOk.of_eval2 q4_ok (dr_ok q4_ok) Try.func51 rfl (by decide) [] 200 (by kernel_rfl) rfl (.bind ⟨fun us _ => fB Ieee.double.sub us, 1, [(.v 1), (.v 0)]⟩ (.need ⟨fN Ieee.double.sub, [(.v 1), (.v 0)]⟩ (.bind ⟨fun us _ => nF us, 1, [(.v 2)]⟩ (.bind ⟨fun us _ => fB Ieee.double.div us, 1, [(.v 4), (.l (.f 4751297606873776128))]⟩ (.need ⟨nN, [(.v 2)]⟩ (.need ⟨fN Ieee.double.div, [(.v 4), (.l (.f 4751297606873776128))]⟩ (.bind ⟨fun us _ => fB Ieee.double.mul us, 1, [(.v 3), (.v 5)]⟩ (.need ⟨fN Ieee.double.mul, [(.v 3), (.v 5)]⟩ (.bind ⟨fun us _ => fB Ieee.double.add us, 1, [(.v 0), (.v 6)]⟩ (.need ⟨fN Ieee.double.add, [(.v 0), (.v 6)]⟩ (.bind ⟨fun us _ => cB Dy.flt us, 1, [(.v 7), (.v 0)]⟩ (.ite (.v 8) (.done .ret ⟨[.fl (.v 0)], [], 9, []⟩) (.bind ⟨fun us _ => cB Dy.fgt us, 1, [(.v 7), (.v 1)]⟩ (.ite (.v 9) (.done .ret ⟨[.fl (.v 1)], [], 10, []⟩) (.done .ret ⟨[.fl (.v 7)], [], 10, []⟩))))))))))))))) (by kernel_rfl) (by kernel_rfl) (by kernel_rfl) (fun us hl hF hB hN => ?_)
  match us, hl with
  | [u0, u1, u2], _ =>
    simp [FactsB, FactsL, Facts, ctBtw] at hF hB
    simp [NeedsAt, runB, evs, E.ev, upto, resl, List.range, List.range.loop, ctBtw] at hN
    obtain ⟨⟨a1, rfl, w1⟩, ⟨a2, rfl, w2⟩, ⟨u, rfl⟩⟩ := hF
    simp [nBtw, btwN, fracN, gF, gI, U.F, U.I] at hN
    obtain ⟨⟨⟨⟨n1, n2⟩, n3⟩, n4⟩, n5⟩ := hN
    refine T.HH.h ?_
    obtain ⟨t0, e1⟩ : ∃ t0, ((Ieee.double.sub a2 a1).getD 0) = t0 := ⟨_, rfl⟩
    refine T.hbind (us := [.f a2, .f a1]) (xs := [.f t0]) (ρ' := [.f a1, .f a2, .i u, .f t0]) rfl (congrArg (fun r => [U.f r]) e1) rfl ?_
    refine T.hneed (us := [.f a2, .f a1]) rfl (by subst e1; exact n3) ?_
    obtain ⟨t2, e3⟩ : ∃ t2, (FloatKind.f64.nearest u) = t2 := ⟨_, rfl⟩
    refine T.hbind (us := [.i u]) (xs := [.f t2]) (ρ' := [.f a1, .f a2, .i u, .f t0, .f t2]) rfl (congrArg (fun r => [U.f r]) e3) rfl ?_
    obtain ⟨t4, e5⟩ : ∃ t4, ((Ieee.double.div t2 4751297606873776128).getD 0) = t4 := ⟨_, rfl⟩
    refine T.hbind (us := [.f t2, .f 4751297606873776128]) (xs := [.f t4]) (ρ' := [.f a1, .f a2, .i u, .f t0, .f t2, .f t4]) rfl (congrArg (fun r => [U.f r]) e5) rfl ?_
    refine T.hneed (us := [.i u]) rfl (decide_eq_true n1) ?_
    refine T.hneed (us := [.f t2, .f 4751297606873776128]) rfl (by subst e1; subst e3; subst e5; exact n2) ?_
    obtain ⟨t6, e7⟩ : ∃ t6, ((Ieee.double.mul t0 t4).getD 0) = t6 := ⟨_, rfl⟩
    refine T.hbind (us := [.f t0, .f t4]) (xs := [.f t6]) (ρ' := [.f a1, .f a2, .i u, .f t0, .f t2, .f t4, .f t6]) rfl (congrArg (fun r => [U.f r]) e7) rfl ?_
    refine T.hneed (us := [.f t0, .f t4]) rfl (by subst e1; subst e3; subst e5; subst e7; exact n4) ?_
    obtain ⟨t8, e9⟩ : ∃ t8, ((Ieee.double.add a1 t6).getD 0) = t8 := ⟨_, rfl⟩
    refine T.hbind (us := [.f a1, .f t6]) (xs := [.f t8]) (ρ' := [.f a1, .f a2, .i u, .f t0, .f t2, .f t4, .f t6, .f t8]) rfl (congrArg (fun r => [U.f r]) e9) rfl ?_
    refine T.hneed (us := [.f a1, .f t6]) rfl (by subst e1; subst e3; subst e5; subst e7; subst e9; exact n5) ?_
    obtain ⟨t10, e11⟩ : ∃ t10, (Dy.flt t8 a1) = t10 := ⟨_, rfl⟩
    refine T.hbind (us := [.f t8, .f a1]) (xs := [.b t10]) (ρ' := [.f a1, .f a2, .i u, .f t0, .f t2, .f t4, .f t6, .f t8, .b t10]) rfl (congrArg (fun r => [U.b r]) e11) rfl ?_
    refine T.hite (x := t10) ?_ ?_ ?_
    · rfl
    · intro c13
      refine T.hdone ?_
      have e00 : btwF (a1) (a2) (u) = a1 := by simp only [btwF, btwT, fracF, e1, e3, e5, e7, e9, e11, c13, reduceIte, Bool.false_eq_true, Bool.true_eq_false, Bool.true_and, Bool.false_and, Bool.and_true, Bool.and_false, Bool.true_or, Bool.false_or, Bool.or_true, Bool.or_false, Bool.not_true, Bool.not_false, Dy.cm_bind, Dy.cm_pure, Dy.mNum, Dy.mAdd, Dy.mSub, Dy.mMul, Dy.mDiv, Dy.mSqr, Dy.mSqrt, Dy.mMax] <;> simp_all
      exact ⟨(congrArg (fun r => some (fRes r 0)) e00.symm), trivial, rfl⟩
    · intro c13
      obtain ⟨t13, e14⟩ : ∃ t13, (Dy.fgt t8 a2) = t13 := ⟨_, rfl⟩
      refine T.hbind (us := [.f t8, .f a2]) (xs := [.b t13]) (ρ' := [.f a1, .f a2, .i u, .f t0, .f t2, .f t4, .f t6, .f t8, .b t10, .b t13]) rfl (congrArg (fun r => [U.b r]) e14) rfl ?_
      refine T.hite (x := t13) ?_ ?_ ?_
      · rfl
      · intro c16
        refine T.hdone ?_
        have e00 : btwF (a1) (a2) (u) = a2 := by simp only [btwF, btwT, fracF, e1, e3, e5, e7, e9, e11, c13, e14, c16, reduceIte, Bool.false_eq_true, Bool.true_eq_false, Bool.true_and, Bool.false_and, Bool.and_true, Bool.and_false, Bool.true_or, Bool.false_or, Bool.or_true, Bool.or_false, Bool.not_true, Bool.not_false, Dy.cm_bind, Dy.cm_pure, Dy.mNum, Dy.mAdd, Dy.mSub, Dy.mMul, Dy.mDiv, Dy.mSqr, Dy.mSqrt, Dy.mMax] <;> simp_all
        exact ⟨(congrArg (fun r => some (fRes r 0)) e00.symm), trivial, rfl⟩
      · intro c16
        refine T.hdone ?_
        have e00 : btwF (a1) (a2) (u) = t8 := by simp only [btwF, btwT, fracF, e1, e3, e5, e7, e9, e11, c13, e14, c16, reduceIte, Bool.false_eq_true, Bool.true_eq_false, Bool.true_and, Bool.false_and, Bool.and_true, Bool.and_false, Bool.true_or, Bool.false_or, Bool.or_true, Bool.or_false, Bool.not_true, Bool.not_false, Dy.cm_bind, Dy.cm_pure, Dy.mNum, Dy.mAdd, Dy.mSub, Dy.mMul, Dy.mDiv, Dy.mSqr, Dy.mSqrt, Dy.mMax] <;> simp_all
        exact ⟨(congrArg (fun r => some (fRes r 0)) e00.symm), trivial, rfl⟩

def q5 : List (Nat × Ct) := (51, ctBtw) :: q4
theorem q5_ok : AllOk Try.prog q5 := ⟨ctBtw_ok, q4_ok⟩

/-- Is one within another one? -/
def inW (a b : Nat × Nat) : Bool := (Dy.flt b.1 a.1 || Dy.feq b.1 a.1) && (Dy.flt a.2 b.2 || Dy.feq a.2 b.2)
def bRes (x : Bool) (_ : Nat) : U := .b x

/-- Have two intervals a number in common? -/
def meetsB (a b : Nat × Nat) : Bool := (Dy.flt a.1 b.2 || Dy.feq a.1 b.2) && (Dy.flt b.1 a.2 || Dy.feq b.1 a.2)
def ctMeets : Ct := ⟨4, [], [vp 0 1, vp 2 3], { binds := [⟨fun us i => bRes (meetsB (gF us 0, gF us 1) (gF us 2, gF us 3)) i, 1, upto 0 4⟩], needs := [], val := vb 4, upd := [] }⟩
set_option maxRecDepth 100000 in
set_option maxHeartbeats 8000000 in
theorem ctMeets_ok : CtOk Try.prog 63 ctMeets := by
  refine CtOk.of_eval2 q5_ok (dr_ok q5_ok) Try.func63 rfl (by decide) [] 200 (by kernel_rfl) rfl (.bind ⟨fun us _ => cB (fun a b => Dy.flt a b || Dy.feq a b) us, 1, [(.v 0), (.v 3)]⟩ (.ite (.v 4) (.bind ⟨fun us _ => cB (fun a b => Dy.flt a b || Dy.feq a b) us, 1, [(.v 2), (.v 1)]⟩ (.done .ret ⟨[.bo (.v 5)], [], 6, []⟩)) (.done .ret ⟨[.bo (.l (.b false))], [], 5, []⟩))) (by kernel_rfl) (by kernel_rfl) (by kernel_rfl) (fun us hl hF hB hN => ?_)
  match us, hl with
  | [u0, u1, u2, u3], _ =>
    simp [FactsB, FactsL, Facts, ctMeets] at hF hB
    simp [NeedsAt, runB, evs, E.ev, upto, resl, List.range, List.range.loop, ctMeets] at hN
    obtain ⟨⟨⟨a1, rfl, w1⟩, ⟨a2, rfl, w2⟩⟩, ⟨b1, rfl, w3⟩, ⟨b2, rfl, w4⟩⟩ := hF
    refine T.HH.h ?_
    obtain ⟨t0, e1⟩ : ∃ t0, (Dy.flt a1 b2 || Dy.feq a1 b2) = t0 := ⟨_, rfl⟩
    refine T.hbind (us := [.f a1, .f b2]) (xs := [.b t0]) (ρ' := [.f a1, .f a2, .f b1, .f b2, .b t0]) rfl (congrArg (fun r => [U.b r]) e1) rfl ?_
    refine T.hite (x := t0) ?_ ?_ ?_
    · rfl
    · intro c3
      obtain ⟨t3, e4⟩ : ∃ t3, (Dy.flt b1 a2 || Dy.feq b1 a2) = t3 := ⟨_, rfl⟩
      refine T.hbind (us := [.f b1, .f a2]) (xs := [.b t3]) (ρ' := [.f a1, .f a2, .f b1, .f b2, .b t0, .b t3]) rfl (congrArg (fun r => [U.b r]) e4) rfl ?_
      refine T.hdone ?_
      have e00 : meetsB (a1, a2) (b1, b2) = t3 := by simp only [meetsB, e1, c3, e4, reduceIte, Bool.false_eq_true, Bool.true_eq_false, Bool.true_and, Bool.false_and, Bool.and_true, Bool.and_false, Bool.true_or, Bool.false_or, Bool.or_true, Bool.or_false, Bool.not_true, Bool.not_false, Dy.cm_bind, Dy.cm_pure, Dy.mNum, Dy.mAdd, Dy.mSub, Dy.mMul, Dy.mDiv, Dy.mSqr, Dy.mSqrt, Dy.mMax] <;> simp_all
      exact ⟨(congrArg (fun r => some (bRes r 0)) e00.symm), trivial, rfl⟩
    · intro c3
      refine T.hdone ?_
      have e00 : meetsB (a1, a2) (b1, b2) = false := by simp only [meetsB, e1, c3, reduceIte, Bool.false_eq_true, Bool.true_eq_false, Bool.true_and, Bool.false_and, Bool.and_true, Bool.and_false, Bool.true_or, Bool.false_or, Bool.or_true, Bool.or_false, Bool.not_true, Bool.not_false, Dy.cm_bind, Dy.cm_pure, Dy.mNum, Dy.mAdd, Dy.mSub, Dy.mMul, Dy.mDiv, Dy.mSqr, Dy.mSqrt, Dy.mMax] <;> simp_all
      exact ⟨(congrArg (fun r => some (bRes r 0)) e00.symm), trivial, rfl⟩

def q6 : List (Nat × Ct) := (63, ctMeets) :: q5
theorem q6_ok : AllOk Try.prog q6 := ⟨ctMeets_ok, q5_ok⟩

def q8 : List (Nat × Ct) := q6
theorem q8_ok : AllOk Try.prog q8 := q6_ok
end Go.Proofs.Ytikiegcncliocaa
