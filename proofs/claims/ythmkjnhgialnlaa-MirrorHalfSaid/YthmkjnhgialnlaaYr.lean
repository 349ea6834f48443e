/- A reckoning of programs by symbols: what is reflected, helpers. -/
import Derived.Test.YthmkjnhgialnlaaYq
namespace Go.Proofs.Ythmkjnhgialnlaa
open Go Go.RowKit
set_option linter.unusedSimpArgs false
set_option linter.unusedVariables false

def f0 : List (Nat × Ct) := q8
theorem f0_ok : AllOk Try.prog f0 := q8_ok
def ctRight2 : Ct := ⟨4, [[vf 0, vf 1, vf 2, vf 3]], [.slc 0 0 2 2], { binds := [⟨fun us i => bRes ((Dy.ivR (gF us 0, gF us 1) && Dy.ivR (gF us 2, gF us 3))) i, 1, upto 0 4⟩], needs := [], val := vb 4, upd := [] }⟩
set_option maxRecDepth 100000 in
set_option maxHeartbeats 8000000 in
theorem ctRight2_ok : CtOk Try.prog 76 ctRight2 := by
  refine CtOk.of_eval2 f0_ok (dr_ok f0_ok) Try.func76 rfl (by decide) [] 200 (by kernel_rfl) rfl (.bind ⟨fIv1 Dy.ivR, 1, [(.v 0), (.v 1)]⟩ (.bind ⟨fun us _ => nB us, 1, [(.v 4)]⟩ (.ite (.v 5) (.done .ret ⟨[.bo (.l (.b false))], [some ([.fl (.v 0), .fl (.v 1), .fl (.v 2), .fl (.v 3)])], 6, []⟩) (.bind ⟨fIv1 Dy.ivR, 1, [(.v 2), (.v 3)]⟩ (.bind ⟨fun us _ => nB us, 1, [(.v 6)]⟩ (.ite (.v 7) (.done .ret ⟨[.bo (.l (.b false))], [some ([.fl (.v 0), .fl (.v 1), .fl (.v 2), .fl (.v 3)])], 8, []⟩) (.done .ret ⟨[.bo (.l (.b true))], [some ([.fl (.v 0), .fl (.v 1), .fl (.v 2), .fl (.v 3)])], 8, []⟩))))))) (by kernel_rfl) (by kernel_rfl) (by kernel_rfl) (fun us hl hF hB hN => ?_)
  match us, hl with
  | [u0, u1, u2, u3], _ =>
    simp [FactsB, FactsL, Facts, ctRight2] at hF hB
    simp [NeedsAt, runB, evs, E.ev, upto, resl, List.range, List.range.loop, ctRight2] at hN
    obtain ⟨⟨a1, rfl, wa1⟩, ⟨a2, rfl, wa2⟩, ⟨b1, rfl, wb1⟩, ⟨b2, rfl, wb2⟩⟩ := hB
    refine T.HH.h ?_
    obtain ⟨t0, e1⟩ : ∃ t0, (Dy.ivR (a1, a2)) = t0 := ⟨_, rfl⟩
    refine T.hbind (us := [.f a1, .f a2]) (xs := [.b t0]) (ρ' := [.f a1, .f a2, .f b1, .f b2, .b t0]) rfl (congrArg (fun r => [U.b r]) e1) rfl ?_
    obtain ⟨t2, e3⟩ : ∃ t2, (!t0) = t2 := ⟨_, rfl⟩
    refine T.hbind (us := [.b t0]) (xs := [.b t2]) (ρ' := [.f a1, .f a2, .f b1, .f b2, .b t0, .b t2]) rfl (congrArg (fun r => [U.b r]) e3) rfl ?_
    refine T.hite (x := t2) ?_ ?_ ?_
    · rfl
    · intro c5
      refine T.hdone ?_
      have e00 : (Dy.ivR (a1, a2) && Dy.ivR (b1, b2)) = false := by simp only [e1, e3, c5, reduceIte, Bool.false_eq_true, Bool.true_eq_false, Bool.true_and, Bool.false_and, Bool.and_true, Bool.and_false, Bool.true_or, Bool.false_or, Bool.or_true, Bool.or_false, Bool.not_true, Bool.not_false, Dy.cm_bind, Dy.cm_pure, Dy.mNum, Dy.mAdd, Dy.mSub, Dy.mMul, Dy.mDiv, Dy.mSqr, Dy.mSqrt, Dy.mMax] <;> simp_all
      exact ⟨(congrArg (fun r => some (bRes r 0)) e00.symm), trivial, rfl⟩
    · intro c5
      obtain ⟨t5, e6⟩ : ∃ t5, (Dy.ivR (b1, b2)) = t5 := ⟨_, rfl⟩
      refine T.hbind (us := [.f b1, .f b2]) (xs := [.b t5]) (ρ' := [.f a1, .f a2, .f b1, .f b2, .b t0, .b t2, .b t5]) rfl (congrArg (fun r => [U.b r]) e6) rfl ?_
      obtain ⟨t7, e8⟩ : ∃ t7, (!t5) = t7 := ⟨_, rfl⟩
      refine T.hbind (us := [.b t5]) (xs := [.b t7]) (ρ' := [.f a1, .f a2, .f b1, .f b2, .b t0, .b t2, .b t5, .b t7]) rfl (congrArg (fun r => [U.b r]) e8) rfl ?_
      refine T.hite (x := t7) ?_ ?_ ?_
      · rfl
      · intro c10
        refine T.hdone ?_
        have e00 : (Dy.ivR (a1, a2) && Dy.ivR (b1, b2)) = false := by simp only [e1, e3, c5, e6, e8, c10, reduceIte, Bool.false_eq_true, Bool.true_eq_false, Bool.true_and, Bool.false_and, Bool.and_true, Bool.and_false, Bool.true_or, Bool.false_or, Bool.or_true, Bool.or_false, Bool.not_true, Bool.not_false, Dy.cm_bind, Dy.cm_pure, Dy.mNum, Dy.mAdd, Dy.mSub, Dy.mMul, Dy.mDiv, Dy.mSqr, Dy.mSqrt, Dy.mMax] <;> simp_all
        exact ⟨(congrArg (fun r => some (bRes r 0)) e00.symm), trivial, rfl⟩
      · intro c10
        refine T.hdone ?_
        have e00 : (Dy.ivR (a1, a2) && Dy.ivR (b1, b2)) = true := by simp only [e1, e3, c5, e6, e8, c10, reduceIte, Bool.false_eq_true, Bool.true_eq_false, Bool.true_and, Bool.false_and, Bool.and_true, Bool.and_false, Bool.true_or, Bool.false_or, Bool.or_true, Bool.or_false, Bool.not_true, Bool.not_false, Dy.cm_bind, Dy.cm_pure, Dy.mNum, Dy.mAdd, Dy.mSub, Dy.mMul, Dy.mDiv, Dy.mSqr, Dy.mSqrt, Dy.mMax] <;> simp_all
        exact ⟨(congrArg (fun r => some (bRes r 0)) e00.symm), trivial, rfl⟩

def f1 : List (Nat × Ct) := (76, ctRight2) :: f0
theorem f1_ok : AllOk Try.prog f1 := ⟨ctRight2_ok, f0_ok⟩

def ctRight3 : Ct := ⟨6, [[vf 0, vf 1, vf 2, vf 3, vf 4, vf 5]], [.slc 0 0 3 3], { binds := [⟨fun us i => bRes ((Dy.ivR (gF us 0, gF us 1) && (Dy.ivR (gF us 2, gF us 3) && Dy.ivR (gF us 4, gF us 5)))) i, 1, upto 0 6⟩], needs := [], val := vb 6, upd := [] }⟩
set_option maxRecDepth 100000 in
set_option maxHeartbeats 8000000 in
theorem ctRight3_ok : CtOk Try.prog 76 ctRight3 := by
  refine CtOk.of_eval2 f1_ok (dr_ok f1_ok) Try.func76 rfl (by decide) [] 200 (by kernel_rfl) rfl (.bind ⟨fIv1 Dy.ivR, 1, [(.v 0), (.v 1)]⟩ (.bind ⟨fun us _ => nB us, 1, [(.v 6)]⟩ (.ite (.v 7) (.done .ret ⟨[.bo (.l (.b false))], [some ([.fl (.v 0), .fl (.v 1), .fl (.v 2), .fl (.v 3), .fl (.v 4), .fl (.v 5)])], 8, []⟩) (.bind ⟨fIv1 Dy.ivR, 1, [(.v 2), (.v 3)]⟩ (.bind ⟨fun us _ => nB us, 1, [(.v 8)]⟩ (.ite (.v 9) (.done .ret ⟨[.bo (.l (.b false))], [some ([.fl (.v 0), .fl (.v 1), .fl (.v 2), .fl (.v 3), .fl (.v 4), .fl (.v 5)])], 10, []⟩) (.bind ⟨fIv1 Dy.ivR, 1, [(.v 4), (.v 5)]⟩ (.bind ⟨fun us _ => nB us, 1, [(.v 10)]⟩ (.ite (.v 11) (.done .ret ⟨[.bo (.l (.b false))], [some ([.fl (.v 0), .fl (.v 1), .fl (.v 2), .fl (.v 3), .fl (.v 4), .fl (.v 5)])], 12, []⟩) (.done .ret ⟨[.bo (.l (.b true))], [some ([.fl (.v 0), .fl (.v 1), .fl (.v 2), .fl (.v 3), .fl (.v 4), .fl (.v 5)])], 12, []⟩)))))))))) (by kernel_rfl) (by kernel_rfl) (by kernel_rfl) (fun us hl hF hB hN => ?_)
  match us, hl with
  | [u0, u1, u2, u3, u4, u5], _ =>
    simp [FactsB, FactsL, Facts, ctRight3] at hF hB
    simp [NeedsAt, runB, evs, E.ev, upto, resl, List.range, List.range.loop, ctRight3] at hN
    obtain ⟨⟨a1, rfl, wa1⟩, ⟨a2, rfl, wa2⟩, ⟨b1, rfl, wb1⟩, ⟨b2, rfl, wb2⟩, ⟨c1x, rfl, wc1x⟩, ⟨c2x, rfl, wc2x⟩⟩ := hB
    refine T.HH.h ?_
    obtain ⟨t0, e1⟩ : ∃ t0, (Dy.ivR (a1, a2)) = t0 := ⟨_, rfl⟩
    refine T.hbind (us := [.f a1, .f a2]) (xs := [.b t0]) (ρ' := [.f a1, .f a2, .f b1, .f b2, .f c1x, .f c2x, .b t0]) rfl (congrArg (fun r => [U.b r]) e1) rfl ?_
    obtain ⟨t2, e3⟩ : ∃ t2, (!t0) = t2 := ⟨_, rfl⟩
    refine T.hbind (us := [.b t0]) (xs := [.b t2]) (ρ' := [.f a1, .f a2, .f b1, .f b2, .f c1x, .f c2x, .b t0, .b t2]) rfl (congrArg (fun r => [U.b r]) e3) rfl ?_
    refine T.hite (x := t2) ?_ ?_ ?_
    · rfl
    · intro c5
      refine T.hdone ?_
      have e00 : (Dy.ivR (a1, a2) && (Dy.ivR (b1, b2) && Dy.ivR (c1x, c2x))) = false := by simp only [e1, e3, c5, reduceIte, Bool.false_eq_true, Bool.true_eq_false, Bool.true_and, Bool.false_and, Bool.and_true, Bool.and_false, Bool.true_or, Bool.false_or, Bool.or_true, Bool.or_false, Bool.not_true, Bool.not_false, Dy.cm_bind, Dy.cm_pure, Dy.mNum, Dy.mAdd, Dy.mSub, Dy.mMul, Dy.mDiv, Dy.mSqr, Dy.mSqrt, Dy.mMax] <;> simp_all
      exact ⟨(congrArg (fun r => some (bRes r 0)) e00.symm), trivial, rfl⟩
    · intro c5
      obtain ⟨t5, e6⟩ : ∃ t5, (Dy.ivR (b1, b2)) = t5 := ⟨_, rfl⟩
      refine T.hbind (us := [.f b1, .f b2]) (xs := [.b t5]) (ρ' := [.f a1, .f a2, .f b1, .f b2, .f c1x, .f c2x, .b t0, .b t2, .b t5]) rfl (congrArg (fun r => [U.b r]) e6) rfl ?_
      obtain ⟨t7, e8⟩ : ∃ t7, (!t5) = t7 := ⟨_, rfl⟩
      refine T.hbind (us := [.b t5]) (xs := [.b t7]) (ρ' := [.f a1, .f a2, .f b1, .f b2, .f c1x, .f c2x, .b t0, .b t2, .b t5, .b t7]) rfl (congrArg (fun r => [U.b r]) e8) rfl ?_
      refine T.hite (x := t7) ?_ ?_ ?_
      · rfl
      · intro c10
        refine T.hdone ?_
        have e00 : (Dy.ivR (a1, a2) && (Dy.ivR (b1, b2) && Dy.ivR (c1x, c2x))) = false := by simp only [e1, e3, c5, e6, e8, c10, reduceIte, Bool.false_eq_true, Bool.true_eq_false, Bool.true_and, Bool.false_and, Bool.and_true, Bool.and_false, Bool.true_or, Bool.false_or, Bool.or_true, Bool.or_false, Bool.not_true, Bool.not_false, Dy.cm_bind, Dy.cm_pure, Dy.mNum, Dy.mAdd, Dy.mSub, Dy.mMul, Dy.mDiv, Dy.mSqr, Dy.mSqrt, Dy.mMax] <;> simp_all
        exact ⟨(congrArg (fun r => some (bRes r 0)) e00.symm), trivial, rfl⟩
      · intro c10
        obtain ⟨t10, e11⟩ : ∃ t10, (Dy.ivR (c1x, c2x)) = t10 := ⟨_, rfl⟩
        refine T.hbind (us := [.f c1x, .f c2x]) (xs := [.b t10]) (ρ' := [.f a1, .f a2, .f b1, .f b2, .f c1x, .f c2x, .b t0, .b t2, .b t5, .b t7, .b t10]) rfl (congrArg (fun r => [U.b r]) e11) rfl ?_
        obtain ⟨t12, e13⟩ : ∃ t12, (!t10) = t12 := ⟨_, rfl⟩
        refine T.hbind (us := [.b t10]) (xs := [.b t12]) (ρ' := [.f a1, .f a2, .f b1, .f b2, .f c1x, .f c2x, .b t0, .b t2, .b t5, .b t7, .b t10, .b t12]) rfl (congrArg (fun r => [U.b r]) e13) rfl ?_
        refine T.hite (x := t12) ?_ ?_ ?_
        · rfl
        · intro c15
          refine T.hdone ?_
          have e00 : (Dy.ivR (a1, a2) && (Dy.ivR (b1, b2) && Dy.ivR (c1x, c2x))) = false := by simp only [e1, e3, c5, e6, e8, c10, e11, e13, c15, reduceIte, Bool.false_eq_true, Bool.true_eq_false, Bool.true_and, Bool.false_and, Bool.and_true, Bool.and_false, Bool.true_or, Bool.false_or, Bool.or_true, Bool.or_false, Bool.not_true, Bool.not_false, Dy.cm_bind, Dy.cm_pure, Dy.mNum, Dy.mAdd, Dy.mSub, Dy.mMul, Dy.mDiv, Dy.mSqr, Dy.mSqrt, Dy.mMax] <;> simp_all
          exact ⟨(congrArg (fun r => some (bRes r 0)) e00.symm), trivial, rfl⟩
        · intro c15
          refine T.hdone ?_
          have e00 : (Dy.ivR (a1, a2) && (Dy.ivR (b1, b2) && Dy.ivR (c1x, c2x))) = true := by simp only [e1, e3, c5, e6, e8, c10, e11, e13, c15, reduceIte, Bool.false_eq_true, Bool.true_eq_false, Bool.true_and, Bool.false_and, Bool.and_true, Bool.and_false, Bool.true_or, Bool.false_or, Bool.or_true, Bool.or_false, Bool.not_true, Bool.not_false, Dy.cm_bind, Dy.cm_pure, Dy.mNum, Dy.mAdd, Dy.mSub, Dy.mMul, Dy.mDiv, Dy.mSqr, Dy.mSqrt, Dy.mMax] <;> simp_all
          exact ⟨(congrArg (fun r => some (bRes r 0)) e00.symm), trivial, rfl⟩

def f2 : List (Nat × Ct) := (76, ctRight3) :: f1
theorem f2_ok : AllOk Try.prog f2 := ⟨ctRight3_ok, f1_ok⟩

/-- Is an interval within two numbers? -/
def wiB (lo hi : Nat) (a : Nat × Nat) : Bool := !(Dy.flt a.1 lo || Dy.fgt a.2 hi)
def ctWith1 : Ct := ⟨4, [[vf 2, vf 3]], [vf 0, vf 1, .slc 0 0 1 1], { binds := [⟨fun us i => bRes (wiB (gF us 0) (gF us 1) (gF us 2, gF us 3)) i, 1, upto 0 4⟩], needs := [], val := vb 4, upd := [] }⟩
set_option maxRecDepth 100000 in
set_option maxHeartbeats 8000000 in
theorem ctWith1_ok : CtOk Try.prog 77 ctWith1 := by
  refine CtOk.of_eval2 f2_ok (dr_ok f2_ok) Try.func77 rfl (by decide) [] 200 (by kernel_rfl) rfl (.bind ⟨fun us _ => cB Dy.flt us, 1, [(.v 2), (.v 0)]⟩ (.ite (.v 4) (.done .ret ⟨[.bo (.l (.b false))], [some ([.fl (.v 2), .fl (.v 3)])], 5, []⟩) (.bind ⟨fun us _ => cB Dy.fgt us, 1, [(.v 3), (.v 1)]⟩ (.ite (.v 5) (.done .ret ⟨[.bo (.l (.b false))], [some ([.fl (.v 2), .fl (.v 3)])], 6, []⟩) (.done .ret ⟨[.bo (.l (.b true))], [some ([.fl (.v 2), .fl (.v 3)])], 6, []⟩))))) (by kernel_rfl) (by kernel_rfl) (by kernel_rfl) (fun us hl hF hB hN => ?_)
  match us, hl with
  | [u0, u1, u2, u3], _ =>
    simp [FactsB, FactsL, Facts, ctWith1] at hF hB
    simp [NeedsAt, runB, evs, E.ev, upto, resl, List.range, List.range.loop, ctWith1] at hN
    obtain ⟨⟨l, rfl, wl⟩, ⟨h, rfl, wh⟩⟩ := hF
    obtain ⟨⟨a1, rfl, wa1⟩, ⟨a2, rfl, wa2⟩⟩ := hB
    refine T.HH.h ?_
    obtain ⟨t0, e1⟩ : ∃ t0, (Dy.flt a1 l) = t0 := ⟨_, rfl⟩
    refine T.hbind (us := [.f a1, .f l]) (xs := [.b t0]) (ρ' := [.f l, .f h, .f a1, .f a2, .b t0]) rfl (congrArg (fun r => [U.b r]) e1) rfl ?_
    refine T.hite (x := t0) ?_ ?_ ?_
    · rfl
    · intro c3
      refine T.hdone ?_
      have e00 : wiB (l) (h) (a1, a2) = false := by simp only [wiB, e1, c3, reduceIte, Bool.false_eq_true, Bool.true_eq_false, Bool.true_and, Bool.false_and, Bool.and_true, Bool.and_false, Bool.true_or, Bool.false_or, Bool.or_true, Bool.or_false, Bool.not_true, Bool.not_false, Dy.cm_bind, Dy.cm_pure, Dy.mNum, Dy.mAdd, Dy.mSub, Dy.mMul, Dy.mDiv, Dy.mSqr, Dy.mSqrt, Dy.mMax] <;> simp_all
      exact ⟨(congrArg (fun r => some (bRes r 0)) e00.symm), trivial, rfl⟩
    · intro c3
      obtain ⟨t3, e4⟩ : ∃ t3, (Dy.fgt a2 h) = t3 := ⟨_, rfl⟩
      refine T.hbind (us := [.f a2, .f h]) (xs := [.b t3]) (ρ' := [.f l, .f h, .f a1, .f a2, .b t0, .b t3]) rfl (congrArg (fun r => [U.b r]) e4) rfl ?_
      refine T.hite (x := t3) ?_ ?_ ?_
      · rfl
      · intro c6
        refine T.hdone ?_
        have e00 : wiB (l) (h) (a1, a2) = false := by simp only [wiB, e1, c3, e4, c6, reduceIte, Bool.false_eq_true, Bool.true_eq_false, Bool.true_and, Bool.false_and, Bool.and_true, Bool.and_false, Bool.true_or, Bool.false_or, Bool.or_true, Bool.or_false, Bool.not_true, Bool.not_false, Dy.cm_bind, Dy.cm_pure, Dy.mNum, Dy.mAdd, Dy.mSub, Dy.mMul, Dy.mDiv, Dy.mSqr, Dy.mSqrt, Dy.mMax] <;> simp_all
        exact ⟨(congrArg (fun r => some (bRes r 0)) e00.symm), trivial, rfl⟩
      · intro c6
        refine T.hdone ?_
        have e00 : wiB (l) (h) (a1, a2) = true := by simp only [wiB, e1, c3, e4, c6, reduceIte, Bool.false_eq_true, Bool.true_eq_false, Bool.true_and, Bool.false_and, Bool.and_true, Bool.and_false, Bool.true_or, Bool.false_or, Bool.or_true, Bool.or_false, Bool.not_true, Bool.not_false, Dy.cm_bind, Dy.cm_pure, Dy.mNum, Dy.mAdd, Dy.mSub, Dy.mMul, Dy.mDiv, Dy.mSqr, Dy.mSqrt, Dy.mMax] <;> simp_all
        exact ⟨(congrArg (fun r => some (bRes r 0)) e00.symm), trivial, rfl⟩

def f3 : List (Nat × Ct) := (77, ctWith1) :: f2
theorem f3_ok : AllOk Try.prog f3 := ⟨ctWith1_ok, f2_ok⟩

def ctWith2 : Ct := ⟨6, [[vf 2, vf 3, vf 4, vf 5]], [vf 0, vf 1, .slc 0 0 2 2], { binds := [⟨fun us i => bRes ((wiB (gF us 0) (gF us 1) (gF us 2, gF us 3) && wiB (gF us 0) (gF us 1) (gF us 4, gF us 5))) i, 1, upto 0 6⟩], needs := [], val := vb 6, upd := [] }⟩
set_option maxRecDepth 100000 in
set_option maxHeartbeats 8000000 in
theorem ctWith2_ok : CtOk Try.prog 77 ctWith2 := by
  refine CtOk.of_eval2 f3_ok (dr_ok f3_ok) Try.func77 rfl (by decide) [] 200 (by kernel_rfl) rfl (.bind ⟨fun us _ => cB Dy.flt us, 1, [(.v 2), (.v 0)]⟩ (.ite (.v 6) (.done .ret ⟨[.bo (.l (.b false))], [some ([.fl (.v 2), .fl (.v 3), .fl (.v 4), .fl (.v 5)])], 7, []⟩) (.bind ⟨fun us _ => cB Dy.fgt us, 1, [(.v 3), (.v 1)]⟩ (.ite (.v 7) (.done .ret ⟨[.bo (.l (.b false))], [some ([.fl (.v 2), .fl (.v 3), .fl (.v 4), .fl (.v 5)])], 8, []⟩) (.bind ⟨fun us _ => cB Dy.flt us, 1, [(.v 4), (.v 0)]⟩ (.ite (.v 8) (.done .ret ⟨[.bo (.l (.b false))], [some ([.fl (.v 2), .fl (.v 3), .fl (.v 4), .fl (.v 5)])], 9, []⟩) (.bind ⟨fun us _ => cB Dy.fgt us, 1, [(.v 5), (.v 1)]⟩ (.ite (.v 9) (.done .ret ⟨[.bo (.l (.b false))], [some ([.fl (.v 2), .fl (.v 3), .fl (.v 4), .fl (.v 5)])], 10, []⟩) (.done .ret ⟨[.bo (.l (.b true))], [some ([.fl (.v 2), .fl (.v 3), .fl (.v 4), .fl (.v 5)])], 10, []⟩))))))))) (by kernel_rfl) (by kernel_rfl) (by kernel_rfl) (fun us hl hF hB hN => ?_)
  match us, hl with
  | [u0, u1, u2, u3, u4, u5], _ =>
    simp [FactsB, FactsL, Facts, ctWith2] at hF hB
    simp [NeedsAt, runB, evs, E.ev, upto, resl, List.range, List.range.loop, ctWith2] at hN
    obtain ⟨⟨l, rfl, wl⟩, ⟨h, rfl, wh⟩⟩ := hF
    obtain ⟨⟨a1, rfl, wa1⟩, ⟨a2, rfl, wa2⟩, ⟨b1, rfl, wb1⟩, ⟨b2, rfl, wb2⟩⟩ := hB
    refine T.HH.h ?_
    obtain ⟨t0, e1⟩ : ∃ t0, (Dy.flt a1 l) = t0 := ⟨_, rfl⟩
    refine T.hbind (us := [.f a1, .f l]) (xs := [.b t0]) (ρ' := [.f l, .f h, .f a1, .f a2, .f b1, .f b2, .b t0]) rfl (congrArg (fun r => [U.b r]) e1) rfl ?_
    refine T.hite (x := t0) ?_ ?_ ?_
    · rfl
    · intro c3
      refine T.hdone ?_
      have e00 : (wiB (l) (h) (a1, a2) && wiB (l) (h) (b1, b2)) = false := by simp only [wiB, e1, c3, reduceIte, Bool.false_eq_true, Bool.true_eq_false, Bool.true_and, Bool.false_and, Bool.and_true, Bool.and_false, Bool.true_or, Bool.false_or, Bool.or_true, Bool.or_false, Bool.not_true, Bool.not_false, Dy.cm_bind, Dy.cm_pure, Dy.mNum, Dy.mAdd, Dy.mSub, Dy.mMul, Dy.mDiv, Dy.mSqr, Dy.mSqrt, Dy.mMax] <;> simp_all
      exact ⟨(congrArg (fun r => some (bRes r 0)) e00.symm), trivial, rfl⟩
    · intro c3
      obtain ⟨t3, e4⟩ : ∃ t3, (Dy.fgt a2 h) = t3 := ⟨_, rfl⟩
      refine T.hbind (us := [.f a2, .f h]) (xs := [.b t3]) (ρ' := [.f l, .f h, .f a1, .f a2, .f b1, .f b2, .b t0, .b t3]) rfl (congrArg (fun r => [U.b r]) e4) rfl ?_
      refine T.hite (x := t3) ?_ ?_ ?_
      · rfl
      · intro c6
        refine T.hdone ?_
        have e00 : (wiB (l) (h) (a1, a2) && wiB (l) (h) (b1, b2)) = false := by simp only [wiB, e1, c3, e4, c6, reduceIte, Bool.false_eq_true, Bool.true_eq_false, Bool.true_and, Bool.false_and, Bool.and_true, Bool.and_false, Bool.true_or, Bool.false_or, Bool.or_true, Bool.or_false, Bool.not_true, Bool.not_false, Dy.cm_bind, Dy.cm_pure, Dy.mNum, Dy.mAdd, Dy.mSub, Dy.mMul, Dy.mDiv, Dy.mSqr, Dy.mSqrt, Dy.mMax] <;> simp_all
        exact ⟨(congrArg (fun r => some (bRes r 0)) e00.symm), trivial, rfl⟩
      · intro c6
        obtain ⟨t6, e7⟩ : ∃ t6, (Dy.flt b1 l) = t6 := ⟨_, rfl⟩
        refine T.hbind (us := [.f b1, .f l]) (xs := [.b t6]) (ρ' := [.f l, .f h, .f a1, .f a2, .f b1, .f b2, .b t0, .b t3, .b t6]) rfl (congrArg (fun r => [U.b r]) e7) rfl ?_
        refine T.hite (x := t6) ?_ ?_ ?_
        · rfl
        · intro c9
          refine T.hdone ?_
          have e00 : (wiB (l) (h) (a1, a2) && wiB (l) (h) (b1, b2)) = false := by simp only [wiB, e1, c3, e4, c6, e7, c9, reduceIte, Bool.false_eq_true, Bool.true_eq_false, Bool.true_and, Bool.false_and, Bool.and_true, Bool.and_false, Bool.true_or, Bool.false_or, Bool.or_true, Bool.or_false, Bool.not_true, Bool.not_false, Dy.cm_bind, Dy.cm_pure, Dy.mNum, Dy.mAdd, Dy.mSub, Dy.mMul, Dy.mDiv, Dy.mSqr, Dy.mSqrt, Dy.mMax] <;> simp_all
          exact ⟨(congrArg (fun r => some (bRes r 0)) e00.symm), trivial, rfl⟩
        · intro c9
          obtain ⟨t9, e10⟩ : ∃ t9, (Dy.fgt b2 h) = t9 := ⟨_, rfl⟩
          refine T.hbind (us := [.f b2, .f h]) (xs := [.b t9]) (ρ' := [.f l, .f h, .f a1, .f a2, .f b1, .f b2, .b t0, .b t3, .b t6, .b t9]) rfl (congrArg (fun r => [U.b r]) e10) rfl ?_
          refine T.hite (x := t9) ?_ ?_ ?_
          · rfl
          · intro c12
            refine T.hdone ?_
            have e00 : (wiB (l) (h) (a1, a2) && wiB (l) (h) (b1, b2)) = false := by simp only [wiB, e1, c3, e4, c6, e7, c9, e10, c12, reduceIte, Bool.false_eq_true, Bool.true_eq_false, Bool.true_and, Bool.false_and, Bool.and_true, Bool.and_false, Bool.true_or, Bool.false_or, Bool.or_true, Bool.or_false, Bool.not_true, Bool.not_false, Dy.cm_bind, Dy.cm_pure, Dy.mNum, Dy.mAdd, Dy.mSub, Dy.mMul, Dy.mDiv, Dy.mSqr, Dy.mSqrt, Dy.mMax] <;> simp_all
            exact ⟨(congrArg (fun r => some (bRes r 0)) e00.symm), trivial, rfl⟩
          · intro c12
            refine T.hdone ?_
            have e00 : (wiB (l) (h) (a1, a2) && wiB (l) (h) (b1, b2)) = true := by simp only [wiB, e1, c3, e4, c6, e7, c9, e10, c12, reduceIte, Bool.false_eq_true, Bool.true_eq_false, Bool.true_and, Bool.false_and, Bool.and_true, Bool.and_false, Bool.true_or, Bool.false_or, Bool.or_true, Bool.or_false, Bool.not_true, Bool.not_false, Dy.cm_bind, Dy.cm_pure, Dy.mNum, Dy.mAdd, Dy.mSub, Dy.mMul, Dy.mDiv, Dy.mSqr, Dy.mSqrt, Dy.mMax] <;> simp_all
            exact ⟨(congrArg (fun r => some (bRes r 0)) e00.symm), trivial, rfl⟩

def f4 : List (Nat × Ct) := (77, ctWith2) :: f3
theorem f4_ok : AllOk Try.prog f4 := ⟨ctWith2_ok, f3_ok⟩

def ctKept : Ct := ⟨2, [], [vp 0 1], { binds := [⟨fun us i => ivU (Dy.clip 0 4607182418800017408 (gF us 0, gF us 1)) i, 2, upto 0 2⟩], needs := [⟨nIv, [.v 0, .v 1]⟩], val := vp 2 3, upd := [] }⟩
set_option maxRecDepth 100000 in
set_option maxHeartbeats 8000000 in
theorem ctKept_ok : CtOk Try.prog 79 ctKept := by
  refine CtOk.of_eval2 f4_ok (dr_ok f4_ok) Try.func79 rfl (by decide) [] 200 (by kernel_rfl) rfl (.bind ⟨fun us _ => gB Dy.dmax us, 1, [(.v 0), (.l (.f 0))]⟩ (.need ⟨rN, [(.v 0), (.l (.f 0))]⟩ (.bind ⟨fun us _ => gB Dy.dmin us, 1, [(.v 2), (.l (.f 4607182418800017408))]⟩ (.need ⟨rN, [(.v 2), (.l (.f 4607182418800017408))]⟩ (.bind ⟨fun us _ => gB Dy.dmax us, 1, [(.v 1), (.l (.f 0))]⟩ (.need ⟨rN, [(.v 1), (.l (.f 0))]⟩ (.bind ⟨fun us _ => gB Dy.dmin us, 1, [(.v 4), (.l (.f 4607182418800017408))]⟩ (.need ⟨rN, [(.v 4), (.l (.f 4607182418800017408))]⟩ (.done .ret ⟨[.agg [.fl (.v 3), .fl (.v 5)]], [], 6, []⟩))))))))) (by kernel_rfl) (by kernel_rfl) (by kernel_rfl) (fun us hl hF hB hN => ?_)
  match us, hl with
  | [u0, u1], _ =>
    simp [FactsB, FactsL, Facts, ctKept] at hF hB
    simp [NeedsAt, runB, evs, E.ev, upto, resl, List.range, List.range.loop, ctKept] at hN
    obtain ⟨⟨a1, rfl, wa1⟩, ⟨a2, rfl, wa2⟩⟩ := hF
    simp [nIv, gF, U.F] at hN
    have r1 := Dy.ivR_of hN
    simp at r1
    refine T.HH.h ?_
    obtain ⟨t0, e1⟩ : ∃ t0, (Dy.dmax a1 0) = t0 := ⟨_, rfl⟩
    have W1 : Dy.W t0 := by rw [← e1]; exact Dy.dmax_W wa1 (show Dy.W 0 from by unfold Dy.W; decide)
    have R1 : Dy.right t0 = true := by rw [← e1]; exact Dy.dmax_right r1.1 (show Dy.right 0 = true from by decide +kernel)
    refine T.hbind (us := [.f a1, .f 0]) (xs := [.f t0]) (ρ' := [.f a1, .f a2, .f t0]) rfl (congrArg (fun r => [U.f r]) e1) rfl ?_
    refine T.hneed (us := [.f a1, .f 0]) rfl (show (Dy.right a1 && Dy.right 0) = true from by rw [r1.1, (show Dy.right 0 = true from by decide +kernel)]; rfl) ?_
    obtain ⟨t2, e3⟩ : ∃ t2, (Dy.dmin t0 4607182418800017408) = t2 := ⟨_, rfl⟩
    have W3 : Dy.W t2 := by rw [← e3]; exact Dy.dmin_W W1 (show Dy.W 4607182418800017408 from by unfold Dy.W; decide)
    have R3 : Dy.right t2 = true := by rw [← e3]; exact Dy.dmin_right R1 (show Dy.right 4607182418800017408 = true from by decide +kernel)
    refine T.hbind (us := [.f t0, .f 4607182418800017408]) (xs := [.f t2]) (ρ' := [.f a1, .f a2, .f t0, .f t2]) rfl (congrArg (fun r => [U.f r]) e3) rfl ?_
    refine T.hneed (us := [.f t0, .f 4607182418800017408]) rfl (show (Dy.right t0 && Dy.right 4607182418800017408) = true from by rw [R1, (show Dy.right 4607182418800017408 = true from by decide +kernel)]; rfl) ?_
    obtain ⟨t4, e5⟩ : ∃ t4, (Dy.dmax a2 0) = t4 := ⟨_, rfl⟩
    have W5 : Dy.W t4 := by rw [← e5]; exact Dy.dmax_W wa2 (show Dy.W 0 from by unfold Dy.W; decide)
    have R5 : Dy.right t4 = true := by rw [← e5]; exact Dy.dmax_right r1.2.1 (show Dy.right 0 = true from by decide +kernel)
    refine T.hbind (us := [.f a2, .f 0]) (xs := [.f t4]) (ρ' := [.f a1, .f a2, .f t0, .f t2, .f t4]) rfl (congrArg (fun r => [U.f r]) e5) rfl ?_
    refine T.hneed (us := [.f a2, .f 0]) rfl (show (Dy.right a2 && Dy.right 0) = true from by rw [r1.2.1, (show Dy.right 0 = true from by decide +kernel)]; rfl) ?_
    obtain ⟨t6, e7⟩ : ∃ t6, (Dy.dmin t4 4607182418800017408) = t6 := ⟨_, rfl⟩
    have W7 : Dy.W t6 := by rw [← e7]; exact Dy.dmin_W W5 (show Dy.W 4607182418800017408 from by unfold Dy.W; decide)
    have R7 : Dy.right t6 = true := by rw [← e7]; exact Dy.dmin_right R5 (show Dy.right 4607182418800017408 = true from by decide +kernel)
    refine T.hbind (us := [.f t4, .f 4607182418800017408]) (xs := [.f t6]) (ρ' := [.f a1, .f a2, .f t0, .f t2, .f t4, .f t6]) rfl (congrArg (fun r => [U.f r]) e7) rfl ?_
    refine T.hneed (us := [.f t4, .f 4607182418800017408]) rfl (show (Dy.right t4 && Dy.right 4607182418800017408) = true from by rw [R5, (show Dy.right 4607182418800017408 = true from by decide +kernel)]; rfl) ?_
    refine T.hdone ?_
    have e00 : Dy.clip 0 4607182418800017408 (a1, a2) = (t2, t6) := by simp only [Dy.clip, e1, e3, e5, e7, reduceIte, Bool.false_eq_true, Bool.true_eq_false, Bool.true_and, Bool.false_and, Bool.and_true, Bool.and_false, Bool.true_or, Bool.false_or, Bool.or_true, Bool.or_false, Bool.not_true, Bool.not_false, Dy.cm_bind, Dy.cm_pure, Dy.mNum, Dy.mAdd, Dy.mSub, Dy.mMul, Dy.mDiv, Dy.mSqr, Dy.mSqrt, Dy.mMax] <;> simp_all
    exact ⟨⟨(congrArg (fun r => some (ivU r 0)) e00.symm), (congrArg (fun r => some (ivU r 1)) e00.symm), trivial⟩, trivial, rfl⟩

def f5 : List (Nat × Ct) := (79, ctKept) :: f4
theorem f5_ok : AllOk Try.prog f5 := ⟨ctKept_ok, f4_ok⟩

def ctTold : Ct := ⟨3, [[vi .i64 0]], [.ptr 0 0, vp 1 2], { binds := [⟨fun us i => calR (Dy.told ((gF us 1, gF us 2), gI us 0)) i, 3, upto 0 3⟩], needs := [], val := .tup [vp 3 4, vi .i64 5], upd := [] }⟩
set_option maxRecDepth 100000 in
set_option maxHeartbeats 8000000 in
theorem ctTold_ok : CtOk Try.prog 78 ctTold := by
  refine CtOk.of_eval2 f5_ok (dr_ok f5_ok) Try.func78 rfl (by decide) [] 200 (by kernel_rfl) rfl (.bind ⟨fun us _ => jB (fun a b => a != b) us, 1, [(.v 0), (.l (.i 0))]⟩ (.ite (.v 3) (.done .ret ⟨[.tup [.agg [.fl (.l (.f 0)), .fl (.l (.f 0))], .it .i64 (.v 0)]], [some ([.it .i64 (.v 0)])], 4, []⟩) (.done .ret ⟨[.tup [.agg [.fl (.v 1), .fl (.v 2)], .it .i64 (.l (.i 0))]], [some ([.it .i64 (.v 0)])], 4, []⟩))) (by kernel_rfl) (by kernel_rfl) (by kernel_rfl) (fun us hl hF hB hN => ?_)
  match us, hl with
  | [u0, u1, u2], _ =>
    simp [FactsB, FactsL, Facts, ctTold] at hF hB
    simp [NeedsAt, runB, evs, E.ev, upto, resl, List.range, List.range.loop, ctTold] at hN
    obtain ⟨⟨a1, rfl, wa1⟩, ⟨a2, rfl, wa2⟩⟩ := hF
    obtain ⟨e, rfl⟩ := hB
    refine T.HH.h ?_
    obtain ⟨t0, e1⟩ : ∃ t0, (e != 0) = t0 := ⟨_, rfl⟩
    refine T.hbind (us := [.i e, .i 0]) (xs := [.b t0]) (ρ' := [.i e, .f a1, .f a2, .b t0]) rfl (congrArg (fun r => [U.b r]) e1) rfl ?_
    refine T.hite (x := t0) ?_ ?_ ?_
    · rfl
    · intro c3
      refine T.hdone ?_
      have e00 : Dy.told ((a1, a2), e) = ((0, 0), e) := by simp only [Dy.told, e1, c3, reduceIte, Bool.false_eq_true, Bool.true_eq_false, Bool.true_and, Bool.false_and, Bool.and_true, Bool.and_false, Bool.true_or, Bool.false_or, Bool.or_true, Bool.or_false, Bool.not_true, Bool.not_false, Dy.cm_bind, Dy.cm_pure, Dy.mNum, Dy.mAdd, Dy.mSub, Dy.mMul, Dy.mDiv, Dy.mSqr, Dy.mSqrt, Dy.mMax] <;> simp_all
      exact ⟨⟨⟨(congrArg (fun r => some (calR r 0)) e00.symm), (congrArg (fun r => some (calR r 1)) e00.symm), trivial⟩, ⟨rfl, (congrArg (fun r => some (calR r 2)) e00.symm)⟩, trivial⟩, trivial, rfl⟩
    · intro c3
      refine T.hdone ?_
      have e00 : Dy.told ((a1, a2), e) = ((a1, a2), 0) := by simp only [Dy.told, e1, c3, reduceIte, Bool.false_eq_true, Bool.true_eq_false, Bool.true_and, Bool.false_and, Bool.and_true, Bool.and_false, Bool.true_or, Bool.false_or, Bool.or_true, Bool.or_false, Bool.not_true, Bool.not_false, Dy.cm_bind, Dy.cm_pure, Dy.mNum, Dy.mAdd, Dy.mSub, Dy.mMul, Dy.mDiv, Dy.mSqr, Dy.mSqrt, Dy.mMax] <;> simp_all
      exact ⟨⟨⟨(congrArg (fun r => some (calR r 0)) e00.symm), (congrArg (fun r => some (calR r 1)) e00.symm), trivial⟩, ⟨rfl, (congrArg (fun r => some (calR r 2)) e00.symm)⟩, trivial⟩, trivial, rfl⟩

def f6 : List (Nat × Ct) := (78, ctTold) :: f5
theorem f6_ok : AllOk Try.prog f6 := ⟨ctTold_ok, f5_ok⟩

end Go.Proofs.Ythmkjnhgialnlaa
