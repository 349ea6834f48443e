/- A reckoning of programs by symbols: directions, the examples of a mirror. -/
import Derived.Test.YthmkjnhgialnlaaVd
namespace Go.Proofs.Ythmkjnhgialnlaa
open Go Go.RowKit
set_option linter.unusedSimpArgs false
set_option linter.unusedVariables false

/-- An interval, wider by so much, kept within two numbers. -/
def widLo (a by' : Nat) (least : Nat) : Nat := if Dy.flt ((Ieee.double.sub a by').getD 0) least = true then least else (Ieee.double.sub a by').getD 0
def widHi (a by' : Nat) : Nat := if Dy.fgt ((Ieee.double.add a by').getD 0) 4607182418800017408 = true then 4607182418800017408 else (Ieee.double.add a by').getD 0
def widenF (a : Nat × Nat) (by' least : Nat) : Nat × Nat := ((Ieee.double.add (widLo a.1 by' least) 0).getD 0, (Ieee.double.add (widHi a.2 by') 0).getD 0)
theorem one_add0 : (Ieee.double.add 4607182418800017408 0).getD 0 = 4607182418800017408 := by decide +kernel
def nWid (us : List U) : Bool := okF (Ieee.double.sub (gF us 0) (gF us 2)) && okF (Ieee.double.add (gF us 1) (gF us 2)) && okF (Ieee.double.add (widLo (gF us 0) (gF us 2) (gF us 3)) 0) && okF (Ieee.double.add (widHi (gF us 1) (gF us 2)) 0)
def xe0 : List (Nat × Ct) := w3
theorem xe0_ok : AllOk Try.prog xe0 := w3_ok
def ctDir : Ct := ⟨3, [], [vi .u32 0, vi .u32 1, vi .u32 2], { binds := [⟨fun us i => fRes (btwF (gF us 0) (gF us 1) (gI us 2)) i, 1, [(.l (.f 13830554455654793216)), (.l (.f 4607182418800017408)), (.v 0)]⟩, ⟨fun us i => fRes (btwF (gF us 0) (gF us 1) (gI us 2)) i, 1, [(.l (.f 13830554455654793216)), (.l (.f 4607182418800017408)), (.v 1)]⟩, ⟨fun us i => fRes (btwF (gF us 0) (gF us 1) (gI us 2)) i, 1, [(.l (.f 4580160821035794432)), (.l (.f 4607182418800017408)), (.v 2)]⟩], needs := [⟨nBtw, [(.l (.f 13830554455654793216)), (.l (.f 4607182418800017408)), (.v 0)]⟩, ⟨nBtw, [(.l (.f 13830554455654793216)), (.l (.f 4607182418800017408)), (.v 1)]⟩, ⟨nBtw, [(.l (.f 4580160821035794432)), (.l (.f 4607182418800017408)), (.v 2)]⟩], val := .agg [.fl (.v 3), .fl (.v 4), .fl (.v 5)], upd := [] }⟩
theorem ctDir_ok : CtOk Try.prog 95 ctDir := CtOk.flat xe0_ok (dr_ok xe0_ok) Try.func95 rfl (by decide) [] 200 ⟨[.agg [.fl (.v 3), .fl (.v 4), .fl (.v 5)]], [], 6, []⟩ (by kernel_rfl) rfl (by kernel_rfl) rfl (by kernel_rfl) (by kernel_rfl) (by kernel_rfl) (by kernel_rfl)

def xe1 : List (Nat × Ct) := (95, ctDir) :: xe0
theorem xe1_ok : AllOk Try.prog xe1 := ⟨ctDir_ok, xe0_ok⟩

def ctWiden : Ct := ⟨4, [], [vp 0 1, vf 2, vf 3], { binds := [⟨fun us i => ivU ((widenF (gF us 0, gF us 1) (gF us 2) (gF us 3))) i, 2, upto 0 4⟩], needs := [⟨nWid, [.v 0, .v 1, .v 2, .v 3]⟩], val := vp 4 5, upd := [] }⟩
set_option maxRecDepth 100000 in
set_option maxHeartbeats 8000000 in
theorem ctWiden_ok : CtOk Try.prog 104 ctWiden := by
  refine CtOk.of_eval2 xe1_ok (dr_ok xe1_ok) Try.func104 rfl (by decide) [] 200 (by kernel_rfl) rfl (.bind ⟨fun us _ => fB Ieee.double.sub us, 1, [(.v 0), (.v 2)]⟩ (.need ⟨fN Ieee.double.sub, [(.v 0), (.v 2)]⟩ (.bind ⟨fun us _ => fB Ieee.double.add us, 1, [(.v 1), (.v 2)]⟩ (.need ⟨fN Ieee.double.add, [(.v 1), (.v 2)]⟩ (.bind ⟨fun us _ => cB Dy.flt us, 1, [(.v 4), (.v 3)]⟩ (.ite (.v 6) (.bind ⟨fun us _ => cB Dy.fgt us, 1, [(.v 5), (.l (.f 4607182418800017408))]⟩ (.ite (.v 7) (.bind ⟨fun us _ => fB Ieee.double.add us, 1, [(.v 3), (.l (.f 0))]⟩ (.need ⟨fN Ieee.double.add, [(.v 3), (.l (.f 0))]⟩ (.need ⟨fN Ieee.double.add, [(.l (.f 4607182418800017408)), (.l (.f 0))]⟩ (.done .ret ⟨[.agg [.fl (.v 8), .fl (.l (.f 4607182418800017408))]], [], 9, []⟩)))) (.bind ⟨fun us _ => fB Ieee.double.add us, 1, [(.v 3), (.l (.f 0))]⟩ (.need ⟨fN Ieee.double.add, [(.v 3), (.l (.f 0))]⟩ (.bind ⟨fun us _ => fB Ieee.double.add us, 1, [(.v 5), (.l (.f 0))]⟩ (.need ⟨fN Ieee.double.add, [(.v 5), (.l (.f 0))]⟩ (.done .ret ⟨[.agg [.fl (.v 8), .fl (.v 9)]], [], 10, []⟩))))))) (.bind ⟨fun us _ => cB Dy.fgt us, 1, [(.v 5), (.l (.f 4607182418800017408))]⟩ (.ite (.v 7) (.bind ⟨fun us _ => fB Ieee.double.add us, 1, [(.v 4), (.l (.f 0))]⟩ (.need ⟨fN Ieee.double.add, [(.v 4), (.l (.f 0))]⟩ (.need ⟨fN Ieee.double.add, [(.l (.f 4607182418800017408)), (.l (.f 0))]⟩ (.done .ret ⟨[.agg [.fl (.v 8), .fl (.l (.f 4607182418800017408))]], [], 9, []⟩)))) (.bind ⟨fun us _ => fB Ieee.double.add us, 1, [(.v 4), (.l (.f 0))]⟩ (.need ⟨fN Ieee.double.add, [(.v 4), (.l (.f 0))]⟩ (.bind ⟨fun us _ => fB Ieee.double.add us, 1, [(.v 5), (.l (.f 0))]⟩ (.need ⟨fN Ieee.double.add, [(.v 5), (.l (.f 0))]⟩ (.done .ret ⟨[.agg [.fl (.v 8), .fl (.v 9)]], [], 10, []⟩))))))))))))) (by kernel_rfl) (by kernel_rfl) (by kernel_rfl) (fun us hl hF hB hN => ?_)
  match us, hl with
  | [u0, u1, u2, u3], _ =>
    simp [FactsB, FactsL, Facts, ctWiden] at hF hB
    simp [NeedsAt, runB, evs, E.ev, upto, resl, List.range, List.range.loop, ctWiden] at hN
    obtain ⟨⟨⟨a1, rfl, wa1⟩, ⟨a2, rfl, wa2⟩⟩, ⟨b, rfl, wb⟩, ⟨l, rfl, wl⟩⟩ := hF
    simp only [nWid, gF, Bool.and_eq_true] at hN
    obtain ⟨⟨⟨n1, n2⟩, n3⟩, n4⟩ := hN
    replace n1 : okF (Ieee.double.sub a1 b) = true := n1
    replace n2 : okF (Ieee.double.add a2 b) = true := n2
    replace n3 : okF (Ieee.double.add (widLo a1 b l) 0) = true := n3
    replace n4 : okF (Ieee.double.add (widHi a2 b) 0) = true := n4
    refine T.HH.h ?_
    obtain ⟨t0, e1⟩ : ∃ t0, ((Ieee.double.sub a1 b).getD 0) = t0 := ⟨_, rfl⟩
    refine T.hbind (us := [.f a1, .f b]) (xs := [.f t0]) (ρ' := [.f a1, .f a2, .f b, .f l, .f t0]) rfl (congrArg (fun r => [U.f r]) e1) rfl ?_
    refine T.hneed (us := [.f a1, .f b]) rfl (n1) ?_
    obtain ⟨t2, e3⟩ : ∃ t2, ((Ieee.double.add a2 b).getD 0) = t2 := ⟨_, rfl⟩
    refine T.hbind (us := [.f a2, .f b]) (xs := [.f t2]) (ρ' := [.f a1, .f a2, .f b, .f l, .f t0, .f t2]) rfl (congrArg (fun r => [U.f r]) e3) rfl ?_
    refine T.hneed (us := [.f a2, .f b]) rfl (n2) ?_
    obtain ⟨t4, e5⟩ : ∃ t4, (Dy.flt t0 l) = t4 := ⟨_, rfl⟩
    refine T.hbind (us := [.f t0, .f l]) (xs := [.b t4]) (ρ' := [.f a1, .f a2, .f b, .f l, .f t0, .f t2, .b t4]) rfl (congrArg (fun r => [U.b r]) e5) rfl ?_
    refine T.hite (x := t4) ?_ ?_ ?_
    · rfl
    · intro c7
      obtain ⟨t7, e8⟩ : ∃ t7, (Dy.fgt t2 4607182418800017408) = t7 := ⟨_, rfl⟩
      refine T.hbind (us := [.f t2, .f 4607182418800017408]) (xs := [.b t7]) (ρ' := [.f a1, .f a2, .f b, .f l, .f t0, .f t2, .b t4, .b t7]) rfl (congrArg (fun r => [U.b r]) e8) rfl ?_
      refine T.hite (x := t7) ?_ ?_ ?_
      · rfl
      · intro c10
        obtain ⟨t10, e11⟩ : ∃ t10, ((Ieee.double.add l 0).getD 0) = t10 := ⟨_, rfl⟩
        refine T.hbind (us := [.f l, .f 0]) (xs := [.f t10]) (ρ' := [.f a1, .f a2, .f b, .f l, .f t0, .f t2, .b t4, .b t7, .f t10]) rfl (congrArg (fun r => [U.f r]) e11) rfl ?_
        refine T.hneed (us := [.f l, .f 0]) rfl (by have h1 := n3; have h2 := n4; simp only [widLo, widHi, reduceIte, Bool.false_eq_true, e1, e3, e5, c7, e8, c10, e11] at h1 h2; first | exact h1 | exact h2) ?_
        refine T.hneed (us := [.f 4607182418800017408, .f 0]) rfl (by have h1 := n3; have h2 := n4; simp only [widLo, widHi, reduceIte, Bool.false_eq_true, e1, e3, e5, c7, e8, c10, e11] at h1 h2; first | exact h1 | exact h2) ?_
        refine T.hdone ?_
        have e00 : (widenF (a1, a2) (b) (l)) = (t10, 4607182418800017408) := by simp only [widenF, widLo, widHi, one_add0, e1, e3, e5, c7, e8, c10, e11, reduceIte, Bool.false_eq_true, Bool.true_eq_false, Bool.true_and, Bool.false_and, Bool.and_true, Bool.and_false, Bool.true_or, Bool.false_or, Bool.or_true, Bool.or_false, Bool.not_true, Bool.not_false, Dy.cm_bind, Dy.cm_pure, Dy.mNum, Dy.mAdd, Dy.mSub, Dy.mMul, Dy.mDiv, Dy.mSqr, Dy.mSqrt, Dy.mMax] <;> simp_all
        exact ⟨⟨(congrArg (fun r => some (ivU r 0)) e00.symm), (congrArg (fun r => some (ivU r 1)) e00.symm), trivial⟩, trivial, rfl⟩
      · intro c10
        obtain ⟨t12, e13⟩ : ∃ t12, ((Ieee.double.add l 0).getD 0) = t12 := ⟨_, rfl⟩
        refine T.hbind (us := [.f l, .f 0]) (xs := [.f t12]) (ρ' := [.f a1, .f a2, .f b, .f l, .f t0, .f t2, .b t4, .b t7, .f t12]) rfl (congrArg (fun r => [U.f r]) e13) rfl ?_
        refine T.hneed (us := [.f l, .f 0]) rfl (by have h1 := n3; have h2 := n4; simp only [widLo, widHi, reduceIte, Bool.false_eq_true, e1, e3, e5, c7, e8, c10, e13] at h1 h2; first | exact h1 | exact h2) ?_
        obtain ⟨t14, e15⟩ : ∃ t14, ((Ieee.double.add t2 0).getD 0) = t14 := ⟨_, rfl⟩
        refine T.hbind (us := [.f t2, .f 0]) (xs := [.f t14]) (ρ' := [.f a1, .f a2, .f b, .f l, .f t0, .f t2, .b t4, .b t7, .f t12, .f t14]) rfl (congrArg (fun r => [U.f r]) e15) rfl ?_
        refine T.hneed (us := [.f t2, .f 0]) rfl (by have h1 := n3; have h2 := n4; simp only [widLo, widHi, reduceIte, Bool.false_eq_true, e1, e3, e5, c7, e8, c10, e13, e15] at h1 h2; first | exact h1 | exact h2) ?_
        refine T.hdone ?_
        have e00 : (widenF (a1, a2) (b) (l)) = (t12, t14) := by simp only [widenF, widLo, widHi, one_add0, e1, e3, e5, c7, e8, c10, e13, e15, reduceIte, Bool.false_eq_true, Bool.true_eq_false, Bool.true_and, Bool.false_and, Bool.and_true, Bool.and_false, Bool.true_or, Bool.false_or, Bool.or_true, Bool.or_false, Bool.not_true, Bool.not_false, Dy.cm_bind, Dy.cm_pure, Dy.mNum, Dy.mAdd, Dy.mSub, Dy.mMul, Dy.mDiv, Dy.mSqr, Dy.mSqrt, Dy.mMax] <;> simp_all
        exact ⟨⟨(congrArg (fun r => some (ivU r 0)) e00.symm), (congrArg (fun r => some (ivU r 1)) e00.symm), trivial⟩, trivial, rfl⟩
    · intro c7
      obtain ⟨t16, e17⟩ : ∃ t16, (Dy.fgt t2 4607182418800017408) = t16 := ⟨_, rfl⟩
      refine T.hbind (us := [.f t2, .f 4607182418800017408]) (xs := [.b t16]) (ρ' := [.f a1, .f a2, .f b, .f l, .f t0, .f t2, .b t4, .b t16]) rfl (congrArg (fun r => [U.b r]) e17) rfl ?_
      refine T.hite (x := t16) ?_ ?_ ?_
      · rfl
      · intro c19
        obtain ⟨t19, e20⟩ : ∃ t19, ((Ieee.double.add t0 0).getD 0) = t19 := ⟨_, rfl⟩
        refine T.hbind (us := [.f t0, .f 0]) (xs := [.f t19]) (ρ' := [.f a1, .f a2, .f b, .f l, .f t0, .f t2, .b t4, .b t16, .f t19]) rfl (congrArg (fun r => [U.f r]) e20) rfl ?_
        refine T.hneed (us := [.f t0, .f 0]) rfl (by have h1 := n3; have h2 := n4; simp only [widLo, widHi, reduceIte, Bool.false_eq_true, e1, e3, e5, c7, e17, c19, e20] at h1 h2; first | exact h1 | exact h2) ?_
        refine T.hneed (us := [.f 4607182418800017408, .f 0]) rfl (by have h1 := n3; have h2 := n4; simp only [widLo, widHi, reduceIte, Bool.false_eq_true, e1, e3, e5, c7, e17, c19, e20] at h1 h2; first | exact h1 | exact h2) ?_
        refine T.hdone ?_
        have e00 : (widenF (a1, a2) (b) (l)) = (t19, 4607182418800017408) := by simp only [widenF, widLo, widHi, one_add0, e1, e3, e5, c7, e17, c19, e20, reduceIte, Bool.false_eq_true, Bool.true_eq_false, Bool.true_and, Bool.false_and, Bool.and_true, Bool.and_false, Bool.true_or, Bool.false_or, Bool.or_true, Bool.or_false, Bool.not_true, Bool.not_false, Dy.cm_bind, Dy.cm_pure, Dy.mNum, Dy.mAdd, Dy.mSub, Dy.mMul, Dy.mDiv, Dy.mSqr, Dy.mSqrt, Dy.mMax] <;> simp_all
        exact ⟨⟨(congrArg (fun r => some (ivU r 0)) e00.symm), (congrArg (fun r => some (ivU r 1)) e00.symm), trivial⟩, trivial, rfl⟩
      · intro c19
        obtain ⟨t21, e22⟩ : ∃ t21, ((Ieee.double.add t0 0).getD 0) = t21 := ⟨_, rfl⟩
        refine T.hbind (us := [.f t0, .f 0]) (xs := [.f t21]) (ρ' := [.f a1, .f a2, .f b, .f l, .f t0, .f t2, .b t4, .b t16, .f t21]) rfl (congrArg (fun r => [U.f r]) e22) rfl ?_
        refine T.hneed (us := [.f t0, .f 0]) rfl (by have h1 := n3; have h2 := n4; simp only [widLo, widHi, reduceIte, Bool.false_eq_true, e1, e3, e5, c7, e17, c19, e22] at h1 h2; first | exact h1 | exact h2) ?_
        obtain ⟨t23, e24⟩ : ∃ t23, ((Ieee.double.add t2 0).getD 0) = t23 := ⟨_, rfl⟩
        refine T.hbind (us := [.f t2, .f 0]) (xs := [.f t23]) (ρ' := [.f a1, .f a2, .f b, .f l, .f t0, .f t2, .b t4, .b t16, .f t21, .f t23]) rfl (congrArg (fun r => [U.f r]) e24) rfl ?_
        refine T.hneed (us := [.f t2, .f 0]) rfl (by have h1 := n3; have h2 := n4; simp only [widLo, widHi, reduceIte, Bool.false_eq_true, e1, e3, e5, c7, e17, c19, e22, e24] at h1 h2; first | exact h1 | exact h2) ?_
        refine T.hdone ?_
        have e00 : (widenF (a1, a2) (b) (l)) = (t21, t23) := by simp only [widenF, widLo, widHi, one_add0, e1, e3, e5, c7, e17, c19, e22, e24, reduceIte, Bool.false_eq_true, Bool.true_eq_false, Bool.true_and, Bool.false_and, Bool.and_true, Bool.and_false, Bool.true_or, Bool.false_or, Bool.or_true, Bool.or_false, Bool.not_true, Bool.not_false, Dy.cm_bind, Dy.cm_pure, Dy.mNum, Dy.mAdd, Dy.mSub, Dy.mMul, Dy.mDiv, Dy.mSqr, Dy.mSqrt, Dy.mMax] <;> simp_all
        exact ⟨⟨(congrArg (fun r => some (ivU r 0)) e00.symm), (congrArg (fun r => some (ivU r 1)) e00.symm), trivial⟩, trivial, rfl⟩

def xe2 : List (Nat × Ct) := (104, ctWiden) :: xe1
theorem xe2_ok : AllOk Try.prog xe2 := ⟨ctWiden_ok, xe1_ok⟩

def ctWide : Ct := ⟨7, [], [.agg [vf 0, vf 1, vf 2, vf 3, vf 4, vf 5], vf 6], { binds := [⟨fun us i => ivU ((widenF (gF us 0, gF us 1) (gF us 2) (gF us 3))) i, 2, [(.v 0), (.v 1), (.v 6), (.l (.f 13830554455654793216))]⟩, ⟨fun us i => ivU ((widenF (gF us 0, gF us 1) (gF us 2) (gF us 3))) i, 2, [(.v 2), (.v 3), (.v 6), (.l (.f 13830554455654793216))]⟩, ⟨fun us i => ivU ((widenF (gF us 0, gF us 1) (gF us 2) (gF us 3))) i, 2, [(.v 4), (.v 5), (.v 6), (.l (.f 0))]⟩], needs := [⟨nWid, [(.v 0), (.v 1), (.v 6), (.l (.f 13830554455654793216))]⟩, ⟨nWid, [(.v 2), (.v 3), (.v 6), (.l (.f 13830554455654793216))]⟩, ⟨nWid, [(.v 4), (.v 5), (.v 6), (.l (.f 0))]⟩], val := .agg [.fl (.v 7), .fl (.v 8), .fl (.v 9), .fl (.v 10), .fl (.v 11), .fl (.v 12)], upd := [] }⟩
theorem ctWide_ok : CtOk Try.prog 50 ctWide := CtOk.flat xe2_ok (dr_ok xe2_ok) Try.func50 rfl (by decide) [] 200 ⟨[.agg [.fl (.v 7), .fl (.v 8), .fl (.v 9), .fl (.v 10), .fl (.v 11), .fl (.v 12)]], [], 13, []⟩ (by kernel_rfl) rfl (by kernel_rfl) rfl (by kernel_rfl) (by kernel_rfl) (by kernel_rfl) (by kernel_rfl)

def xe3 : List (Nat × Ct) := (50, ctWide) :: xe2
theorem xe3_ok : AllOk Try.prog xe3 := ⟨ctWide_ok, xe2_ok⟩

def ctInner : Ct := ⟨12, [], [.agg [vf 0, vf 1, vf 2, vf 3, vf 4, vf 5], .agg [vi .u32 6, vi .u32 7, vi .u32 8, vi .u32 9, vi .u32 10, vi .u32 11]], { binds := [⟨fun us i => ivU (spanF (gF us 0) (gF us 1) (gI us 2) (gI us 3)) i, 2, [(.v 0), (.v 1), (.v 6), (.v 7)]⟩, ⟨fun us i => ivU (spanF (gF us 0) (gF us 1) (gI us 2) (gI us 3)) i, 2, [(.v 2), (.v 3), (.v 8), (.v 9)]⟩, ⟨fun us i => ivU (spanF (gF us 0) (gF us 1) (gI us 2) (gI us 3)) i, 2, [(.v 4), (.v 5), (.v 10), (.v 11)]⟩], needs := [⟨nSpan, [(.v 0), (.v 1), (.v 6), (.v 7)]⟩, ⟨nSpan, [(.v 2), (.v 3), (.v 8), (.v 9)]⟩, ⟨nSpan, [(.v 4), (.v 5), (.v 10), (.v 11)]⟩], val := .agg [.fl (.v 12), .fl (.v 13), .fl (.v 14), .fl (.v 15), .fl (.v 16), .fl (.v 17)], upd := [] }⟩
theorem ctInner_ok : CtOk Try.prog 51 ctInner := CtOk.flat xe3_ok (dr_ok xe3_ok) Try.func51 rfl (by decide) [] 200 ⟨[.agg [.fl (.v 12), .fl (.v 13), .fl (.v 14), .fl (.v 15), .fl (.v 16), .fl (.v 17)]], [], 18, []⟩ (by kernel_rfl) rfl (by kernel_rfl) rfl (by kernel_rfl) (by kernel_rfl) (by kernel_rfl) (by kernel_rfl)

def xe4 : List (Nat × Ct) := (51, ctInner) :: xe3
theorem xe4_ok : AllOk Try.prog xe4 := ⟨ctInner_ok, xe3_ok⟩

def ctTwo : Ct := ⟨6, [], [.agg [vi .u32 0, vi .u32 1, vi .u32 2, vi .u32 3, vi .u32 4, vi .u32 5]], { binds := [⟨fun us i => fRes (btwF (gF us 0) (gF us 1) (gI us 2)) i, 1, [(.l (.f 13830554455654793216)), (.l (.f 4607182418800017408)), (.v 0)]⟩, ⟨fun us i => fRes (btwF (gF us 0) (gF us 1) (gI us 2)) i, 1, [(.l (.f 13830554455654793216)), (.l (.f 4607182418800017408)), (.v 1)]⟩, ⟨fun us i => fRes (btwF (gF us 0) (gF us 1) (gI us 2)) i, 1, [(.l (.f 4580160821035794432)), (.l (.f 4607182418800017408)), (.v 2)]⟩, ⟨fun us i => vecU ((unitG (gF us 0) (gF us 1) (gF us 2))) i, 7, [(.v 6), (.v 7), (.v 8)]⟩, ⟨fun us i => fRes (btwF (gF us 0) (gF us 1) (gI us 2)) i, 1, [(.l (.f 13830554455654793216)), (.l (.f 4607182418800017408)), (.v 3)]⟩, ⟨fun us i => fRes (btwF (gF us 0) (gF us 1) (gI us 2)) i, 1, [(.l (.f 13830554455654793216)), (.l (.f 4607182418800017408)), (.v 4)]⟩, ⟨fun us i => fRes (btwF (gF us 0) (gF us 1) (gI us 2)) i, 1, [(.l (.f 4580160821035794432)), (.l (.f 4607182418800017408)), (.v 5)]⟩, ⟨fun us i => vecU ((unitG (gF us 0) (gF us 1) (gF us 2))) i, 7, [(.v 16), (.v 17), (.v 18)]⟩, ⟨fun us _ => jB (fun a b => a == b) us, 1, [(.v 15), (.l (.i 0))]⟩, ⟨fun us _ => jB (fun a b => a == b) us, 1, [(.v 25), (.l (.i 0))]⟩, ⟨fun us _ => cB Dy.fgt us, 1, [(.v 13), (.l (.f 0))]⟩, ⟨fun us _ => cB Dy.fgt us, 1, [(.v 23), (.l (.f 0))]⟩], needs := [⟨nBtw, [(.l (.f 13830554455654793216)), (.l (.f 4607182418800017408)), (.v 0)]⟩, ⟨nBtw, [(.l (.f 13830554455654793216)), (.l (.f 4607182418800017408)), (.v 1)]⟩, ⟨nBtw, [(.l (.f 4580160821035794432)), (.l (.f 4607182418800017408)), (.v 2)]⟩, ⟨nR3, [(.v 6), (.v 7), (.v 8)]⟩, ⟨nBtw, [(.l (.f 13830554455654793216)), (.l (.f 4607182418800017408)), (.v 3)]⟩, ⟨nBtw, [(.l (.f 13830554455654793216)), (.l (.f 4607182418800017408)), (.v 4)]⟩, ⟨nBtw, [(.l (.f 4580160821035794432)), (.l (.f 4607182418800017408)), (.v 5)]⟩, ⟨nR3, [(.v 16), (.v 17), (.v 18)]⟩, ⟨pT, [(.v 26)]⟩, ⟨pT, [(.v 27)]⟩, ⟨pT, [(.v 28)]⟩], val := .tup [.agg [.fl (.v 9), .fl (.v 10), .fl (.v 11), .fl (.v 12), .fl (.v 13), .fl (.v 14)], .agg [.fl (.v 19), .fl (.v 20), .fl (.v 21), .fl (.v 22), .fl (.v 23), .fl (.v 24)], .bo (.v 29)], upd := [] }⟩
theorem ctTwo_ok : CtOk Try.prog 45 ctTwo := CtOk.flatP xe4_ok (dr_ok xe4_ok) Try.func45 rfl (by decide) [] 200 [true, true, true] ⟨[.tup [.agg [.fl (.v 9), .fl (.v 10), .fl (.v 11), .fl (.v 12), .fl (.v 13), .fl (.v 14)], .agg [.fl (.v 19), .fl (.v 20), .fl (.v 21), .fl (.v 22), .fl (.v 23), .fl (.v 24)], .bo (.v 29)]], [], 30, []⟩ (by kernel_rfl) rfl (by kernel_rfl) rfl (by kernel_rfl) (by kernel_rfl) (by kernel_rfl) (by kernel_rfl)

def xe5 : List (Nat × Ct) := (45, ctTwo) :: xe4
theorem xe5_ok : AllOk Try.prog xe5 := ⟨ctTwo_ok, xe4_ok⟩

def ctP14 : Ct := ⟨1, [], [vf 0], { binds := [⟨fun us _ => fB Ieee.double.add us, 1, [(.v 0), (.l (.f 0))]⟩, ⟨fun us _ => fB Ieee.double.add us, 1, [(.v 0), (.l (.f 0))]⟩], needs := [⟨fN Ieee.double.add, [(.v 0), (.l (.f 0))]⟩, ⟨fN Ieee.double.add, [(.v 0), (.l (.f 0))]⟩], val := .agg [.fl (.v 1), .fl (.v 2)], upd := [] }⟩
theorem ctP14_ok : CtOk Try.prog 101 ctP14 := CtOk.flat xe5_ok (dr_ok xe5_ok) Try.func101 rfl (by decide) [] 200 ⟨[.agg [.fl (.v 1), .fl (.v 2)]], [], 3, []⟩ (by kernel_rfl) rfl (by kernel_rfl) rfl (by kernel_rfl) (by kernel_rfl) (by kernel_rfl) (by kernel_rfl)

def xe6 : List (Nat × Ct) := (101, ctP14) :: xe5
theorem xe6_ok : AllOk Try.prog xe6 := ⟨ctP14_ok, xe5_ok⟩

def ctNear14T : T := .bind ⟨fun us _ => cB (fun a b => Dy.flt a b || Dy.feq a b) us, 1, [(.v 0), (.v 1)]⟩ (.ite (.v 3) (.bind ⟨fun us _ => fB Ieee.double.sub us, 1, [(.v 2), (.l (.f 4427038433705197568))]⟩ (.need ⟨fN Ieee.double.sub, [(.v 2), (.l (.f 4427038433705197568))]⟩ (.bind ⟨fun us _ => cB (fun a b => Dy.fgt a b || Dy.feq a b) us, 1, [(.v 0), (.v 4)]⟩ (.ite (.v 5) (.bind ⟨fun us _ => fB Ieee.double.add us, 1, [(.v 2), (.l (.f 4427038433705197568))]⟩ (.need ⟨fN Ieee.double.add, [(.v 2), (.l (.f 4427038433705197568))]⟩ (.bind ⟨fun us _ => cB (fun a b => Dy.flt a b || Dy.feq a b) us, 1, [(.v 1), (.v 6)]⟩ (.done .ret ⟨[.bo (.v 7)], [], 8, []⟩)))) (.done .ret ⟨[.bo (.l (.b false))], [], 6, []⟩))))) (.done .ret ⟨[.bo (.l (.b false))], [], 4, []⟩))
def ctNear14 : Ct := ctT 3 [vp 0 1, vf 2] ctNear14T (vb 3) 1
theorem ctNear14_ok : CtOk Try.prog 103 ctNear14 := ctT_ok xe6_ok (dr_ok xe6_ok) Try.func103 rfl (by decide) 200 3 [vp 0 1, vf 2] ctNear14T (vb 3) 1 (by kernel_rfl) (by kernel_rfl) (by kernel_rfl)

def xe7 : List (Nat × Ct) := (103, ctNear14) :: xe6
theorem xe7_ok : AllOk Try.prog xe7 := ⟨ctNear14_ok, xe6_ok⟩

def ctStraightT : T := .bind ⟨fun us i => vecU ((unitG (gF us 0) (gF us 1) (gF us 2))) i, 7, [(.v 0), (.v 1), (.v 2)]⟩ (.need ⟨nR3, [(.v 0), (.v 1), (.v 2)]⟩ (.bind ⟨fun us _ => jB (fun a b => a != b) us, 1, [(.v 9), (.l (.i 0))]⟩ (.ite (.v 10) (.done .ret ⟨[.tup [.agg [.fl (.l (.f 0)), .fl (.l (.f 0)), .fl (.l (.f 0))], .it .i64 (.l (.i 50))]], [], 11, []⟩) (.bind ⟨fun us _ => fB Ieee.double.sub us, 1, [(.l (.f 0)), (.v 0)]⟩ (.need ⟨fN Ieee.double.sub, [(.l (.f 0)), (.v 0)]⟩ (.bind ⟨fun us _ => fB Ieee.double.sub us, 1, [(.l (.f 0)), (.v 1)]⟩ (.need ⟨fN Ieee.double.sub, [(.l (.f 0)), (.v 1)]⟩ (.bind ⟨fun us _ => fB Ieee.double.add us, 1, [(.v 2), (.l (.f 0))]⟩ (.need ⟨fN Ieee.double.add, [(.v 2), (.l (.f 0))]⟩ (.done .ret ⟨[.tup [.agg [.fl (.v 11), .fl (.v 12), .fl (.v 13)], .it .i64 (.l (.i 0))]], [], 14, []⟩))))))))))
def ctStraight : Ct := ctT 3 [.agg [vf 0, vf 1, vf 2]] ctStraightT (.tup [.agg [vf 3, vf 4, vf 5], vi .i64 6]) 4
theorem ctStraight_ok : CtOk Try.prog 102 ctStraight := ctT_ok xe7_ok (dr_ok xe7_ok) Try.func102 rfl (by decide) 200 3 [.agg [vf 0, vf 1, vf 2]] ctStraightT (.tup [.agg [vf 3, vf 4, vf 5], vi .i64 6]) 4 (by kernel_rfl) (by kernel_rfl) (by kernel_rfl)

def xe8 : List (Nat × Ct) := (102, ctStraight) :: xe7
theorem xe8_ok : AllOk Try.prog xe8 := ⟨ctStraight_ok, xe7_ok⟩

def ctAwake14 : Ct := ctTrue
theorem ctAwake14_ok : CtOk Try.prog 49 ctAwake14 := ctTrue_ok xe8_ok (dr_ok xe8_ok) Try.func49 rfl (by decide) 200 _ rfl (by kernel_rfl)

def xe9 : List (Nat × Ct) := (49, ctAwake14) :: xe8
theorem xe9_ok : AllOk Try.prog xe9 := ⟨ctAwake14_ok, xe8_ok⟩

end Go.Proofs.Ythmkjnhgialnlaa
