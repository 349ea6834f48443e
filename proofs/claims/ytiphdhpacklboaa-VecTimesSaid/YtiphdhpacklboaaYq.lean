/- A reckoning of programs by symbols: intervals, parts of them. -/
import Derived.Test.YtiphdhpacklboaaYp
namespace Go.Proofs.Ytiphdhpacklboaa
open Go Go.RowKit
set_option linter.unusedSimpArgs false
set_option linter.unusedVariables false

def q0 : List (Nat × Ct) := t8
theorem q0_ok : AllOk Try.prog q0 := t8_ok
def ctMax : Ct := ⟨5, [[vi .i64 0]], [.ptr 0 0, vp 1 2, vp 3 4], { binds := [⟨fun us i => calR (Dy.cMax (gI us 0) (gF us 1, gF us 2) (gF us 3, gF us 4)) i, 3, upto 0 5⟩], needs := [⟨nIv, [.v 1, .v 2]⟩, ⟨nIv, [.v 3, .v 4]⟩], val := vp 5 6, upd := [(0, [vi .i64 7])] }⟩
set_option maxRecDepth 100000 in
set_option maxHeartbeats 4000000 in
theorem ctMax_ok : CtOk Try.prog 49 ctMax := by
  refine CtOk.of_eval2 q0_ok (dr_ok q0_ok) Try.func49 rfl (by decide) [] 200 (by kernel_rfl) rfl (.bind ⟨fun us _ => gB Dy.dmax us, 1, [(.v 1), (.v 3)]⟩ (.need ⟨rN, [(.v 1), (.v 3)]⟩ (.bind ⟨fun us _ => gB Dy.dmax us, 1, [(.v 2), (.v 4)]⟩ (.need ⟨rN, [(.v 2), (.v 4)]⟩ (.bind ⟨fun us i => calR (Dy.cAsk (gI us 0) (Dy.ivR (gF us 3, gF us 4) && Dy.ivR (gF us 5, gF us 6)) ((gF us 1, gF us 2), 0)) i, 3, [(.v 0), (.v 5), (.v 6), (.v 1), (.v 2), (.v 3), (.v 4)]⟩ (.done .ret ⟨[.agg [.fl (.v 7), .fl (.v 8)]], [some ([.it .i64 (.v 9)])], 10, [0]⟩)))))) (by kernel_rfl) (by kernel_rfl) (by kernel_rfl) (fun us hl hF hB hN => ?_)
  match us, hl with
  | [u0, u1, u2, u3, u4], _ =>
    simp [FactsB, FactsL, Facts, ctMax] at hF hB
    simp [NeedsAt, runB, evs, E.ev, upto, resl, List.range, List.range.loop, ctMax] at hN
    obtain ⟨⟨⟨a1, rfl, w1⟩, ⟨a2, rfl, w2⟩⟩, ⟨b1, rfl, w3⟩, ⟨b2, rfl, w4⟩⟩ := hF
    obtain ⟨e, rfl⟩ := hB
    simp [nIv, gF, U.F] at hN
    have r1 := Dy.ivR_of hN.1
    have r2 := Dy.ivR_of hN.2
    simp at r1 r2
    refine T.HH.h ?_
    refine T.hbind (us := [.f a1, .f b1]) (xs := [.f (Dy.dmax a1 b1)]) (ρ' := [.i e, .f a1, .f a2, .f b1, .f b2, .f (Dy.dmax a1 b1)]) rfl (rfl) rfl ?_
    refine T.hneed (us := [.f a1, .f b1]) rfl (show (Dy.right a1 && Dy.right b1) = true from by simp [r1, r2]) ?_
    refine T.hbind (us := [.f a2, .f b2]) (xs := [.f (Dy.dmax a2 b2)]) (ρ' := [.i e, .f a1, .f a2, .f b1, .f b2, .f (Dy.dmax a1 b1), .f (Dy.dmax a2 b2)]) rfl (rfl) rfl ?_
    refine T.hneed (us := [.f a2, .f b2]) rfl (show (Dy.right a2 && Dy.right b2) = true from by simp [r1, r2]) ?_
    refine T.hbind (us := [.i e, .f (Dy.dmax a1 b1), .f (Dy.dmax a2 b2), .f a1, .f a2, .f b1, .f b2]) (xs := [.f ((Dy.cAsk (e) (Dy.ivR (a1, a2) && Dy.ivR (b1, b2)) (((Dy.dmax a1 b1), (Dy.dmax a2 b2)), 0)).1.1), .f ((Dy.cAsk (e) (Dy.ivR (a1, a2) && Dy.ivR (b1, b2)) (((Dy.dmax a1 b1), (Dy.dmax a2 b2)), 0)).1.2), .i ((Dy.cAsk (e) (Dy.ivR (a1, a2) && Dy.ivR (b1, b2)) (((Dy.dmax a1 b1), (Dy.dmax a2 b2)), 0)).2)]) (ρ' := [.i e, .f a1, .f a2, .f b1, .f b2, .f (Dy.dmax a1 b1), .f (Dy.dmax a2 b2), .f ((Dy.cAsk (e) (Dy.ivR (a1, a2) && Dy.ivR (b1, b2)) (((Dy.dmax a1 b1), (Dy.dmax a2 b2)), 0)).1.1), .f ((Dy.cAsk (e) (Dy.ivR (a1, a2) && Dy.ivR (b1, b2)) (((Dy.dmax a1 b1), (Dy.dmax a2 b2)), 0)).1.2), .i ((Dy.cAsk (e) (Dy.ivR (a1, a2) && Dy.ivR (b1, b2)) (((Dy.dmax a1 b1), (Dy.dmax a2 b2)), 0)).2)]) rfl (rfl) rfl ?_
    refine T.hdone ?_
    have e0 : Dy.cMax (e) (a1, a2) (b1, b2) = Dy.cAsk e (Dy.ivR (a1, a2) && Dy.ivR (b1, b2)) ((Dy.dmax a1 b1, Dy.dmax a2 b2), 0) := rfl
    exact ⟨⟨(congrArg (fun r => some (calR r 0)) e0.symm), (congrArg (fun r => some (calR r 1)) e0.symm), trivial⟩, ⟨⟨⟨rfl, (congrArg (fun r => some (calR r 2)) e0.symm)⟩, trivial⟩, trivial⟩, rfl⟩

def q1 : List (Nat × Ct) := (49, ctMax) :: q0
theorem q1_ok : AllOk Try.prog q1 := ⟨ctMax_ok, q0_ok⟩

def ctMeet : Ct := ⟨4, [], [vp 0 1, vp 2 3], { binds := [⟨fun us i => meetU (iMeet (gF us 0, gF us 1) (gF us 2, gF us 3)) i, 3, upto 0 4⟩], needs := [⟨nIv, [.v 0, .v 1]⟩, ⟨nIv, [.v 2, .v 3]⟩], val := .tup [vp 4 5, vb 6], upd := [] }⟩
set_option maxRecDepth 100000 in
set_option maxHeartbeats 4000000 in
theorem ctMeet_ok : CtOk Try.prog 44 ctMeet := by
  refine CtOk.of_eval2 q1_ok (dr_ok q1_ok) Try.func44 rfl (by decide) [] 200 (by kernel_rfl) rfl (.bind ⟨fun us _ => gB Dy.dmax us, 1, [(.v 0), (.v 2)]⟩ (.need ⟨rN, [(.v 0), (.v 2)]⟩ (.bind ⟨fun us _ => gB Dy.dmin us, 1, [(.v 1), (.v 3)]⟩ (.need ⟨rN, [(.v 1), (.v 3)]⟩ (.bind ⟨fun us _ => cB Dy.fgt us, 1, [(.v 4), (.v 5)]⟩ (.ite (.v 6) (.done .ret ⟨[.tup [.agg [.fl (.l (.f 0)), .fl (.l (.f 0))], .bo (.l (.b false))]], [], 7, []⟩) (.done .ret ⟨[.tup [.agg [.fl (.v 4), .fl (.v 5)], .bo (.l (.b true))]], [], 7, []⟩))))))) (by kernel_rfl) (by kernel_rfl) (by kernel_rfl) (fun us hl hF hB hN => ?_)
  match us, hl with
  | [u0, u1, u2, u3], _ =>
    simp [FactsB, FactsL, Facts, ctMeet] at hF hB
    simp [NeedsAt, runB, evs, E.ev, upto, resl, List.range, List.range.loop, ctMeet] at hN
    obtain ⟨⟨⟨a1, rfl, w1⟩, ⟨a2, rfl, w2⟩⟩, ⟨b1, rfl, w3⟩, ⟨b2, rfl, w4⟩⟩ := hF
    simp [nIv, gF, U.F] at hN
    have r1 := Dy.ivR_of hN.1
    have r2 := Dy.ivR_of hN.2
    simp at r1 r2
    refine T.HH.h ?_
    refine T.hbind (us := [.f a1, .f b1]) (xs := [.f (Dy.dmax a1 b1)]) (ρ' := [.f a1, .f a2, .f b1, .f b2, .f (Dy.dmax a1 b1)]) rfl (rfl) rfl ?_
    refine T.hneed (us := [.f a1, .f b1]) rfl (show (Dy.right a1 && Dy.right b1) = true from by simp [r1, r2]) ?_
    refine T.hbind (us := [.f a2, .f b2]) (xs := [.f (Dy.dmin a2 b2)]) (ρ' := [.f a1, .f a2, .f b1, .f b2, .f (Dy.dmax a1 b1), .f (Dy.dmin a2 b2)]) rfl (rfl) rfl ?_
    refine T.hneed (us := [.f a2, .f b2]) rfl (show (Dy.right a2 && Dy.right b2) = true from by simp [r1, r2]) ?_
    refine T.hbind (us := [.f (Dy.dmax a1 b1), .f (Dy.dmin a2 b2)]) (xs := [.b (Dy.fgt (Dy.dmax a1 b1) (Dy.dmin a2 b2))]) (ρ' := [.f a1, .f a2, .f b1, .f b2, .f (Dy.dmax a1 b1), .f (Dy.dmin a2 b2), .b (Dy.fgt (Dy.dmax a1 b1) (Dy.dmin a2 b2))]) rfl (rfl) rfl ?_
    refine T.hite (x := (Dy.fgt (Dy.dmax a1 b1) (Dy.dmin a2 b2))) rfl (fun c1 => ?_) (fun c1 => ?_)
    · skip
      refine T.hdone ?_
      have e0 : iMeet (a1, a2) (b1, b2) = ((0, 0), false) := by unfold iMeet; rw [if_pos c1]
      exact ⟨⟨⟨(congrArg (fun r => some (meetU r 0)) e0.symm), (congrArg (fun r => some (meetU r 1)) e0.symm), trivial⟩, (congrArg (fun r => some (meetU r 2)) e0.symm), trivial⟩, trivial, rfl⟩
    · skip
      refine T.hdone ?_
      have e0 : iMeet (a1, a2) (b1, b2) = ((Dy.dmax a1 b1, Dy.dmin a2 b2), true) := by unfold iMeet; rw [if_neg (by rw [c1]; decide)]
      exact ⟨⟨⟨(congrArg (fun r => some (meetU r 0)) e0.symm), (congrArg (fun r => some (meetU r 1)) e0.symm), trivial⟩, (congrArg (fun r => some (meetU r 2)) e0.symm), trivial⟩, trivial, rfl⟩

def q2 : List (Nat × Ct) := (44, ctMeet) :: q1
theorem q2_ok : AllOk Try.prog q2 := ⟨ctMeet_ok, q1_ok⟩

def ctPoint : Ct := ⟨1, [], [vf 0], { binds := [⟨fun us _ => fB Ieee.double.add us, 1, [(.v 0), (.l (.f 0))]⟩, ⟨fun us _ => fB Ieee.double.add us, 1, [(.v 0), (.l (.f 0))]⟩], needs := [⟨fN Ieee.double.add, [(.v 0), (.l (.f 0))]⟩, ⟨fN Ieee.double.add, [(.v 0), (.l (.f 0))]⟩], val := .agg [.fl (.v 1), .fl (.v 2)], upd := [] }⟩
theorem ctPoint_ok : CtOk Try.prog 73 ctPoint := CtOk.flat q2_ok (dr_ok q2_ok) Try.func73 rfl (by decide) [] 200 ⟨[.agg [.fl (.v 1), .fl (.v 2)]], [], 3, []⟩ (by kernel_rfl) rfl (by kernel_rfl) rfl (by kernel_rfl) (by kernel_rfl) (by kernel_rfl) (by kernel_rfl)

def q3 : List (Nat × Ct) := (73, ctPoint) :: q2
theorem q3_ok : AllOk Try.prog q3 := ⟨ctPoint_ok, q2_ok⟩

def fRes (x : Nat) (_ : Nat) : U := .f x

/-- Is one within another one? -/
def inW (a b : Nat × Nat) : Bool := (Dy.flt b.1 a.1 || Dy.feq b.1 a.1) && (Dy.flt a.2 b.2 || Dy.feq a.2 b.2)
def bRes (x : Bool) (_ : Nat) : U := .b x

/-- Have two intervals a number in common? -/
def meetsB (a b : Nat × Nat) : Bool := (Dy.flt a.1 b.2 || Dy.feq a.1 b.2) && (Dy.flt b.1 a.2 || Dy.feq b.1 a.2)
def ctMeets : Ct := ⟨4, [], [vp 0 1, vp 2 3], { binds := [⟨fun us i => bRes (meetsB (gF us 0, gF us 1) (gF us 2, gF us 3)) i, 1, upto 0 4⟩], needs := [], val := vb 4, upd := [] }⟩
set_option maxRecDepth 100000 in
set_option maxHeartbeats 8000000 in
theorem ctMeets_ok : CtOk Try.prog 74 ctMeets := by
  refine CtOk.of_eval2 q3_ok (dr_ok q3_ok) Try.func74 rfl (by decide) [] 200 (by kernel_rfl) rfl (.bind ⟨fun us _ => cB (fun a b => Dy.flt a b || Dy.feq a b) us, 1, [(.v 0), (.v 3)]⟩ (.ite (.v 4) (.bind ⟨fun us _ => cB (fun a b => Dy.flt a b || Dy.feq a b) us, 1, [(.v 2), (.v 1)]⟩ (.done .ret ⟨[.bo (.v 5)], [], 6, []⟩)) (.done .ret ⟨[.bo (.l (.b false))], [], 5, []⟩))) (by kernel_rfl) (by kernel_rfl) (by kernel_rfl) (fun us hl hF hB hN => ?_)
  match us, hl with
  | [u0, u1, u2, u3], _ =>
    simp [FactsB, FactsL, Facts, ctMeets] at hF hB
    simp [NeedsAt, runB, evs, E.ev, upto, resl, List.range, List.range.loop, ctMeets] at hN
    obtain ⟨⟨⟨a1, rfl, w1⟩, ⟨a2, rfl, w2⟩⟩, ⟨b1, rfl, w3⟩, ⟨b2, rfl, w4⟩⟩ := hF
    refine T.HH.h ?_
    obtain ⟨t0, e1⟩ : ∃ t0, (Dy.flt a1 b2 || Dy.feq a1 b2) = t0 := ⟨_, rfl⟩
    refine T.hbind (us := [.f a1, .f b2]) (xs := [.b t0]) (ρ' := [.f a1, .f a2, .f b1, .f b2, .b t0]) rfl (congrArg (fun r => [U.b r]) e1) rfl ?_
    refine T.hite (x := t0) ?_ ?_ ?_
    · rfl
    · intro c3
      obtain ⟨t3, e4⟩ : ∃ t3, (Dy.flt b1 a2 || Dy.feq b1 a2) = t3 := ⟨_, rfl⟩
      refine T.hbind (us := [.f b1, .f a2]) (xs := [.b t3]) (ρ' := [.f a1, .f a2, .f b1, .f b2, .b t0, .b t3]) rfl (congrArg (fun r => [U.b r]) e4) rfl ?_
      refine T.hdone ?_
      have e00 : meetsB (a1, a2) (b1, b2) = t3 := by simp only [meetsB, e1, c3, e4, reduceIte, Bool.false_eq_true, Bool.true_eq_false, Bool.true_and, Bool.false_and, Bool.and_true, Bool.and_false, Bool.true_or, Bool.false_or, Bool.or_true, Bool.or_false, Bool.not_true, Bool.not_false] <;> simp_all
      exact ⟨(congrArg (fun r => some (bRes r 0)) e00.symm), trivial, rfl⟩
    · intro c3
      refine T.hdone ?_
      have e00 : meetsB (a1, a2) (b1, b2) = false := by simp only [meetsB, e1, c3, reduceIte, Bool.false_eq_true, Bool.true_eq_false, Bool.true_and, Bool.false_and, Bool.and_true, Bool.and_false, Bool.true_or, Bool.false_or, Bool.or_true, Bool.or_false, Bool.not_true, Bool.not_false] <;> simp_all
      exact ⟨(congrArg (fun r => some (bRes r 0)) e00.symm), trivial, rfl⟩

def q4 : List (Nat × Ct) := (74, ctMeets) :: q3
theorem q4_ok : AllOk Try.prog q4 := ⟨ctMeets_ok, q3_ok⟩

def q8 : List (Nat × Ct) := q4
theorem q8_ok : AllOk Try.prog q8 := q4_ok
end Go.Proofs.Ytiphdhpacklboaa
