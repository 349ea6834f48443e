/- A reckoning of programs by symbols: more contracts of package ival. -/
import Derived.Test.YtiphdhpacklboaaYh
namespace Go.Proofs.Ytiphdhpacklboaa
open Go Go.RowKit
set_option linter.unusedSimpArgs false
set_option linter.unusedVariables false

def t0 : List (Nat × Ct) := cts0
theorem t0_ok : AllOk Try.prog t0 := cts0_ok
def ctErr : Ct := ⟨1, [[vi .i64 0]], [.ptr 0 0], { binds := [], needs := [], val := .it .i64 (.v 0), upd := [] }⟩
theorem ctErr_ok : CtOk Try.prog 11 ctErr := CtOk.flat t0_ok (dr_ok t0_ok) Try.func11 rfl (by decide) [] 200 ⟨[.it .i64 (.v 0)], [some ([.it .i64 (.v 0)])], 1, []⟩ (by kernel_rfl) rfl (by kernel_rfl) rfl (by kernel_rfl) (by kernel_rfl) (by kernel_rfl) (by kernel_rfl)

def t1 : List (Nat × Ct) := (11, ctErr) :: t0
theorem t1_ok : AllOk Try.prog t1 := ⟨ctErr_ok, t0_ok⟩

def ctTurned : Ct := ⟨2, [], [vp 0 1], { binds := [⟨fun us _ => fB Ieee.double.sub us, 1, [(.l (.f 0)), (.v 1)]⟩, ⟨fun us _ => fB Ieee.double.sub us, 1, [(.l (.f 0)), (.v 0)]⟩], needs := [⟨fN Ieee.double.sub, [(.l (.f 0)), (.v 1)]⟩, ⟨fN Ieee.double.sub, [(.l (.f 0)), (.v 0)]⟩], val := .agg [.fl (.v 2), .fl (.v 3)], upd := [] }⟩
theorem ctTurned_ok : CtOk Try.prog 111 ctTurned := CtOk.flat t1_ok (dr_ok t1_ok) Try.func111 rfl (by decide) [] 200 ⟨[.agg [.fl (.v 2), .fl (.v 3)]], [], 4, []⟩ (by kernel_rfl) rfl (by kernel_rfl) rfl (by kernel_rfl) (by kernel_rfl) (by kernel_rfl) (by kernel_rfl)

def t2 : List (Nat × Ct) := (111, ctTurned) :: t1
theorem t2_ok : AllOk Try.prog t2 := ⟨ctTurned_ok, t1_ok⟩

def ctHull : Ct := ⟨4, [], [vp 0 1, vp 2 3], { binds := [⟨fun us _ => gB Dy.dmin us, 1, [(.v 0), (.v 2)]⟩, ⟨fun us _ => gB Dy.dmax us, 1, [(.v 1), (.v 3)]⟩], needs := [⟨rN, [(.v 0), (.v 2)]⟩, ⟨rN, [(.v 1), (.v 3)]⟩], val := .agg [.fl (.v 4), .fl (.v 5)], upd := [] }⟩
theorem ctHull_ok : CtOk Try.prog 136 ctHull := CtOk.flat t2_ok (dr_ok t2_ok) Try.func136 rfl (by decide) [] 200 ⟨[.agg [.fl (.v 4), .fl (.v 5)]], [], 6, []⟩ (by kernel_rfl) rfl (by kernel_rfl) rfl (by kernel_rfl) (by kernel_rfl) (by kernel_rfl) (by kernel_rfl)

def t3 : List (Nat × Ct) := (136, ctHull) :: t2
theorem t3_ok : AllOk Try.prog t3 := ⟨ctHull_ok, t2_ok⟩

def ctPi : Ct := ⟨0, [], [], { binds := [⟨fOp1 Dy.dNext, 2, [(.l (.f 4614256656552045848)), (.l (.b true))]⟩], needs := [], val := .agg [.fl (.l (.f 4614256656552045848)), .fl (.v 0)], upd := [] }⟩
theorem ctPi_ok : CtOk Try.prog 45 ctPi := CtOk.flat t3_ok (dr_ok t3_ok) Try.func45 rfl (by decide) [] 200 ⟨[.agg [.fl (.l (.f 4614256656552045848)), .fl (.v 0)]], [], 2, []⟩ (by kernel_rfl) rfl (by kernel_rfl) rfl (by kernel_rfl) (by kernel_rfl) (by kernel_rfl) (by kernel_rfl)

def t4 : List (Nat × Ct) := (45, ctPi) :: t3
theorem t4_ok : AllOk Try.prog t4 := ⟨ctPi_ok, t3_ok⟩

def ctKnown1 : Ct := ⟨2, [[vf 0, vf 1]], [.ptr 0 0], { binds := [], needs := [], val := .tup [.agg [.fl (.v 0), .fl (.v 1)], .it .i64 (.l (.i 0))], upd := [] }⟩
theorem ctKnown1_ok : CtOk Try.prog 140 ctKnown1 := CtOk.flat t4_ok (dr_ok t4_ok) Try.func140 rfl (by decide) [] 200 ⟨[.tup [.agg [.fl (.v 0), .fl (.v 1)], .it .i64 (.l (.i 0))]], [some ([.fl (.v 0), .fl (.v 1)])], 2, []⟩ (by kernel_rfl) rfl (by kernel_rfl) rfl (by kernel_rfl) (by kernel_rfl) (by kernel_rfl) (by kernel_rfl)

def t5 : List (Nat × Ct) := (140, ctKnown1) :: t4
theorem t5_ok : AllOk Try.prog t5 := ⟨ctKnown1_ok, t4_ok⟩

def ctAskK1 : Ct := ⟨5, [[vi .i64 0], [vf 1, vf 2], [vf 3, vf 4]], [.ptr 0 0, .fn 140 [] [.ptr 1 0], .slc 2 0 1 1], { binds := [⟨fun us i => calR (Dy.cAsk (gI us 0) (Dy.ivR (gF us 3, gF us 4)) ((gF us 1, gF us 2), 0)) i, 3, upto 0 5⟩], needs := [], val := vp 5 6, upd := [(0, [vi .i64 7])] }⟩
theorem ask_k1 (e : Int) (a : Nat × Nat) (r : Bool) : (¬e = 0 → (0 = (Dy.cAsk e r (a, 0)).1.1 ∧ 0 = (Dy.cAsk e r (a, 0)).1.2) ∧ e = (Dy.cAsk e r (a, 0)).2) ∧ (e = 0 → (r = false → (0 = (Dy.cAsk e r (a, 0)).1.1 ∧ 0 = (Dy.cAsk e r (a, 0)).1.2) ∧ 20 = (Dy.cAsk e r (a, 0)).2) ∧
    (r = true → (a.1 = (Dy.cAsk e r (a, 0)).1.1 ∧ a.2 = (Dy.cAsk e r (a, 0)).1.2) ∧ e = (Dy.cAsk e r (a, 0)).2)) := by
  refine ⟨fun h => ?_, fun h => ⟨fun k => ?_, fun k => ?_⟩⟩
  · simp [Dy.cAsk, Dy.ivNo, h]
  · subst h k; simp [Dy.cAsk, Dy.ivNo]
  · subst h k; simp [Dy.cAsk]
set_option maxRecDepth 100000 in
set_option maxHeartbeats 4000000 in
theorem ctAskK1_ok : CtOk Try.prog 91 ctAskK1 := by
  refine CtOk.of_eval2 t5_ok (dr_ok t5_ok) Try.func91 rfl (by decide) [] 200 (by kernel_rfl) rfl (.bind ⟨fun us _ => jB (fun a b => a != b) us, 1, [(.v 0), (.l (.i 0))]⟩ (.ite (.v 5) (.done .ret ⟨[.agg [.fl (.l (.f 0)), .fl (.l (.f 0))]], [some ([.it .i64 (.v 0)]), some ([.fl (.v 1), .fl (.v 2)]), some ([.fl (.v 3), .fl (.v 4)])], 6, []⟩) (.bind ⟨fIv1 Dy.ivR, 1, [(.v 3), (.v 4)]⟩ (.bind ⟨fun us _ => nB us, 1, [(.v 6)]⟩ (.ite (.v 7) (.done .ret ⟨[.agg [.fl (.l (.f 0)), .fl (.l (.f 0))]], [some ([.it .i64 (.l (.i 20))]), some ([.fl (.v 1), .fl (.v 2)]), some ([.fl (.v 3), .fl (.v 4)])], 8, [0]⟩) (.done .ret ⟨[.agg [.fl (.v 1), .fl (.v 2)]], [some ([.it .i64 (.v 0)]), some ([.fl (.v 1), .fl (.v 2)]), some ([.fl (.v 3), .fl (.v 4)])], 8, []⟩)))))) (by kernel_rfl) (by kernel_rfl) (by kernel_rfl) (fun us hl hF hB hN => ?_)
  match us, hl with
  | [u0, u1, u2, u3, u4], _ =>
    simp [FactsB, FactsL, Facts, ctAskK1] at hF hB
    simp [NeedsAt, runB, evs, E.ev, upto, resl, List.range, List.range.loop, ctAskK1] at hN
    obtain ⟨⟨e, rfl⟩, ⟨⟨a1, rfl, w1⟩, ⟨a2, rfl, w2⟩⟩, ⟨b1, rfl, w3⟩, ⟨b2, rfl, w4⟩⟩ := hB
    simp [T.holds, T.holdsL, evs, E.ev, resl, List.range, List.range.loop, jB, iB, cB, fB, fN, bB, nB, mF, mN, mI, wI, nF, nN, gB, rN, iN, fIv1, fOp1, fOp2, calF0, calF1, calF2, U.I, U.F, U.B, gF, gI, gB', Leaf2, UpdOk, EqV, EqL, runB, upto, calR, ctP, ctC, NeedsAt, ctAskK1]
    exact ask_k1 e (a1, a2) (Dy.ivR (b1, b2))

def t6 : List (Nat × Ct) := (91, ctAskK1) :: t5
theorem t6_ok : AllOk Try.prog t6 := ⟨ctAskK1_ok, t5_ok⟩

def ctAskK2 : Ct := ⟨7, [[vi .i64 0], [vf 1, vf 2], [vf 3, vf 4, vf 5, vf 6]], [.ptr 0 0, .fn 140 [] [.ptr 1 0], .slc 2 0 2 2], { binds := [⟨fun us i => calR (Dy.cAsk (gI us 0) (Dy.ivR (gF us 3, gF us 4) && Dy.ivR (gF us 5, gF us 6)) ((gF us 1, gF us 2), 0)) i, 3, upto 0 7⟩], needs := [], val := vp 7 8, upd := [(0, [vi .i64 9])] }⟩
theorem ask_k2 (e : Int) (a : Nat × Nat) (r s : Bool) : (¬e = 0 → (0 = (Dy.cAsk e (r && s) (a, 0)).1.1 ∧ 0 = (Dy.cAsk e (r && s) (a, 0)).1.2) ∧ e = (Dy.cAsk e (r && s) (a, 0)).2) ∧ (e = 0 → (r = false → (0 = (Dy.cAsk e (r && s) (a, 0)).1.1 ∧ 0 = (Dy.cAsk e (r && s) (a, 0)).1.2) ∧ 20 = (Dy.cAsk e (r && s) (a, 0)).2) ∧
    (r = true → (s = false → (0 = (Dy.cAsk e (r && s) (a, 0)).1.1 ∧ 0 = (Dy.cAsk e (r && s) (a, 0)).1.2) ∧ 20 = (Dy.cAsk e (r && s) (a, 0)).2) ∧ (s = true → (a.1 = (Dy.cAsk e (r && s) (a, 0)).1.1 ∧ a.2 = (Dy.cAsk e (r && s) (a, 0)).1.2) ∧ e = (Dy.cAsk e (r && s) (a, 0)).2))) := by
  refine ⟨fun h => ?_, fun h => ⟨fun k => ?_, fun k => ⟨fun l => ?_, fun l => ?_⟩⟩⟩
  · simp [Dy.cAsk, Dy.ivNo, h]
  · subst h k; simp [Dy.cAsk, Dy.ivNo]
  · subst h k l; simp [Dy.cAsk, Dy.ivNo]
  · subst h k l; simp [Dy.cAsk]
set_option maxRecDepth 100000 in
set_option maxHeartbeats 4000000 in
theorem ctAskK2_ok : CtOk Try.prog 91 ctAskK2 := by
  refine CtOk.of_eval2 t6_ok (dr_ok t6_ok) Try.func91 rfl (by decide) [] 200 (by kernel_rfl) rfl (.bind ⟨fun us _ => jB (fun a b => a != b) us, 1, [(.v 0), (.l (.i 0))]⟩ (.ite (.v 7) (.done .ret ⟨[.agg [.fl (.l (.f 0)), .fl (.l (.f 0))]], [some ([.it .i64 (.v 0)]), some ([.fl (.v 1), .fl (.v 2)]), some ([.fl (.v 3), .fl (.v 4), .fl (.v 5), .fl (.v 6)])], 8, []⟩) (.bind ⟨fIv1 Dy.ivR, 1, [(.v 3), (.v 4)]⟩ (.bind ⟨fun us _ => nB us, 1, [(.v 8)]⟩ (.ite (.v 9) (.done .ret ⟨[.agg [.fl (.l (.f 0)), .fl (.l (.f 0))]], [some ([.it .i64 (.l (.i 20))]), some ([.fl (.v 1), .fl (.v 2)]), some ([.fl (.v 3), .fl (.v 4), .fl (.v 5), .fl (.v 6)])], 10, [0]⟩) (.bind ⟨fIv1 Dy.ivR, 1, [(.v 5), (.v 6)]⟩ (.bind ⟨fun us _ => nB us, 1, [(.v 10)]⟩ (.ite (.v 11) (.done .ret ⟨[.agg [.fl (.l (.f 0)), .fl (.l (.f 0))]], [some ([.it .i64 (.l (.i 20))]), some ([.fl (.v 1), .fl (.v 2)]), some ([.fl (.v 3), .fl (.v 4), .fl (.v 5), .fl (.v 6)])], 12, [0]⟩) (.done .ret ⟨[.agg [.fl (.v 1), .fl (.v 2)]], [some ([.it .i64 (.v 0)]), some ([.fl (.v 1), .fl (.v 2)]), some ([.fl (.v 3), .fl (.v 4), .fl (.v 5), .fl (.v 6)])], 12, []⟩))))))))) (by kernel_rfl) (by kernel_rfl) (by kernel_rfl) (fun us hl hF hB hN => ?_)
  match us, hl with
  | [u0, u1, u2, u3, u4, u5, u6], _ =>
    simp [FactsB, FactsL, Facts, ctAskK2] at hF hB
    simp [NeedsAt, runB, evs, E.ev, upto, resl, List.range, List.range.loop, ctAskK2] at hN
    obtain ⟨⟨e, rfl⟩, ⟨⟨a1, rfl, w1⟩, ⟨a2, rfl, w2⟩⟩, ⟨b1, rfl, w3⟩, ⟨b2, rfl, w4⟩, ⟨c1, rfl, w5⟩, ⟨c2, rfl, w6⟩⟩ := hB
    simp [T.holds, T.holdsL, evs, E.ev, resl, List.range, List.range.loop, jB, iB, cB, fB, fN, bB, nB, mF, mN, mI, wI, nF, nN, gB, rN, iN, fIv1, fOp1, fOp2, calF0, calF1, calF2, U.I, U.F, U.B, gF, gI, gB', Leaf2, UpdOk, EqV, EqL, runB, upto, calR, ctP, ctC, NeedsAt, ctAskK2]
    exact ask_k2 e (a1, a2) (Dy.ivR (b1, b2)) (Dy.ivR (c1, c2))

def t7 : List (Nat × Ct) := (91, ctAskK2) :: t6
theorem t7_ok : AllOk Try.prog t7 := ⟨ctAskK2_ok, t6_ok⟩

def ctKnown : Ct := ⟨2, [], [vp 0 1], { val := .fn 140 [] [.ptr 0 0], new := some [vf 0, vf 1] }⟩
theorem ctKnown_ok : CtOk Try.prog 108 ctKnown :=
  CtOk.of_eval (jn := some 0) t7_ok (dr_ok t7_ok) Try.func108 rfl (by decide) [] 200 (by kernel_rfl) (t := .done .ret ⟨[.fn 140 [] [.ptr 0 0]], [some [vf 0, vf 1]], 2, []⟩) (by kernel_rfl)
    (fun us hl hF hB hN => ⟨⟨_, rfl, fun β => rfl⟩, fun k c hk => (by cases hk), fun k hk => (by cases hk), fun c hc => (by cases hc; exact ⟨[vf 0, vf 1], rfl, fun β => rfl⟩)⟩) (by kernel_rfl) (by kernel_rfl)

def t8 : List (Nat × Ct) := (108, ctKnown) :: t7
theorem t8_ok : AllOk Try.prog t8 := ⟨ctKnown_ok, t7_ok⟩

end Go.Proofs.Ytiphdhpacklboaa
