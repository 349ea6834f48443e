/- A reckoning of programs by symbols: more contracts of package ival. -/
import Derived.Test.YtkhplflbcgjkcaaGreatAe
namespace Go.Proofs.YtkhplflbcgjkcaaGreat
open Go Go.RowKit
set_option linter.unusedSimpArgs false
set_option linter.unusedVariables false
def uo0 : List (Nat × Ct) := uN0
theorem uo0_ok : AllOk Tryz.prog uo0 := uN0_ok
def ctErr : Ct := ⟨1, [[vi .i64 0]], [.ptr 0 0], { binds := [], needs := [], val := .it .i64 (.v 0), upd := [] }⟩
theorem ctErr_ok : CtOk Tryz.prog 29 ctErr := CtOk.flat uo0_ok (dr_ok uo0_ok) Tryz.func29 rfl (by decide) [] 200 ⟨[.it .i64 (.v 0)], [some ([.it .i64 (.v 0)])], 1, []⟩ (by kernel_rfl) rfl (by kernel_rfl) rfl (by kernel_rfl) (by kernel_rfl) (by kernel_rfl) (by kernel_rfl)
def uo1 : List (Nat × Ct) := (29, ctErr) :: uo0
theorem uo1_ok : AllOk Tryz.prog uo1 := ⟨ctErr_ok, uo0_ok⟩
def ctTurned : Ct := ⟨2, [], [vp 0 1], { binds := [⟨fun us _ => fB Ieee.double.sub us, 1, [(.l (.f 0)), (.v 1)]⟩, ⟨fun us _ => fB Ieee.double.sub us, 1, [(.l (.f 0)), (.v 0)]⟩], needs := [⟨fN Ieee.double.sub, [(.l (.f 0)), (.v 1)]⟩, ⟨fN Ieee.double.sub, [(.l (.f 0)), (.v 0)]⟩], val := .agg [.fl (.v 2), .fl (.v 3)], upd := [] }⟩
theorem ctTurned_ok : CtOk Tryz.prog 133 ctTurned := CtOk.flat uo1_ok (dr_ok uo1_ok) Tryz.func133 rfl (by decide) [] 200 ⟨[.agg [.fl (.v 2), .fl (.v 3)]], [], 4, []⟩ (by kernel_rfl) rfl (by kernel_rfl) rfl (by kernel_rfl) (by kernel_rfl) (by kernel_rfl) (by kernel_rfl)
def uo2 : List (Nat × Ct) := (133, ctTurned) :: uo1
theorem uo2_ok : AllOk Tryz.prog uo2 := ⟨ctTurned_ok, uo1_ok⟩
def ctHull : Ct := ⟨4, [], [vp 0 1, vp 2 3], { binds := [⟨fun us _ => gB Dy.dmin us, 1, [(.v 0), (.v 2)]⟩, ⟨fun us _ => gB Dy.dmax us, 1, [(.v 1), (.v 3)]⟩], needs := [⟨rN, [(.v 0), (.v 2)]⟩, ⟨rN, [(.v 1), (.v 3)]⟩], val := .agg [.fl (.v 4), .fl (.v 5)], upd := [] }⟩
theorem ctHull_ok : CtOk Tryz.prog 25 ctHull := CtOk.flat uo2_ok (dr_ok uo2_ok) Tryz.func25 rfl (by decide) [] 200 ⟨[.agg [.fl (.v 4), .fl (.v 5)]], [], 6, []⟩ (by kernel_rfl) rfl (by kernel_rfl) rfl (by kernel_rfl) (by kernel_rfl) (by kernel_rfl) (by kernel_rfl)
def uo3 : List (Nat × Ct) := (25, ctHull) :: uo2
theorem uo3_ok : AllOk Tryz.prog uo3 := ⟨ctHull_ok, uo2_ok⟩
def ctPi : Ct := ⟨0, [], [], { binds := [⟨fOp1 Dy.dNext, 2, [(.l (.f 4614256656552045848)), (.l (.b true))]⟩], needs := [], val := .agg [.fl (.l (.f 4614256656552045848)), .fl (.v 0)], upd := [] }⟩
theorem ctPi_ok : CtOk Tryz.prog 30 ctPi := CtOk.flat uo3_ok (dr_ok uo3_ok) Tryz.func30 rfl (by decide) [] 200 ⟨[.agg [.fl (.l (.f 4614256656552045848)), .fl (.v 0)]], [], 2, []⟩ (by kernel_rfl) rfl (by kernel_rfl) rfl (by kernel_rfl) (by kernel_rfl) (by kernel_rfl) (by kernel_rfl)
def uo4 : List (Nat × Ct) := (30, ctPi) :: uo3
theorem uo4_ok : AllOk Tryz.prog uo4 := ⟨ctPi_ok, uo3_ok⟩
def ctKnown1 : Ct := ⟨2, [[vf 0, vf 1]], [.ptr 0 0], { binds := [], needs := [], val := .tup [.agg [.fl (.v 0), .fl (.v 1)], .it .i64 (.l (.i 0))], upd := [] }⟩
theorem ctKnown1_ok : CtOk Tryz.prog 160 ctKnown1 := CtOk.flat uo4_ok (dr_ok uo4_ok) Tryz.func160 rfl (by decide) [] 200 ⟨[.tup [.agg [.fl (.v 0), .fl (.v 1)], .it .i64 (.l (.i 0))]], [some ([.fl (.v 0), .fl (.v 1)])], 2, []⟩ (by kernel_rfl) rfl (by kernel_rfl) rfl (by kernel_rfl) (by kernel_rfl) (by kernel_rfl) (by kernel_rfl)
def uo5 : List (Nat × Ct) := (160, ctKnown1) :: uo4
theorem uo5_ok : AllOk Tryz.prog uo5 := ⟨ctKnown1_ok, uo4_ok⟩
def ctAskK1 : Ct := ⟨5, [[vi .i64 0], [vf 1, vf 2], [vf 3, vf 4]], [.ptr 0 0, .fn 160 [] [.ptr 1 0], .slc 2 0 1 1], { binds := [⟨fun us i => calR (Dy.cAsk (gI us 0) (Dy.ivR (gF us 3, gF us 4)) ((gF us 1, gF us 2), 0)) i, 3, upto 0 5⟩], needs := [], val := vp 5 6, upd := [(0, [vi .i64 7])] }⟩
theorem ask_k1 (e : Int) (a : Nat × Nat) (r : Bool) : (¬e = 0 → (0 = (Dy.cAsk e r (a, 0)).1.1 ∧ 0 = (Dy.cAsk e r (a, 0)).1.2) ∧ e = (Dy.cAsk e r (a, 0)).2) ∧ (e = 0 → (r = false → (0 = (Dy.cAsk e r (a, 0)).1.1 ∧ 0 = (Dy.cAsk e r (a, 0)).1.2) ∧ 20 = (Dy.cAsk e r (a, 0)).2) ∧
  (r = true → (a.1 = (Dy.cAsk e r (a, 0)).1.1 ∧ a.2 = (Dy.cAsk e r (a, 0)).1.2) ∧ e = (Dy.cAsk e r (a, 0)).2)) := by
 refine ⟨fun h => ?_, fun h => ⟨fun k => ?_, fun k => ?_⟩⟩
 ·simp [Dy.cAsk, Dy.ivNo, h]
 ·subst h k; simp [Dy.cAsk, Dy.ivNo]
 ·subst h k; simp [Dy.cAsk]
set_option maxRecDepth 100000 in
set_option maxHeartbeats 4000000 in
theorem ctAskK1_ok : CtOk Tryz.prog 102 ctAskK1 := by
 refine CtOk.of_eval2 uo5_ok (dr_ok uo5_ok) Tryz.func102 rfl (by decide) [] 200 (by kernel_rfl) rfl (.bind ⟨fun us _ => jB (fun a b => a != b) us, 1, [(.v 0), (.l (.i 0))]⟩ (.ite (.v 5) (.done .ret ⟨[.agg [.fl (.l (.f 0)), .fl (.l (.f 0))]], [some ([.it .i64 (.v 0)]), some ([.fl (.v 1), .fl (.v 2)]), some ([.fl (.v 3), .fl (.v 4)])], 6, []⟩) (.bind ⟨fIv1 Dy.ivR, 1, [(.v 3), (.v 4)]⟩ (.bind ⟨fun us _ => nB us, 1, [(.v 6)]⟩ (.ite (.v 7) (.done .ret ⟨[.agg [.fl (.l (.f 0)), .fl (.l (.f 0))]], [some ([.it .i64 (.l (.i 20))]), some ([.fl (.v 1), .fl (.v 2)]), some ([.fl (.v 3), .fl (.v 4)])], 8, [0]⟩) (.done .ret ⟨[.agg [.fl (.v 1), .fl (.v 2)]], [some ([.it .i64 (.v 0)]), some ([.fl (.v 1), .fl (.v 2)]), some ([.fl (.v 3), .fl (.v 4)])], 8, []⟩)))))) (by kernel_rfl) (by kernel_rfl) (by kernel_rfl) (fun us hl hF hB hN => ?_)
 match us, hl with
 | [u0, u1, u2, u3, u4], _ =>
  simp [FactsB, FactsL, Facts, ctAskK1] at hF hB
  simp [NeedsAt, runB, evs, E.ev, upto, resl, List.range, List.range.loop, ctAskK1] at hN
  obtain ⟨⟨e, rfl⟩, ⟨⟨a1, rfl, w1⟩, ⟨a2, rfl, w2⟩⟩, ⟨b1, rfl, w3⟩, ⟨b2, rfl, w4⟩⟩ := hB
  simp [T.holds, T.holdsL, evs, E.ev, resl, List.range, List.range.loop, jB, iB, cB, fB, fN, bB, nB, mF, mN, mI, wI, nF, nN, gB, rN, iN, fIv1, fOp1, fOp2, calF0, calF1, calF2, U.I, U.F, U.B, gF, gI, gB', Leaf2, UpdOk, EqV, EqL, runB, upto, calR, ctP, ctC, NeedsAt, ctAskK1]
  exact ask_k1 e (a1, a2) (Dy.ivR (b1, b2))
def uo6 : List (Nat × Ct) := (102, ctAskK1) :: uo5
theorem uo6_ok : AllOk Tryz.prog uo6 := ⟨ctAskK1_ok, uo5_ok⟩
def ctAskK2 : Ct := ⟨7, [[vi .i64 0], [vf 1, vf 2], [vf 3, vf 4, vf 5, vf 6]], [.ptr 0 0, .fn 160 [] [.ptr 1 0], .slc 2 0 2 2], { binds := [⟨fun us i => calR (Dy.cAsk (gI us 0) (Dy.ivR (gF us 3, gF us 4) && Dy.ivR (gF us 5, gF us 6)) ((gF us 1, gF us 2), 0)) i, 3, upto 0 7⟩], needs := [], val := vp 7 8, upd := [(0, [vi .i64 9])] }⟩
theorem ask_k2 (e : Int) (a : Nat × Nat) (r s : Bool) : (¬e = 0 → (0 = (Dy.cAsk e (r && s) (a, 0)).1.1 ∧ 0 = (Dy.cAsk e (r && s) (a, 0)).1.2) ∧ e = (Dy.cAsk e (r && s) (a, 0)).2) ∧ (e = 0 → (r = false → (0 = (Dy.cAsk e (r && s) (a, 0)).1.1 ∧ 0 = (Dy.cAsk e (r && s) (a, 0)).1.2) ∧ 20 = (Dy.cAsk e (r && s) (a, 0)).2) ∧
  (r = true → (s = false → (0 = (Dy.cAsk e (r && s) (a, 0)).1.1 ∧ 0 = (Dy.cAsk e (r && s) (a, 0)).1.2) ∧ 20 = (Dy.cAsk e (r && s) (a, 0)).2) ∧ (s = true → (a.1 = (Dy.cAsk e (r && s) (a, 0)).1.1 ∧ a.2 = (Dy.cAsk e (r && s) (a, 0)).1.2) ∧ e = (Dy.cAsk e (r && s) (a, 0)).2))) := by
 refine ⟨fun h => ?_, fun h => ⟨fun k => ?_, fun k => ⟨fun l => ?_, fun l => ?_⟩⟩⟩
 ·simp [Dy.cAsk, Dy.ivNo, h]
 ·subst h k; simp [Dy.cAsk, Dy.ivNo]
 ·subst h k l; simp [Dy.cAsk, Dy.ivNo]
 ·subst h k l; simp [Dy.cAsk]
set_option maxRecDepth 100000 in
set_option maxHeartbeats 4000000 in
theorem ctAskK2_ok : CtOk Tryz.prog 102 ctAskK2 := by
 refine CtOk.of_eval2 uo6_ok (dr_ok uo6_ok) Tryz.func102 rfl (by decide) [] 200 (by kernel_rfl) rfl (.bind ⟨fun us _ => jB (fun a b => a != b) us, 1, [(.v 0), (.l (.i 0))]⟩ (.ite (.v 7) (.done .ret ⟨[.agg [.fl (.l (.f 0)), .fl (.l (.f 0))]], [some ([.it .i64 (.v 0)]), some ([.fl (.v 1), .fl (.v 2)]), some ([.fl (.v 3), .fl (.v 4), .fl (.v 5), .fl (.v 6)])], 8, []⟩) (.bind ⟨fIv1 Dy.ivR, 1, [(.v 3), (.v 4)]⟩ (.bind ⟨fun us _ => nB us, 1, [(.v 8)]⟩ (.ite (.v 9) (.done .ret ⟨[.agg [.fl (.l (.f 0)), .fl (.l (.f 0))]], [some ([.it .i64 (.l (.i 20))]), some ([.fl (.v 1), .fl (.v 2)]), some ([.fl (.v 3), .fl (.v 4), .fl (.v 5), .fl (.v 6)])], 10, [0]⟩) (.bind ⟨fIv1 Dy.ivR, 1, [(.v 5), (.v 6)]⟩ (.bind ⟨fun us _ => nB us, 1, [(.v 10)]⟩ (.ite (.v 11) (.done .ret ⟨[.agg [.fl (.l (.f 0)), .fl (.l (.f 0))]], [some ([.it .i64 (.l (.i 20))]), some ([.fl (.v 1), .fl (.v 2)]), some ([.fl (.v 3), .fl (.v 4), .fl (.v 5), .fl (.v 6)])], 12, [0]⟩) (.done .ret ⟨[.agg [.fl (.v 1), .fl (.v 2)]], [some ([.it .i64 (.v 0)]), some ([.fl (.v 1), .fl (.v 2)]), some ([.fl (.v 3), .fl (.v 4), .fl (.v 5), .fl (.v 6)])], 12, []⟩))))))))) (by kernel_rfl) (by kernel_rfl) (by kernel_rfl) (fun us hl hF hB hN => ?_)
 match us, hl with
 | [u0, u1, u2, u3, u4, u5, u6], _ =>
  simp [FactsB, FactsL, Facts, ctAskK2] at hF hB
  simp [NeedsAt, runB, evs, E.ev, upto, resl, List.range, List.range.loop, ctAskK2] at hN
  obtain ⟨⟨e, rfl⟩, ⟨⟨a1, rfl, w1⟩, ⟨a2, rfl, w2⟩⟩, ⟨b1, rfl, w3⟩, ⟨b2, rfl, w4⟩, ⟨c1, rfl, w5⟩, ⟨c2, rfl, w6⟩⟩ := hB
  simp [T.holds, T.holdsL, evs, E.ev, resl, List.range, List.range.loop, jB, iB, cB, fB, fN, bB, nB, mF, mN, mI, wI, nF, nN, gB, rN, iN, fIv1, fOp1, fOp2, calF0, calF1, calF2, U.I, U.F, U.B, gF, gI, gB', Leaf2, UpdOk, EqV, EqL, runB, upto, calR, ctP, ctC, NeedsAt, ctAskK2]
  exact ask_k2 e (a1, a2) (Dy.ivR (b1, b2)) (Dy.ivR (c1, c2))
def uo7 : List (Nat × Ct) := (102, ctAskK2) :: uo6
theorem uo7_ok : AllOk Tryz.prog uo7 := ⟨ctAskK2_ok, uo6_ok⟩
def ctKnown : Ct := ⟨2, [], [vp 0 1], { val := .fn 160 [] [.ptr 0 0], new := some [vf 0, vf 1] }⟩
theorem ctKnown_ok : CtOk Tryz.prog 127 ctKnown :=
 CtOk.of_eval (jn := some 0) uo7_ok (dr_ok uo7_ok) Tryz.func127 rfl (by decide) []  200 (by kernel_rfl) (t := .done .ret ⟨[.fn 160 [] [.ptr 0 0]], [some [vf 0, vf 1]], 2, []⟩) (by kernel_rfl)
  (fun us hl hF hB hN => ⟨⟨_, rfl, fun β => rfl⟩, fun k c hk => (by cases hk), fun k hk => (by cases hk), fun c hc => (by cases hc; exact ⟨[vf 0, vf 1], rfl, fun β => rfl⟩)⟩) (by kernel_rfl) (by kernel_rfl)
def uo8 : List (Nat × Ct) := (127, ctKnown) :: uo7
theorem uo8_ok : AllOk Tryz.prog uo8 := ⟨ctKnown_ok, uo7_ok⟩
end Go.Proofs.YtkhplflbcgjkcaaGreat
