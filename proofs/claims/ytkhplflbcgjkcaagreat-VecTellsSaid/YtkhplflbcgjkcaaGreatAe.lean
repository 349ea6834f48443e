/- A reckoning of programs by symbols: burnishref02: Pi, minus, Neg, Abs, Sqr; burnishref06.Within. A reckoning of programs by symbols: one way of a function that answers an interval and an error. Walks: burnishref07.Value, Cap are those of lambert. Contracts of burnishref02's calculator, told by ival's functions. -/
import Derived.Test.YtkhplflbcgjkcaaGreatUg
import Derived.Test.YtkhplflbcgjkcaaGreatLm
/-! A reckoning of programs by symbols: burnishref02: Pi, minus, Neg, Abs, Sqr; burnishref06.Within. -/
namespace Go.Proofs.YtkhplflbcgjkcaaGreat
open Go Go.RowKit
set_option linter.unusedSimpArgs false
set_option linter.unusedVariables false
def minusT (b : Nat) : Nat := if Dy.feq b 0 = true then 0 else Op.negFloat .f64 b
def negT (c : Int) (a : Nat × Nat) : (Nat × Nat) × Int := if (offT c (Dy.ivR a)).1 = true then ((0, 0), (offT c (Dy.ivR a)).2) else ((minusT a.2, minusT a.1), (offT c (Dy.ivR a)).2)
def absT (c : Int) (a : Nat × Nat) : (Nat × Nat) × Int :=
 if (offT c (Dy.ivR a)).1 = true then (if (offT c (Dy.ivR a)).2 ≠ 0 then ((0, 0), (offT c (Dy.ivR a)).2) else (a, (offT c (Dy.ivR a)).2))
 else if (Dy.fgt a.1 0 || Dy.feq a.1 0) = true then (if (offT c (Dy.ivR a)).2 ≠ 0 then ((0, 0), (offT c (Dy.ivR a)).2) else (a, (offT c (Dy.ivR a)).2))
 else if (Dy.flt a.2 0 || Dy.feq a.2 0) = true then negT (offT c (Dy.ivR a)).2 a
 else ((0, moreT (minusT a.1) a.2), (offT c (Dy.ivR a)).2)
def sqrT (c : Int) (a : Nat × Nat) : (Nat × Nat) × Int := if (absT c a).2 ≠ 0 then ((0, 0), (absT c a).2) else keepT (absT c a).2 (Dy.dMul (absT c a).1.1 (absT c a).1.1 false).1 (Dy.dMul (absT c a).1.1 (absT c a).1.1 false).2 (Dy.dMul (absT c a).1.2 (absT c a).1.2 true).1 (Dy.dMul (absT c a).1.2 (absT c a).1.2 true).2
def withT (a : Nat × Nat) (lo hi : Nat) : Bool := (Dy.fgt a.1 lo || Dy.feq a.1 lo) && (Dy.flt a.2 hi || Dy.feq a.2 hi)
def uh0 : List (Nat × Ct) := uf16
theorem uh0_ok : AllOk Tryz.prog uh0 := uf16_ok
def ctPi02 : Ct := ⟨0, [], [], { binds := [⟨fun us _ => .f (Dy.ldx (gF us 0) (gI us 1)), 1, [(.l (.f 4843940237547941144)), (.l (.i (-51)))]⟩, ⟨fun us _ => .f (Dy.ldx (gF us 0) (gI us 1)), 1, [(.l (.f 4843940237547941145)), (.l (.i (-51)))]⟩], needs := [⟨nLdx, [(.l (.i (-51)))]⟩, ⟨nLdx, [(.l (.i (-51)))]⟩], val := .agg [.fl (.v 0), .fl (.v 1)], upd := [] }⟩
theorem ctPi02_ok : CtOk Tryz.prog 31 ctPi02 := CtOk.flat uh0_ok (dr_ok uh0_ok) Tryz.func31 rfl (by decide) [] 200 ⟨[.agg [.fl (.v 0), .fl (.v 1)]], [], 2, []⟩ (by kernel_rfl) rfl (by kernel_rfl) rfl (by kernel_rfl) (by kernel_rfl) (by kernel_rfl) (by kernel_rfl)
def uh1 : List (Nat × Ct) := (31, ctPi02) :: uh0
theorem uh1_ok : AllOk Tryz.prog uh1 := ⟨ctPi02_ok, uh0_ok⟩
def ctWith06 : Ct := ⟨4, [], [vp 0 1, vf 2, vf 3], { binds := [⟨fun us i => bRes (withT (gF us 0, gF us 1) (gF us 2) (gF us 3)) i, 1, upto 0 4⟩], needs := [], val := vb 4, upd := [] }⟩
set_option maxRecDepth 100000 in
set_option maxHeartbeats 8000000 in
theorem ctWith06_ok : CtOk Tryz.prog 110 ctWith06 := by
 refine CtOk.of_eval2 uh1_ok (dr_ok uh1_ok) Tryz.func110 rfl (by decide) [] 200 (by kernel_rfl) rfl (.bind ⟨fun us _ => cB (fun a b => Dy.fgt a b || Dy.feq a b) us, 1, [(.v 0), (.v 2)]⟩ (.ite (.v 4) (.bind ⟨fun us _ => cB (fun a b => Dy.flt a b || Dy.feq a b) us, 1, [(.v 1), (.v 3)]⟩ (.done .ret ⟨[.bo (.v 5)], [], 6, []⟩)) (.done .ret ⟨[.bo (.l (.b false))], [], 5, []⟩))) (by kernel_rfl) (by kernel_rfl) (by kernel_rfl) (fun us hl hF hB hN => ?_)
 match us, hl with
 | [u0, u1, u2, u3], _ =>
  simp [FactsB, FactsL, Facts, ctWith06] at hF hB
  simp [NeedsAt, runB, evs, E.ev, upto, resl, List.range, List.range.loop, ctWith06] at hN
  obtain ⟨⟨⟨a1, rfl, wa1⟩, ⟨a2, rfl, wa2⟩⟩, ⟨l, rfl, wl⟩, ⟨h, rfl, wh⟩⟩ := hF
  refine T.HH.h ?_
  obtain ⟨t0, e1⟩ : ∃ t0, (Dy.fgt a1 l || Dy.feq a1 l) = t0 := ⟨_, rfl⟩
  refine T.hbind rfl (congrArg (fun r => [U.b r]) e1) rfl ?_
  refine T.hite (x := t0) ?_ ?_ ?_
  ·rfl
  ·intro c3
   obtain ⟨t3, e4⟩ : ∃ t3, (Dy.flt a2 h || Dy.feq a2 h) = t3 := ⟨_, rfl⟩
   refine T.hbind rfl (congrArg (fun r => [U.b r]) e4) rfl ?_
   refine T.hdone ?_
   have e00 : withT (a1, a2) (l) (h) = t3 := by simp only [withT, e1, c3, e4] <;> simp_all
   exact ⟨(congrArg (fun r => some (bRes r 0)) e00.symm), trivial, rfl⟩
  ·intro c3
   refine T.hdone ?_
   have e00 : withT (a1, a2) (l) (h) = false := by simp only [withT, e1, c3] <;> simp_all
   exact ⟨(congrArg (fun r => some (bRes r 0)) e00.symm), trivial, rfl⟩
def uh2 : List (Nat × Ct) := (110, ctWith06) :: uh1
theorem uh2_ok : AllOk Tryz.prog uh2 := ⟨ctWith06_ok, uh1_ok⟩
def ctPoint : Ct := ⟨1, [], [vf 0], { binds := [⟨fun us _ => fB Ieee.double.add us, 1, [(.v 0), (.l (.f 0))]⟩, ⟨fun us _ => fB Ieee.double.add us, 1, [(.v 0), (.l (.f 0))]⟩], needs := [⟨fN Ieee.double.add, [(.v 0), (.l (.f 0))]⟩, ⟨fN Ieee.double.add, [(.v 0), (.l (.f 0))]⟩], val := .agg [.fl (.v 1), .fl (.v 2)], upd := [] }⟩
theorem ctPoint_ok : CtOk Tryz.prog 114 ctPoint := CtOk.flat uh2_ok (dr_ok uh2_ok) Tryz.func114 rfl (by decide) [] 200 ⟨[.agg [.fl (.v 1), .fl (.v 2)]], [], 3, []⟩ (by kernel_rfl) rfl (by kernel_rfl) rfl (by kernel_rfl) (by kernel_rfl) (by kernel_rfl) (by kernel_rfl)
def uh3 : List (Nat × Ct) := (114, ctPoint) :: uh2
theorem uh3_ok : AllOk Tryz.prog uh3 := ⟨ctPoint_ok, uh2_ok⟩
def ctMinusT : Ct := ⟨1, [], [vf 0], { binds := [⟨fun us i => fRes (minusT (gF us 0)) i, 1, upto 0 1⟩], needs := [], val := vf 1, upd := [] }⟩
set_option maxRecDepth 100000 in
set_option maxHeartbeats 8000000 in
theorem ctMinusT_ok : CtOk Tryz.prog 137 ctMinusT := by
 refine CtOk.of_eval2 uh3_ok (dr_ok uh3_ok) Tryz.func137 rfl (by decide) [] 200 (by kernel_rfl) rfl (.bind ⟨fun us _ => cB Dy.feq us, 1, [(.v 0), (.l (.f 0))]⟩ (.ite (.v 1) (.done .ret ⟨[.fl (.l (.f 0))], [], 2, []⟩) (.bind ⟨fun us _ => mF us, 1, [(.v 0)]⟩ (.need ⟨mN, [(.v 0)]⟩ (.done .ret ⟨[.fl (.v 2)], [], 3, []⟩))))) (by kernel_rfl) (by kernel_rfl) (by kernel_rfl) (fun us hl hF hB hN => ?_)
 match us, hl with
 | [u0], _ =>
  simp [FactsB, FactsL, Facts, ctMinusT] at hF hB
  simp [NeedsAt, runB, evs, E.ev, upto, resl, List.range, List.range.loop, ctMinusT] at hN
  obtain ⟨a1, rfl, wa1⟩ := hF
  refine T.HH.h ?_
  obtain ⟨t0, e1⟩ : ∃ t0, (Dy.feq a1 0) = t0 := ⟨_, rfl⟩
  refine T.hbind rfl (congrArg (fun r => [U.b r]) e1) rfl ?_
  refine T.hite (x := t0) ?_ ?_ ?_
  ·rfl
  ·intro c3
   refine T.hdone ?_
   have e00 : minusT (a1) = 0 := by simp only [minusT, e1, c3] <;> simp_all
   exact ⟨(congrArg (fun r => some (fRes r 0)) e00.symm), trivial, rfl⟩
  ·intro c3
   obtain ⟨t3, e4⟩ : ∃ t3, (Op.negFloat .f64 a1) = t3 := ⟨_, rfl⟩
   refine T.hbind rfl (congrArg (fun r => [U.f r]) e4) rfl ?_
   refine T.hneed rfl (hneg wa1) ?_
   refine T.hdone ?_
   have e00 : minusT (a1) = t3 := by simp only [minusT, e1, c3, e4] <;> simp_all
   exact ⟨(congrArg (fun r => some (fRes r 0)) e00.symm), trivial, rfl⟩
def uh4 : List (Nat × Ct) := (137, ctMinusT) :: uh3
theorem uh4_ok : AllOk Tryz.prog uh4 := ⟨ctMinusT_ok, uh3_ok⟩
def ctNegT : Ct := ⟨3, [[vi .i64 0]], [.ptr 0 0, vp 1 2], { binds := [⟨fun us i => calR (negT (gI us 0) (gF us 1, gF us 2)) i, 3, upto 0 3⟩], needs := [], val := vp 3 4, upd := [(0, [vi .i64 5])] }⟩
set_option maxRecDepth 100000 in
set_option maxHeartbeats 8000000 in
theorem ctNegT_ok : CtOk Tryz.prog 81 ctNegT := by
 refine CtOk.of_eval2 uh4_ok (dr_ok uh4_ok) Tryz.func81 rfl (by decide) [] 200 (by kernel_rfl) rfl (.bind ⟨fun us i => offU (offT (gI us 0) (Dy.ivR (gF us 1, gF us 2))) i, 2, [(.v 0), (.v 1), (.v 2)]⟩ (.ite (.v 3) (.done .ret ⟨[.agg [.fl (.l (.f 0)), .fl (.l (.f 0))]], [some ([.it .i64 (.v 4)])], 5, [0]⟩) (.bind ⟨fun us i => fRes (minusT (gF us 0)) i, 1, [(.v 2)]⟩ (.bind ⟨fun us i => fRes (minusT (gF us 0)) i, 1, [(.v 1)]⟩ (.done .ret ⟨[.agg [.fl (.v 5), .fl (.v 6)]], [some ([.it .i64 (.v 4)])], 7, [0]⟩))))) (by kernel_rfl) (by kernel_rfl) (by kernel_rfl) (fun us hl hF hB hN => ?_)
 match us, hl with
 | [u0, u1, u2], _ =>
  simp [FactsB, FactsL, Facts, ctNegT] at hF hB
  simp [NeedsAt, runB, evs, E.ev, upto, resl, List.range, List.range.loop, ctNegT] at hN
  obtain ⟨⟨a1, rfl, wa1⟩, ⟨a2, rfl, wa2⟩⟩ := hF
  obtain ⟨e, rfl⟩ := hB
  refine T.HH.h ?_
  obtain ⟨t0, t1, e2⟩ := Dy.ex2 (offT (e) (Dy.ivR (a1, a2)))
  refine T.hbind rfl (congrArg (fun r => [offU r 0, offU r 1]) e2) rfl ?_
  refine T.hite (x := t0) ?_ ?_ ?_
  ·rfl
  ·intro c4
   refine T.hdone ?_
   have e00 : negT (e) (a1, a2) = ((0, 0), t1) := by simp only [negT, e2, c4] <;> simp_all
   exact ⟨⟨(congrArg (fun r => some (calR r 0)) e00.symm), (congrArg (fun r => some (calR r 1)) e00.symm), trivial⟩, ⟨⟨⟨rfl, (congrArg (fun r => some (calR r 2)) e00.symm)⟩, trivial⟩, trivial⟩, rfl⟩
  ·intro c4
   obtain ⟨t4, e5⟩ : ∃ t4, ((minusT (a2))) = t4 := ⟨_, rfl⟩
   refine T.hbind rfl (congrArg (fun r => [U.f r]) e5) rfl ?_
   obtain ⟨t6, e7⟩ : ∃ t6, ((minusT (a1))) = t6 := ⟨_, rfl⟩
   refine T.hbind rfl (congrArg (fun r => [U.f r]) e7) rfl ?_
   refine T.hdone ?_
   have e00 : negT (e) (a1, a2) = ((t4, t6), t1) := by simp only [negT, e2, c4, e5, e7] <;> simp_all
   exact ⟨⟨(congrArg (fun r => some (calR r 0)) e00.symm), (congrArg (fun r => some (calR r 1)) e00.symm), trivial⟩, ⟨⟨⟨rfl, (congrArg (fun r => some (calR r 2)) e00.symm)⟩, trivial⟩, trivial⟩, rfl⟩
def uh5 : List (Nat × Ct) := (81, ctNegT) :: uh4
theorem uh5_ok : AllOk Tryz.prog uh5 := ⟨ctNegT_ok, uh4_ok⟩
def ctAbsT2 : Ct := ⟨3, [[vi .i64 0]], [.ptr 0 0, vp 1 2], { binds := [⟨fun us i => calR (absT (gI us 0) (gF us 1, gF us 2)) i, 3, upto 0 3⟩], needs := [], val := vp 3 4, upd := [(0, [vi .i64 5])] }⟩
set_option maxRecDepth 100000 in
set_option maxHeartbeats 8000000 in
theorem ctAbsT2_ok : CtOk Tryz.prog 82 ctAbsT2 := by
 refine CtOk.of_eval2 uh5_ok (dr_ok uh5_ok) Tryz.func82 rfl (by decide) [] 200 (by kernel_rfl) rfl (.bind ⟨fun us i => offU (offT (gI us 0) (Dy.ivR (gF us 1, gF us 2))) i, 2, [(.v 0), (.v 1), (.v 2)]⟩ (.ite (.v 3) (.bind ⟨fun us _ => jB (fun a b => a != b) us, 1, [(.v 4), (.l (.i 0))]⟩ (.ite (.v 5) (.done .ret ⟨[.agg [.fl (.l (.f 0)), .fl (.l (.f 0))]], [some ([.it .i64 (.v 4)])], 6, [0]⟩) (.done .ret ⟨[.agg [.fl (.v 1), .fl (.v 2)]], [some ([.it .i64 (.v 4)])], 6, [0]⟩))) (.bind ⟨fun us _ => cB (fun a b => Dy.fgt a b || Dy.feq a b) us, 1, [(.v 1), (.l (.f 0))]⟩ (.ite (.v 5) (.bind ⟨fun us _ => jB (fun a b => a != b) us, 1, [(.v 4), (.l (.i 0))]⟩ (.ite (.v 6) (.done .ret ⟨[.agg [.fl (.l (.f 0)), .fl (.l (.f 0))]], [some ([.it .i64 (.v 4)])], 7, [0]⟩) (.done .ret ⟨[.agg [.fl (.v 1), .fl (.v 2)]], [some ([.it .i64 (.v 4)])], 7, [0]⟩))) (.bind ⟨fun us _ => cB (fun a b => Dy.flt a b || Dy.feq a b) us, 1, [(.v 2), (.l (.f 0))]⟩ (.ite (.v 6) (.bind ⟨fun us i => calR (negT (gI us 0) (gF us 1, gF us 2)) i, 3, [(.v 4), (.v 1), (.v 2)]⟩ (.done .ret ⟨[.agg [.fl (.v 7), .fl (.v 8)]], [some ([.it .i64 (.v 9)])], 10, [0, 0]⟩)) (.bind ⟨fun us i => fRes (minusT (gF us 0)) i, 1, [(.v 1)]⟩ (.bind ⟨fun us i => fRes (moreT (gF us 0) (gF us 1)) i, 1, [(.v 7), (.v 2)]⟩ (.done .ret ⟨[.agg [.fl (.l (.f 0)), .fl (.v 8)]], [some ([.it .i64 (.v 4)])], 9, [0]⟩))))))))) (by kernel_rfl) (by kernel_rfl) (by kernel_rfl) (fun us hl hF hB hN => ?_)
 match us, hl with
 | [u0, u1, u2], _ =>
  simp [FactsB, FactsL, Facts, ctAbsT2] at hF hB
  simp [NeedsAt, runB, evs, E.ev, upto, resl, List.range, List.range.loop, ctAbsT2] at hN
  obtain ⟨⟨a1, rfl, wa1⟩, ⟨a2, rfl, wa2⟩⟩ := hF
  obtain ⟨e, rfl⟩ := hB
  refine T.HH.h ?_
  obtain ⟨t0, t1, e2⟩ := Dy.ex2 (offT (e) (Dy.ivR (a1, a2)))
  refine T.hbind (ρ' := [.i e, .f a1, .f a2, .b t0, .i t1]) rfl (congrArg (fun r => [offU r 0, offU r 1]) e2) rfl ?_
  refine T.hite (x := t0) ?_ ?_ ?_
  ·rfl
  ·intro c4
   obtain ⟨t4, e5⟩ : ∃ t4, (t1 != 0) = t4 := ⟨_, rfl⟩
   refine T.hbind rfl (congrArg (fun r => [U.b r]) e5) rfl ?_
   refine T.hite (x := t4) ?_ ?_ ?_
   ·rfl
   ·intro c7
    refine T.hdone ?_
    have e00 : absT (e) (a1, a2) = ((0, 0), t1) := by simp only [absT, e2, c4, e5, c7] <;> simp_all
    exact ⟨⟨(congrArg (fun r => some (calR r 0)) e00.symm), (congrArg (fun r => some (calR r 1)) e00.symm), trivial⟩, ⟨⟨⟨rfl, (congrArg (fun r => some (calR r 2)) e00.symm)⟩, trivial⟩, trivial⟩, rfl⟩
   ·intro c7
    refine T.hdone ?_
    have e00 : absT (e) (a1, a2) = ((a1, a2), t1) := by simp only [absT, e2, c4, e5, c7] <;> simp_all
    exact ⟨⟨(congrArg (fun r => some (calR r 0)) e00.symm), (congrArg (fun r => some (calR r 1)) e00.symm), trivial⟩, ⟨⟨⟨rfl, (congrArg (fun r => some (calR r 2)) e00.symm)⟩, trivial⟩, trivial⟩, rfl⟩
  ·intro c4
   obtain ⟨t7, e8⟩ : ∃ t7, (Dy.fgt a1 0 || Dy.feq a1 0) = t7 := ⟨_, rfl⟩
   refine T.hbind rfl (congrArg (fun r => [U.b r]) e8) rfl ?_
   refine T.hite (x := t7) ?_ ?_ ?_
   ·rfl
   ·intro c10
    obtain ⟨t10, e11⟩ : ∃ t10, (t1 != 0) = t10 := ⟨_, rfl⟩
    refine T.hbind rfl (congrArg (fun r => [U.b r]) e11) rfl ?_
    refine T.hite (x := t10) ?_ ?_ ?_
    ·rfl
    ·intro c13
     refine T.hdone ?_
     have e00 : absT (e) (a1, a2) = ((0, 0), t1) := by simp only [absT, e2, c4, e8, c10, e11, c13] <;> simp_all
     exact ⟨⟨(congrArg (fun r => some (calR r 0)) e00.symm), (congrArg (fun r => some (calR r 1)) e00.symm), trivial⟩, ⟨⟨⟨rfl, (congrArg (fun r => some (calR r 2)) e00.symm)⟩, trivial⟩, trivial⟩, rfl⟩
    ·intro c13
     refine T.hdone ?_
     have e00 : absT (e) (a1, a2) = ((a1, a2), t1) := by simp only [absT, e2, c4, e8, c10, e11, c13] <;> simp_all
     exact ⟨⟨(congrArg (fun r => some (calR r 0)) e00.symm), (congrArg (fun r => some (calR r 1)) e00.symm), trivial⟩, ⟨⟨⟨rfl, (congrArg (fun r => some (calR r 2)) e00.symm)⟩, trivial⟩, trivial⟩, rfl⟩
   ·intro c10
    obtain ⟨t13, e14⟩ : ∃ t13, (Dy.flt a2 0 || Dy.feq a2 0) = t13 := ⟨_, rfl⟩
    refine T.hbind rfl (congrArg (fun r => [U.b r]) e14) rfl ?_
    refine T.hite (x := t13) ?_ ?_ ?_
    ·rfl
    ·intro c16
     obtain ⟨t16, t17, t18, e19⟩ := Dy.ex3 (negT (t1) (a1, a2))
     refine T.hbind rfl (congrArg (fun r => [calR r 0, calR r 1, calR r 2]) e19) rfl ?_
     refine T.hdone ?_
     have e00 : absT (e) (a1, a2) = ((t16, t17), t18) := by simp only [absT, e2, c4, e8, c10, e14, c16, e19] <;> simp_all
     exact ⟨⟨(congrArg (fun r => some (calR r 0)) e00.symm), (congrArg (fun r => some (calR r 1)) e00.symm), trivial⟩, ⟨⟨⟨rfl, (congrArg (fun r => some (calR r 2)) e00.symm)⟩, trivial⟩, trivial⟩, rfl⟩
    ·intro c16
     obtain ⟨t20, e21⟩ : ∃ t20, ((minusT (a1))) = t20 := ⟨_, rfl⟩
     refine T.hbind rfl (congrArg (fun r => [U.f r]) e21) rfl ?_
     obtain ⟨t22, e23⟩ : ∃ t22, ((moreT (t20) (a2))) = t22 := ⟨_, rfl⟩
     refine T.hbind rfl (congrArg (fun r => [U.f r]) e23) rfl ?_
     refine T.hdone ?_
     have e00 : absT (e) (a1, a2) = ((0, t22), t1) := by simp only [absT, e2, c4, e8, c10, e14, c16, e21, e23] <;> simp_all
     exact ⟨⟨(congrArg (fun r => some (calR r 0)) e00.symm), (congrArg (fun r => some (calR r 1)) e00.symm), trivial⟩, ⟨⟨⟨rfl, (congrArg (fun r => some (calR r 2)) e00.symm)⟩, trivial⟩, trivial⟩, rfl⟩
def uh6 : List (Nat × Ct) := (82, ctAbsT2) :: uh5
theorem uh6_ok : AllOk Tryz.prog uh6 := ⟨ctAbsT2_ok, uh5_ok⟩
def ctSqrT : Ct := ⟨3, [[vi .i64 0]], [.ptr 0 0, vp 1 2], { binds := [⟨fun us i => calR (sqrT (gI us 0) (gF us 1, gF us 2)) i, 3, upto 0 3⟩], needs := [], val := vp 3 4, upd := [(0, [vi .i64 5])] }⟩
set_option maxRecDepth 100000 in
set_option maxHeartbeats 8000000 in
theorem ctSqrT_ok : CtOk Tryz.prog 79 ctSqrT := by
 refine CtOk.of_eval2 uh6_ok (dr_ok uh6_ok) Tryz.func79 rfl (by decide) [] 200 (by kernel_rfl) rfl (.bind ⟨fun us i => calR (absT (gI us 0) (gF us 1, gF us 2)) i, 3, [(.v 0), (.v 1), (.v 2)]⟩ (.bind ⟨fOp2 Dy.dMul, 2, [(.v 3), (.v 3), (.l (.b false))]⟩ (.bind ⟨fOp2 Dy.dMul, 2, [(.v 4), (.v 4), (.l (.b true))]⟩ (.bind ⟨fun us _ => jB (fun a b => a != b) us, 1, [(.v 5), (.l (.i 0))]⟩ (.ite (.v 10) (.done .ret ⟨[.agg [.fl (.l (.f 0)), .fl (.l (.f 0))]], [some ([.it .i64 (.v 5)])], 11, [0]⟩) (.bind ⟨fun us i => calR (keepT (gI us 0) (gF us 1) (gI us 2) (gF us 3) (gI us 4)) i, 3, [(.v 5), (.v 6), (.v 7), (.v 8), (.v 9)]⟩ (.done .ret ⟨[.agg [.fl (.v 11), .fl (.v 12)]], [some ([.it .i64 (.v 13)])], 14, [0, 0]⟩))))))) (by kernel_rfl) (by kernel_rfl) (by kernel_rfl) (fun us hl hF hB hN => ?_)
 match us, hl with
 | [u0, u1, u2], _ =>
  simp [FactsB, FactsL, Facts, ctSqrT] at hF hB
  simp [NeedsAt, runB, evs, E.ev, upto, resl, List.range, List.range.loop, ctSqrT] at hN
  obtain ⟨⟨a1, rfl, wa1⟩, ⟨a2, rfl, wa2⟩⟩ := hF
  obtain ⟨e, rfl⟩ := hB
  refine T.HH.h ?_
  obtain ⟨t0, t1, t2, e3⟩ := Dy.ex3 (absT (e) (a1, a2))
  refine T.hbind (ρ' := [.i e, .f a1, .f a2, .f t0, .f t1, .i t2]) rfl (congrArg (fun r => [calR r 0, calR r 1, calR r 2]) e3) rfl ?_
  obtain ⟨t4, t5, e6⟩ := Dy.ex2 (Dy.dMul t0 t0 false)
  refine T.hbind rfl (congrArg (fun r : Nat × Int => [U.f r.1, U.i r.2]) e6) rfl ?_
  obtain ⟨t7, t8, e9⟩ := Dy.ex2 (Dy.dMul t1 t1 true)
  refine T.hbind rfl (congrArg (fun r : Nat × Int => [U.f r.1, U.i r.2]) e9) rfl ?_
  obtain ⟨t10, e11⟩ : ∃ t10, (t2 != 0) = t10 := ⟨_, rfl⟩
  refine T.hbind rfl (congrArg (fun r => [U.b r]) e11) rfl ?_
  refine T.hite (x := t10) ?_ ?_ ?_
  ·rfl
  ·intro c13
   refine T.hdone ?_
   have e00 : sqrT (e) (a1, a2) = ((0, 0), t2) := by simp only [sqrT, e3, e6, e9, e11, c13] <;> simp_all
   exact ⟨⟨(congrArg (fun r => some (calR r 0)) e00.symm), (congrArg (fun r => some (calR r 1)) e00.symm), trivial⟩, ⟨⟨⟨rfl, (congrArg (fun r => some (calR r 2)) e00.symm)⟩, trivial⟩, trivial⟩, rfl⟩
  ·intro c13
   obtain ⟨t13, t14, t15, e16⟩ := Dy.ex3 (keepT (t2) (t4) (t5) (t7) (t8))
   refine T.hbind rfl (congrArg (fun r => [calR r 0, calR r 1, calR r 2]) e16) rfl ?_
   refine T.hdone ?_
   have e00 : sqrT (e) (a1, a2) = ((t13, t14), t15) := by simp only [sqrT, e3, e6, e9, e11, c13, e16] <;> simp_all
   exact ⟨⟨(congrArg (fun r => some (calR r 0)) e00.symm), (congrArg (fun r => some (calR r 1)) e00.symm), trivial⟩, ⟨⟨⟨rfl, (congrArg (fun r => some (calR r 2)) e00.symm)⟩, trivial⟩, trivial⟩, rfl⟩
def uh7 : List (Nat × Ct) := (79, ctSqrT) :: uh6
theorem uh7_ok : AllOk Tryz.prog uh7 := ⟨ctSqrT_ok, uh6_ok⟩
end Go.Proofs.YtkhplflbcgjkcaaGreat
/-! A reckoning of programs by symbols: one way of a function that answers an interval and an error. -/
namespace Go.Proofs.YtkhplflbcgjkcaaGreat
set_option linter.unusedVariables false
set_option linter.unusedSimpArgs false
open Go Go.RowKit
end Go.Proofs.YtkhplflbcgjkcaaGreat
/-! Walks: burnishref07.Value, Cap are those of lambert. -/
namespace Go.Proofs.YtkhplflbcgjkcaaGreat
open Go Go.RowKit
set_option linter.unusedSimpArgs false
set_option linter.unusedVariables false
open Dy
theorem minusT_eq {b : Nat} (hb : Dy.W b) (rb : right b = true) : minusT b = minus b := by
 have h : feq b 0 = decide (b = 0) := feq_right hb rb
 unfold minusT
 rw [h, neg_bits hb]
 unfold minus
 by_cases b0 : b = 0
 ·subst b0; rfl
 ·rw [if_neg (by simpa using b0), if_neg b0]
  by_cases h63 : b < 2 ^ 63
  ·rw [if_pos h63, if_pos h63]; omega
  ·rw [if_neg h63, if_neg h63]
theorem dmax_comm {x y : Nat} (hx : Dy.W x) (hy : Dy.W y) (rx : right x = true) (ry : right y = true) : dmax x y = dmax y x := by
 unfold dmax
 rcases Int.lt_trichotomy (dec x) (dec y) with h | h | h
 ·rw [if_pos h, if_neg (by omega)]
 ·rw [if_neg (by omega), if_neg (by omega), ← enc_of_dec hx rx, ← enc_of_dec hy ry, h]
 ·rw [if_neg (by omega), if_pos h]
theorem absT_eq {a : Nat × Nat} (ha : WW a) (h : ivR a = true) : absT 0 a = (iBare a, 0) := by
 obtain ⟨a1, a2, a3⟩ := ivR_of h
 have e : offT 0 (ivR a) = (false, 0) := by rw [h]; rfl
 have f1 : (fgt a.1 0 || feq a.1 0) = decide (0 ≤ dec a.1) := fge_dec ha.1 W_zero a1 right_zero
 have f2 : (flt a.2 0 || feq a.2 0) = decide (dec a.2 ≤ 0) := fle_dec ha.2 W_zero a2 right_zero
 unfold absT negT iBare iTurned
 rw [e]
 dsimp only
 rw [e, f1, f2, minusT_eq ha.1 a1, minusT_eq ha.2 a2]
 dsimp only
 obtain ⟨m1, m2, m3⟩ := minus_dec ha.1 a1
 rw [moreT_eq m3 ha.2 m1 a2, dmax_comm m3 ha.2 m1 a2]
 by_cases d1 : 0 ≤ dec a.1
 ·rw [decide_eq_true d1, if_pos d1]; simp
 ·rw [decide_eq_false d1, if_neg d1]
  by_cases d2 : dec a.2 ≤ 0
  ·rw [decide_eq_true d2, if_pos d2]; simp
  ·rw [decide_eq_false d2, if_neg d2]; simp
theorem sqrT_eq (c : Int) {a : Nat × Nat} (ha : WW a) : sqrT c a = cSqr c a := by
 unfold sqrT cSqr
 obtain ⟨k1, k2, k3⟩ := @ask_no c (ivR a) (iEnds (dMul (iBare a).1 (iBare a).1 false) (dMul (iBare a).2 (iBare a).2 true))
 rcases offT_cases c (ivR a) with ⟨h, e⟩ | ⟨h, h2, e⟩ | ⟨h, h2, e⟩
 ·have : absT c a = ((0, 0), c) := by unfold absT; rw [e]; simp [h]
  rw [this, k1 h]; simp [h]
 ·have : absT c a = ((0, 0), 20) := by unfold absT; rw [e]; simp
  rw [this, k2 h h2]; simp
 ·subst h
  rw [absT_eq ha h2, k3 rfl h2, if_neg (by simp)]
  exact keep_ends _ _
end Go.Proofs.YtkhplflbcgjkcaaGreat
/-! Contracts of burnishref02's calculator, told by ival's functions. -/
namespace Go.Proofs.YtkhplflbcgjkcaaGreat
open Go Go.RowKit
set_option linter.unusedSimpArgs false
set_option linter.unusedVariables false
theorem CtOk.swap {P : Program} {f m k : Nat} {blks : List (List AV)} {args : List AV} {F G : List U → Nat → U} {N : List Need} {val : AV} {upd : List (Nat × List AV)} (h : CtOk P f ⟨m, blks, args, { binds := [⟨F, k, upto 0 m⟩], needs := [], val := val, upd := upd }⟩)
  (e : ∀ ρ us : List U, evs ρ (upto 0 m) = some us → m ≤ ρ.length → FactsL ρ args → NeedsAt ρ N → ∀ i, F us i = G us i) : CtOk P f ⟨m, blks, args, { binds := [⟨G, k, upto 0 m⟩], needs := N, val := val, upd := upd }⟩ := by
 refine ⟨fun β ρ w vs a b c d hv hm hb hn => ?_⟩
 obtain ⟨⟨us, h1, h2⟩, h3⟩ := hb
 have ee := e ρ us h1 hm (denL_facts _ hv) hn
 refine (h.call β ρ w vs a b c d hv hm ⟨⟨us, h1, fun i hi => ?_⟩, h3⟩ (fun n hn => by cases hn)).mono fun e w' ⟨β', v, p, q⟩ => ⟨β', v, ⟨p.os, p.tape, p.output, p.size, p.old, p.upd, p.new⟩, q⟩
 rw [show (⟨F, k, upto 0 m⟩ : Bind).f us i = F us i from rfl, ee i]; exact h2 i hi
theorem ctC2_swap {f : Nat} {g h : Int → Nat × Nat → Nat × Nat → (Nat × Nat) × Int} (H : CtOk Tryz.prog f ⟨5, [[vi .i64 0]], [.ptr 0 0, vp 1 2, vp 3 4], { binds := [⟨fun us i => calR (g (gI us 0) (gF us 1, gF us 2) (gF us 3, gF us 4)) i, 3, upto 0 5⟩], needs := [], val := vp 5 6, upd := [(0, [vi .i64 7])] }⟩)
  (e : ∀ c a b, Dy.WW a → Dy.WW b → g c a b = h c a b) : CtOk Tryz.prog f (ctC2 h) := by
 refine CtOk.swap H fun ρ us h1 hm hF _ i => ?_
 match ρ, hm with
 | u0 :: u1 :: u2 :: u3 :: u4 :: l, _ =>
  simp [evs, upto, E.ev] at h1
  subst h1
  simp [FactsL, Facts] at hF
  obtain ⟨⟨⟨a1, rfl, wa1⟩, ⟨a2, rfl, wa2⟩⟩, ⟨b1, rfl, wb1⟩, ⟨b2, rfl, wb2⟩⟩ := hF
  exact congrArg (fun r => calR r i) (e _ _ _ ⟨wa1, wa2⟩ ⟨wb1, wb2⟩)
theorem ctC1_swap {f : Nat} {g h : Int → Nat × Nat → (Nat × Nat) × Int} (H : CtOk Tryz.prog f ⟨3, [[vi .i64 0]], [.ptr 0 0, vp 1 2], { binds := [⟨fun us i => calR (g (gI us 0) (gF us 1, gF us 2)) i, 3, upto 0 3⟩], needs := [], val := vp 3 4, upd := [(0, [vi .i64 5])] }⟩)
  (e : ∀ c a, Dy.WW a → g c a = h c a) : CtOk Tryz.prog f (ctC1 h) := by
 refine CtOk.swap H fun ρ us h1 hm hF _ i => ?_
 match ρ, hm with
 | u0 :: u1 :: u2 :: l, _ =>
  simp [evs, upto, E.ev] at h1
  subst h1
  simp [FactsL, Facts] at hF
  obtain ⟨⟨a1, rfl, wa1⟩, ⟨a2, rfl, wa2⟩⟩ := hF
  exact congrArg (fun r => calR r i) (e _ _ ⟨wa1, wa2⟩)
theorem ctC0_swap {f : Nat} {g h : Int → Nat → (Nat × Nat) × Int} (H : CtOk Tryz.prog f ⟨2, [[vi .i64 0]], [.ptr 0 0, vf 1], { binds := [⟨fun us i => calR (g (gI us 0) (gF us 1)) i, 3, upto 0 2⟩], needs := [], val := vp 2 3, upd := [(0, [vi .i64 4])] }⟩)
  (e : ∀ c a, Dy.W a → g c a = h c a) : CtOk Tryz.prog f (ctC0 h) := by
 refine CtOk.swap H fun ρ us h1 hm hF _ i => ?_
 match ρ, hm with
 | u0 :: u1 :: l, _ =>
  simp [evs, upto, E.ev] at h1
  subst h1
  simp [FactsL, Facts] at hF
  obtain ⟨a1, rfl, wa1⟩ := hF
  exact congrArg (fun r => calR r i) (e _ _ wa1)
theorem maxT_eq (c : Int) {a b : Nat × Nat} (ha : Dy.WW a) (hb : Dy.WW b) : maxT c a b = Dy.cMax c a b := by
 unfold maxT Dy.cMax
 refine off_any (fun e => ((moreT a.1 b.1, moreT a.2 b.2), e)) fun _ h2 => ?_
 rw [Bool.and_eq_true] at h2
 obtain ⟨a1, a2, _⟩ := Dy.ivR_of h2.1
 obtain ⟨b1, b2, _⟩ := Dy.ivR_of h2.2
 rw [moreT_eq ha.1 hb.1 a1 b1, moreT_eq ha.2 hb.2 a2 b2]; rfl
theorem addT_ct : CtOk Tryz.prog 74 (ctC2 Dy.cAdd) := ctC2_swap ctAddT_ok fun c a b _ _ => addT_eq c a b
theorem subT_ct : CtOk Tryz.prog 75 (ctC2 Dy.cSub) := ctC2_swap ctSubT_ok fun c a b _ _ => subT_eq c a b
theorem mulT_ct : CtOk Tryz.prog 52 (ctC2 Dy.cMul) := ctC2_swap ctMulT_ok fun c a b _ _ => mulT_eq c a b
theorem divT_ct : CtOk Tryz.prog 76 (ctC2 Dy.cDiv) := ctC2_swap ctDivT_ok fun c a b _ hb => divT_eq c hb
theorem maxT_ct : CtOk Tryz.prog 78 (ctC2 Dy.cMax) := ctC2_swap ctMaxT_ok fun c a b ha hb => maxT_eq c ha hb
theorem sqrT_ct : CtOk Tryz.prog 79 (ctC1 Dy.cSqr) := ctC1_swap ctSqrT_ok fun c a ha => sqrT_eq c ha
theorem sqrtT_ct : CtOk Tryz.prog 80 (ctC1 Dy.cSqrt) := ctC1_swap ctSqrtT_ok fun c a _ => sqrtT_eq c a
theorem numT_ct : CtOk Tryz.prog 53 (ctC0 Dy.cNum) := ctC0_swap ctNumT_ok fun c a ha => numT_eq c ha
def uN0 : List (Nat × Ct) := (74, ctC2 Dy.cAdd) :: (75, ctC2 Dy.cSub) :: (52, ctC2 Dy.cMul) :: (76, ctC2 Dy.cDiv) :: (78, ctC2 Dy.cMax) :: (79, ctC1 Dy.cSqr) :: (80, ctC1 Dy.cSqrt) :: (53, ctC0 Dy.cNum) :: uh7
theorem uN0_ok : AllOk Tryz.prog uN0 := ⟨addT_ct, subT_ct, mulT_ct, divT_ct, maxT_ct, sqrT_ct, sqrtT_ct, numT_ct, uh7_ok⟩
end Go.Proofs.YtkhplflbcgjkcaaGreat
