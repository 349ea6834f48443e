/- A reckoning of programs by symbols: burnishref02: Pi, minus, Neg, Abs, Sqr; burnishref06.Within. A reckoning of programs by symbols: one way of a function that answers an interval and an error. Walks: ways of burnishref07.Value, Cap. -/
import Derived.Test.YtnbdjpnnagpldaaGreatUg
/-! A reckoning of programs by symbols: burnishref02: Pi, minus, Neg, Abs, Sqr; burnishref06.Within. -/
namespace Go.Proofs.YtnbdjpnnagpldaaGreat
open Go Go.RowKit
set_option linter.unusedSimpArgs false
set_option linter.unusedVariables false

def minusT (b : Nat) : Nat := if Dy.feq b 0 = true then 0 else Op.negFloat .f64 b
def negT (c : Int) (a : Nat × Nat) : (Nat × Nat) × Int := if (offT c (Dy.ivR a)).1 = true then ((0, 0), (offT c (Dy.ivR a)).2) else ((minusT a.2, minusT a.1), (offT c (Dy.ivR a)).2)
def absT (c : Int) (a : Nat × Nat) : (Nat × Nat) × Int :=
  if (offT c (Dy.ivR a)).1 = true then (if (offT c (Dy.ivR a)).2 ≠ 0 then ((0, 0), (offT c (Dy.ivR a)).2) else (a, (offT c (Dy.ivR a)).2))
  else if (Dy.fgt a.1 0 || Dy.feq a.1 0) = true then (if (offT c (Dy.ivR a)).2 ≠ 0 then ((0, 0), (offT c (Dy.ivR a)).2) else (a, (offT c (Dy.ivR a)).2))
  else if (Dy.flt a.2 0 || Dy.feq a.2 0) = true then negT (offT c (Dy.ivR a)).2 a
  else ((0, moreT (minusT a.1) a.2), (offT c (Dy.ivR a)).2)
def sqrT (c : Int) (a : Nat × Nat) : (Nat × Nat) × Int := if (absT c a).2 ≠ 0 then ((0, 0), (absT c a).2) else keepT (absT c a).2 (Dy.dMul (absT c a).1.1 (absT c a).1.1 false).1 (Dy.dMul (absT c a).1.1 (absT c a).1.1 false).2 (Dy.dMul (absT c a).1.2 (absT c a).1.2 true).1 (Dy.dMul (absT c a).1.2 (absT c a).1.2 true).2
def withT (a : Nat × Nat) (lo hi : Nat) : Bool := (Dy.fgt a.1 lo || Dy.feq a.1 lo) && (Dy.flt a.2 hi || Dy.feq a.2 hi)
def uh0 : List (Nat × Ct) := uf16
theorem uh0_ok : AllOk Tryz.prog uh0 := uf16_ok
def ctPi02 : Ct := ⟨0, [], [], { binds := [⟨fun us _ => .f (Dy.ldx (gF us 0) (gI us 1)), 1, [(.l (.f 4843940237547941144)), (.l (.i (-51)))]⟩, ⟨fun us _ => .f (Dy.ldx (gF us 0) (gI us 1)), 1, [(.l (.f 4843940237547941145)), (.l (.i (-51)))]⟩], needs := [⟨nLdx, [(.l (.i (-51)))]⟩, ⟨nLdx, [(.l (.i (-51)))]⟩], val := .agg [.fl (.v 0), .fl (.v 1)], upd := [] }⟩
theorem ctPi02_ok : CtOk Tryz.prog 34 ctPi02 := CtOk.flat uh0_ok (dr_ok uh0_ok) Tryz.func34 rfl (by decide) [] 200 ⟨[.agg [.fl (.v 0), .fl (.v 1)]], [], 2, []⟩ (by kernel_rfl) rfl (by kernel_rfl) rfl (by kernel_rfl) (by kernel_rfl) (by kernel_rfl) (by kernel_rfl)

def uh1 : List (Nat × Ct) := (34, ctPi02) :: uh0
theorem uh1_ok : AllOk Tryz.prog uh1 := ⟨ctPi02_ok, uh0_ok⟩

def ctWith06 : Ct := ⟨4, [], [vp 0 1, vf 2, vf 3], { binds := [⟨fun us i => bRes (withT (gF us 0, gF us 1) (gF us 2) (gF us 3)) i, 1, upto 0 4⟩], needs := [], val := vb 4, upd := [] }⟩
set_option maxRecDepth 100000 in
set_option maxHeartbeats 8000000 in
theorem ctWith06_ok : CtOk Tryz.prog 32 ctWith06 := by
  refine CtOk.of_eval2 uh1_ok (dr_ok uh1_ok) Tryz.func32 rfl (by decide) [] 200 (by kernel_rfl) rfl (.bind ⟨fun us _ => cB (fun a b => Dy.fgt a b || Dy.feq a b) us, 1, [(.v 0), (.v 2)]⟩ (.ite (.v 4) (.bind ⟨fun us _ => cB (fun a b => Dy.flt a b || Dy.feq a b) us, 1, [(.v 1), (.v 3)]⟩ (.done .ret ⟨[.bo (.v 5)], [], 6, []⟩)) (.done .ret ⟨[.bo (.l (.b false))], [], 5, []⟩))) (by kernel_rfl) (by kernel_rfl) (by kernel_rfl) (fun us hl hF hB hN => ?_)
  match us, hl with
  | [u0, u1, u2, u3], _ =>
    simp [FactsB, FactsL, Facts, ctWith06] at hF hB
    simp [NeedsAt, runB, evs, E.ev, upto, resl, List.range, List.range.loop, ctWith06] at hN
    obtain ⟨⟨⟨a1, rfl, wa1⟩, ⟨a2, rfl, wa2⟩⟩, ⟨l, rfl, wl⟩, ⟨h, rfl, wh⟩⟩ := hF
    refine T.HH.h ?_
    obtain ⟨t0, e1⟩ : ∃ t0, (Dy.fgt a1 l || Dy.feq a1 l) = t0 := ⟨_, rfl⟩
    refine T.hbind (us := [.f a1, .f l]) (xs := [.b t0]) (ρ' := [.f a1, .f a2, .f l, .f h, .b t0]) rfl (congrArg (fun r => [U.b r]) e1) rfl ?_
    refine T.hite (x := t0) ?_ ?_ ?_
    · rfl
    · intro c3
      obtain ⟨t3, e4⟩ : ∃ t3, (Dy.flt a2 h || Dy.feq a2 h) = t3 := ⟨_, rfl⟩
      refine T.hbind (us := [.f a2, .f h]) (xs := [.b t3]) (ρ' := [.f a1, .f a2, .f l, .f h, .b t0, .b t3]) rfl (congrArg (fun r => [U.b r]) e4) rfl ?_
      refine T.hdone ?_
      have e00 : withT (a1, a2) (l) (h) = t3 := by simp only [withT, e1, c3, e4] <;> simp_all
      exact ⟨(congrArg (fun r => some (bRes r 0)) e00.symm), trivial, rfl⟩
    · intro c3
      refine T.hdone ?_
      have e00 : withT (a1, a2) (l) (h) = false := by simp only [withT, e1, c3] <;> simp_all
      exact ⟨(congrArg (fun r => some (bRes r 0)) e00.symm), trivial, rfl⟩

def uh2 : List (Nat × Ct) := (32, ctWith06) :: uh1
theorem uh2_ok : AllOk Tryz.prog uh2 := ⟨ctWith06_ok, uh1_ok⟩

def ctPoint : Ct := ⟨1, [], [vf 0], { binds := [⟨fun us _ => fB Ieee.double.add us, 1, [(.v 0), (.l (.f 0))]⟩, ⟨fun us _ => fB Ieee.double.add us, 1, [(.v 0), (.l (.f 0))]⟩], needs := [⟨fN Ieee.double.add, [(.v 0), (.l (.f 0))]⟩, ⟨fN Ieee.double.add, [(.v 0), (.l (.f 0))]⟩], val := .agg [.fl (.v 1), .fl (.v 2)], upd := [] }⟩
theorem ctPoint_ok : CtOk Tryz.prog 91 ctPoint := CtOk.flat uh2_ok (dr_ok uh2_ok) Tryz.func91 rfl (by decide) [] 200 ⟨[.agg [.fl (.v 1), .fl (.v 2)]], [], 3, []⟩ (by kernel_rfl) rfl (by kernel_rfl) rfl (by kernel_rfl) (by kernel_rfl) (by kernel_rfl) (by kernel_rfl)

def uh3 : List (Nat × Ct) := (91, ctPoint) :: uh2
theorem uh3_ok : AllOk Tryz.prog uh3 := ⟨ctPoint_ok, uh2_ok⟩

def ctMinusT : Ct := ⟨1, [], [vf 0], { binds := [⟨fun us i => fRes (minusT (gF us 0)) i, 1, upto 0 1⟩], needs := [], val := vf 1, upd := [] }⟩
set_option maxRecDepth 100000 in
set_option maxHeartbeats 8000000 in
theorem ctMinusT_ok : CtOk Tryz.prog 121 ctMinusT := by
  refine CtOk.of_eval2 uh3_ok (dr_ok uh3_ok) Tryz.func121 rfl (by decide) [] 200 (by kernel_rfl) rfl (.bind ⟨fun us _ => cB Dy.feq us, 1, [(.v 0), (.l (.f 0))]⟩ (.ite (.v 1) (.done .ret ⟨[.fl (.l (.f 0))], [], 2, []⟩) (.bind ⟨fun us _ => mF us, 1, [(.v 0)]⟩ (.need ⟨mN, [(.v 0)]⟩ (.done .ret ⟨[.fl (.v 2)], [], 3, []⟩))))) (by kernel_rfl) (by kernel_rfl) (by kernel_rfl) (fun us hl hF hB hN => ?_)
  match us, hl with
  | [u0], _ =>
    simp [FactsB, FactsL, Facts, ctMinusT] at hF hB
    simp [NeedsAt, runB, evs, E.ev, upto, resl, List.range, List.range.loop, ctMinusT] at hN
    obtain ⟨a1, rfl, wa1⟩ := hF
    refine T.HH.h ?_
    obtain ⟨t0, e1⟩ : ∃ t0, (Dy.feq a1 0) = t0 := ⟨_, rfl⟩
    refine T.hbind (us := [.f a1, .f 0]) (xs := [.b t0]) (ρ' := [.f a1, .b t0]) rfl (congrArg (fun r => [U.b r]) e1) rfl ?_
    refine T.hite (x := t0) ?_ ?_ ?_
    · rfl
    · intro c3
      refine T.hdone ?_
      have e00 : minusT (a1) = 0 := by simp only [minusT, e1, c3] <;> simp_all
      exact ⟨(congrArg (fun r => some (fRes r 0)) e00.symm), trivial, rfl⟩
    · intro c3
      obtain ⟨t3, e4⟩ : ∃ t3, (Op.negFloat .f64 a1) = t3 := ⟨_, rfl⟩
      refine T.hbind (us := [.f a1]) (xs := [.f t3]) (ρ' := [.f a1, .b t0, .f t3]) rfl (congrArg (fun r => [U.f r]) e4) rfl ?_
      refine T.hneed (us := [.f a1]) rfl (hneg wa1) ?_
      refine T.hdone ?_
      have e00 : minusT (a1) = t3 := by simp only [minusT, e1, c3, e4] <;> simp_all
      exact ⟨(congrArg (fun r => some (fRes r 0)) e00.symm), trivial, rfl⟩

def uh4 : List (Nat × Ct) := (121, ctMinusT) :: uh3
theorem uh4_ok : AllOk Tryz.prog uh4 := ⟨ctMinusT_ok, uh3_ok⟩

def ctNegT : Ct := ⟨3, [[vi .i64 0]], [.ptr 0 0, vp 1 2], { binds := [⟨fun us i => calR (negT (gI us 0) (gF us 1, gF us 2)) i, 3, upto 0 3⟩], needs := [], val := vp 3 4, upd := [(0, [vi .i64 5])] }⟩
set_option maxRecDepth 100000 in
set_option maxHeartbeats 8000000 in
theorem ctNegT_ok : CtOk Tryz.prog 120 ctNegT := by
  refine CtOk.of_eval2 uh4_ok (dr_ok uh4_ok) Tryz.func120 rfl (by decide) [] 200 (by kernel_rfl) rfl (.bind ⟨fun us i => offU (offT (gI us 0) (Dy.ivR (gF us 1, gF us 2))) i, 2, [(.v 0), (.v 1), (.v 2)]⟩ (.ite (.v 3) (.done .ret ⟨[.agg [.fl (.l (.f 0)), .fl (.l (.f 0))]], [some ([.it .i64 (.v 4)])], 5, [0]⟩) (.bind ⟨fun us i => fRes (minusT (gF us 0)) i, 1, [(.v 2)]⟩ (.bind ⟨fun us i => fRes (minusT (gF us 0)) i, 1, [(.v 1)]⟩ (.done .ret ⟨[.agg [.fl (.v 5), .fl (.v 6)]], [some ([.it .i64 (.v 4)])], 7, [0]⟩))))) (by kernel_rfl) (by kernel_rfl) (by kernel_rfl) (fun us hl hF hB hN => ?_)
  match us, hl with
  | [u0, u1, u2], _ =>
    simp [FactsB, FactsL, Facts, ctNegT] at hF hB
    simp [NeedsAt, runB, evs, E.ev, upto, resl, List.range, List.range.loop, ctNegT] at hN
    obtain ⟨⟨a1, rfl, wa1⟩, ⟨a2, rfl, wa2⟩⟩ := hF
    obtain ⟨e, rfl⟩ := hB
    refine T.HH.h ?_
    obtain ⟨t0, t1, e2⟩ : ∃ t0 t1, (offT (e) (Dy.ivR (a1, a2))) = (t0, t1) := Dy.ex2 _
    refine T.hbind (us := [.i e, .f a1, .f a2]) (xs := [.b t0, .i t1]) (ρ' := [.i e, .f a1, .f a2, .b t0, .i t1]) rfl (congrArg (fun r => [offU r 0, offU r 1]) e2) rfl ?_
    refine T.hite (x := t0) ?_ ?_ ?_
    · rfl
    · intro c4
      refine T.hdone ?_
      have e00 : negT (e) (a1, a2) = ((0, 0), t1) := by simp only [negT, e2, c4] <;> simp_all
      exact ⟨⟨(congrArg (fun r => some (calR r 0)) e00.symm), (congrArg (fun r => some (calR r 1)) e00.symm), trivial⟩, ⟨⟨⟨rfl, (congrArg (fun r => some (calR r 2)) e00.symm)⟩, trivial⟩, trivial⟩, rfl⟩
    · intro c4
      obtain ⟨t4, e5⟩ : ∃ t4, ((minusT (a2))) = t4 := ⟨_, rfl⟩
      refine T.hbind (us := [.f a2]) (xs := [.f t4]) (ρ' := [.i e, .f a1, .f a2, .b t0, .i t1, .f t4]) rfl (congrArg (fun r => [U.f r]) e5) rfl ?_
      obtain ⟨t6, e7⟩ : ∃ t6, ((minusT (a1))) = t6 := ⟨_, rfl⟩
      refine T.hbind (us := [.f a1]) (xs := [.f t6]) (ρ' := [.i e, .f a1, .f a2, .b t0, .i t1, .f t4, .f t6]) rfl (congrArg (fun r => [U.f r]) e7) rfl ?_
      refine T.hdone ?_
      have e00 : negT (e) (a1, a2) = ((t4, t6), t1) := by simp only [negT, e2, c4, e5, e7] <;> simp_all
      exact ⟨⟨(congrArg (fun r => some (calR r 0)) e00.symm), (congrArg (fun r => some (calR r 1)) e00.symm), trivial⟩, ⟨⟨⟨rfl, (congrArg (fun r => some (calR r 2)) e00.symm)⟩, trivial⟩, trivial⟩, rfl⟩

def uh5 : List (Nat × Ct) := (120, ctNegT) :: uh4
theorem uh5_ok : AllOk Tryz.prog uh5 := ⟨ctNegT_ok, uh4_ok⟩

def ctAbsT2 : Ct := ⟨3, [[vi .i64 0]], [.ptr 0 0, vp 1 2], { binds := [⟨fun us i => calR (absT (gI us 0) (gF us 1, gF us 2)) i, 3, upto 0 3⟩], needs := [], val := vp 3 4, upd := [(0, [vi .i64 5])] }⟩
set_option maxRecDepth 100000 in
set_option maxHeartbeats 8000000 in
theorem ctAbsT2_ok : CtOk Tryz.prog 89 ctAbsT2 := by
  refine CtOk.of_eval2 uh5_ok (dr_ok uh5_ok) Tryz.func89 rfl (by decide) [] 200 (by kernel_rfl) rfl (.bind ⟨fun us i => offU (offT (gI us 0) (Dy.ivR (gF us 1, gF us 2))) i, 2, [(.v 0), (.v 1), (.v 2)]⟩ (.ite (.v 3) (.bind ⟨fun us _ => jB (fun a b => a != b) us, 1, [(.v 4), (.l (.i 0))]⟩ (.ite (.v 5) (.done .ret ⟨[.agg [.fl (.l (.f 0)), .fl (.l (.f 0))]], [some ([.it .i64 (.v 4)])], 6, [0]⟩) (.done .ret ⟨[.agg [.fl (.v 1), .fl (.v 2)]], [some ([.it .i64 (.v 4)])], 6, [0]⟩))) (.bind ⟨fun us _ => cB (fun a b => Dy.fgt a b || Dy.feq a b) us, 1, [(.v 1), (.l (.f 0))]⟩ (.ite (.v 5) (.bind ⟨fun us _ => jB (fun a b => a != b) us, 1, [(.v 4), (.l (.i 0))]⟩ (.ite (.v 6) (.done .ret ⟨[.agg [.fl (.l (.f 0)), .fl (.l (.f 0))]], [some ([.it .i64 (.v 4)])], 7, [0]⟩) (.done .ret ⟨[.agg [.fl (.v 1), .fl (.v 2)]], [some ([.it .i64 (.v 4)])], 7, [0]⟩))) (.bind ⟨fun us _ => cB (fun a b => Dy.flt a b || Dy.feq a b) us, 1, [(.v 2), (.l (.f 0))]⟩ (.ite (.v 6) (.bind ⟨fun us i => calR (negT (gI us 0) (gF us 1, gF us 2)) i, 3, [(.v 4), (.v 1), (.v 2)]⟩ (.done .ret ⟨[.agg [.fl (.v 7), .fl (.v 8)]], [some ([.it .i64 (.v 9)])], 10, [0, 0]⟩)) (.bind ⟨fun us i => fRes (minusT (gF us 0)) i, 1, [(.v 1)]⟩ (.bind ⟨fun us i => fRes (moreT (gF us 0) (gF us 1)) i, 1, [(.v 7), (.v 2)]⟩ (.done .ret ⟨[.agg [.fl (.l (.f 0)), .fl (.v 8)]], [some ([.it .i64 (.v 4)])], 9, [0]⟩))))))))) (by kernel_rfl) (by kernel_rfl) (by kernel_rfl) (fun us hl hF hB hN => ?_)
  match us, hl with
  | [u0, u1, u2], _ =>
    simp [FactsB, FactsL, Facts, ctAbsT2] at hF hB
    simp [NeedsAt, runB, evs, E.ev, upto, resl, List.range, List.range.loop, ctAbsT2] at hN
    obtain ⟨⟨a1, rfl, wa1⟩, ⟨a2, rfl, wa2⟩⟩ := hF
    obtain ⟨e, rfl⟩ := hB
    refine T.HH.h ?_
    obtain ⟨t0, t1, e2⟩ : ∃ t0 t1, (offT (e) (Dy.ivR (a1, a2))) = (t0, t1) := Dy.ex2 _
    refine T.hbind (us := [.i e, .f a1, .f a2]) (xs := [.b t0, .i t1]) (ρ' := [.i e, .f a1, .f a2, .b t0, .i t1]) rfl (congrArg (fun r => [offU r 0, offU r 1]) e2) rfl ?_
    refine T.hite (x := t0) ?_ ?_ ?_
    · rfl
    · intro c4
      obtain ⟨t4, e5⟩ : ∃ t4, (t1 != 0) = t4 := ⟨_, rfl⟩
      refine T.hbind (us := [.i t1, .i 0]) (xs := [.b t4]) (ρ' := [.i e, .f a1, .f a2, .b t0, .i t1, .b t4]) rfl (congrArg (fun r => [U.b r]) e5) rfl ?_
      refine T.hite (x := t4) ?_ ?_ ?_
      · rfl
      · intro c7
        refine T.hdone ?_
        have e00 : absT (e) (a1, a2) = ((0, 0), t1) := by simp only [absT, e2, c4, e5, c7] <;> simp_all
        exact ⟨⟨(congrArg (fun r => some (calR r 0)) e00.symm), (congrArg (fun r => some (calR r 1)) e00.symm), trivial⟩, ⟨⟨⟨rfl, (congrArg (fun r => some (calR r 2)) e00.symm)⟩, trivial⟩, trivial⟩, rfl⟩
      · intro c7
        refine T.hdone ?_
        have e00 : absT (e) (a1, a2) = ((a1, a2), t1) := by simp only [absT, e2, c4, e5, c7] <;> simp_all
        exact ⟨⟨(congrArg (fun r => some (calR r 0)) e00.symm), (congrArg (fun r => some (calR r 1)) e00.symm), trivial⟩, ⟨⟨⟨rfl, (congrArg (fun r => some (calR r 2)) e00.symm)⟩, trivial⟩, trivial⟩, rfl⟩
    · intro c4
      obtain ⟨t7, e8⟩ : ∃ t7, (Dy.fgt a1 0 || Dy.feq a1 0) = t7 := ⟨_, rfl⟩
      refine T.hbind (us := [.f a1, .f 0]) (xs := [.b t7]) (ρ' := [.i e, .f a1, .f a2, .b t0, .i t1, .b t7]) rfl (congrArg (fun r => [U.b r]) e8) rfl ?_
      refine T.hite (x := t7) ?_ ?_ ?_
      · rfl
      · intro c10
        obtain ⟨t10, e11⟩ : ∃ t10, (t1 != 0) = t10 := ⟨_, rfl⟩
        refine T.hbind (us := [.i t1, .i 0]) (xs := [.b t10]) (ρ' := [.i e, .f a1, .f a2, .b t0, .i t1, .b t7, .b t10]) rfl (congrArg (fun r => [U.b r]) e11) rfl ?_
        refine T.hite (x := t10) ?_ ?_ ?_
        · rfl
        · intro c13
          refine T.hdone ?_
          have e00 : absT (e) (a1, a2) = ((0, 0), t1) := by simp only [absT, e2, c4, e8, c10, e11, c13] <;> simp_all
          exact ⟨⟨(congrArg (fun r => some (calR r 0)) e00.symm), (congrArg (fun r => some (calR r 1)) e00.symm), trivial⟩, ⟨⟨⟨rfl, (congrArg (fun r => some (calR r 2)) e00.symm)⟩, trivial⟩, trivial⟩, rfl⟩
        · intro c13
          refine T.hdone ?_
          have e00 : absT (e) (a1, a2) = ((a1, a2), t1) := by simp only [absT, e2, c4, e8, c10, e11, c13] <;> simp_all
          exact ⟨⟨(congrArg (fun r => some (calR r 0)) e00.symm), (congrArg (fun r => some (calR r 1)) e00.symm), trivial⟩, ⟨⟨⟨rfl, (congrArg (fun r => some (calR r 2)) e00.symm)⟩, trivial⟩, trivial⟩, rfl⟩
      · intro c10
        obtain ⟨t13, e14⟩ : ∃ t13, (Dy.flt a2 0 || Dy.feq a2 0) = t13 := ⟨_, rfl⟩
        refine T.hbind (us := [.f a2, .f 0]) (xs := [.b t13]) (ρ' := [.i e, .f a1, .f a2, .b t0, .i t1, .b t7, .b t13]) rfl (congrArg (fun r => [U.b r]) e14) rfl ?_
        refine T.hite (x := t13) ?_ ?_ ?_
        · rfl
        · intro c16
          obtain ⟨t16, t17, t18, e19⟩ : ∃ t16 t17 t18, (negT (t1) (a1, a2)) = ((t16, t17), t18) := Dy.ex3 _
          refine T.hbind (us := [.i t1, .f a1, .f a2]) (xs := [.f t16, .f t17, .i t18]) (ρ' := [.i e, .f a1, .f a2, .b t0, .i t1, .b t7, .b t13, .f t16, .f t17, .i t18]) rfl (congrArg (fun r => [calR r 0, calR r 1, calR r 2]) e19) rfl ?_
          refine T.hdone ?_
          have e00 : absT (e) (a1, a2) = ((t16, t17), t18) := by simp only [absT, e2, c4, e8, c10, e14, c16, e19] <;> simp_all
          exact ⟨⟨(congrArg (fun r => some (calR r 0)) e00.symm), (congrArg (fun r => some (calR r 1)) e00.symm), trivial⟩, ⟨⟨⟨rfl, (congrArg (fun r => some (calR r 2)) e00.symm)⟩, trivial⟩, trivial⟩, rfl⟩
        · intro c16
          obtain ⟨t20, e21⟩ : ∃ t20, ((minusT (a1))) = t20 := ⟨_, rfl⟩
          refine T.hbind (us := [.f a1]) (xs := [.f t20]) (ρ' := [.i e, .f a1, .f a2, .b t0, .i t1, .b t7, .b t13, .f t20]) rfl (congrArg (fun r => [U.f r]) e21) rfl ?_
          obtain ⟨t22, e23⟩ : ∃ t22, ((moreT (t20) (a2))) = t22 := ⟨_, rfl⟩
          refine T.hbind (us := [.f t20, .f a2]) (xs := [.f t22]) (ρ' := [.i e, .f a1, .f a2, .b t0, .i t1, .b t7, .b t13, .f t20, .f t22]) rfl (congrArg (fun r => [U.f r]) e23) rfl ?_
          refine T.hdone ?_
          have e00 : absT (e) (a1, a2) = ((0, t22), t1) := by simp only [absT, e2, c4, e8, c10, e14, c16, e21, e23] <;> simp_all
          exact ⟨⟨(congrArg (fun r => some (calR r 0)) e00.symm), (congrArg (fun r => some (calR r 1)) e00.symm), trivial⟩, ⟨⟨⟨rfl, (congrArg (fun r => some (calR r 2)) e00.symm)⟩, trivial⟩, trivial⟩, rfl⟩

def uh6 : List (Nat × Ct) := (89, ctAbsT2) :: uh5
theorem uh6_ok : AllOk Tryz.prog uh6 := ⟨ctAbsT2_ok, uh5_ok⟩

def ctSqrT : Ct := ⟨3, [[vi .i64 0]], [.ptr 0 0, vp 1 2], { binds := [⟨fun us i => calR (sqrT (gI us 0) (gF us 1, gF us 2)) i, 3, upto 0 3⟩], needs := [], val := vp 3 4, upd := [(0, [vi .i64 5])] }⟩
set_option maxRecDepth 100000 in
set_option maxHeartbeats 8000000 in
theorem ctSqrT_ok : CtOk Tryz.prog 42 ctSqrT := by
  refine CtOk.of_eval2 uh6_ok (dr_ok uh6_ok) Tryz.func42 rfl (by decide) [] 200 (by kernel_rfl) rfl (.bind ⟨fun us i => calR (absT (gI us 0) (gF us 1, gF us 2)) i, 3, [(.v 0), (.v 1), (.v 2)]⟩ (.bind ⟨fOp2 Dy.dMul, 2, [(.v 3), (.v 3), (.l (.b false))]⟩ (.bind ⟨fOp2 Dy.dMul, 2, [(.v 4), (.v 4), (.l (.b true))]⟩ (.bind ⟨fun us _ => jB (fun a b => a != b) us, 1, [(.v 5), (.l (.i 0))]⟩ (.ite (.v 10) (.done .ret ⟨[.agg [.fl (.l (.f 0)), .fl (.l (.f 0))]], [some ([.it .i64 (.v 5)])], 11, [0]⟩) (.bind ⟨fun us i => calR (keepT (gI us 0) (gF us 1) (gI us 2) (gF us 3) (gI us 4)) i, 3, [(.v 5), (.v 6), (.v 7), (.v 8), (.v 9)]⟩ (.done .ret ⟨[.agg [.fl (.v 11), .fl (.v 12)]], [some ([.it .i64 (.v 13)])], 14, [0, 0]⟩))))))) (by kernel_rfl) (by kernel_rfl) (by kernel_rfl) (fun us hl hF hB hN => ?_)
  match us, hl with
  | [u0, u1, u2], _ =>
    simp [FactsB, FactsL, Facts, ctSqrT] at hF hB
    simp [NeedsAt, runB, evs, E.ev, upto, resl, List.range, List.range.loop, ctSqrT] at hN
    obtain ⟨⟨a1, rfl, wa1⟩, ⟨a2, rfl, wa2⟩⟩ := hF
    obtain ⟨e, rfl⟩ := hB
    refine T.HH.h ?_
    obtain ⟨t0, t1, t2, e3⟩ : ∃ t0 t1 t2, (absT (e) (a1, a2)) = ((t0, t1), t2) := Dy.ex3 _
    refine T.hbind (us := [.i e, .f a1, .f a2]) (xs := [.f t0, .f t1, .i t2]) (ρ' := [.i e, .f a1, .f a2, .f t0, .f t1, .i t2]) rfl (congrArg (fun r => [calR r 0, calR r 1, calR r 2]) e3) rfl ?_
    obtain ⟨t4, t5, e6⟩ : ∃ t4 t5, (Dy.dMul t0 t0 false) = (t4, t5) := Dy.ex2 _
    refine T.hbind (us := [.f t0, .f t0, .b false]) (xs := [.f t4, .i t5]) (ρ' := [.i e, .f a1, .f a2, .f t0, .f t1, .i t2, .f t4, .i t5]) rfl (congrArg (fun r : Nat × Int => [U.f r.1, U.i r.2]) e6) rfl ?_
    obtain ⟨t7, t8, e9⟩ : ∃ t7 t8, (Dy.dMul t1 t1 true) = (t7, t8) := Dy.ex2 _
    refine T.hbind (us := [.f t1, .f t1, .b true]) (xs := [.f t7, .i t8]) (ρ' := [.i e, .f a1, .f a2, .f t0, .f t1, .i t2, .f t4, .i t5, .f t7, .i t8]) rfl (congrArg (fun r : Nat × Int => [U.f r.1, U.i r.2]) e9) rfl ?_
    obtain ⟨t10, e11⟩ : ∃ t10, (t2 != 0) = t10 := ⟨_, rfl⟩
    refine T.hbind (us := [.i t2, .i 0]) (xs := [.b t10]) (ρ' := [.i e, .f a1, .f a2, .f t0, .f t1, .i t2, .f t4, .i t5, .f t7, .i t8, .b t10]) rfl (congrArg (fun r => [U.b r]) e11) rfl ?_
    refine T.hite (x := t10) ?_ ?_ ?_
    · rfl
    · intro c13
      refine T.hdone ?_
      have e00 : sqrT (e) (a1, a2) = ((0, 0), t2) := by simp only [sqrT, e3, e6, e9, e11, c13] <;> simp_all
      exact ⟨⟨(congrArg (fun r => some (calR r 0)) e00.symm), (congrArg (fun r => some (calR r 1)) e00.symm), trivial⟩, ⟨⟨⟨rfl, (congrArg (fun r => some (calR r 2)) e00.symm)⟩, trivial⟩, trivial⟩, rfl⟩
    · intro c13
      obtain ⟨t13, t14, t15, e16⟩ : ∃ t13 t14 t15, (keepT (t2) (t4) (t5) (t7) (t8)) = ((t13, t14), t15) := Dy.ex3 _
      refine T.hbind (us := [.i t2, .f t4, .i t5, .f t7, .i t8]) (xs := [.f t13, .f t14, .i t15]) (ρ' := [.i e, .f a1, .f a2, .f t0, .f t1, .i t2, .f t4, .i t5, .f t7, .i t8, .b t10, .f t13, .f t14, .i t15]) rfl (congrArg (fun r => [calR r 0, calR r 1, calR r 2]) e16) rfl ?_
      refine T.hdone ?_
      have e00 : sqrT (e) (a1, a2) = ((t13, t14), t15) := by simp only [sqrT, e3, e6, e9, e11, c13, e16] <;> simp_all
      exact ⟨⟨(congrArg (fun r => some (calR r 0)) e00.symm), (congrArg (fun r => some (calR r 1)) e00.symm), trivial⟩, ⟨⟨⟨rfl, (congrArg (fun r => some (calR r 2)) e00.symm)⟩, trivial⟩, trivial⟩, rfl⟩

def uh7 : List (Nat × Ct) := (42, ctSqrT) :: uh6
theorem uh7_ok : AllOk Tryz.prog uh7 := ⟨ctSqrT_ok, uh6_ok⟩

end Go.Proofs.YtnbdjpnnagpldaaGreat
/-! A reckoning of programs by symbols: one way of a function that answers an interval and an error. -/
namespace Go.Proofs.YtnbdjpnnagpldaaGreat
open Go Go.RowKit
set_option linter.unusedSimpArgs false
set_option linter.unusedVariables false
def IvQ (r0 r1 : Nat) (r2 : Int) (ρ : List U) (_ : Ex) (st : SF) : Prop := match st.tm with
  | [.tup [.agg [.fl e1, .fl e2], .it .i64 e3]] => e1.ev ρ = some (.f r0) ∧ e2.ev ρ = some (.f r1) ∧ e3.ev ρ = some (.i r2) ∧ r0 < W64 ∧ r1 < W64
  | _ => False
theorem iv_calls {P : Program} {cts : List (Nat × Ct)} {dr : Array Oper → SF → (SF → T) → T} (hcts : AllOk P cts) (hdr : DrOk P dr) {f : Nat} {fn : Func} (hf : P.funcs[f]? = some fn) (lh : List (Nat × LHint)) (fuel m : Nat) {args : List AV} {us : List U} {w : World} {vs : List Value}
    (hm : us.length = m) {t : T} (o : List Bool) (ht : (evF P cts dr lh fuel fn m [] args none).prune o = t) {r0 r1 : Nat} {r2 : Int} (hh : t.holds (IvQ r0 r1 r2) us) (hv : denL (fun _ => none) us args = some vs) :
    Calls P f vs.toArray w fun e w' => e = .returned (.tuple #[.agg #[.float .f64 r0, .float .f64 r1], .int .i64 r2]) ∧ Below w.heap.size w w' := by
  subst ht
  have hh := T.prune_holds _ o hh
  refine (calls_eval (β := fun _ => none) hcts hdr hf fuel m hm hh (fun k l n h _ => by cases h) (fun k n h => by cases h) (fun _ _ => rfl) (fun k c hc => by simp at hc) hv).mono fun e w' ⟨β', ρ', st', a', r, v, S, hq, hr, he⟩ => ?_
  have hq' : (match [r] with | [.tup [.agg [.fl e1, .fl e2], .it .i64 e3]] => e1.ev ρ' = some (.f r0) ∧ e2.ev ρ' = some (.f r1) ∧ e3.ev ρ' = some (.i r2) ∧ r0 < W64 ∧ r1 < W64 | _ => False) := hq
  split at hq'
  · rename_i e1 e2 e3 heq
    simp at heq; subst heq
    obtain ⟨h1, h2, h3, h4, h5⟩ := hq'
    have k0 : den β' ρ' (.agg [.fl e1, .fl e2]) = some (.agg #[.float .f64 r0, .float .f64 r1]) := by
      unfold den
      rw [denL_cons.2 ⟨_, _, fl_den h1 h4, denL_cons.2 ⟨_, [], fl_den h2 h5, rfl, rfl⟩, rfl⟩]
    have k : den β' ρ' (.tup [.agg [.fl e1, .fl e2], .it .i64 e3]) = some (.tuple #[.agg #[.float .f64 r0, .float .f64 r1], .int .i64 r2]) := by
      unfold den
      rw [denL_cons.2 ⟨_, _, k0, denL_cons.2 ⟨_, [], it_den h3, rfl, rfl⟩, rfl⟩]
    rw [k] at hr
    simp at hr; subst hr
    exact ⟨he, S.os, S.tape, S.output, S.size, fun n hn => S.old n hn fun k _ h => by cases h⟩
  · exact hq'.elim
end Go.Proofs.YtnbdjpnnagpldaaGreat
/-! Walks: ways of burnishref07.Value, Cap. -/
namespace Go.Proofs.YtnbdjpnnagpldaaGreat
open Go Go.RowKit
set_option linter.unusedSimpArgs false
set_option linter.unusedVariables false

def uj0 : List (Nat × Ct) := uh7
theorem uj0_ok : AllOk Tryz.prog uj0 := uh7_ok
set_option maxRecDepth 100000 in
set_option maxHeartbeats 4000000 in
theorem rval_0 (a0 a1 : Nat) (w : World) (w0 : Dy.W a0) (w1 : Dy.W a1) {t0 : Nat} {t1 : Nat} {t2 : Nat} {t3 : Nat} {t4 : Int} (h0 : (Dy.ivR (a0, a1)) = true) (h1 : ((withT (a0, a1) (0) (4607182418800017408))) = true) (h2 : ((Dy.ldx (4843940237547941144) ((-51)))) = t0) (h3 : ((Dy.ldx (4843940237547941145) ((-51)))) = t1) (h4 : nLdx [.i (-51)] = true) (h5 : (divT (0) (a0, a1) (t0, t1)) = ((t2, t3), t4)) (r0 : Dy.W t2) (r1 : Dy.W t3) : Calls Tryz.prog 8 #[.agg #[.float .f64 a0, .float .f64 a1]] w fun e w' => e = .returned (.tuple #[.agg #[.float .f64 t2, .float .f64 t3], .int .i64 0]) ∧ Below w.heap.size w w' := by
  refine iv_calls (vs := [.agg #[.float .f64 a0, .float .f64 a1]]) (us := [.f a0, .f a1]) (args := [vp 0 1]) uj0_ok (dr_ok uj0_ok) Tryz.func8 [] 200 2 rfl [false, false] (t := .bind ⟨fIv1 Dy.ivR, 1, [(.v 0), (.v 1)]⟩ (.bind ⟨fun us _ => nB us, 1, [(.v 2)]⟩ (.need ⟨pF, [(.v 3)]⟩ (.bind ⟨fun us i => bRes (withT (gF us 0, gF us 1) (gF us 2) (gF us 3)) i, 1, [(.v 0), (.v 1), (.l (.f 0)), (.l (.f 4607182418800017408))]⟩ (.bind ⟨fun us _ => nB us, 1, [(.v 4)]⟩ (.need ⟨pF, [(.v 5)]⟩ (.bind ⟨fun us _ => .f (Dy.ldx (gF us 0) (gI us 1)), 1, [(.l (.f 4843940237547941144)), (.l (.i (-51)))]⟩ (.bind ⟨fun us _ => .f (Dy.ldx (gF us 0) (gI us 1)), 1, [(.l (.f 4843940237547941145)), (.l (.i (-51)))]⟩ (.need ⟨nLdx, [(.l (.i (-51)))]⟩ (.need ⟨nLdx, [(.l (.i (-51)))]⟩ (.bind ⟨fun us i => calR (divT (gI us 0) (gF us 1, gF us 2) (gF us 3, gF us 4)) i, 3, [(.l (.i 0)), (.v 0), (.v 1), (.v 6), (.v 7)]⟩ (.done .ret ⟨[.tup [.agg [.fl (.v 8), .fl (.v 9)], .it .i64 (.l (.i 0))]], [], 11, []⟩)))))))))))) (by kernel_rfl) ?_ (denL_cons.2 ⟨_, _, (agg_mk (denL_cons.2 ⟨_, _, (fl_den rfl w0), (denL_cons.2 ⟨_, _, (fl_den rfl w1), rfl, rfl⟩), rfl⟩)), rfl, rfl⟩)
  refine T.HH.h ?_
  refine T.hbind (us := [.f a0, .f a1]) (xs := [.b true]) (ρ' := [.f a0, .f a1, .b true]) rfl (congrArg (fun r => [U.b r]) h0) rfl ?_
  refine T.hbind (us := [.b true]) (xs := [.b false]) (ρ' := [.f a0, .f a1, .b true, .b false]) rfl (rfl) rfl ?_
  refine T.hneed (us := [.b false]) rfl (rfl) ?_
  refine T.hbind (us := [.f a0, .f a1, .f 0, .f 4607182418800017408]) (xs := [.b true]) (ρ' := [.f a0, .f a1, .b true, .b false, .b true]) rfl (congrArg (fun r => [U.b r]) h1) rfl ?_
  refine T.hbind (us := [.b true]) (xs := [.b false]) (ρ' := [.f a0, .f a1, .b true, .b false, .b true, .b false]) rfl (rfl) rfl ?_
  refine T.hneed (us := [.b false]) rfl (rfl) ?_
  refine T.hbind (us := [.f 4843940237547941144, .i (-51)]) (xs := [.f t0]) (ρ' := [.f a0, .f a1, .b true, .b false, .b true, .b false, .f t0]) rfl (congrArg (fun r => [U.f r]) h2) rfl ?_
  refine T.hbind (us := [.f 4843940237547941145, .i (-51)]) (xs := [.f t1]) (ρ' := [.f a0, .f a1, .b true, .b false, .b true, .b false, .f t0, .f t1]) rfl (congrArg (fun r => [U.f r]) h3) rfl ?_
  refine T.hneed (us := [.i (-51)]) rfl (h4) ?_
  refine T.hneed (us := [.i (-51)]) rfl (h4) ?_
  refine T.hbind (us := [.i 0, .f a0, .f a1, .f t0, .f t1]) (xs := [.f t2, .f t3, .i t4]) (ρ' := [.f a0, .f a1, .b true, .b false, .b true, .b false, .f t0, .f t1, .f t2, .f t3, .i t4]) rfl (congrArg (fun r => [calR r 0, calR r 1, calR r 2]) h5) rfl ?_
  exact T.hdone ⟨rfl, rfl, rfl, r0, r1⟩

set_option maxRecDepth 100000 in
set_option maxHeartbeats 4000000 in
theorem rval_1 (a0 a1 : Nat) (w : World) (w0 : Dy.W a0) (w1 : Dy.W a1) (h0 : (Dy.ivR (a0, a1)) = false)  : Calls Tryz.prog 8 #[.agg #[.float .f64 a0, .float .f64 a1]] w fun e w' => e = .returned (.tuple #[.agg #[.float .f64 0, .float .f64 0], .int .i64 20]) ∧ Below w.heap.size w w' := by
  refine iv_calls (vs := [.agg #[.float .f64 a0, .float .f64 a1]]) (us := [.f a0, .f a1]) (args := [vp 0 1]) uj0_ok (dr_ok uj0_ok) Tryz.func8 [] 200 2 rfl [true] (t := .bind ⟨fIv1 Dy.ivR, 1, [(.v 0), (.v 1)]⟩ (.bind ⟨fun us _ => nB us, 1, [(.v 2)]⟩ (.need ⟨pT, [(.v 3)]⟩ (.done .ret ⟨[.tup [.agg [.fl (.l (.f 0)), .fl (.l (.f 0))], .it .i64 (.l (.i 20))]], [], 4, []⟩)))) (by kernel_rfl) ?_ (denL_cons.2 ⟨_, _, (agg_mk (denL_cons.2 ⟨_, _, (fl_den rfl w0), (denL_cons.2 ⟨_, _, (fl_den rfl w1), rfl, rfl⟩), rfl⟩)), rfl, rfl⟩)
  refine T.HH.h ?_
  refine T.hbind (us := [.f a0, .f a1]) (xs := [.b false]) (ρ' := [.f a0, .f a1, .b false]) rfl (congrArg (fun r => [U.b r]) h0) rfl ?_
  refine T.hbind (us := [.b false]) (xs := [.b true]) (ρ' := [.f a0, .f a1, .b false, .b true]) rfl (rfl) rfl ?_
  refine T.hneed (us := [.b true]) rfl (rfl) ?_
  exact T.hdone ⟨rfl, rfl, rfl, (by decide), (by decide)⟩

set_option maxRecDepth 100000 in
set_option maxHeartbeats 4000000 in
theorem rval_2 (a0 a1 : Nat) (w : World) (w0 : Dy.W a0) (w1 : Dy.W a1) (h0 : (Dy.ivR (a0, a1)) = true) (h1 : ((withT (a0, a1) (0) (4607182418800017408))) = false)  : Calls Tryz.prog 8 #[.agg #[.float .f64 a0, .float .f64 a1]] w fun e w' => e = .returned (.tuple #[.agg #[.float .f64 0, .float .f64 0], .int .i64 2]) ∧ Below w.heap.size w w' := by
  refine iv_calls (vs := [.agg #[.float .f64 a0, .float .f64 a1]]) (us := [.f a0, .f a1]) (args := [vp 0 1]) uj0_ok (dr_ok uj0_ok) Tryz.func8 [] 200 2 rfl [false, true] (t := .bind ⟨fIv1 Dy.ivR, 1, [(.v 0), (.v 1)]⟩ (.bind ⟨fun us _ => nB us, 1, [(.v 2)]⟩ (.need ⟨pF, [(.v 3)]⟩ (.bind ⟨fun us i => bRes (withT (gF us 0, gF us 1) (gF us 2) (gF us 3)) i, 1, [(.v 0), (.v 1), (.l (.f 0)), (.l (.f 4607182418800017408))]⟩ (.bind ⟨fun us _ => nB us, 1, [(.v 4)]⟩ (.need ⟨pT, [(.v 5)]⟩ (.done .ret ⟨[.tup [.agg [.fl (.l (.f 0)), .fl (.l (.f 0))], .it .i64 (.l (.i 2))]], [], 6, []⟩))))))) (by kernel_rfl) ?_ (denL_cons.2 ⟨_, _, (agg_mk (denL_cons.2 ⟨_, _, (fl_den rfl w0), (denL_cons.2 ⟨_, _, (fl_den rfl w1), rfl, rfl⟩), rfl⟩)), rfl, rfl⟩)
  refine T.HH.h ?_
  refine T.hbind (us := [.f a0, .f a1]) (xs := [.b true]) (ρ' := [.f a0, .f a1, .b true]) rfl (congrArg (fun r => [U.b r]) h0) rfl ?_
  refine T.hbind (us := [.b true]) (xs := [.b false]) (ρ' := [.f a0, .f a1, .b true, .b false]) rfl (rfl) rfl ?_
  refine T.hneed (us := [.b false]) rfl (rfl) ?_
  refine T.hbind (us := [.f a0, .f a1, .f 0, .f 4607182418800017408]) (xs := [.b false]) (ρ' := [.f a0, .f a1, .b true, .b false, .b false]) rfl (congrArg (fun r => [U.b r]) h1) rfl ?_
  refine T.hbind (us := [.b false]) (xs := [.b true]) (ρ' := [.f a0, .f a1, .b true, .b false, .b false, .b true]) rfl (rfl) rfl ?_
  refine T.hneed (us := [.b true]) rfl (rfl) ?_
  exact T.hdone ⟨rfl, rfl, rfl, (by decide), (by decide)⟩

set_option maxRecDepth 100000 in
set_option maxHeartbeats 4000000 in
theorem rcap_0 (a0 a1 b0 b1 : Nat) (w : World) (w0 : Dy.W a0) (w1 : Dy.W a1) (w2 : Dy.W b0) (w3 : Dy.W b1) {t0 : Nat} {t1 : Nat} {t2 : Int} {t3 : Nat} {t4 : Nat} {t5 : Int} {t6 : Nat} {t7 : Nat} {t8 : Int} {t9 : Nat} {t10 : Nat} {t11 : Int} (h0 : (Dy.ivR (a0, a1)) = true) (h1 : (Dy.ivR (b0, b1)) = true) (h2 : ((withT (a0, a1) (0) (4607182418800017408))) = true) (h3 : ((withT (b0, b1) (0) (4607182418800017408))) = true) (h4 : (numT (0) (4607182418800017408)) = ((t0, t1), t2)) (h5 : (sqrT (t2) (b0, b1)) = ((t3, t4), t5)) (h6 : (subT (t5) (t0, t1) (t3, t4)) = ((t6, t7), t8)) (h7 : (mulT (t8) (a0, a1) (t6, t7)) = ((t9, t10), t11)) (r0 : Dy.W t9) (r1 : Dy.W t10) : Calls Tryz.prog 11 #[.agg #[.float .f64 a0, .float .f64 a1], .agg #[.float .f64 b0, .float .f64 b1]] w fun e w' => e = .returned (.tuple #[.agg #[.float .f64 t9, .float .f64 t10], .int .i64 0]) ∧ Below w.heap.size w w' := by
  refine iv_calls (vs := [.agg #[.float .f64 a0, .float .f64 a1], .agg #[.float .f64 b0, .float .f64 b1]]) (us := [.f a0, .f a1, .f b0, .f b1]) (args := [vp 0 1, vp 2 3]) uj0_ok (dr_ok uj0_ok) Tryz.func11 [] 200 4 rfl [false, false, false, false] (t := .bind ⟨fIv1 Dy.ivR, 1, [(.v 0), (.v 1)]⟩ (.bind ⟨fun us _ => nB us, 1, [(.v 4)]⟩ (.need ⟨pF, [(.v 5)]⟩ (.bind ⟨fIv1 Dy.ivR, 1, [(.v 2), (.v 3)]⟩ (.bind ⟨fun us _ => nB us, 1, [(.v 6)]⟩ (.need ⟨pF, [(.v 7)]⟩ (.bind ⟨fun us i => bRes (withT (gF us 0, gF us 1) (gF us 2) (gF us 3)) i, 1, [(.v 0), (.v 1), (.l (.f 0)), (.l (.f 4607182418800017408))]⟩ (.bind ⟨fun us _ => nB us, 1, [(.v 8)]⟩ (.need ⟨pF, [(.v 9)]⟩ (.bind ⟨fun us i => bRes (withT (gF us 0, gF us 1) (gF us 2) (gF us 3)) i, 1, [(.v 2), (.v 3), (.l (.f 0)), (.l (.f 4607182418800017408))]⟩ (.bind ⟨fun us _ => nB us, 1, [(.v 10)]⟩ (.need ⟨pF, [(.v 11)]⟩ (.bind ⟨fun us i => calR (numT (gI us 0) (gF us 1)) i, 3, [(.l (.i 0)), (.l (.f 4607182418800017408))]⟩ (.bind ⟨fun us i => calR (sqrT (gI us 0) (gF us 1, gF us 2)) i, 3, [(.v 14), (.v 2), (.v 3)]⟩ (.bind ⟨fun us i => calR (subT (gI us 0) (gF us 1, gF us 2) (gF us 3, gF us 4)) i, 3, [(.v 17), (.v 12), (.v 13), (.v 15), (.v 16)]⟩ (.bind ⟨fun us i => calR (mulT (gI us 0) (gF us 1, gF us 2) (gF us 3, gF us 4)) i, 3, [(.v 20), (.v 0), (.v 1), (.v 18), (.v 19)]⟩ (.done .ret ⟨[.tup [.agg [.fl (.v 21), .fl (.v 22)], .it .i64 (.l (.i 0))]], [], 24, []⟩))))))))))))))))) (by kernel_rfl) ?_ (denL_cons.2 ⟨_, _, (agg_mk (denL_cons.2 ⟨_, _, (fl_den rfl w0), (denL_cons.2 ⟨_, _, (fl_den rfl w1), rfl, rfl⟩), rfl⟩)), (denL_cons.2 ⟨_, _, (agg_mk (denL_cons.2 ⟨_, _, (fl_den rfl w2), (denL_cons.2 ⟨_, _, (fl_den rfl w3), rfl, rfl⟩), rfl⟩)), rfl, rfl⟩), rfl⟩)
  refine T.HH.h ?_
  refine T.hbind (us := [.f a0, .f a1]) (xs := [.b true]) (ρ' := [.f a0, .f a1, .f b0, .f b1, .b true]) rfl (congrArg (fun r => [U.b r]) h0) rfl ?_
  refine T.hbind (us := [.b true]) (xs := [.b false]) (ρ' := [.f a0, .f a1, .f b0, .f b1, .b true, .b false]) rfl (rfl) rfl ?_
  refine T.hneed (us := [.b false]) rfl (rfl) ?_
  refine T.hbind (us := [.f b0, .f b1]) (xs := [.b true]) (ρ' := [.f a0, .f a1, .f b0, .f b1, .b true, .b false, .b true]) rfl (congrArg (fun r => [U.b r]) h1) rfl ?_
  refine T.hbind (us := [.b true]) (xs := [.b false]) (ρ' := [.f a0, .f a1, .f b0, .f b1, .b true, .b false, .b true, .b false]) rfl (rfl) rfl ?_
  refine T.hneed (us := [.b false]) rfl (rfl) ?_
  refine T.hbind (us := [.f a0, .f a1, .f 0, .f 4607182418800017408]) (xs := [.b true]) (ρ' := [.f a0, .f a1, .f b0, .f b1, .b true, .b false, .b true, .b false, .b true]) rfl (congrArg (fun r => [U.b r]) h2) rfl ?_
  refine T.hbind (us := [.b true]) (xs := [.b false]) (ρ' := [.f a0, .f a1, .f b0, .f b1, .b true, .b false, .b true, .b false, .b true, .b false]) rfl (rfl) rfl ?_
  refine T.hneed (us := [.b false]) rfl (rfl) ?_
  refine T.hbind (us := [.f b0, .f b1, .f 0, .f 4607182418800017408]) (xs := [.b true]) (ρ' := [.f a0, .f a1, .f b0, .f b1, .b true, .b false, .b true, .b false, .b true, .b false, .b true]) rfl (congrArg (fun r => [U.b r]) h3) rfl ?_
  refine T.hbind (us := [.b true]) (xs := [.b false]) (ρ' := [.f a0, .f a1, .f b0, .f b1, .b true, .b false, .b true, .b false, .b true, .b false, .b true, .b false]) rfl (rfl) rfl ?_
  refine T.hneed (us := [.b false]) rfl (rfl) ?_
  refine T.hbind (us := [.i 0, .f 4607182418800017408]) (xs := [.f t0, .f t1, .i t2]) (ρ' := [.f a0, .f a1, .f b0, .f b1, .b true, .b false, .b true, .b false, .b true, .b false, .b true, .b false, .f t0, .f t1, .i t2]) rfl (congrArg (fun r => [calR r 0, calR r 1, calR r 2]) h4) rfl ?_
  refine T.hbind (us := [.i t2, .f b0, .f b1]) (xs := [.f t3, .f t4, .i t5]) (ρ' := [.f a0, .f a1, .f b0, .f b1, .b true, .b false, .b true, .b false, .b true, .b false, .b true, .b false, .f t0, .f t1, .i t2, .f t3, .f t4, .i t5]) rfl (congrArg (fun r => [calR r 0, calR r 1, calR r 2]) h5) rfl ?_
  refine T.hbind (us := [.i t5, .f t0, .f t1, .f t3, .f t4]) (xs := [.f t6, .f t7, .i t8]) (ρ' := [.f a0, .f a1, .f b0, .f b1, .b true, .b false, .b true, .b false, .b true, .b false, .b true, .b false, .f t0, .f t1, .i t2, .f t3, .f t4, .i t5, .f t6, .f t7, .i t8]) rfl (congrArg (fun r => [calR r 0, calR r 1, calR r 2]) h6) rfl ?_
  refine T.hbind (us := [.i t8, .f a0, .f a1, .f t6, .f t7]) (xs := [.f t9, .f t10, .i t11]) (ρ' := [.f a0, .f a1, .f b0, .f b1, .b true, .b false, .b true, .b false, .b true, .b false, .b true, .b false, .f t0, .f t1, .i t2, .f t3, .f t4, .i t5, .f t6, .f t7, .i t8, .f t9, .f t10, .i t11]) rfl (congrArg (fun r => [calR r 0, calR r 1, calR r 2]) h7) rfl ?_
  exact T.hdone ⟨rfl, rfl, rfl, r0, r1⟩

set_option maxRecDepth 100000 in
set_option maxHeartbeats 4000000 in
theorem rcap_1 (a0 a1 b0 b1 : Nat) (w : World) (w0 : Dy.W a0) (w1 : Dy.W a1) (w2 : Dy.W b0) (w3 : Dy.W b1) (h0 : (Dy.ivR (a0, a1)) = false)  : Calls Tryz.prog 11 #[.agg #[.float .f64 a0, .float .f64 a1], .agg #[.float .f64 b0, .float .f64 b1]] w fun e w' => e = .returned (.tuple #[.agg #[.float .f64 0, .float .f64 0], .int .i64 20]) ∧ Below w.heap.size w w' := by
  refine iv_calls (vs := [.agg #[.float .f64 a0, .float .f64 a1], .agg #[.float .f64 b0, .float .f64 b1]]) (us := [.f a0, .f a1, .f b0, .f b1]) (args := [vp 0 1, vp 2 3]) uj0_ok (dr_ok uj0_ok) Tryz.func11 [] 200 4 rfl [true] (t := .bind ⟨fIv1 Dy.ivR, 1, [(.v 0), (.v 1)]⟩ (.bind ⟨fun us _ => nB us, 1, [(.v 4)]⟩ (.need ⟨pT, [(.v 5)]⟩ (.done .ret ⟨[.tup [.agg [.fl (.l (.f 0)), .fl (.l (.f 0))], .it .i64 (.l (.i 20))]], [], 6, []⟩)))) (by kernel_rfl) ?_ (denL_cons.2 ⟨_, _, (agg_mk (denL_cons.2 ⟨_, _, (fl_den rfl w0), (denL_cons.2 ⟨_, _, (fl_den rfl w1), rfl, rfl⟩), rfl⟩)), (denL_cons.2 ⟨_, _, (agg_mk (denL_cons.2 ⟨_, _, (fl_den rfl w2), (denL_cons.2 ⟨_, _, (fl_den rfl w3), rfl, rfl⟩), rfl⟩)), rfl, rfl⟩), rfl⟩)
  refine T.HH.h ?_
  refine T.hbind (us := [.f a0, .f a1]) (xs := [.b false]) (ρ' := [.f a0, .f a1, .f b0, .f b1, .b false]) rfl (congrArg (fun r => [U.b r]) h0) rfl ?_
  refine T.hbind (us := [.b false]) (xs := [.b true]) (ρ' := [.f a0, .f a1, .f b0, .f b1, .b false, .b true]) rfl (rfl) rfl ?_
  refine T.hneed (us := [.b true]) rfl (rfl) ?_
  exact T.hdone ⟨rfl, rfl, rfl, (by decide), (by decide)⟩

set_option maxRecDepth 100000 in
set_option maxHeartbeats 4000000 in
theorem rcap_2 (a0 a1 b0 b1 : Nat) (w : World) (w0 : Dy.W a0) (w1 : Dy.W a1) (w2 : Dy.W b0) (w3 : Dy.W b1) (h0 : (Dy.ivR (a0, a1)) = true) (h1 : (Dy.ivR (b0, b1)) = false)  : Calls Tryz.prog 11 #[.agg #[.float .f64 a0, .float .f64 a1], .agg #[.float .f64 b0, .float .f64 b1]] w fun e w' => e = .returned (.tuple #[.agg #[.float .f64 0, .float .f64 0], .int .i64 20]) ∧ Below w.heap.size w w' := by
  refine iv_calls (vs := [.agg #[.float .f64 a0, .float .f64 a1], .agg #[.float .f64 b0, .float .f64 b1]]) (us := [.f a0, .f a1, .f b0, .f b1]) (args := [vp 0 1, vp 2 3]) uj0_ok (dr_ok uj0_ok) Tryz.func11 [] 200 4 rfl [false, true] (t := .bind ⟨fIv1 Dy.ivR, 1, [(.v 0), (.v 1)]⟩ (.bind ⟨fun us _ => nB us, 1, [(.v 4)]⟩ (.need ⟨pF, [(.v 5)]⟩ (.bind ⟨fIv1 Dy.ivR, 1, [(.v 2), (.v 3)]⟩ (.bind ⟨fun us _ => nB us, 1, [(.v 6)]⟩ (.need ⟨pT, [(.v 7)]⟩ (.done .ret ⟨[.tup [.agg [.fl (.l (.f 0)), .fl (.l (.f 0))], .it .i64 (.l (.i 20))]], [], 8, []⟩))))))) (by kernel_rfl) ?_ (denL_cons.2 ⟨_, _, (agg_mk (denL_cons.2 ⟨_, _, (fl_den rfl w0), (denL_cons.2 ⟨_, _, (fl_den rfl w1), rfl, rfl⟩), rfl⟩)), (denL_cons.2 ⟨_, _, (agg_mk (denL_cons.2 ⟨_, _, (fl_den rfl w2), (denL_cons.2 ⟨_, _, (fl_den rfl w3), rfl, rfl⟩), rfl⟩)), rfl, rfl⟩), rfl⟩)
  refine T.HH.h ?_
  refine T.hbind (us := [.f a0, .f a1]) (xs := [.b true]) (ρ' := [.f a0, .f a1, .f b0, .f b1, .b true]) rfl (congrArg (fun r => [U.b r]) h0) rfl ?_
  refine T.hbind (us := [.b true]) (xs := [.b false]) (ρ' := [.f a0, .f a1, .f b0, .f b1, .b true, .b false]) rfl (rfl) rfl ?_
  refine T.hneed (us := [.b false]) rfl (rfl) ?_
  refine T.hbind (us := [.f b0, .f b1]) (xs := [.b false]) (ρ' := [.f a0, .f a1, .f b0, .f b1, .b true, .b false, .b false]) rfl (congrArg (fun r => [U.b r]) h1) rfl ?_
  refine T.hbind (us := [.b false]) (xs := [.b true]) (ρ' := [.f a0, .f a1, .f b0, .f b1, .b true, .b false, .b false, .b true]) rfl (rfl) rfl ?_
  refine T.hneed (us := [.b true]) rfl (rfl) ?_
  exact T.hdone ⟨rfl, rfl, rfl, (by decide), (by decide)⟩

set_option maxRecDepth 100000 in
set_option maxHeartbeats 4000000 in
theorem rcap_3 (a0 a1 b0 b1 : Nat) (w : World) (w0 : Dy.W a0) (w1 : Dy.W a1) (w2 : Dy.W b0) (w3 : Dy.W b1) (h0 : (Dy.ivR (a0, a1)) = true) (h1 : (Dy.ivR (b0, b1)) = true) (h2 : ((withT (a0, a1) (0) (4607182418800017408))) = false)  : Calls Tryz.prog 11 #[.agg #[.float .f64 a0, .float .f64 a1], .agg #[.float .f64 b0, .float .f64 b1]] w fun e w' => e = .returned (.tuple #[.agg #[.float .f64 0, .float .f64 0], .int .i64 2]) ∧ Below w.heap.size w w' := by
  refine iv_calls (vs := [.agg #[.float .f64 a0, .float .f64 a1], .agg #[.float .f64 b0, .float .f64 b1]]) (us := [.f a0, .f a1, .f b0, .f b1]) (args := [vp 0 1, vp 2 3]) uj0_ok (dr_ok uj0_ok) Tryz.func11 [] 200 4 rfl [false, false, true] (t := .bind ⟨fIv1 Dy.ivR, 1, [(.v 0), (.v 1)]⟩ (.bind ⟨fun us _ => nB us, 1, [(.v 4)]⟩ (.need ⟨pF, [(.v 5)]⟩ (.bind ⟨fIv1 Dy.ivR, 1, [(.v 2), (.v 3)]⟩ (.bind ⟨fun us _ => nB us, 1, [(.v 6)]⟩ (.need ⟨pF, [(.v 7)]⟩ (.bind ⟨fun us i => bRes (withT (gF us 0, gF us 1) (gF us 2) (gF us 3)) i, 1, [(.v 0), (.v 1), (.l (.f 0)), (.l (.f 4607182418800017408))]⟩ (.bind ⟨fun us _ => nB us, 1, [(.v 8)]⟩ (.need ⟨pT, [(.v 9)]⟩ (.done .ret ⟨[.tup [.agg [.fl (.l (.f 0)), .fl (.l (.f 0))], .it .i64 (.l (.i 2))]], [], 10, []⟩)))))))))) (by kernel_rfl) ?_ (denL_cons.2 ⟨_, _, (agg_mk (denL_cons.2 ⟨_, _, (fl_den rfl w0), (denL_cons.2 ⟨_, _, (fl_den rfl w1), rfl, rfl⟩), rfl⟩)), (denL_cons.2 ⟨_, _, (agg_mk (denL_cons.2 ⟨_, _, (fl_den rfl w2), (denL_cons.2 ⟨_, _, (fl_den rfl w3), rfl, rfl⟩), rfl⟩)), rfl, rfl⟩), rfl⟩)
  refine T.HH.h ?_
  refine T.hbind (us := [.f a0, .f a1]) (xs := [.b true]) (ρ' := [.f a0, .f a1, .f b0, .f b1, .b true]) rfl (congrArg (fun r => [U.b r]) h0) rfl ?_
  refine T.hbind (us := [.b true]) (xs := [.b false]) (ρ' := [.f a0, .f a1, .f b0, .f b1, .b true, .b false]) rfl (rfl) rfl ?_
  refine T.hneed (us := [.b false]) rfl (rfl) ?_
  refine T.hbind (us := [.f b0, .f b1]) (xs := [.b true]) (ρ' := [.f a0, .f a1, .f b0, .f b1, .b true, .b false, .b true]) rfl (congrArg (fun r => [U.b r]) h1) rfl ?_
  refine T.hbind (us := [.b true]) (xs := [.b false]) (ρ' := [.f a0, .f a1, .f b0, .f b1, .b true, .b false, .b true, .b false]) rfl (rfl) rfl ?_
  refine T.hneed (us := [.b false]) rfl (rfl) ?_
  refine T.hbind (us := [.f a0, .f a1, .f 0, .f 4607182418800017408]) (xs := [.b false]) (ρ' := [.f a0, .f a1, .f b0, .f b1, .b true, .b false, .b true, .b false, .b false]) rfl (congrArg (fun r => [U.b r]) h2) rfl ?_
  refine T.hbind (us := [.b false]) (xs := [.b true]) (ρ' := [.f a0, .f a1, .f b0, .f b1, .b true, .b false, .b true, .b false, .b false, .b true]) rfl (rfl) rfl ?_
  refine T.hneed (us := [.b true]) rfl (rfl) ?_
  exact T.hdone ⟨rfl, rfl, rfl, (by decide), (by decide)⟩

set_option maxRecDepth 100000 in
set_option maxHeartbeats 4000000 in
theorem rcap_4 (a0 a1 b0 b1 : Nat) (w : World) (w0 : Dy.W a0) (w1 : Dy.W a1) (w2 : Dy.W b0) (w3 : Dy.W b1) (h0 : (Dy.ivR (a0, a1)) = true) (h1 : (Dy.ivR (b0, b1)) = true) (h2 : ((withT (a0, a1) (0) (4607182418800017408))) = true) (h3 : ((withT (b0, b1) (0) (4607182418800017408))) = false)  : Calls Tryz.prog 11 #[.agg #[.float .f64 a0, .float .f64 a1], .agg #[.float .f64 b0, .float .f64 b1]] w fun e w' => e = .returned (.tuple #[.agg #[.float .f64 0, .float .f64 0], .int .i64 2]) ∧ Below w.heap.size w w' := by
  refine iv_calls (vs := [.agg #[.float .f64 a0, .float .f64 a1], .agg #[.float .f64 b0, .float .f64 b1]]) (us := [.f a0, .f a1, .f b0, .f b1]) (args := [vp 0 1, vp 2 3]) uj0_ok (dr_ok uj0_ok) Tryz.func11 [] 200 4 rfl [false, false, false, true] (t := .bind ⟨fIv1 Dy.ivR, 1, [(.v 0), (.v 1)]⟩ (.bind ⟨fun us _ => nB us, 1, [(.v 4)]⟩ (.need ⟨pF, [(.v 5)]⟩ (.bind ⟨fIv1 Dy.ivR, 1, [(.v 2), (.v 3)]⟩ (.bind ⟨fun us _ => nB us, 1, [(.v 6)]⟩ (.need ⟨pF, [(.v 7)]⟩ (.bind ⟨fun us i => bRes (withT (gF us 0, gF us 1) (gF us 2) (gF us 3)) i, 1, [(.v 0), (.v 1), (.l (.f 0)), (.l (.f 4607182418800017408))]⟩ (.bind ⟨fun us _ => nB us, 1, [(.v 8)]⟩ (.need ⟨pF, [(.v 9)]⟩ (.bind ⟨fun us i => bRes (withT (gF us 0, gF us 1) (gF us 2) (gF us 3)) i, 1, [(.v 2), (.v 3), (.l (.f 0)), (.l (.f 4607182418800017408))]⟩ (.bind ⟨fun us _ => nB us, 1, [(.v 10)]⟩ (.need ⟨pT, [(.v 11)]⟩ (.done .ret ⟨[.tup [.agg [.fl (.l (.f 0)), .fl (.l (.f 0))], .it .i64 (.l (.i 2))]], [], 12, []⟩))))))))))))) (by kernel_rfl) ?_ (denL_cons.2 ⟨_, _, (agg_mk (denL_cons.2 ⟨_, _, (fl_den rfl w0), (denL_cons.2 ⟨_, _, (fl_den rfl w1), rfl, rfl⟩), rfl⟩)), (denL_cons.2 ⟨_, _, (agg_mk (denL_cons.2 ⟨_, _, (fl_den rfl w2), (denL_cons.2 ⟨_, _, (fl_den rfl w3), rfl, rfl⟩), rfl⟩)), rfl, rfl⟩), rfl⟩)
  refine T.HH.h ?_
  refine T.hbind (us := [.f a0, .f a1]) (xs := [.b true]) (ρ' := [.f a0, .f a1, .f b0, .f b1, .b true]) rfl (congrArg (fun r => [U.b r]) h0) rfl ?_
  refine T.hbind (us := [.b true]) (xs := [.b false]) (ρ' := [.f a0, .f a1, .f b0, .f b1, .b true, .b false]) rfl (rfl) rfl ?_
  refine T.hneed (us := [.b false]) rfl (rfl) ?_
  refine T.hbind (us := [.f b0, .f b1]) (xs := [.b true]) (ρ' := [.f a0, .f a1, .f b0, .f b1, .b true, .b false, .b true]) rfl (congrArg (fun r => [U.b r]) h1) rfl ?_
  refine T.hbind (us := [.b true]) (xs := [.b false]) (ρ' := [.f a0, .f a1, .f b0, .f b1, .b true, .b false, .b true, .b false]) rfl (rfl) rfl ?_
  refine T.hneed (us := [.b false]) rfl (rfl) ?_
  refine T.hbind (us := [.f a0, .f a1, .f 0, .f 4607182418800017408]) (xs := [.b true]) (ρ' := [.f a0, .f a1, .f b0, .f b1, .b true, .b false, .b true, .b false, .b true]) rfl (congrArg (fun r => [U.b r]) h2) rfl ?_
  refine T.hbind (us := [.b true]) (xs := [.b false]) (ρ' := [.f a0, .f a1, .f b0, .f b1, .b true, .b false, .b true, .b false, .b true, .b false]) rfl (rfl) rfl ?_
  refine T.hneed (us := [.b false]) rfl (rfl) ?_
  refine T.hbind (us := [.f b0, .f b1, .f 0, .f 4607182418800017408]) (xs := [.b false]) (ρ' := [.f a0, .f a1, .f b0, .f b1, .b true, .b false, .b true, .b false, .b true, .b false, .b false]) rfl (congrArg (fun r => [U.b r]) h3) rfl ?_
  refine T.hbind (us := [.b false]) (xs := [.b true]) (ρ' := [.f a0, .f a1, .f b0, .f b1, .b true, .b false, .b true, .b false, .b true, .b false, .b false, .b true]) rfl (rfl) rfl ?_
  refine T.hneed (us := [.b true]) rfl (rfl) ?_
  exact T.hdone ⟨rfl, rfl, rfl, (by decide), (by decide)⟩

end Go.Proofs.YtnbdjpnnagpldaaGreat
