/- A reckoning of programs by symbols: a calculator of burnishref02: off, keep. -/
import Derived.Test.YtkhplflbcgjkcaaGreatAd
import Derived.Test.YtkhplflbcgjkcaaGreatAf
namespace Go.Proofs.YtkhplflbcgjkcaaGreat
open Go Go.RowKit
set_option linter.unusedSimpArgs false
set_option linter.unusedVariables false
def offU (r : Bool × Int) (i : Nat) : U := match i with
 | 0 => .b r.1
 | _ => .i r.2
def offT (e : Int) (r : Bool) : Bool × Int := if e = 0 then (if r = true then (false, 0) else (true, 20)) else (true, e)
def keepT (c : Int) (lo : Nat) (e : Int) (hi : Nat) (f : Int) : (Nat × Nat) × Int := if e ≠ 0 then ((0, 0), e) else if f ≠ 0 then ((0, 0), f) else if c ≠ 0 then ((0, 0), c) else ((lo, hi), 0)
def lessT (a b : Nat) : Nat := if Dy.flt b a = true then b else a
def moreT (a b : Nat) : Nat := if Dy.fgt b a = true then b else a
def hullT (a b : Nat × Nat) : Nat × Nat := (lessT a.1 b.1, moreT a.2 b.2)
def fourT (o : Nat → Nat → Bool → Nat × Int) (c : Int) (a b : Nat × Nat) : (Nat × Nat) × Int :=
 let p := keepT c (o a.1 b.1 false).1 (o a.1 b.1 false).2 (o a.1 b.1 true).1 (o a.1 b.1 true).2
 if p.2 ≠ 0 then ((0, 0), p.2) else
 let q := keepT p.2 (o a.1 b.2 false).1 (o a.1 b.2 false).2 (o a.1 b.2 true).1 (o a.1 b.2 true).2
 if q.2 ≠ 0 then ((0, 0), q.2) else
 let r := keepT q.2 (o a.2 b.1 false).1 (o a.2 b.1 false).2 (o a.2 b.1 true).1 (o a.2 b.1 true).2
 if r.2 ≠ 0 then ((0, 0), r.2) else
 let s := keepT r.2 (o a.2 b.2 false).1 (o a.2 b.2 false).2 (o a.2 b.2 true).1 (o a.2 b.2 true).2
 if s.2 ≠ 0 then ((0, 0), s.2) else (hullT (hullT (hullT (hullT p.1 p.1) q.1) r.1) s.1, s.2)
def addT (c : Int) (a b : Nat × Nat) : (Nat × Nat) × Int := if (offT c (Dy.ivR a && Dy.ivR b)).1 = true then ((0, 0), (offT c (Dy.ivR a && Dy.ivR b)).2) else keepT (offT c (Dy.ivR a && Dy.ivR b)).2 (Dy.dAdd a.1 b.1 false).1 (Dy.dAdd a.1 b.1 false).2 (Dy.dAdd a.2 b.2 true).1 (Dy.dAdd a.2 b.2 true).2
def subT (c : Int) (a b : Nat × Nat) : (Nat × Nat) × Int := if (offT c (Dy.ivR a && Dy.ivR b)).1 = true then ((0, 0), (offT c (Dy.ivR a && Dy.ivR b)).2) else keepT (offT c (Dy.ivR a && Dy.ivR b)).2 (Dy.dSub a.1 b.2 false).1 (Dy.dSub a.1 b.2 false).2 (Dy.dSub a.2 b.1 true).1 (Dy.dSub a.2 b.1 true).2
def mulT (c : Int) (a b : Nat × Nat) : (Nat × Nat) × Int := if (offT c (Dy.ivR a && Dy.ivR b)).1 = true then ((0, 0), (offT c (Dy.ivR a && Dy.ivR b)).2) else fourT Dy.dMul (offT c (Dy.ivR a && Dy.ivR b)).2 a b
def divT (c : Int) (a b : Nat × Nat) : (Nat × Nat) × Int := if (offT c (Dy.ivR a && Dy.ivR b)).1 = true then ((0, 0), (offT c (Dy.ivR a && Dy.ivR b)).2) else if (Dy.flt b.1 0 || Dy.feq b.1 0) = true then (if (Dy.fgt b.2 0 || Dy.feq b.2 0) = true then ((0, 0), 11) else fourT Dy.dDiv (offT c (Dy.ivR a && Dy.ivR b)).2 a b) else fourT Dy.dDiv (offT c (Dy.ivR a && Dy.ivR b)).2 a b
def sqrtT (c : Int) (a : Nat × Nat) : (Nat × Nat) × Int := if (offT c (Dy.ivR a)).1 = true then ((0, 0), (offT c (Dy.ivR a)).2) else keepT (offT c (Dy.ivR a)).2 (Dy.dSqrt a.1 false).1 (Dy.dSqrt a.1 false).2 (Dy.dSqrt a.2 true).1 (Dy.dSqrt a.2 true).2
def maxT (c : Int) (a b : Nat × Nat) : (Nat × Nat) × Int := if (offT c (Dy.ivR a && Dy.ivR b)).1 = true then ((0, 0), (offT c (Dy.ivR a && Dy.ivR b)).2) else ((moreT a.1 b.1, moreT a.2 b.2), (offT c (Dy.ivR a && Dy.ivR b)).2)
def ofT (x : Nat) : (Nat × Nat) × Int := if rrT x = true then ((x, x), 0) else ((0, 0), 13)
def numT (e : Int) (x : Nat) : (Nat × Nat) × Int := if e = 0 then ofT x else ((0, 0), e)
def uf0 : List (Nat × Ct) := uE0
theorem uf0_ok : AllOk Tryz.prog uf0 := uE0_ok
def ctOff1 : Ct := ⟨3, [[vi .i64 0], [vf 1, vf 2]], [.ptr 0 0, .slc 1 0 1 1], { binds := [⟨fun us i => offU (offT (gI us 0) (Dy.ivR (gF us 1, gF us 2))) i, 2, upto 0 3⟩], needs := [], val := vb 3, upd := [(0, [vi .i64 4])] }⟩
set_option maxRecDepth 100000 in
set_option maxHeartbeats 8000000 in
theorem ctOff1_ok : CtOk Tryz.prog 111 ctOff1 := by
 refine CtOk.of_eval2 uf0_ok (dr_ok uf0_ok) Tryz.func111 rfl (by decide) [] 200 (by kernel_rfl) rfl (.bind ⟨fun us _ => jB (fun a b => a == b) us, 1, [(.v 0), (.l (.i 0))]⟩ (.ite (.v 3) (.bind ⟨fIv1 Dy.ivR, 1, [(.v 1), (.v 2)]⟩ (.bind ⟨fun us _ => nB us, 1, [(.v 4)]⟩ (.ite (.v 5) (.done .ret ⟨[.bo (.l (.b true))], [some ([.it .i64 (.l (.i 20))]), some ([.fl (.v 1), .fl (.v 2)])], 6, [0]⟩) (.bind ⟨fun us _ => jB (fun a b => a == b) us, 1, [(.v 0), (.l (.i 0))]⟩ (.ite (.v 6) (.bind ⟨fun us _ => jB (fun a b => a != b) us, 1, [(.v 0), (.l (.i 0))]⟩ (.done .ret ⟨[.bo (.v 7)], [some ([.it .i64 (.v 0)]), some ([.fl (.v 1), .fl (.v 2)])], 8, []⟩)) (.bind ⟨fun us _ => jB (fun a b => a != b) us, 1, [(.v 0), (.l (.i 0))]⟩ (.done .ret ⟨[.bo (.v 7)], [some ([.it .i64 (.v 0)]), some ([.fl (.v 1), .fl (.v 2)])], 8, []⟩))))))) (.bind ⟨fun us _ => jB (fun a b => a != b) us, 1, [(.v 0), (.l (.i 0))]⟩ (.done .ret ⟨[.bo (.v 4)], [some ([.it .i64 (.v 0)]), some ([.fl (.v 1), .fl (.v 2)])], 5, []⟩)))) (by kernel_rfl) (by kernel_rfl) (by kernel_rfl) (fun us hl hF hB hN => ?_)
 match us, hl with
 | [u0, u1, u2], _ =>
  simp [FactsB, FactsL, Facts, ctOff1] at hF hB
  simp [NeedsAt, runB, evs, E.ev, upto, resl, List.range, List.range.loop, ctOff1] at hN
  obtain ⟨⟨e, rfl⟩, ⟨a1, rfl, wa1⟩, ⟨a2, rfl, wa2⟩⟩ := hB
  refine T.HH.h ?_
  obtain ⟨t0, e1⟩ : ∃ t0, (e == 0) = t0 := ⟨_, rfl⟩
  refine T.hbind (xs := [.b t0]) rfl (congrArg (fun r => [U.b r]) e1) rfl ?_
  refine T.hite (x := t0) ?_ ?_ ?_
  ·rfl
  ·intro c3
   obtain ⟨t3, e4⟩ : ∃ t3, (Dy.ivR (a1, a2)) = t3 := ⟨_, rfl⟩
   refine T.hbind (xs := [.b t3]) rfl (congrArg (fun r => [U.b r]) e4) rfl ?_
   obtain ⟨t5, e6⟩ : ∃ t5, (!t3) = t5 := ⟨_, rfl⟩
   refine T.hbind (xs := [.b t5]) rfl (congrArg (fun r => [U.b r]) e6) rfl ?_
   refine T.hite (x := t5) ?_ ?_ ?_
   ·rfl
   ·intro c8
    refine T.hdone ?_
    have e00 : offT (e) (Dy.ivR (a1, a2)) = (true, 20) := by simp only [offT, e1, c3, e4, e6, c8] <;> first | (simp_all; done) | (simp_all <;> subst_vars <;> simp_all)
    exact ⟨(congrArg (fun r => some (offU r 0)) e00.symm), ⟨⟨⟨rfl, (congrArg (fun r => some (offU r 1)) e00.symm)⟩, trivial⟩, trivial⟩, rfl⟩
   ·intro c8
    refine T.hbind (xs := [.b t0]) rfl (congrArg (fun r => [U.b r]) e1) rfl ?_
    refine T.hite (x := t0) ?_ ?_ ?_
    ·rfl
    ·intro c9
     obtain ⟨t9, e10⟩ : ∃ t9, (e != 0) = t9 := ⟨_, rfl⟩
     refine T.hbind (xs := [.b t9]) rfl (congrArg (fun r => [U.b r]) e10) rfl ?_
     refine T.hdone ?_
     have e00 : offT (e) (Dy.ivR (a1, a2)) = (t9, e) := by simp only [offT, e1, c3, e4, e6, c8, c9, e10] <;> first | (simp_all; done) | (simp_all <;> subst_vars <;> simp_all)
     exact ⟨(congrArg (fun r => some (offU r 0)) e00.symm), ⟨⟨⟨rfl, (congrArg (fun r => some (offU r 1)) e00.symm)⟩, trivial⟩, trivial⟩, rfl⟩
    ·intro c9
     obtain ⟨t11, e12⟩ : ∃ t11, (e != 0) = t11 := ⟨_, rfl⟩
     refine T.hbind (xs := [.b t11]) rfl (congrArg (fun r => [U.b r]) e12) rfl ?_
     refine T.hdone ?_
     have e00 : offT (e) (Dy.ivR (a1, a2)) = (t11, e) := by simp only [offT, e1, c3, e4, e6, c8, c9, e12] <;> first | (simp_all; done) | (simp_all <;> subst_vars <;> simp_all)
     exact ⟨(congrArg (fun r => some (offU r 0)) e00.symm), ⟨⟨⟨rfl, (congrArg (fun r => some (offU r 1)) e00.symm)⟩, trivial⟩, trivial⟩, rfl⟩
  ·intro c3
   obtain ⟨t13, e14⟩ : ∃ t13, (e != 0) = t13 := ⟨_, rfl⟩
   refine T.hbind (xs := [.b t13]) rfl (congrArg (fun r => [U.b r]) e14) rfl ?_
   refine T.hdone ?_
   have e00 : offT (e) (Dy.ivR (a1, a2)) = (t13, e) := by simp only [offT, e1, c3, e14] <;> first | (simp_all; done) | (simp_all <;> subst_vars <;> simp_all)
   exact ⟨(congrArg (fun r => some (offU r 0)) e00.symm), ⟨⟨⟨rfl, (congrArg (fun r => some (offU r 1)) e00.symm)⟩, trivial⟩, trivial⟩, rfl⟩
def uf1 : List (Nat × Ct) := (111, ctOff1) :: uf0
theorem uf1_ok : AllOk Tryz.prog uf1 := ⟨ctOff1_ok, uf0_ok⟩
def ctOff2 : Ct := ⟨5, [[vi .i64 0], [vf 1, vf 2, vf 3, vf 4]], [.ptr 0 0, .slc 1 0 2 2], { binds := [⟨fun us i => offU (offT (gI us 0) (Dy.ivR (gF us 1, gF us 2) && Dy.ivR (gF us 3, gF us 4))) i, 2, upto 0 5⟩], needs := [], val := vb 5, upd := [(0, [vi .i64 6])] }⟩
set_option maxRecDepth 100000 in
set_option maxHeartbeats 8000000 in
theorem ctOff2_ok : CtOk Tryz.prog 111 ctOff2 := by
 refine CtOk.of_eval2 uf1_ok (dr_ok uf1_ok) Tryz.func111 rfl (by decide) [] 200 (by kernel_rfl) rfl (.bind ⟨fun us _ => jB (fun a b => a == b) us, 1, [(.v 0), (.l (.i 0))]⟩ (.ite (.v 5) (.bind ⟨fIv1 Dy.ivR, 1, [(.v 1), (.v 2)]⟩ (.bind ⟨fun us _ => nB us, 1, [(.v 6)]⟩ (.ite (.v 7) (.done .ret ⟨[.bo (.l (.b true))], [some ([.it .i64 (.l (.i 20))]), some ([.fl (.v 1), .fl (.v 2), .fl (.v 3), .fl (.v 4)])], 8, [0]⟩) (.bind ⟨fun us _ => jB (fun a b => a == b) us, 1, [(.v 0), (.l (.i 0))]⟩ (.ite (.v 8) (.bind ⟨fIv1 Dy.ivR, 1, [(.v 3), (.v 4)]⟩ (.bind ⟨fun us _ => nB us, 1, [(.v 9)]⟩ (.ite (.v 10) (.done .ret ⟨[.bo (.l (.b true))], [some ([.it .i64 (.l (.i 20))]), some ([.fl (.v 1), .fl (.v 2), .fl (.v 3), .fl (.v 4)])], 11, [0]⟩) (.bind ⟨fun us _ => jB (fun a b => a == b) us, 1, [(.v 0), (.l (.i 0))]⟩ (.ite (.v 11) (.bind ⟨fun us _ => jB (fun a b => a != b) us, 1, [(.v 0), (.l (.i 0))]⟩ (.done .ret ⟨[.bo (.v 12)], [some ([.it .i64 (.v 0)]), some ([.fl (.v 1), .fl (.v 2), .fl (.v 3), .fl (.v 4)])], 13, []⟩)) (.bind ⟨fun us _ => jB (fun a b => a != b) us, 1, [(.v 0), (.l (.i 0))]⟩ (.done .ret ⟨[.bo (.v 12)], [some ([.it .i64 (.v 0)]), some ([.fl (.v 1), .fl (.v 2), .fl (.v 3), .fl (.v 4)])], 13, []⟩))))))) (.bind ⟨fun us _ => jB (fun a b => a != b) us, 1, [(.v 0), (.l (.i 0))]⟩ (.done .ret ⟨[.bo (.v 9)], [some ([.it .i64 (.v 0)]), some ([.fl (.v 1), .fl (.v 2), .fl (.v 3), .fl (.v 4)])], 10, []⟩))))))) (.bind ⟨fun us _ => jB (fun a b => a != b) us, 1, [(.v 0), (.l (.i 0))]⟩ (.done .ret ⟨[.bo (.v 6)], [some ([.it .i64 (.v 0)]), some ([.fl (.v 1), .fl (.v 2), .fl (.v 3), .fl (.v 4)])], 7, []⟩)))) (by kernel_rfl) (by kernel_rfl) (by kernel_rfl) (fun us hl hF hB hN => ?_)
 match us, hl with
 | [u0, u1, u2, u3, u4], _ =>
  simp [FactsB, FactsL, Facts, ctOff2] at hF hB
  simp [NeedsAt, runB, evs, E.ev, upto, resl, List.range, List.range.loop, ctOff2] at hN
  obtain ⟨⟨e, rfl⟩, ⟨a1, rfl, wa1⟩, ⟨a2, rfl, wa2⟩, ⟨b1, rfl, wb1⟩, ⟨b2, rfl, wb2⟩⟩ := hB
  refine T.HH.h ?_
  obtain ⟨t0, e1⟩ : ∃ t0, (e == 0) = t0 := ⟨_, rfl⟩
  refine T.hbind (xs := [.b t0]) (ρ' := [.i e, .f a1, .f a2, .f b1, .f b2, .b t0]) rfl (congrArg (fun r => [U.b r]) e1) rfl ?_
  refine T.hite (x := t0) ?_ ?_ ?_
  ·rfl
  ·intro c3
   obtain ⟨t3, e4⟩ : ∃ t3, (Dy.ivR (a1, a2)) = t3 := ⟨_, rfl⟩
   refine T.hbind (xs := [.b t3]) rfl (congrArg (fun r => [U.b r]) e4) rfl ?_
   obtain ⟨t5, e6⟩ : ∃ t5, (!t3) = t5 := ⟨_, rfl⟩
   refine T.hbind (xs := [.b t5]) rfl (congrArg (fun r => [U.b r]) e6) rfl ?_
   refine T.hite (x := t5) ?_ ?_ ?_
   ·rfl
   ·intro c8
    refine T.hdone ?_
    have e00 : offT (e) (Dy.ivR (a1, a2) && Dy.ivR (b1, b2)) = (true, 20) := by simp only [offT, e1, c3, e4, e6, c8] <;> first | (simp_all; done) | (simp_all <;> subst_vars <;> simp_all)
    exact ⟨(congrArg (fun r => some (offU r 0)) e00.symm), ⟨⟨⟨rfl, (congrArg (fun r => some (offU r 1)) e00.symm)⟩, trivial⟩, trivial⟩, rfl⟩
   ·intro c8
    refine T.hbind (xs := [.b t0]) rfl (congrArg (fun r => [U.b r]) e1) rfl ?_
    refine T.hite (x := t0) ?_ ?_ ?_
    ·rfl
    ·intro c9
     obtain ⟨t9, e10⟩ : ∃ t9, (Dy.ivR (b1, b2)) = t9 := ⟨_, rfl⟩
     refine T.hbind (xs := [.b t9]) rfl (congrArg (fun r => [U.b r]) e10) rfl ?_
     obtain ⟨t11, e12⟩ : ∃ t11, (!t9) = t11 := ⟨_, rfl⟩
     refine T.hbind (xs := [.b t11]) rfl (congrArg (fun r => [U.b r]) e12) rfl ?_
     refine T.hite (x := t11) ?_ ?_ ?_
     ·rfl
     ·intro c14
      refine T.hdone ?_
      have e00 : offT (e) (Dy.ivR (a1, a2) && Dy.ivR (b1, b2)) = (true, 20) := by simp only [offT, e1, c3, e4, e6, c8, c9, e10, e12, c14] <;> first | (simp_all; done) | (simp_all <;> subst_vars <;> simp_all)
      exact ⟨(congrArg (fun r => some (offU r 0)) e00.symm), ⟨⟨⟨rfl, (congrArg (fun r => some (offU r 1)) e00.symm)⟩, trivial⟩, trivial⟩, rfl⟩
     ·intro c14
      refine T.hbind (xs := [.b t0]) rfl (congrArg (fun r => [U.b r]) e1) rfl ?_
      refine T.hite (x := t0) ?_ ?_ ?_
      ·rfl
      ·intro c15
       obtain ⟨t15, e16⟩ : ∃ t15, (e != 0) = t15 := ⟨_, rfl⟩
       refine T.hbind (xs := [.b t15]) rfl (congrArg (fun r => [U.b r]) e16) rfl ?_
       refine T.hdone ?_
       have e00 : offT (e) (Dy.ivR (a1, a2) && Dy.ivR (b1, b2)) = (t15, e) := by simp only [offT, e1, c3, e4, e6, c8, c9, e10, e12, c14, c15, e16] <;> first | (simp_all; done) | (simp_all <;> subst_vars <;> simp_all)
       exact ⟨(congrArg (fun r => some (offU r 0)) e00.symm), ⟨⟨⟨rfl, (congrArg (fun r => some (offU r 1)) e00.symm)⟩, trivial⟩, trivial⟩, rfl⟩
      ·intro c15
       obtain ⟨t17, e18⟩ : ∃ t17, (e != 0) = t17 := ⟨_, rfl⟩
       refine T.hbind (xs := [.b t17]) (ρ' := [.i e, .f a1, .f a2, .f b1, .f b2, .b t0, .b t3, .b t5, .b t0, .b t9, .b t11, .b t0, .b t17]) rfl (congrArg (fun r => [U.b r]) e18) rfl ?_
       refine T.hdone ?_
       have e00 : offT (e) (Dy.ivR (a1, a2) && Dy.ivR (b1, b2)) = (t17, e) := by simp only [offT, e1, c3, e4, e6, c8, c9, e10, e12, c14, c15, e18] <;> first | (simp_all; done) | (simp_all <;> subst_vars <;> simp_all)
       exact ⟨(congrArg (fun r => some (offU r 0)) e00.symm), ⟨⟨⟨rfl, (congrArg (fun r => some (offU r 1)) e00.symm)⟩, trivial⟩, trivial⟩, rfl⟩
    ·intro c9
     obtain ⟨t19, e20⟩ : ∃ t19, (e != 0) = t19 := ⟨_, rfl⟩
     refine T.hbind (xs := [.b t19]) rfl (congrArg (fun r => [U.b r]) e20) rfl ?_
     refine T.hdone ?_
     have e00 : offT (e) (Dy.ivR (a1, a2) && Dy.ivR (b1, b2)) = (t19, e) := by simp only [offT, e1, c3, e4, e6, c8, c9, e20] <;> first | (simp_all; done) | (simp_all <;> subst_vars <;> simp_all)
     exact ⟨(congrArg (fun r => some (offU r 0)) e00.symm), ⟨⟨⟨rfl, (congrArg (fun r => some (offU r 1)) e00.symm)⟩, trivial⟩, trivial⟩, rfl⟩
  ·intro c3
   obtain ⟨t21, e22⟩ : ∃ t21, (e != 0) = t21 := ⟨_, rfl⟩
   refine T.hbind (xs := [.b t21]) rfl (congrArg (fun r => [U.b r]) e22) rfl ?_
   refine T.hdone ?_
   have e00 : offT (e) (Dy.ivR (a1, a2) && Dy.ivR (b1, b2)) = (t21, e) := by simp only [offT, e1, c3, e22] <;> first | (simp_all; done) | (simp_all <;> subst_vars <;> simp_all)
   exact ⟨(congrArg (fun r => some (offU r 0)) e00.symm), ⟨⟨⟨rfl, (congrArg (fun r => some (offU r 1)) e00.symm)⟩, trivial⟩, trivial⟩, rfl⟩
def uf2 : List (Nat × Ct) := (111, ctOff2) :: uf1
theorem uf2_ok : AllOk Tryz.prog uf2 := ⟨ctOff2_ok, uf1_ok⟩
def ctKeep : Ct := ⟨5, [[vi .i64 0]], [.ptr 0 0, vf 1, vi .i64 2, vf 3, vi .i64 4], { binds := [⟨fun us i => calR (keepT (gI us 0) (gF us 1) (gI us 2) (gF us 3) (gI us 4)) i, 3, upto 0 5⟩], needs := [], val := vp 5 6, upd := [(0, [vi .i64 7])] }⟩
set_option maxRecDepth 100000 in
set_option maxHeartbeats 8000000 in
theorem ctKeep_ok : CtOk Tryz.prog 134 ctKeep := by
 refine CtOk.of_eval2 uf2_ok (dr_ok uf2_ok) Tryz.func134 rfl (by decide) [] 200 (by kernel_rfl) rfl (.bind ⟨fun us _ => jB (fun a b => a != b) us, 1, [(.v 2), (.l (.i 0))]⟩ (.ite (.v 5) (.bind ⟨fun us _ => jB (fun a b => a != b) us, 1, [(.v 2), (.l (.i 0))]⟩ (.ite (.v 6) (.done .ret ⟨[.agg [.fl (.l (.f 0)), .fl (.l (.f 0))]], [some ([.it .i64 (.v 2)])], 7, [0]⟩) (.done .ret ⟨[.agg [.fl (.v 1), .fl (.v 3)]], [some ([.it .i64 (.v 2)])], 7, [0]⟩))) (.bind ⟨fun us _ => jB (fun a b => a != b) us, 1, [(.v 4), (.l (.i 0))]⟩ (.ite (.v 6) (.bind ⟨fun us _ => jB (fun a b => a != b) us, 1, [(.v 4), (.l (.i 0))]⟩ (.ite (.v 7) (.done .ret ⟨[.agg [.fl (.l (.f 0)), .fl (.l (.f 0))]], [some ([.it .i64 (.v 4)])], 8, [0]⟩) (.done .ret ⟨[.agg [.fl (.v 1), .fl (.v 3)]], [some ([.it .i64 (.v 4)])], 8, [0]⟩))) (.bind ⟨fun us _ => jB (fun a b => a != b) us, 1, [(.v 0), (.l (.i 0))]⟩ (.ite (.v 7) (.done .ret ⟨[.agg [.fl (.l (.f 0)), .fl (.l (.f 0))]], [some ([.it .i64 (.v 0)])], 8, []⟩) (.done .ret ⟨[.agg [.fl (.v 1), .fl (.v 3)]], [some ([.it .i64 (.v 0)])], 8, []⟩))))))) (by kernel_rfl) (by kernel_rfl) (by kernel_rfl) (fun us hl hF hB hN => ?_)
 match us, hl with
 | [u0, u1, u2, u3, u4], _ =>
  simp [FactsB, FactsL, Facts, ctKeep] at hF hB
  simp [NeedsAt, runB, evs, E.ev, upto, resl, List.range, List.range.loop, ctKeep] at hN
  obtain ⟨⟨a1, rfl, wa1⟩, ⟨e, rfl⟩, ⟨a2, rfl, wa2⟩, ⟨f, rfl⟩⟩ := hF
  obtain ⟨c, rfl⟩ := hB
  refine T.HH.h ?_
  obtain ⟨t0, e1⟩ : ∃ t0, (e != 0) = t0 := ⟨_, rfl⟩
  refine T.hbind (xs := [.b t0]) rfl (congrArg (fun r => [U.b r]) e1) rfl ?_
  refine T.hite (x := t0) ?_ ?_ ?_
  ·rfl
  ·intro c3
   refine T.hbind (xs := [.b t0]) rfl (congrArg (fun r => [U.b r]) e1) rfl ?_
   refine T.hite (x := t0) ?_ ?_ ?_
   ·rfl
   ·intro c4
    refine T.hdone ?_
    have e00 : keepT (c) (a1) (e) (a2) (f) = ((0, 0), e) := by simp only [keepT, e1, c3, c4] <;> first | (simp_all; done) | (simp_all <;> subst_vars <;> simp_all)
    exact ⟨⟨(congrArg (fun r => some (calR r 0)) e00.symm), (congrArg (fun r => some (calR r 1)) e00.symm), trivial⟩, ⟨⟨⟨rfl, (congrArg (fun r => some (calR r 2)) e00.symm)⟩, trivial⟩, trivial⟩, rfl⟩
   ·intro c4
    refine T.hdone ?_
    have e00 : keepT (c) (a1) (e) (a2) (f) = ((a1, a2), e) := by simp only [keepT, e1, c3, c4] <;> first | (simp_all; done) | (simp_all <;> subst_vars <;> simp_all)
    exact ⟨⟨(congrArg (fun r => some (calR r 0)) e00.symm), (congrArg (fun r => some (calR r 1)) e00.symm), trivial⟩, ⟨⟨⟨rfl, (congrArg (fun r => some (calR r 2)) e00.symm)⟩, trivial⟩, trivial⟩, rfl⟩
  ·intro c3
   obtain ⟨t4, e5⟩ : ∃ t4, (f != 0) = t4 := ⟨_, rfl⟩
   refine T.hbind (xs := [.b t4]) rfl (congrArg (fun r => [U.b r]) e5) rfl ?_
   refine T.hite (x := t4) ?_ ?_ ?_
   ·rfl
   ·intro c7
    refine T.hbind (xs := [.b t4]) rfl (congrArg (fun r => [U.b r]) e5) rfl ?_
    refine T.hite (x := t4) ?_ ?_ ?_
    ·rfl
    ·intro c8
     refine T.hdone ?_
     have e00 : keepT (c) (a1) (e) (a2) (f) = ((0, 0), f) := by simp only [keepT, e1, c3, e5, c7, c8] <;> first | (simp_all; done) | (simp_all <;> subst_vars <;> simp_all)
     exact ⟨⟨(congrArg (fun r => some (calR r 0)) e00.symm), (congrArg (fun r => some (calR r 1)) e00.symm), trivial⟩, ⟨⟨⟨rfl, (congrArg (fun r => some (calR r 2)) e00.symm)⟩, trivial⟩, trivial⟩, rfl⟩
    ·intro c8
     refine T.hdone ?_
     have e00 : keepT (c) (a1) (e) (a2) (f) = ((a1, a2), f) := by simp only [keepT, e1, c3, e5, c7, c8] <;> first | (simp_all; done) | (simp_all <;> subst_vars <;> simp_all)
     exact ⟨⟨(congrArg (fun r => some (calR r 0)) e00.symm), (congrArg (fun r => some (calR r 1)) e00.symm), trivial⟩, ⟨⟨⟨rfl, (congrArg (fun r => some (calR r 2)) e00.symm)⟩, trivial⟩, trivial⟩, rfl⟩
   ·intro c7
    obtain ⟨t8, e9⟩ : ∃ t8, (c != 0) = t8 := ⟨_, rfl⟩
    refine T.hbind (xs := [.b t8]) rfl (congrArg (fun r => [U.b r]) e9) rfl ?_
    refine T.hite (x := t8) ?_ ?_ ?_
    ·rfl
    ·intro c11
     refine T.hdone ?_
     have e00 : keepT (c) (a1) (e) (a2) (f) = ((0, 0), c) := by simp only [keepT, e1, c3, e5, c7, e9, c11] <;> first | (simp_all; done) | (simp_all <;> subst_vars <;> simp_all)
     exact ⟨⟨(congrArg (fun r => some (calR r 0)) e00.symm), (congrArg (fun r => some (calR r 1)) e00.symm), trivial⟩, ⟨⟨⟨rfl, (congrArg (fun r => some (calR r 2)) e00.symm)⟩, trivial⟩, trivial⟩, rfl⟩
    ·intro c11
     refine T.hdone ?_
     have e00 : keepT (c) (a1) (e) (a2) (f) = ((a1, a2), c) := by simp only [keepT, e1, c3, e5, c7, e9, c11] <;> first | (simp_all; done) | (simp_all <;> subst_vars <;> simp_all)
     exact ⟨⟨(congrArg (fun r => some (calR r 0)) e00.symm), (congrArg (fun r => some (calR r 1)) e00.symm), trivial⟩, ⟨⟨⟨rfl, (congrArg (fun r => some (calR r 2)) e00.symm)⟩, trivial⟩, trivial⟩, rfl⟩
def uf3 : List (Nat × Ct) := (134, ctKeep) :: uf2
theorem uf3_ok : AllOk Tryz.prog uf3 := ⟨ctKeep_ok, uf2_ok⟩
def ctLess : Ct := ⟨2, [], [vf 0, vf 1], { binds := [⟨fun us i => fRes (lessT (gF us 0) (gF us 1)) i, 1, upto 0 2⟩], needs := [], val := vf 2, upd := [] }⟩
set_option maxRecDepth 100000 in
set_option maxHeartbeats 8000000 in
theorem ctLess_ok : CtOk Tryz.prog 64 ctLess := by
 refine CtOk.of_eval2 uf3_ok (dr_ok uf3_ok) Tryz.func64 rfl (by decide) [] 200 (by kernel_rfl) rfl (.bind ⟨fun us _ => cB Dy.flt us, 1, [(.v 1), (.v 0)]⟩ (.ite (.v 2) (.done .ret ⟨[.fl (.v 1)], [], 3, []⟩) (.done .ret ⟨[.fl (.v 0)], [], 3, []⟩))) (by kernel_rfl) (by kernel_rfl) (by kernel_rfl) (fun us hl hF hB hN => ?_)
 match us, hl with
 | [u0, u1], _ =>
  simp [FactsB, FactsL, Facts, ctLess] at hF hB
  simp [NeedsAt, runB, evs, E.ev, upto, resl, List.range, List.range.loop, ctLess] at hN
  obtain ⟨⟨a1, rfl, wa1⟩, ⟨b1, rfl, wb1⟩⟩ := hF
  refine T.HH.h ?_
  obtain ⟨t0, e1⟩ : ∃ t0, (Dy.flt b1 a1) = t0 := ⟨_, rfl⟩
  refine T.hbind (xs := [.b t0]) (ρ' := [.f a1, .f b1, .b t0]) rfl (congrArg (fun r => [U.b r]) e1) rfl ?_
  refine T.hite (x := t0) ?_ ?_ ?_
  ·rfl
  ·intro c3
   refine T.hdone ?_
   have e00 : lessT (a1) (b1) = b1 := by simp only [lessT, e1, c3] <;> first | (simp_all; done) | (simp_all <;> subst_vars <;> simp_all)
   exact ⟨(congrArg (fun r => some (fRes r 0)) e00.symm), trivial, rfl⟩
  ·intro c3
   refine T.hdone ?_
   have e00 : lessT (a1) (b1) = a1 := by simp only [lessT, e1, c3] <;> first | (simp_all; done) | (simp_all <;> subst_vars <;> simp_all)
   exact ⟨(congrArg (fun r => some (fRes r 0)) e00.symm), trivial, rfl⟩
def uf4 : List (Nat × Ct) := (64, ctLess) :: uf3
theorem uf4_ok : AllOk Tryz.prog uf4 := ⟨ctLess_ok, uf3_ok⟩
def ctMore : Ct := ⟨2, [], [vf 0, vf 1], { binds := [⟨fun us i => fRes (moreT (gF us 0) (gF us 1)) i, 1, upto 0 2⟩], needs := [], val := vf 2, upd := [] }⟩
set_option maxRecDepth 100000 in
set_option maxHeartbeats 8000000 in
theorem ctMore_ok : CtOk Tryz.prog 63 ctMore := by
 refine CtOk.of_eval2 uf4_ok (dr_ok uf4_ok) Tryz.func63 rfl (by decide) [] 200 (by kernel_rfl) rfl (.bind ⟨fun us _ => cB Dy.fgt us, 1, [(.v 1), (.v 0)]⟩ (.ite (.v 2) (.done .ret ⟨[.fl (.v 1)], [], 3, []⟩) (.done .ret ⟨[.fl (.v 0)], [], 3, []⟩))) (by kernel_rfl) (by kernel_rfl) (by kernel_rfl) (fun us hl hF hB hN => ?_)
 match us, hl with
 | [u0, u1], _ =>
  simp [FactsB, FactsL, Facts, ctMore] at hF hB
  simp [NeedsAt, runB, evs, E.ev, upto, resl, List.range, List.range.loop, ctMore] at hN
  obtain ⟨⟨a1, rfl, wa1⟩, ⟨b1, rfl, wb1⟩⟩ := hF
  refine T.HH.h ?_
  obtain ⟨t0, e1⟩ : ∃ t0, (Dy.fgt b1 a1) = t0 := ⟨_, rfl⟩
  refine T.hbind (xs := [.b t0]) rfl (congrArg (fun r => [U.b r]) e1) rfl ?_
  refine T.hite (x := t0) ?_ ?_ ?_
  ·rfl
  ·intro c3
   refine T.hdone ?_
   have e00 : moreT (a1) (b1) = b1 := by simp only [moreT, e1, c3] <;> first | (simp_all; done) | (simp_all <;> subst_vars <;> simp_all)
   exact ⟨(congrArg (fun r => some (fRes r 0)) e00.symm), trivial, rfl⟩
  ·intro c3
   refine T.hdone ?_
   have e00 : moreT (a1) (b1) = a1 := by simp only [moreT, e1, c3] <;> first | (simp_all; done) | (simp_all <;> subst_vars <;> simp_all)
   exact ⟨(congrArg (fun r => some (fRes r 0)) e00.symm), trivial, rfl⟩
def uf5 : List (Nat × Ct) := (63, ctMore) :: uf4
theorem uf5_ok : AllOk Tryz.prog uf5 := ⟨ctMore_ok, uf4_ok⟩
def ctHullT : Ct := ⟨4, [], [vp 0 1, vp 2 3], { binds := [⟨fun us i => ivU (hullT (gF us 0, gF us 1) (gF us 2, gF us 3)) i, 2, upto 0 4⟩], needs := [], val := vp 4 5, upd := [] }⟩
set_option maxRecDepth 100000 in
set_option maxHeartbeats 8000000 in
theorem ctHullT_ok : CtOk Tryz.prog 26 ctHullT := by
 refine CtOk.of_eval2 uf5_ok (dr_ok uf5_ok) Tryz.func26 rfl (by decide) [] 200 (by kernel_rfl) rfl (.bind ⟨fun us i => fRes (lessT (gF us 0) (gF us 1)) i, 1, [(.v 0), (.v 2)]⟩ (.bind ⟨fun us i => fRes (moreT (gF us 0) (gF us 1)) i, 1, [(.v 1), (.v 3)]⟩ (.done .ret ⟨[.agg [.fl (.v 4), .fl (.v 5)]], [], 6, []⟩))) (by kernel_rfl) (by kernel_rfl) (by kernel_rfl) (fun us hl hF hB hN => ?_)
 match us, hl with
 | [u0, u1, u2, u3], _ =>
  simp [FactsB, FactsL, Facts, ctHullT] at hF hB
  simp [NeedsAt, runB, evs, E.ev, upto, resl, List.range, List.range.loop, ctHullT] at hN
  obtain ⟨⟨⟨a1, rfl, wa1⟩, ⟨a2, rfl, wa2⟩⟩, ⟨b1, rfl, wb1⟩, ⟨b2, rfl, wb2⟩⟩ := hF
  refine T.HH.h ?_
  obtain ⟨t0, e1⟩ : ∃ t0, ((lessT (a1) (b1))) = t0 := ⟨_, rfl⟩
  refine T.hbind (xs := [.f t0]) rfl (congrArg (fun r => [U.f r]) e1) rfl ?_
  obtain ⟨t2, e3⟩ : ∃ t2, ((moreT (a2) (b2))) = t2 := ⟨_, rfl⟩
  refine T.hbind (xs := [.f t2]) rfl (congrArg (fun r => [U.f r]) e3) rfl ?_
  refine T.hdone ?_
  have e00 : hullT (a1, a2) (b1, b2) = (t0, t2) := by simp only [hullT, e1, e3] <;> first | (simp_all; done) | (simp_all <;> subst_vars <;> simp_all)
  exact ⟨⟨(congrArg (fun r => some (ivU r 0)) e00.symm), (congrArg (fun r => some (ivU r 1)) e00.symm), trivial⟩, trivial, rfl⟩
def uf6 : List (Nat × Ct) := (26, ctHullT) :: uf5
theorem uf6_ok : AllOk Tryz.prog uf6 := ⟨ctHullT_ok, uf5_ok⟩
def ctOf02 : Ct := ⟨1, [], [vf 0], { binds := [⟨fun us i => calR (ofT (gF us 0)) i, 3, upto 0 1⟩], needs := [], val := .tup [vp 1 2, vi .i64 3], upd := [] }⟩
set_option maxRecDepth 100000 in
set_option maxHeartbeats 8000000 in
theorem ctOf02_ok : CtOk Tryz.prog 14 ctOf02 := by
 refine CtOk.of_eval2 uf6_ok (dr_ok uf6_ok) Tryz.func14 rfl (by decide) [] 200 (by kernel_rfl) rfl (.bind ⟨fun us i => bRes (rrT (gF us 0)) i, 1, [(.v 0)]⟩ (.bind ⟨fun us _ => nB us, 1, [(.v 1)]⟩ (.ite (.v 2) (.done .ret ⟨[.tup [.agg [.fl (.l (.f 0)), .fl (.l (.f 0))], .it .i64 (.l (.i 13))]], [], 3, []⟩) (.done .ret ⟨[.tup [.agg [.fl (.v 0), .fl (.v 0)], .it .i64 (.l (.i 0))]], [], 3, []⟩)))) (by kernel_rfl) (by kernel_rfl) (by kernel_rfl) (fun us hl hF hB hN => ?_)
 match us, hl with
 | [u0], _ =>
  simp [FactsB, FactsL, Facts, ctOf02] at hF hB
  simp [NeedsAt, runB, evs, E.ev, upto, resl, List.range, List.range.loop, ctOf02] at hN
  obtain ⟨a1, rfl, wa1⟩ := hF
  refine T.HH.h ?_
  obtain ⟨t0, e1⟩ : ∃ t0, ((rrT (a1))) = t0 := ⟨_, rfl⟩
  refine T.hbind (xs := [.b t0]) rfl (congrArg (fun r => [U.b r]) e1) rfl ?_
  obtain ⟨t2, e3⟩ : ∃ t2, (!t0) = t2 := ⟨_, rfl⟩
  refine T.hbind (xs := [.b t2]) rfl (congrArg (fun r => [U.b r]) e3) rfl ?_
  refine T.hite (x := t2) ?_ ?_ ?_
  ·rfl
  ·intro c5
   refine T.hdone ?_
   have e00 : ofT (a1) = ((0, 0), 13) := by simp only [ofT, e1, e3, c5] <;> first | (simp_all; done) | (simp_all <;> subst_vars <;> simp_all)
   exact ⟨⟨⟨(congrArg (fun r => some (calR r 0)) e00.symm), (congrArg (fun r => some (calR r 1)) e00.symm), trivial⟩, ⟨rfl, (congrArg (fun r => some (calR r 2)) e00.symm)⟩, trivial⟩, trivial, rfl⟩
  ·intro c5
   refine T.hdone ?_
   have e00 : ofT (a1) = ((a1, a1), 0) := by simp only [ofT, e1, e3, c5] <;> first | (simp_all; done) | (simp_all <;> subst_vars <;> simp_all)
   exact ⟨⟨⟨(congrArg (fun r => some (calR r 0)) e00.symm), (congrArg (fun r => some (calR r 1)) e00.symm), trivial⟩, ⟨rfl, (congrArg (fun r => some (calR r 2)) e00.symm)⟩, trivial⟩, trivial, rfl⟩
def uf7 : List (Nat × Ct) := (14, ctOf02) :: uf6
theorem uf7_ok : AllOk Tryz.prog uf7 := ⟨ctOf02_ok, uf6_ok⟩
def ctNumT : Ct := ⟨2, [[vi .i64 0]], [.ptr 0 0, vf 1], { binds := [⟨fun us i => calR (numT (gI us 0) (gF us 1)) i, 3, upto 0 2⟩], needs := [], val := vp 2 3, upd := [(0, [vi .i64 4])] }⟩
set_option maxRecDepth 100000 in
set_option maxHeartbeats 8000000 in
theorem ctNumT_ok : CtOk Tryz.prog 53 ctNumT := by
 refine CtOk.of_eval2 uf7_ok (dr_ok uf7_ok) Tryz.func53 rfl (by decide) [] 200 (by kernel_rfl) rfl (.bind ⟨fun us _ => jB (fun a b => a != b) us, 1, [(.v 0), (.l (.i 0))]⟩ (.ite (.v 2) (.done .ret ⟨[.agg [.fl (.l (.f 0)), .fl (.l (.f 0))]], [some ([.it .i64 (.v 0)])], 3, []⟩) (.bind ⟨fun us i => calR (ofT (gF us 0)) i, 3, [(.v 1)]⟩ (.done .ret ⟨[.agg [.fl (.v 3), .fl (.v 4)]], [some ([.it .i64 (.v 5)])], 6, [0]⟩)))) (by kernel_rfl) (by kernel_rfl) (by kernel_rfl) (fun us hl hF hB hN => ?_)
 match us, hl with
 | [u0, u1], _ =>
  simp [FactsB, FactsL, Facts, ctNumT] at hF hB
  simp [NeedsAt, runB, evs, E.ev, upto, resl, List.range, List.range.loop, ctNumT] at hN
  obtain ⟨a1, rfl, wa1⟩ := hF
  obtain ⟨e, rfl⟩ := hB
  refine T.HH.h ?_
  obtain ⟨t0, e1⟩ : ∃ t0, (e != 0) = t0 := ⟨_, rfl⟩
  refine T.hbind (xs := [.b t0]) rfl (congrArg (fun r => [U.b r]) e1) rfl ?_
  refine T.hite (x := t0) ?_ ?_ ?_
  ·rfl
  ·intro c3
   refine T.hdone ?_
   have e00 : numT (e) (a1) = ((0, 0), e) := by simp only [numT, e1, c3] <;> first | (simp_all; done) | (simp_all <;> subst_vars <;> simp_all)
   exact ⟨⟨(congrArg (fun r => some (calR r 0)) e00.symm), (congrArg (fun r => some (calR r 1)) e00.symm), trivial⟩, ⟨⟨⟨rfl, (congrArg (fun r => some (calR r 2)) e00.symm)⟩, trivial⟩, trivial⟩, rfl⟩
  ·intro c3
   obtain ⟨t3, t4, t5, e6⟩ := Dy.ex3 (ofT (a1))
   refine T.hbind (xs := [.f t3, .f t4, .i t5]) rfl (congrArg (fun r => [calR r 0, calR r 1, calR r 2]) e6) rfl ?_
   refine T.hdone ?_
   have e00 : numT (e) (a1) = ((t3, t4), t5) := by simp only [numT, e1, c3, e6] <;> first | (simp_all; done) | (simp_all <;> subst_vars <;> simp_all)
   exact ⟨⟨(congrArg (fun r => some (calR r 0)) e00.symm), (congrArg (fun r => some (calR r 1)) e00.symm), trivial⟩, ⟨⟨⟨rfl, (congrArg (fun r => some (calR r 2)) e00.symm)⟩, trivial⟩, trivial⟩, rfl⟩
def uf8 : List (Nat × Ct) := (53, ctNumT) :: uf7
theorem uf8_ok : AllOk Tryz.prog uf8 := ⟨ctNumT_ok, uf7_ok⟩
def ctFourM : Ct := ⟨5, [[vi .i64 0]], [.ptr 0 0, vp 1 2, vp 3 4, .bo (.l (.b false))], { binds := [⟨fun us i => calR (fourT Dy.dMul (gI us 0) (gF us 1, gF us 2) (gF us 3, gF us 4)) i, 3, upto 0 5⟩], needs := [], val := vp 5 6, upd := [(0, [vi .i64 7])] }⟩
set_option maxRecDepth 100000 in
set_option maxHeartbeats 8000000 in
theorem ctFourM_ok : CtOk Tryz.prog 112 ctFourM := by
 refine CtOk.of_eval2 uf8_ok (dr_ok uf8_ok) Tryz.func112 rfl (by decide) [] 200 (by kernel_rfl) rfl (.bind ⟨fOp2 Dy.dMul, 2, [(.v 1), (.v 3), (.l (.b false))]⟩ (.bind ⟨fOp2 Dy.dMul, 2, [(.v 1), (.v 3), (.l (.b true))]⟩ (.bind ⟨fun us i => calR (keepT (gI us 0) (gF us 1) (gI us 2) (gF us 3) (gI us 4)) i, 3, [(.v 0), (.v 5), (.v 6), (.v 7), (.v 8)]⟩ (.bind ⟨fun us _ => jB (fun a b => a != b) us, 1, [(.v 11), (.l (.i 0))]⟩ (.ite (.v 12) (.done .ret ⟨[.agg [.fl (.l (.f 0)), .fl (.l (.f 0))]], [some ([.it .i64 (.v 11)])], 13, [0]⟩) (.bind ⟨fun us i => ivU (hullT (gF us 0, gF us 1) (gF us 2, gF us 3)) i, 2, [(.v 9), (.v 10), (.v 9), (.v 10)]⟩ (.bind ⟨fOp2 Dy.dMul, 2, [(.v 1), (.v 4), (.l (.b false))]⟩ (.bind ⟨fOp2 Dy.dMul, 2, [(.v 1), (.v 4), (.l (.b true))]⟩ (.bind ⟨fun us i => calR (keepT (gI us 0) (gF us 1) (gI us 2) (gF us 3) (gI us 4)) i, 3, [(.v 11), (.v 15), (.v 16), (.v 17), (.v 18)]⟩ (.bind ⟨fun us _ => jB (fun a b => a != b) us, 1, [(.v 21), (.l (.i 0))]⟩ (.ite (.v 22) (.done .ret ⟨[.agg [.fl (.l (.f 0)), .fl (.l (.f 0))]], [some ([.it .i64 (.v 21)])], 23, [0, 0]⟩) (.bind ⟨fun us i => ivU (hullT (gF us 0, gF us 1) (gF us 2, gF us 3)) i, 2, [(.v 13), (.v 14), (.v 19), (.v 20)]⟩ (.bind ⟨fOp2 Dy.dMul, 2, [(.v 2), (.v 3), (.l (.b false))]⟩ (.bind ⟨fOp2 Dy.dMul, 2, [(.v 2), (.v 3), (.l (.b true))]⟩ (.bind ⟨fun us i => calR (keepT (gI us 0) (gF us 1) (gI us 2) (gF us 3) (gI us 4)) i, 3, [(.v 21), (.v 25), (.v 26), (.v 27), (.v 28)]⟩ (.bind ⟨fun us _ => jB (fun a b => a != b) us, 1, [(.v 31), (.l (.i 0))]⟩ (.ite (.v 32) (.done .ret ⟨[.agg [.fl (.l (.f 0)), .fl (.l (.f 0))]], [some ([.it .i64 (.v 31)])], 33, [0, 0, 0]⟩) (.bind ⟨fun us i => ivU (hullT (gF us 0, gF us 1) (gF us 2, gF us 3)) i, 2, [(.v 23), (.v 24), (.v 29), (.v 30)]⟩ (.bind ⟨fOp2 Dy.dMul, 2, [(.v 2), (.v 4), (.l (.b false))]⟩ (.bind ⟨fOp2 Dy.dMul, 2, [(.v 2), (.v 4), (.l (.b true))]⟩ (.bind ⟨fun us i => calR (keepT (gI us 0) (gF us 1) (gI us 2) (gF us 3) (gI us 4)) i, 3, [(.v 31), (.v 35), (.v 36), (.v 37), (.v 38)]⟩ (.bind ⟨fun us _ => jB (fun a b => a != b) us, 1, [(.v 41), (.l (.i 0))]⟩ (.ite (.v 42) (.done .ret ⟨[.agg [.fl (.l (.f 0)), .fl (.l (.f 0))]], [some ([.it .i64 (.v 41)])], 43, [0, 0, 0, 0]⟩) (.bind ⟨fun us i => ivU (hullT (gF us 0, gF us 1) (gF us 2, gF us 3)) i, 2, [(.v 33), (.v 34), (.v 39), (.v 40)]⟩ (.done .ret ⟨[.agg [.fl (.v 43), .fl (.v 44)]], [some ([.it .i64 (.v 41)])], 45, [0, 0, 0, 0]⟩))))))))))))))))))))))))) (by kernel_rfl) (by kernel_rfl) (by kernel_rfl) (fun us hl hF hB hN => ?_)
 match us, hl with
 | [u0, u1, u2, u3, u4], _ =>
  simp [FactsB, FactsL, Facts, ctFourM] at hF hB
  simp [NeedsAt, runB, evs, E.ev, upto, resl, List.range, List.range.loop, ctFourM] at hN
  obtain ⟨⟨⟨a1, rfl, wa1⟩, ⟨a2, rfl, wa2⟩⟩, ⟨b1, rfl, wb1⟩, ⟨b2, rfl, wb2⟩⟩ := hF
  obtain ⟨e, rfl⟩ := hB
  refine T.HH.h ?_
  obtain ⟨t0, t1, e2⟩ := Dy.ex2 (Dy.dMul a1 b1 false)
  refine T.hbind (xs := [.f t0, .i t1]) (ρ' := [.i e, .f a1, .f a2, .f b1, .f b2, .f t0, .i t1]) rfl (congrArg (fun r : Nat × Int => [U.f r.1, U.i r.2]) e2) rfl ?_
  obtain ⟨t3, t4, e5⟩ := Dy.ex2 (Dy.dMul a1 b1 true)
  refine T.hbind (xs := [.f t3, .i t4]) rfl (congrArg (fun r : Nat × Int => [U.f r.1, U.i r.2]) e5) rfl ?_
  obtain ⟨t6, t7, t8, e9⟩ := Dy.ex3 (keepT (e) (t0) (t1) (t3) (t4))
  refine T.hbind (xs := [.f t6, .f t7, .i t8]) rfl (congrArg (fun r => [calR r 0, calR r 1, calR r 2]) e9) rfl ?_
  obtain ⟨t10, e11⟩ : ∃ t10, (t8 != 0) = t10 := ⟨_, rfl⟩
  refine T.hbind (xs := [.b t10]) rfl (congrArg (fun r => [U.b r]) e11) rfl ?_
  refine T.hite (x := t10) ?_ ?_ ?_
  ·rfl
  ·intro c13
   refine T.hdone ?_
   have e00 : fourT Dy.dMul (e) (a1, a2) (b1, b2) = ((0, 0), t8) := by simp only [fourT, e2, e5, e9, e11, c13] <;> first | (simp_all; done) | (simp_all <;> subst_vars <;> simp_all)
   exact ⟨⟨(congrArg (fun r => some (calR r 0)) e00.symm), (congrArg (fun r => some (calR r 1)) e00.symm), trivial⟩, ⟨⟨⟨rfl, (congrArg (fun r => some (calR r 2)) e00.symm)⟩, trivial⟩, trivial⟩, rfl⟩
  ·intro c13
   obtain ⟨t13, t14, e15⟩ := Dy.ex2 (hullT (t6, t7) (t6, t7))
   refine T.hbind (xs := [.f t13, .f t14]) rfl (congrArg (fun r => [ivU r 0, ivU r 1]) e15) rfl ?_
   obtain ⟨t16, t17, e18⟩ := Dy.ex2 (Dy.dMul a1 b2 false)
   refine T.hbind (xs := [.f t16, .i t17]) rfl (congrArg (fun r : Nat × Int => [U.f r.1, U.i r.2]) e18) rfl ?_
   obtain ⟨t19, t20, e21⟩ := Dy.ex2 (Dy.dMul a1 b2 true)
   refine T.hbind (xs := [.f t19, .i t20]) rfl (congrArg (fun r : Nat × Int => [U.f r.1, U.i r.2]) e21) rfl ?_
   obtain ⟨t22, t23, t24, e25⟩ := Dy.ex3 (keepT (t8) (t16) (t17) (t19) (t20))
   refine T.hbind (xs := [.f t22, .f t23, .i t24]) rfl (congrArg (fun r => [calR r 0, calR r 1, calR r 2]) e25) rfl ?_
   obtain ⟨t26, e27⟩ : ∃ t26, (t24 != 0) = t26 := ⟨_, rfl⟩
   refine T.hbind (xs := [.b t26]) (ρ' := [.i e, .f a1, .f a2, .f b1, .f b2, .f t0, .i t1, .f t3, .i t4, .f t6, .f t7, .i t8, .b t10, .f t13, .f t14, .f t16, .i t17, .f t19, .i t20, .f t22, .f t23, .i t24, .b t26]) rfl (congrArg (fun r => [U.b r]) e27) rfl ?_
   refine T.hite (x := t26) ?_ ?_ ?_
   ·rfl
   ·intro c29
    refine T.hdone ?_
    have e00 : fourT Dy.dMul (e) (a1, a2) (b1, b2) = ((0, 0), t24) := by simp only [fourT, e2, e5, e9, e11, c13, e15, e18, e21, e25, e27, c29] <;> first | (simp_all; done) | (simp_all <;> subst_vars <;> simp_all)
    exact ⟨⟨(congrArg (fun r => some (calR r 0)) e00.symm), (congrArg (fun r => some (calR r 1)) e00.symm), trivial⟩, ⟨⟨⟨rfl, (congrArg (fun r => some (calR r 2)) e00.symm)⟩, trivial⟩, trivial⟩, rfl⟩
   ·intro c29
    obtain ⟨t29, t30, e31⟩ := Dy.ex2 (hullT (t13, t14) (t22, t23))
    refine T.hbind (xs := [.f t29, .f t30]) rfl (congrArg (fun r => [ivU r 0, ivU r 1]) e31) rfl ?_
    obtain ⟨t32, t33, e34⟩ := Dy.ex2 (Dy.dMul a2 b1 false)
    refine T.hbind (xs := [.f t32, .i t33]) rfl (congrArg (fun r : Nat × Int => [U.f r.1, U.i r.2]) e34) rfl ?_
    obtain ⟨t35, t36, e37⟩ := Dy.ex2 (Dy.dMul a2 b1 true)
    refine T.hbind (xs := [.f t35, .i t36]) rfl (congrArg (fun r : Nat × Int => [U.f r.1, U.i r.2]) e37) rfl ?_
    obtain ⟨t38, t39, t40, e41⟩ := Dy.ex3 (keepT (t24) (t32) (t33) (t35) (t36))
    refine T.hbind (xs := [.f t38, .f t39, .i t40]) rfl (congrArg (fun r => [calR r 0, calR r 1, calR r 2]) e41) rfl ?_
    obtain ⟨t42, e43⟩ : ∃ t42, (t40 != 0) = t42 := ⟨_, rfl⟩
    refine T.hbind (xs := [.b t42]) rfl (congrArg (fun r => [U.b r]) e43) rfl ?_
    refine T.hite (x := t42) ?_ ?_ ?_
    ·rfl
    ·intro c45
     refine T.hdone ?_
     have e00 : fourT Dy.dMul (e) (a1, a2) (b1, b2) = ((0, 0), t40) := by simp only [fourT, e2, e5, e9, e11, c13, e15, e18, e21, e25, e27, c29, e31, e34, e37, e41, e43, c45] <;> first | (simp_all; done) | (simp_all <;> subst_vars <;> simp_all)
     exact ⟨⟨(congrArg (fun r => some (calR r 0)) e00.symm), (congrArg (fun r => some (calR r 1)) e00.symm), trivial⟩, ⟨⟨⟨rfl, (congrArg (fun r => some (calR r 2)) e00.symm)⟩, trivial⟩, trivial⟩, rfl⟩
    ·intro c45
     obtain ⟨t45, t46, e47⟩ := Dy.ex2 (hullT (t29, t30) (t38, t39))
     refine T.hbind (xs := [.f t45, .f t46]) rfl (congrArg (fun r => [ivU r 0, ivU r 1]) e47) rfl ?_
     obtain ⟨t48, t49, e50⟩ := Dy.ex2 (Dy.dMul a2 b2 false)
     refine T.hbind (xs := [.f t48, .i t49]) rfl (congrArg (fun r : Nat × Int => [U.f r.1, U.i r.2]) e50) rfl ?_
     obtain ⟨t51, t52, e53⟩ := Dy.ex2 (Dy.dMul a2 b2 true)
     refine T.hbind (xs := [.f t51, .i t52]) (ρ' := [.i e, .f a1, .f a2, .f b1, .f b2, .f t0, .i t1, .f t3, .i t4, .f t6, .f t7, .i t8, .b t10, .f t13, .f t14, .f t16, .i t17, .f t19, .i t20, .f t22, .f t23, .i t24, .b t26, .f t29, .f t30, .f t32, .i t33, .f t35, .i t36, .f t38, .f t39, .i t40, .b t42, .f t45, .f t46, .f t48, .i t49, .f t51, .i t52]) rfl (congrArg (fun r : Nat × Int => [U.f r.1, U.i r.2]) e53) rfl ?_
     obtain ⟨t54, t55, t56, e57⟩ := Dy.ex3 (keepT (t40) (t48) (t49) (t51) (t52))
     refine T.hbind (xs := [.f t54, .f t55, .i t56]) rfl (congrArg (fun r => [calR r 0, calR r 1, calR r 2]) e57) rfl ?_
     obtain ⟨t58, e59⟩ : ∃ t58, (t56 != 0) = t58 := ⟨_, rfl⟩
     refine T.hbind (xs := [.b t58]) rfl (congrArg (fun r => [U.b r]) e59) rfl ?_
     refine T.hite (x := t58) ?_ ?_ ?_
     ·rfl
     ·intro c61
      refine T.hdone ?_
      have e00 : fourT Dy.dMul (e) (a1, a2) (b1, b2) = ((0, 0), t56) := by simp only [fourT, e2, e5, e9, e11, c13, e15, e18, e21, e25, e27, c29, e31, e34, e37, e41, e43, c45, e47, e50, e53, e57, e59, c61] <;> first | (simp_all; done) | (simp_all <;> subst_vars <;> simp_all)
      exact ⟨⟨(congrArg (fun r => some (calR r 0)) e00.symm), (congrArg (fun r => some (calR r 1)) e00.symm), trivial⟩, ⟨⟨⟨rfl, (congrArg (fun r => some (calR r 2)) e00.symm)⟩, trivial⟩, trivial⟩, rfl⟩
     ·intro c61
      obtain ⟨t61, t62, e63⟩ := Dy.ex2 (hullT (t45, t46) (t54, t55))
      refine T.hbind (xs := [.f t61, .f t62]) rfl (congrArg (fun r => [ivU r 0, ivU r 1]) e63) rfl ?_
      refine T.hdone ?_
      have e00 : fourT Dy.dMul (e) (a1, a2) (b1, b2) = ((t61, t62), t56) := by simp only [fourT, e2, e5, e9, e11, c13, e15, e18, e21, e25, e27, c29, e31, e34, e37, e41, e43, c45, e47, e50, e53, e57, e59, c61, e63] <;> first | (simp_all; done) | (simp_all <;> subst_vars <;> simp_all)
      exact ⟨⟨(congrArg (fun r => some (calR r 0)) e00.symm), (congrArg (fun r => some (calR r 1)) e00.symm), trivial⟩, ⟨⟨⟨rfl, (congrArg (fun r => some (calR r 2)) e00.symm)⟩, trivial⟩, trivial⟩, rfl⟩
def uf9 : List (Nat × Ct) := (112, ctFourM) :: uf8
theorem uf9_ok : AllOk Tryz.prog uf9 := ⟨ctFourM_ok, uf8_ok⟩
def ctFourD : Ct := ⟨5, [[vi .i64 0]], [.ptr 0 0, vp 1 2, vp 3 4, .bo (.l (.b true))], { binds := [⟨fun us i => calR (fourT Dy.dDiv (gI us 0) (gF us 1, gF us 2) (gF us 3, gF us 4)) i, 3, upto 0 5⟩], needs := [], val := vp 5 6, upd := [(0, [vi .i64 7])] }⟩
set_option maxRecDepth 100000 in
set_option maxHeartbeats 8000000 in
theorem ctFourD_ok : CtOk Tryz.prog 112 ctFourD := by
 refine CtOk.of_eval2 uf9_ok (dr_ok uf9_ok) Tryz.func112 rfl (by decide) [] 200 (by kernel_rfl) rfl (.bind ⟨fOp2 Dy.dDiv, 2, [(.v 1), (.v 3), (.l (.b false))]⟩ (.bind ⟨fOp2 Dy.dDiv, 2, [(.v 1), (.v 3), (.l (.b true))]⟩ (.bind ⟨fun us i => calR (keepT (gI us 0) (gF us 1) (gI us 2) (gF us 3) (gI us 4)) i, 3, [(.v 0), (.v 5), (.v 6), (.v 7), (.v 8)]⟩ (.bind ⟨fun us _ => jB (fun a b => a != b) us, 1, [(.v 11), (.l (.i 0))]⟩ (.ite (.v 12) (.done .ret ⟨[.agg [.fl (.l (.f 0)), .fl (.l (.f 0))]], [some ([.it .i64 (.v 11)])], 13, [0]⟩) (.bind ⟨fun us i => ivU (hullT (gF us 0, gF us 1) (gF us 2, gF us 3)) i, 2, [(.v 9), (.v 10), (.v 9), (.v 10)]⟩ (.bind ⟨fOp2 Dy.dDiv, 2, [(.v 1), (.v 4), (.l (.b false))]⟩ (.bind ⟨fOp2 Dy.dDiv, 2, [(.v 1), (.v 4), (.l (.b true))]⟩ (.bind ⟨fun us i => calR (keepT (gI us 0) (gF us 1) (gI us 2) (gF us 3) (gI us 4)) i, 3, [(.v 11), (.v 15), (.v 16), (.v 17), (.v 18)]⟩ (.bind ⟨fun us _ => jB (fun a b => a != b) us, 1, [(.v 21), (.l (.i 0))]⟩ (.ite (.v 22) (.done .ret ⟨[.agg [.fl (.l (.f 0)), .fl (.l (.f 0))]], [some ([.it .i64 (.v 21)])], 23, [0, 0]⟩) (.bind ⟨fun us i => ivU (hullT (gF us 0, gF us 1) (gF us 2, gF us 3)) i, 2, [(.v 13), (.v 14), (.v 19), (.v 20)]⟩ (.bind ⟨fOp2 Dy.dDiv, 2, [(.v 2), (.v 3), (.l (.b false))]⟩ (.bind ⟨fOp2 Dy.dDiv, 2, [(.v 2), (.v 3), (.l (.b true))]⟩ (.bind ⟨fun us i => calR (keepT (gI us 0) (gF us 1) (gI us 2) (gF us 3) (gI us 4)) i, 3, [(.v 21), (.v 25), (.v 26), (.v 27), (.v 28)]⟩ (.bind ⟨fun us _ => jB (fun a b => a != b) us, 1, [(.v 31), (.l (.i 0))]⟩ (.ite (.v 32) (.done .ret ⟨[.agg [.fl (.l (.f 0)), .fl (.l (.f 0))]], [some ([.it .i64 (.v 31)])], 33, [0, 0, 0]⟩) (.bind ⟨fun us i => ivU (hullT (gF us 0, gF us 1) (gF us 2, gF us 3)) i, 2, [(.v 23), (.v 24), (.v 29), (.v 30)]⟩ (.bind ⟨fOp2 Dy.dDiv, 2, [(.v 2), (.v 4), (.l (.b false))]⟩ (.bind ⟨fOp2 Dy.dDiv, 2, [(.v 2), (.v 4), (.l (.b true))]⟩ (.bind ⟨fun us i => calR (keepT (gI us 0) (gF us 1) (gI us 2) (gF us 3) (gI us 4)) i, 3, [(.v 31), (.v 35), (.v 36), (.v 37), (.v 38)]⟩ (.bind ⟨fun us _ => jB (fun a b => a != b) us, 1, [(.v 41), (.l (.i 0))]⟩ (.ite (.v 42) (.done .ret ⟨[.agg [.fl (.l (.f 0)), .fl (.l (.f 0))]], [some ([.it .i64 (.v 41)])], 43, [0, 0, 0, 0]⟩) (.bind ⟨fun us i => ivU (hullT (gF us 0, gF us 1) (gF us 2, gF us 3)) i, 2, [(.v 33), (.v 34), (.v 39), (.v 40)]⟩ (.done .ret ⟨[.agg [.fl (.v 43), .fl (.v 44)]], [some ([.it .i64 (.v 41)])], 45, [0, 0, 0, 0]⟩))))))))))))))))))))))))) (by kernel_rfl) (by kernel_rfl) (by kernel_rfl) (fun us hl hF hB hN => ?_)
 match us, hl with
 | [u0, u1, u2, u3, u4], _ =>
  simp [FactsB, FactsL, Facts, ctFourD] at hF hB
  simp [NeedsAt, runB, evs, E.ev, upto, resl, List.range, List.range.loop, ctFourD] at hN
  obtain ⟨⟨⟨a1, rfl, wa1⟩, ⟨a2, rfl, wa2⟩⟩, ⟨b1, rfl, wb1⟩, ⟨b2, rfl, wb2⟩⟩ := hF
  obtain ⟨e, rfl⟩ := hB
  refine T.HH.h ?_
  obtain ⟨t0, t1, e2⟩ := Dy.ex2 (Dy.dDiv a1 b1 false)
  refine T.hbind (xs := [.f t0, .i t1]) rfl (congrArg (fun r : Nat × Int => [U.f r.1, U.i r.2]) e2) rfl ?_
  obtain ⟨t3, t4, e5⟩ := Dy.ex2 (Dy.dDiv a1 b1 true)
  refine T.hbind (xs := [.f t3, .i t4]) rfl (congrArg (fun r : Nat × Int => [U.f r.1, U.i r.2]) e5) rfl ?_
  obtain ⟨t6, t7, t8, e9⟩ := Dy.ex3 (keepT (e) (t0) (t1) (t3) (t4))
  refine T.hbind (xs := [.f t6, .f t7, .i t8]) rfl (congrArg (fun r => [calR r 0, calR r 1, calR r 2]) e9) rfl ?_
  obtain ⟨t10, e11⟩ : ∃ t10, (t8 != 0) = t10 := ⟨_, rfl⟩
  refine T.hbind (xs := [.b t10]) rfl (congrArg (fun r => [U.b r]) e11) rfl ?_
  refine T.hite (x := t10) ?_ ?_ ?_
  ·rfl
  ·intro c13
   refine T.hdone ?_
   have e00 : fourT Dy.dDiv (e) (a1, a2) (b1, b2) = ((0, 0), t8) := by simp only [fourT, e2, e5, e9, e11, c13] <;> first | (simp_all; done) | (simp_all <;> subst_vars <;> simp_all)
   exact ⟨⟨(congrArg (fun r => some (calR r 0)) e00.symm), (congrArg (fun r => some (calR r 1)) e00.symm), trivial⟩, ⟨⟨⟨rfl, (congrArg (fun r => some (calR r 2)) e00.symm)⟩, trivial⟩, trivial⟩, rfl⟩
  ·intro c13
   obtain ⟨t13, t14, e15⟩ := Dy.ex2 (hullT (t6, t7) (t6, t7))
   refine T.hbind (xs := [.f t13, .f t14]) (ρ' := [.i e, .f a1, .f a2, .f b1, .f b2, .f t0, .i t1, .f t3, .i t4, .f t6, .f t7, .i t8, .b t10, .f t13, .f t14]) rfl (congrArg (fun r => [ivU r 0, ivU r 1]) e15) rfl ?_
   obtain ⟨t16, t17, e18⟩ := Dy.ex2 (Dy.dDiv a1 b2 false)
   refine T.hbind (xs := [.f t16, .i t17]) rfl (congrArg (fun r : Nat × Int => [U.f r.1, U.i r.2]) e18) rfl ?_
   obtain ⟨t19, t20, e21⟩ := Dy.ex2 (Dy.dDiv a1 b2 true)
   refine T.hbind (xs := [.f t19, .i t20]) rfl (congrArg (fun r : Nat × Int => [U.f r.1, U.i r.2]) e21) rfl ?_
   obtain ⟨t22, t23, t24, e25⟩ := Dy.ex3 (keepT (t8) (t16) (t17) (t19) (t20))
   refine T.hbind (xs := [.f t22, .f t23, .i t24]) rfl (congrArg (fun r => [calR r 0, calR r 1, calR r 2]) e25) rfl ?_
   obtain ⟨t26, e27⟩ : ∃ t26, (t24 != 0) = t26 := ⟨_, rfl⟩
   refine T.hbind (xs := [.b t26]) rfl (congrArg (fun r => [U.b r]) e27) rfl ?_
   refine T.hite (x := t26) ?_ ?_ ?_
   ·rfl
   ·intro c29
    refine T.hdone ?_
    have e00 : fourT Dy.dDiv (e) (a1, a2) (b1, b2) = ((0, 0), t24) := by simp only [fourT, e2, e5, e9, e11, c13, e15, e18, e21, e25, e27, c29] <;> first | (simp_all; done) | (simp_all <;> subst_vars <;> simp_all)
    exact ⟨⟨(congrArg (fun r => some (calR r 0)) e00.symm), (congrArg (fun r => some (calR r 1)) e00.symm), trivial⟩, ⟨⟨⟨rfl, (congrArg (fun r => some (calR r 2)) e00.symm)⟩, trivial⟩, trivial⟩, rfl⟩
   ·intro c29
    obtain ⟨t29, t30, e31⟩ := Dy.ex2 (hullT (t13, t14) (t22, t23))
    refine T.hbind (xs := [.f t29, .f t30]) rfl (congrArg (fun r => [ivU r 0, ivU r 1]) e31) rfl ?_
    obtain ⟨t32, t33, e34⟩ := Dy.ex2 (Dy.dDiv a2 b1 false)
    refine T.hbind (xs := [.f t32, .i t33]) rfl (congrArg (fun r : Nat × Int => [U.f r.1, U.i r.2]) e34) rfl ?_
    obtain ⟨t35, t36, e37⟩ := Dy.ex2 (Dy.dDiv a2 b1 true)
    refine T.hbind (xs := [.f t35, .i t36]) rfl (congrArg (fun r : Nat × Int => [U.f r.1, U.i r.2]) e37) rfl ?_
    obtain ⟨t38, t39, t40, e41⟩ := Dy.ex3 (keepT (t24) (t32) (t33) (t35) (t36))
    refine T.hbind (xs := [.f t38, .f t39, .i t40]) (ρ' := [.i e, .f a1, .f a2, .f b1, .f b2, .f t0, .i t1, .f t3, .i t4, .f t6, .f t7, .i t8, .b t10, .f t13, .f t14, .f t16, .i t17, .f t19, .i t20, .f t22, .f t23, .i t24, .b t26, .f t29, .f t30, .f t32, .i t33, .f t35, .i t36, .f t38, .f t39, .i t40]) rfl (congrArg (fun r => [calR r 0, calR r 1, calR r 2]) e41) rfl ?_
    obtain ⟨t42, e43⟩ : ∃ t42, (t40 != 0) = t42 := ⟨_, rfl⟩
    refine T.hbind (xs := [.b t42]) rfl (congrArg (fun r => [U.b r]) e43) rfl ?_
    refine T.hite (x := t42) ?_ ?_ ?_
    ·rfl
    ·intro c45
     refine T.hdone ?_
     have e00 : fourT Dy.dDiv (e) (a1, a2) (b1, b2) = ((0, 0), t40) := by simp only [fourT, e2, e5, e9, e11, c13, e15, e18, e21, e25, e27, c29, e31, e34, e37, e41, e43, c45] <;> first | (simp_all; done) | (simp_all <;> subst_vars <;> simp_all)
     exact ⟨⟨(congrArg (fun r => some (calR r 0)) e00.symm), (congrArg (fun r => some (calR r 1)) e00.symm), trivial⟩, ⟨⟨⟨rfl, (congrArg (fun r => some (calR r 2)) e00.symm)⟩, trivial⟩, trivial⟩, rfl⟩
    ·intro c45
     obtain ⟨t45, t46, e47⟩ := Dy.ex2 (hullT (t29, t30) (t38, t39))
     refine T.hbind (xs := [.f t45, .f t46]) rfl (congrArg (fun r => [ivU r 0, ivU r 1]) e47) rfl ?_
     obtain ⟨t48, t49, e50⟩ := Dy.ex2 (Dy.dDiv a2 b2 false)
     refine T.hbind (xs := [.f t48, .i t49]) rfl (congrArg (fun r : Nat × Int => [U.f r.1, U.i r.2]) e50) rfl ?_
     obtain ⟨t51, t52, e53⟩ := Dy.ex2 (Dy.dDiv a2 b2 true)
     refine T.hbind (xs := [.f t51, .i t52]) rfl (congrArg (fun r : Nat × Int => [U.f r.1, U.i r.2]) e53) rfl ?_
     obtain ⟨t54, t55, t56, e57⟩ := Dy.ex3 (keepT (t40) (t48) (t49) (t51) (t52))
     refine T.hbind (xs := [.f t54, .f t55, .i t56]) rfl (congrArg (fun r => [calR r 0, calR r 1, calR r 2]) e57) rfl ?_
     obtain ⟨t58, e59⟩ : ∃ t58, (t56 != 0) = t58 := ⟨_, rfl⟩
     refine T.hbind (xs := [.b t58]) rfl (congrArg (fun r => [U.b r]) e59) rfl ?_
     refine T.hite (x := t58) ?_ ?_ ?_
     ·rfl
     ·intro c61
      refine T.hdone ?_
      have e00 : fourT Dy.dDiv (e) (a1, a2) (b1, b2) = ((0, 0), t56) := by simp only [fourT, e2, e5, e9, e11, c13, e15, e18, e21, e25, e27, c29, e31, e34, e37, e41, e43, c45, e47, e50, e53, e57, e59, c61] <;> first | (simp_all; done) | (simp_all <;> subst_vars <;> simp_all)
      exact ⟨⟨(congrArg (fun r => some (calR r 0)) e00.symm), (congrArg (fun r => some (calR r 1)) e00.symm), trivial⟩, ⟨⟨⟨rfl, (congrArg (fun r => some (calR r 2)) e00.symm)⟩, trivial⟩, trivial⟩, rfl⟩
     ·intro c61
      obtain ⟨t61, t62, e63⟩ := Dy.ex2 (hullT (t45, t46) (t54, t55))
      refine T.hbind (xs := [.f t61, .f t62]) rfl (congrArg (fun r => [ivU r 0, ivU r 1]) e63) rfl ?_
      refine T.hdone ?_
      have e00 : fourT Dy.dDiv (e) (a1, a2) (b1, b2) = ((t61, t62), t56) := by simp only [fourT, e2, e5, e9, e11, c13, e15, e18, e21, e25, e27, c29, e31, e34, e37, e41, e43, c45, e47, e50, e53, e57, e59, c61, e63] <;> first | (simp_all; done) | (simp_all <;> subst_vars <;> simp_all)
      exact ⟨⟨(congrArg (fun r => some (calR r 0)) e00.symm), (congrArg (fun r => some (calR r 1)) e00.symm), trivial⟩, ⟨⟨⟨rfl, (congrArg (fun r => some (calR r 2)) e00.symm)⟩, trivial⟩, trivial⟩, rfl⟩
def uf10 : List (Nat × Ct) := (112, ctFourD) :: uf9
theorem uf10_ok : AllOk Tryz.prog uf10 := ⟨ctFourD_ok, uf9_ok⟩
def ctAddT : Ct := ⟨5, [[vi .i64 0]], [.ptr 0 0, vp 1 2, vp 3 4], { binds := [⟨fun us i => calR (addT (gI us 0) (gF us 1, gF us 2) (gF us 3, gF us 4)) i, 3, upto 0 5⟩], needs := [], val := vp 5 6, upd := [(0, [vi .i64 7])] }⟩
set_option maxRecDepth 100000 in
set_option maxHeartbeats 8000000 in
theorem ctAddT_ok : CtOk Tryz.prog 74 ctAddT := by
 refine CtOk.of_eval2 uf10_ok (dr_ok uf10_ok) Tryz.func74 rfl (by decide) [] 200 (by kernel_rfl) rfl (.bind ⟨fun us i => offU (offT (gI us 0) (Dy.ivR (gF us 1, gF us 2) && Dy.ivR (gF us 3, gF us 4))) i, 2, [(.v 0), (.v 1), (.v 2), (.v 3), (.v 4)]⟩ (.ite (.v 5) (.done .ret ⟨[.agg [.fl (.l (.f 0)), .fl (.l (.f 0))]], [some ([.it .i64 (.v 6)])], 7, [0]⟩) (.bind ⟨fOp2 Dy.dAdd, 2, [(.v 1), (.v 3), (.l (.b false))]⟩ (.bind ⟨fOp2 Dy.dAdd, 2, [(.v 2), (.v 4), (.l (.b true))]⟩ (.bind ⟨fun us i => calR (keepT (gI us 0) (gF us 1) (gI us 2) (gF us 3) (gI us 4)) i, 3, [(.v 6), (.v 7), (.v 8), (.v 9), (.v 10)]⟩ (.done .ret ⟨[.agg [.fl (.v 11), .fl (.v 12)]], [some ([.it .i64 (.v 13)])], 14, [0, 0]⟩)))))) (by kernel_rfl) (by kernel_rfl) (by kernel_rfl) (fun us hl hF hB hN => ?_)
 match us, hl with
 | [u0, u1, u2, u3, u4], _ =>
  simp [FactsB, FactsL, Facts, ctAddT] at hF hB
  simp [NeedsAt, runB, evs, E.ev, upto, resl, List.range, List.range.loop, ctAddT] at hN
  obtain ⟨⟨⟨a1, rfl, wa1⟩, ⟨a2, rfl, wa2⟩⟩, ⟨b1, rfl, wb1⟩, ⟨b2, rfl, wb2⟩⟩ := hF
  obtain ⟨e, rfl⟩ := hB
  refine T.HH.h ?_
  obtain ⟨t0, t1, e2⟩ := Dy.ex2 (offT (e) (Dy.ivR (a1, a2) && Dy.ivR (b1, b2)))
  refine T.hbind (xs := [.b t0, .i t1]) (ρ' := [.i e, .f a1, .f a2, .f b1, .f b2, .b t0, .i t1]) rfl (congrArg (fun r => [offU r 0, offU r 1]) e2) rfl ?_
  refine T.hite (x := t0) ?_ ?_ ?_
  ·rfl
  ·intro c4
   refine T.hdone ?_
   have e00 : addT (e) (a1, a2) (b1, b2) = ((0, 0), t1) := by simp only [addT, e2, c4] <;> first | (simp_all; done) | (simp_all <;> subst_vars <;> simp_all)
   exact ⟨⟨(congrArg (fun r => some (calR r 0)) e00.symm), (congrArg (fun r => some (calR r 1)) e00.symm), trivial⟩, ⟨⟨⟨rfl, (congrArg (fun r => some (calR r 2)) e00.symm)⟩, trivial⟩, trivial⟩, rfl⟩
  ·intro c4
   obtain ⟨t4, t5, e6⟩ := Dy.ex2 (Dy.dAdd a1 b1 false)
   refine T.hbind (xs := [.f t4, .i t5]) rfl (congrArg (fun r : Nat × Int => [U.f r.1, U.i r.2]) e6) rfl ?_
   obtain ⟨t7, t8, e9⟩ := Dy.ex2 (Dy.dAdd a2 b2 true)
   refine T.hbind (xs := [.f t7, .i t8]) rfl (congrArg (fun r : Nat × Int => [U.f r.1, U.i r.2]) e9) rfl ?_
   obtain ⟨t10, t11, t12, e13⟩ := Dy.ex3 (keepT (t1) (t4) (t5) (t7) (t8))
   refine T.hbind (xs := [.f t10, .f t11, .i t12]) rfl (congrArg (fun r => [calR r 0, calR r 1, calR r 2]) e13) rfl ?_
   refine T.hdone ?_
   have e00 : addT (e) (a1, a2) (b1, b2) = ((t10, t11), t12) := by simp only [addT, e2, c4, e6, e9, e13] <;> first | (simp_all; done) | (simp_all <;> subst_vars <;> simp_all)
   exact ⟨⟨(congrArg (fun r => some (calR r 0)) e00.symm), (congrArg (fun r => some (calR r 1)) e00.symm), trivial⟩, ⟨⟨⟨rfl, (congrArg (fun r => some (calR r 2)) e00.symm)⟩, trivial⟩, trivial⟩, rfl⟩
def uf11 : List (Nat × Ct) := (74, ctAddT) :: uf10
theorem uf11_ok : AllOk Tryz.prog uf11 := ⟨ctAddT_ok, uf10_ok⟩
def ctSubT : Ct := ⟨5, [[vi .i64 0]], [.ptr 0 0, vp 1 2, vp 3 4], { binds := [⟨fun us i => calR (subT (gI us 0) (gF us 1, gF us 2) (gF us 3, gF us 4)) i, 3, upto 0 5⟩], needs := [], val := vp 5 6, upd := [(0, [vi .i64 7])] }⟩
set_option maxRecDepth 100000 in
set_option maxHeartbeats 8000000 in
theorem ctSubT_ok : CtOk Tryz.prog 75 ctSubT := by
 refine CtOk.of_eval2 uf11_ok (dr_ok uf11_ok) Tryz.func75 rfl (by decide) [] 200 (by kernel_rfl) rfl (.bind ⟨fun us i => offU (offT (gI us 0) (Dy.ivR (gF us 1, gF us 2) && Dy.ivR (gF us 3, gF us 4))) i, 2, [(.v 0), (.v 1), (.v 2), (.v 3), (.v 4)]⟩ (.ite (.v 5) (.done .ret ⟨[.agg [.fl (.l (.f 0)), .fl (.l (.f 0))]], [some ([.it .i64 (.v 6)])], 7, [0]⟩) (.bind ⟨fOp2 Dy.dSub, 2, [(.v 1), (.v 4), (.l (.b false))]⟩ (.bind ⟨fOp2 Dy.dSub, 2, [(.v 2), (.v 3), (.l (.b true))]⟩ (.bind ⟨fun us i => calR (keepT (gI us 0) (gF us 1) (gI us 2) (gF us 3) (gI us 4)) i, 3, [(.v 6), (.v 7), (.v 8), (.v 9), (.v 10)]⟩ (.done .ret ⟨[.agg [.fl (.v 11), .fl (.v 12)]], [some ([.it .i64 (.v 13)])], 14, [0, 0]⟩)))))) (by kernel_rfl) (by kernel_rfl) (by kernel_rfl) (fun us hl hF hB hN => ?_)
 match us, hl with
 | [u0, u1, u2, u3, u4], _ =>
  simp [FactsB, FactsL, Facts, ctSubT] at hF hB
  simp [NeedsAt, runB, evs, E.ev, upto, resl, List.range, List.range.loop, ctSubT] at hN
  obtain ⟨⟨⟨a1, rfl, wa1⟩, ⟨a2, rfl, wa2⟩⟩, ⟨b1, rfl, wb1⟩, ⟨b2, rfl, wb2⟩⟩ := hF
  obtain ⟨e, rfl⟩ := hB
  refine T.HH.h ?_
  obtain ⟨t0, t1, e2⟩ := Dy.ex2 (offT (e) (Dy.ivR (a1, a2) && Dy.ivR (b1, b2)))
  refine T.hbind (xs := [.b t0, .i t1]) rfl (congrArg (fun r => [offU r 0, offU r 1]) e2) rfl ?_
  refine T.hite (x := t0) ?_ ?_ ?_
  ·rfl
  ·intro c4
   refine T.hdone ?_
   have e00 : subT (e) (a1, a2) (b1, b2) = ((0, 0), t1) := by simp only [subT, e2, c4] <;> first | (simp_all; done) | (simp_all <;> subst_vars <;> simp_all)
   exact ⟨⟨(congrArg (fun r => some (calR r 0)) e00.symm), (congrArg (fun r => some (calR r 1)) e00.symm), trivial⟩, ⟨⟨⟨rfl, (congrArg (fun r => some (calR r 2)) e00.symm)⟩, trivial⟩, trivial⟩, rfl⟩
  ·intro c4
   obtain ⟨t4, t5, e6⟩ := Dy.ex2 (Dy.dSub a1 b2 false)
   refine T.hbind (xs := [.f t4, .i t5]) rfl (congrArg (fun r : Nat × Int => [U.f r.1, U.i r.2]) e6) rfl ?_
   obtain ⟨t7, t8, e9⟩ := Dy.ex2 (Dy.dSub a2 b1 true)
   refine T.hbind (xs := [.f t7, .i t8]) rfl (congrArg (fun r : Nat × Int => [U.f r.1, U.i r.2]) e9) rfl ?_
   obtain ⟨t10, t11, t12, e13⟩ := Dy.ex3 (keepT (t1) (t4) (t5) (t7) (t8))
   refine T.hbind (xs := [.f t10, .f t11, .i t12]) rfl (congrArg (fun r => [calR r 0, calR r 1, calR r 2]) e13) rfl ?_
   refine T.hdone ?_
   have e00 : subT (e) (a1, a2) (b1, b2) = ((t10, t11), t12) := by simp only [subT, e2, c4, e6, e9, e13] <;> first | (simp_all; done) | (simp_all <;> subst_vars <;> simp_all)
   exact ⟨⟨(congrArg (fun r => some (calR r 0)) e00.symm), (congrArg (fun r => some (calR r 1)) e00.symm), trivial⟩, ⟨⟨⟨rfl, (congrArg (fun r => some (calR r 2)) e00.symm)⟩, trivial⟩, trivial⟩, rfl⟩
def uf12 : List (Nat × Ct) := (75, ctSubT) :: uf11
theorem uf12_ok : AllOk Tryz.prog uf12 := ⟨ctSubT_ok, uf11_ok⟩
def ctMulT : Ct := ⟨5, [[vi .i64 0]], [.ptr 0 0, vp 1 2, vp 3 4], { binds := [⟨fun us i => calR (mulT (gI us 0) (gF us 1, gF us 2) (gF us 3, gF us 4)) i, 3, upto 0 5⟩], needs := [], val := vp 5 6, upd := [(0, [vi .i64 7])] }⟩
set_option maxRecDepth 100000 in
set_option maxHeartbeats 8000000 in
theorem ctMulT_ok : CtOk Tryz.prog 52 ctMulT := by
 refine CtOk.of_eval2 uf12_ok (dr_ok uf12_ok) Tryz.func52 rfl (by decide) [] 200 (by kernel_rfl) rfl (.bind ⟨fun us i => offU (offT (gI us 0) (Dy.ivR (gF us 1, gF us 2) && Dy.ivR (gF us 3, gF us 4))) i, 2, [(.v 0), (.v 1), (.v 2), (.v 3), (.v 4)]⟩ (.ite (.v 5) (.done .ret ⟨[.agg [.fl (.l (.f 0)), .fl (.l (.f 0))]], [some ([.it .i64 (.v 6)])], 7, [0]⟩) (.bind ⟨fun us i => calR (fourT Dy.dMul (gI us 0) (gF us 1, gF us 2) (gF us 3, gF us 4)) i, 3, [(.v 6), (.v 1), (.v 2), (.v 3), (.v 4)]⟩ (.done .ret ⟨[.agg [.fl (.v 7), .fl (.v 8)]], [some ([.it .i64 (.v 9)])], 10, [0, 0]⟩)))) (by kernel_rfl) (by kernel_rfl) (by kernel_rfl) (fun us hl hF hB hN => ?_)
 match us, hl with
 | [u0, u1, u2, u3, u4], _ =>
  simp [FactsB, FactsL, Facts, ctMulT] at hF hB
  simp [NeedsAt, runB, evs, E.ev, upto, resl, List.range, List.range.loop, ctMulT] at hN
  obtain ⟨⟨⟨a1, rfl, wa1⟩, ⟨a2, rfl, wa2⟩⟩, ⟨b1, rfl, wb1⟩, ⟨b2, rfl, wb2⟩⟩ := hF
  obtain ⟨e, rfl⟩ := hB
  refine T.HH.h ?_
  obtain ⟨t0, t1, e2⟩ := Dy.ex2 (offT (e) (Dy.ivR (a1, a2) && Dy.ivR (b1, b2)))
  refine T.hbind (xs := [.b t0, .i t1]) (ρ' := [.i e, .f a1, .f a2, .f b1, .f b2, .b t0, .i t1]) rfl (congrArg (fun r => [offU r 0, offU r 1]) e2) rfl ?_
  refine T.hite (x := t0) ?_ ?_ ?_
  ·rfl
  ·intro c4
   refine T.hdone ?_
   have e00 : mulT (e) (a1, a2) (b1, b2) = ((0, 0), t1) := by simp only [mulT, e2, c4] <;> first | (simp_all; done) | (simp_all <;> subst_vars <;> simp_all)
   exact ⟨⟨(congrArg (fun r => some (calR r 0)) e00.symm), (congrArg (fun r => some (calR r 1)) e00.symm), trivial⟩, ⟨⟨⟨rfl, (congrArg (fun r => some (calR r 2)) e00.symm)⟩, trivial⟩, trivial⟩, rfl⟩
  ·intro c4
   obtain ⟨t4, t5, t6, e7⟩ := Dy.ex3 (fourT Dy.dMul (t1) (a1, a2) (b1, b2))
   refine T.hbind (xs := [.f t4, .f t5, .i t6]) rfl (congrArg (fun r => [calR r 0, calR r 1, calR r 2]) e7) rfl ?_
   refine T.hdone ?_
   have e00 : mulT (e) (a1, a2) (b1, b2) = ((t4, t5), t6) := by simp only [mulT, e2, c4, e7] <;> first | (simp_all; done) | (simp_all <;> subst_vars <;> simp_all)
   exact ⟨⟨(congrArg (fun r => some (calR r 0)) e00.symm), (congrArg (fun r => some (calR r 1)) e00.symm), trivial⟩, ⟨⟨⟨rfl, (congrArg (fun r => some (calR r 2)) e00.symm)⟩, trivial⟩, trivial⟩, rfl⟩
def uf13 : List (Nat × Ct) := (52, ctMulT) :: uf12
theorem uf13_ok : AllOk Tryz.prog uf13 := ⟨ctMulT_ok, uf12_ok⟩
def ctDivT : Ct := ⟨5, [[vi .i64 0]], [.ptr 0 0, vp 1 2, vp 3 4], { binds := [⟨fun us i => calR (divT (gI us 0) (gF us 1, gF us 2) (gF us 3, gF us 4)) i, 3, upto 0 5⟩], needs := [], val := vp 5 6, upd := [(0, [vi .i64 7])] }⟩
set_option maxRecDepth 100000 in
set_option maxHeartbeats 8000000 in
theorem ctDivT_ok : CtOk Tryz.prog 76 ctDivT := by
 refine CtOk.of_eval2 uf13_ok (dr_ok uf13_ok) Tryz.func76 rfl (by decide) [] 200 (by kernel_rfl) rfl (.bind ⟨fun us i => offU (offT (gI us 0) (Dy.ivR (gF us 1, gF us 2) && Dy.ivR (gF us 3, gF us 4))) i, 2, [(.v 0), (.v 1), (.v 2), (.v 3), (.v 4)]⟩ (.ite (.v 5) (.done .ret ⟨[.agg [.fl (.l (.f 0)), .fl (.l (.f 0))]], [some ([.it .i64 (.v 6)])], 7, [0]⟩) (.bind ⟨fun us _ => cB (fun a b => Dy.flt a b || Dy.feq a b) us, 1, [(.v 3), (.l (.f 0))]⟩ (.ite (.v 7) (.bind ⟨fun us _ => cB (fun a b => Dy.fgt a b || Dy.feq a b) us, 1, [(.v 4), (.l (.f 0))]⟩ (.ite (.v 8) (.done .ret ⟨[.agg [.fl (.l (.f 0)), .fl (.l (.f 0))]], [some ([.it .i64 (.l (.i 11))])], 9, [0, 0]⟩) (.bind ⟨fun us i => calR (fourT Dy.dDiv (gI us 0) (gF us 1, gF us 2) (gF us 3, gF us 4)) i, 3, [(.v 6), (.v 1), (.v 2), (.v 3), (.v 4)]⟩ (.done .ret ⟨[.agg [.fl (.v 9), .fl (.v 10)]], [some ([.it .i64 (.v 11)])], 12, [0, 0]⟩)))) (.bind ⟨fun us i => calR (fourT Dy.dDiv (gI us 0) (gF us 1, gF us 2) (gF us 3, gF us 4)) i, 3, [(.v 6), (.v 1), (.v 2), (.v 3), (.v 4)]⟩ (.done .ret ⟨[.agg [.fl (.v 8), .fl (.v 9)]], [some ([.it .i64 (.v 10)])], 11, [0, 0]⟩)))))) (by kernel_rfl) (by kernel_rfl) (by kernel_rfl) (fun us hl hF hB hN => ?_)
 match us, hl with
 | [u0, u1, u2, u3, u4], _ =>
  simp [FactsB, FactsL, Facts, ctDivT] at hF hB
  simp [NeedsAt, runB, evs, E.ev, upto, resl, List.range, List.range.loop, ctDivT] at hN
  obtain ⟨⟨⟨a1, rfl, wa1⟩, ⟨a2, rfl, wa2⟩⟩, ⟨b1, rfl, wb1⟩, ⟨b2, rfl, wb2⟩⟩ := hF
  obtain ⟨e, rfl⟩ := hB
  refine T.HH.h ?_
  obtain ⟨t0, t1, e2⟩ := Dy.ex2 (offT (e) (Dy.ivR (a1, a2) && Dy.ivR (b1, b2)))
  refine T.hbind (xs := [.b t0, .i t1]) rfl (congrArg (fun r => [offU r 0, offU r 1]) e2) rfl ?_
  refine T.hite (x := t0) ?_ ?_ ?_
  ·rfl
  ·intro c4
   refine T.hdone ?_
   have e00 : divT (e) (a1, a2) (b1, b2) = ((0, 0), t1) := by simp only [divT, e2, c4] <;> first | (simp_all; done) | (simp_all <;> subst_vars <;> simp_all)
   exact ⟨⟨(congrArg (fun r => some (calR r 0)) e00.symm), (congrArg (fun r => some (calR r 1)) e00.symm), trivial⟩, ⟨⟨⟨rfl, (congrArg (fun r => some (calR r 2)) e00.symm)⟩, trivial⟩, trivial⟩, rfl⟩
  ·intro c4
   obtain ⟨t4, e5⟩ : ∃ t4, (Dy.flt b1 0 || Dy.feq b1 0) = t4 := ⟨_, rfl⟩
   refine T.hbind (xs := [.b t4]) rfl (congrArg (fun r => [U.b r]) e5) rfl ?_
   refine T.hite (x := t4) ?_ ?_ ?_
   ·rfl
   ·intro c7
    obtain ⟨t7, e8⟩ : ∃ t7, (Dy.fgt b2 0 || Dy.feq b2 0) = t7 := ⟨_, rfl⟩
    refine T.hbind (xs := [.b t7]) rfl (congrArg (fun r => [U.b r]) e8) rfl ?_
    refine T.hite (x := t7) ?_ ?_ ?_
    ·rfl
    ·intro c10
     refine T.hdone ?_
     have e00 : divT (e) (a1, a2) (b1, b2) = ((0, 0), 11) := by simp only [divT, e2, c4, e5, c7, e8, c10] <;> first | (simp_all; done) | (simp_all <;> subst_vars <;> simp_all)
     exact ⟨⟨(congrArg (fun r => some (calR r 0)) e00.symm), (congrArg (fun r => some (calR r 1)) e00.symm), trivial⟩, ⟨⟨⟨rfl, (congrArg (fun r => some (calR r 2)) e00.symm)⟩, trivial⟩, trivial⟩, rfl⟩
    ·intro c10
     obtain ⟨t10, t11, t12, e13⟩ := Dy.ex3 (fourT Dy.dDiv (t1) (a1, a2) (b1, b2))
     refine T.hbind (xs := [.f t10, .f t11, .i t12]) rfl (congrArg (fun r => [calR r 0, calR r 1, calR r 2]) e13) rfl ?_
     refine T.hdone ?_
     have e00 : divT (e) (a1, a2) (b1, b2) = ((t10, t11), t12) := by simp only [divT, e2, c4, e5, c7, e8, c10, e13] <;> first | (simp_all; done) | (simp_all <;> subst_vars <;> simp_all)
     exact ⟨⟨(congrArg (fun r => some (calR r 0)) e00.symm), (congrArg (fun r => some (calR r 1)) e00.symm), trivial⟩, ⟨⟨⟨rfl, (congrArg (fun r => some (calR r 2)) e00.symm)⟩, trivial⟩, trivial⟩, rfl⟩
   ·intro c7
    obtain ⟨t14, t15, t16, e17⟩ := Dy.ex3 (fourT Dy.dDiv (t1) (a1, a2) (b1, b2))
    refine T.hbind (xs := [.f t14, .f t15, .i t16]) rfl (congrArg (fun r => [calR r 0, calR r 1, calR r 2]) e17) rfl ?_
    refine T.hdone ?_
    have e00 : divT (e) (a1, a2) (b1, b2) = ((t14, t15), t16) := by simp only [divT, e2, c4, e5, c7, e17] <;> first | (simp_all; done) | (simp_all <;> subst_vars <;> simp_all)
    exact ⟨⟨(congrArg (fun r => some (calR r 0)) e00.symm), (congrArg (fun r => some (calR r 1)) e00.symm), trivial⟩, ⟨⟨⟨rfl, (congrArg (fun r => some (calR r 2)) e00.symm)⟩, trivial⟩, trivial⟩, rfl⟩
def uf14 : List (Nat × Ct) := (76, ctDivT) :: uf13
theorem uf14_ok : AllOk Tryz.prog uf14 := ⟨ctDivT_ok, uf13_ok⟩
def ctMaxT : Ct := ⟨5, [[vi .i64 0]], [.ptr 0 0, vp 1 2, vp 3 4], { binds := [⟨fun us i => calR (maxT (gI us 0) (gF us 1, gF us 2) (gF us 3, gF us 4)) i, 3, upto 0 5⟩], needs := [], val := vp 5 6, upd := [(0, [vi .i64 7])] }⟩
set_option maxRecDepth 100000 in
set_option maxHeartbeats 8000000 in
theorem ctMaxT_ok : CtOk Tryz.prog 78 ctMaxT := by
 refine CtOk.of_eval2 uf14_ok (dr_ok uf14_ok) Tryz.func78 rfl (by decide) [] 200 (by kernel_rfl) rfl (.bind ⟨fun us i => offU (offT (gI us 0) (Dy.ivR (gF us 1, gF us 2) && Dy.ivR (gF us 3, gF us 4))) i, 2, [(.v 0), (.v 1), (.v 2), (.v 3), (.v 4)]⟩ (.ite (.v 5) (.done .ret ⟨[.agg [.fl (.l (.f 0)), .fl (.l (.f 0))]], [some ([.it .i64 (.v 6)])], 7, [0]⟩) (.bind ⟨fun us i => fRes (moreT (gF us 0) (gF us 1)) i, 1, [(.v 1), (.v 3)]⟩ (.bind ⟨fun us i => fRes (moreT (gF us 0) (gF us 1)) i, 1, [(.v 2), (.v 4)]⟩ (.done .ret ⟨[.agg [.fl (.v 7), .fl (.v 8)]], [some ([.it .i64 (.v 6)])], 9, [0]⟩))))) (by kernel_rfl) (by kernel_rfl) (by kernel_rfl) (fun us hl hF hB hN => ?_)
 match us, hl with
 | [u0, u1, u2, u3, u4], _ =>
  simp [FactsB, FactsL, Facts, ctMaxT] at hF hB
  simp [NeedsAt, runB, evs, E.ev, upto, resl, List.range, List.range.loop, ctMaxT] at hN
  obtain ⟨⟨⟨a1, rfl, wa1⟩, ⟨a2, rfl, wa2⟩⟩, ⟨b1, rfl, wb1⟩, ⟨b2, rfl, wb2⟩⟩ := hF
  obtain ⟨e, rfl⟩ := hB
  refine T.HH.h ?_
  obtain ⟨t0, t1, e2⟩ := Dy.ex2 (offT (e) (Dy.ivR (a1, a2) && Dy.ivR (b1, b2)))
  refine T.hbind (xs := [.b t0, .i t1]) rfl (congrArg (fun r => [offU r 0, offU r 1]) e2) rfl ?_
  refine T.hite (x := t0) ?_ ?_ ?_
  ·rfl
  ·intro c4
   refine T.hdone ?_
   have e00 : maxT (e) (a1, a2) (b1, b2) = ((0, 0), t1) := by simp only [maxT, e2, c4] <;> first | (simp_all; done) | (simp_all <;> subst_vars <;> simp_all)
   exact ⟨⟨(congrArg (fun r => some (calR r 0)) e00.symm), (congrArg (fun r => some (calR r 1)) e00.symm), trivial⟩, ⟨⟨⟨rfl, (congrArg (fun r => some (calR r 2)) e00.symm)⟩, trivial⟩, trivial⟩, rfl⟩
  ·intro c4
   obtain ⟨t4, e5⟩ : ∃ t4, ((moreT (a1) (b1))) = t4 := ⟨_, rfl⟩
   refine T.hbind (xs := [.f t4]) (ρ' := [.i e, .f a1, .f a2, .f b1, .f b2, .b t0, .i t1, .f t4]) rfl (congrArg (fun r => [U.f r]) e5) rfl ?_
   obtain ⟨t6, e7⟩ : ∃ t6, ((moreT (a2) (b2))) = t6 := ⟨_, rfl⟩
   refine T.hbind (xs := [.f t6]) rfl (congrArg (fun r => [U.f r]) e7) rfl ?_
   refine T.hdone ?_
   have e00 : maxT (e) (a1, a2) (b1, b2) = ((t4, t6), t1) := by simp only [maxT, e2, c4, e5, e7] <;> first | (simp_all; done) | (simp_all <;> subst_vars <;> simp_all)
   exact ⟨⟨(congrArg (fun r => some (calR r 0)) e00.symm), (congrArg (fun r => some (calR r 1)) e00.symm), trivial⟩, ⟨⟨⟨rfl, (congrArg (fun r => some (calR r 2)) e00.symm)⟩, trivial⟩, trivial⟩, rfl⟩
def uf15 : List (Nat × Ct) := (78, ctMaxT) :: uf14
theorem uf15_ok : AllOk Tryz.prog uf15 := ⟨ctMaxT_ok, uf14_ok⟩
def ctSqrtT : Ct := ⟨3, [[vi .i64 0]], [.ptr 0 0, vp 1 2], { binds := [⟨fun us i => calR (sqrtT (gI us 0) (gF us 1, gF us 2)) i, 3, upto 0 3⟩], needs := [], val := vp 3 4, upd := [(0, [vi .i64 5])] }⟩
set_option maxRecDepth 100000 in
set_option maxHeartbeats 8000000 in
theorem ctSqrtT_ok : CtOk Tryz.prog 80 ctSqrtT := by
 refine CtOk.of_eval2 uf15_ok (dr_ok uf15_ok) Tryz.func80 rfl (by decide) [] 200 (by kernel_rfl) rfl (.bind ⟨fun us i => offU (offT (gI us 0) (Dy.ivR (gF us 1, gF us 2))) i, 2, [(.v 0), (.v 1), (.v 2)]⟩ (.ite (.v 3) (.done .ret ⟨[.agg [.fl (.l (.f 0)), .fl (.l (.f 0))]], [some ([.it .i64 (.v 4)])], 5, [0]⟩) (.bind ⟨fOp1 Dy.dSqrt, 2, [(.v 1), (.l (.b false))]⟩ (.bind ⟨fOp1 Dy.dSqrt, 2, [(.v 2), (.l (.b true))]⟩ (.bind ⟨fun us i => calR (keepT (gI us 0) (gF us 1) (gI us 2) (gF us 3) (gI us 4)) i, 3, [(.v 4), (.v 5), (.v 6), (.v 7), (.v 8)]⟩ (.done .ret ⟨[.agg [.fl (.v 9), .fl (.v 10)]], [some ([.it .i64 (.v 11)])], 12, [0, 0]⟩)))))) (by kernel_rfl) (by kernel_rfl) (by kernel_rfl) (fun us hl hF hB hN => ?_)
 match us, hl with
 | [u0, u1, u2], _ =>
  simp [FactsB, FactsL, Facts, ctSqrtT] at hF hB
  simp [NeedsAt, runB, evs, E.ev, upto, resl, List.range, List.range.loop, ctSqrtT] at hN
  obtain ⟨⟨a1, rfl, wa1⟩, ⟨a2, rfl, wa2⟩⟩ := hF
  obtain ⟨e, rfl⟩ := hB
  refine T.HH.h ?_
  obtain ⟨t0, t1, e2⟩ := Dy.ex2 (offT (e) (Dy.ivR (a1, a2)))
  refine T.hbind (xs := [.b t0, .i t1]) rfl (congrArg (fun r => [offU r 0, offU r 1]) e2) rfl ?_
  refine T.hite (x := t0) ?_ ?_ ?_
  ·rfl
  ·intro c4
   refine T.hdone ?_
   have e00 : sqrtT (e) (a1, a2) = ((0, 0), t1) := by simp only [sqrtT, e2, c4] <;> first | (simp_all; done) | (simp_all <;> subst_vars <;> simp_all)
   exact ⟨⟨(congrArg (fun r => some (calR r 0)) e00.symm), (congrArg (fun r => some (calR r 1)) e00.symm), trivial⟩, ⟨⟨⟨rfl, (congrArg (fun r => some (calR r 2)) e00.symm)⟩, trivial⟩, trivial⟩, rfl⟩
  ·intro c4
   obtain ⟨t4, t5, e6⟩ := Dy.ex2 (Dy.dSqrt a1 false)
   refine T.hbind (xs := [.f t4, .i t5]) rfl (congrArg (fun r : Nat × Int => [U.f r.1, U.i r.2]) e6) rfl ?_
   obtain ⟨t7, t8, e9⟩ := Dy.ex2 (Dy.dSqrt a2 true)
   refine T.hbind (xs := [.f t7, .i t8]) rfl (congrArg (fun r : Nat × Int => [U.f r.1, U.i r.2]) e9) rfl ?_
   obtain ⟨t10, t11, t12, e13⟩ := Dy.ex3 (keepT (t1) (t4) (t5) (t7) (t8))
   refine T.hbind (xs := [.f t10, .f t11, .i t12]) rfl (congrArg (fun r => [calR r 0, calR r 1, calR r 2]) e13) rfl ?_
   refine T.hdone ?_
   have e00 : sqrtT (e) (a1, a2) = ((t10, t11), t12) := by simp only [sqrtT, e2, c4, e6, e9, e13] <;> first | (simp_all; done) | (simp_all <;> subst_vars <;> simp_all)
   exact ⟨⟨(congrArg (fun r => some (calR r 0)) e00.symm), (congrArg (fun r => some (calR r 1)) e00.symm), trivial⟩, ⟨⟨⟨rfl, (congrArg (fun r => some (calR r 2)) e00.symm)⟩, trivial⟩, trivial⟩, rfl⟩
def uf16 : List (Nat × Ct) := (80, ctSqrtT) :: uf15
theorem uf16_ok : AllOk Tryz.prog uf16 := ⟨ctSqrtT_ok, uf15_ok⟩
end Go.Proofs.YtkhplflbcgjkcaaGreat
