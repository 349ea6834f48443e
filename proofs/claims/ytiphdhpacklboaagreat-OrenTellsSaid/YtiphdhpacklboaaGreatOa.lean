/- A reckoning of programs by symbols: rough surfaces (oren). -/
import Derived.Test.YtiphdhpacklboaaGreatUo
import Derived.Test.YtiphdhpacklboaaGreatCc
import Derived.Test.YtiphdhpacklboaaGreatCd
namespace Go.Proofs.YtiphdhpacklboaaGreat
open Go Go.RowKit
set_option linter.unusedSimpArgs false
set_option linter.unusedVariables false
def wiB (lo hi : Nat) (a : Nat × Nat) : Bool := !(Dy.flt a.1 lo || Dy.fgt a.2 hi)
theorem clip_ends {a : Nat × Nat} {l h : Nat} (w : Dy.WW a) (r1 : Dy.right a.1 = true) (r2 : Dy.right a.2 = true) (wl : Dy.W l) (rl : Dy.right l = true) (wh : Dy.W h) (rh : Dy.right h = true) : Dy.WW (Dy.clip l h a) ∧ Dy.right (Dy.clip l h a).1 = true ∧ Dy.right (Dy.clip l h a).2 = true := by
 refine ⟨⟨Dy.dmin_W (Dy.dmax_W w.1 wl) wh, Dy.dmin_W (Dy.dmax_W w.2 wl) wh⟩, Dy.dmin_right (Dy.dmax_right r1 rl) rh, Dy.dmin_right (Dy.dmax_right r2 rl) rh⟩
def iRes (x : Int) (_ : Nat) : U := .i x
def pairU (r : ((Nat × Nat) × (Nat × Nat)) × Int) (i : Nat) : U := match i with
 | 0 => .f r.1.1.1
 | 1 => .f r.1.1.2
 | 2 => .f r.1.2.1
 | 3 => .f r.1.2.2
 | _ => .i r.2
def oL1 (a : Nat × Nat) (l h : Nat) : Int := if Dy.ivR a = true then (if wiB l h a = true then 0 else 2) else 20
def oL3 (a b c : Nat × Nat) (l h m n p q : Nat) : Int := if (Dy.ivR a && Dy.ivR b && Dy.ivR c) = true then (if (wiB l h a && wiB m n b && wiB p q c) = true then 0 else 2) else 20
def oL5 (a b c d e : Nat × Nat) (l h m n p q r s t u : Nat) : Int := if (Dy.ivR a && Dy.ivR b && Dy.ivR c && Dy.ivR d && Dy.ivR e) = true then (if (wiB l h a && wiB m n b && wiB p q c && wiB r s d && wiB t u e) = true then 0 else 2) else 20
def told2 (r : ((Nat × Nat) × (Nat × Nat)) × Int) : ((Nat × Nat) × (Nat × Nat)) × Int := if (r.2 != 0) = true then (((0, 0), (0, 0)), r.2) else (r.1, 0)
def oa0 : List (Nat × Ct) := uo8
theorem oa0_ok : AllOk Tryz.prog oa0 := uo8_ok
def ctMax : Ct := ⟨5, [[vi .i64 0]], [.ptr 0 0, vp 1 2, vp 3 4], { binds := [⟨fun us i => calR (Dy.cMax (gI us 0) (gF us 1, gF us 2) (gF us 3, gF us 4)) i, 3, upto 0 5⟩], needs := [⟨nIv, [.v 1, .v 2]⟩, ⟨nIv, [.v 3, .v 4]⟩], val := vp 5 6, upd := [(0, [vi .i64 7])] }⟩
set_option maxRecDepth 100000 in
set_option maxHeartbeats 4000000 in
theorem ctMax_ok : CtOk Tryz.prog 50 ctMax := by
 refine CtOk.of_eval2 oa0_ok (dr_ok oa0_ok) Tryz.func50 rfl (by decide) [] 200 (by kernel_rfl) rfl (.bind ⟨fun us _ => gB Dy.dmax us, 1, [(.v 1), (.v 3)]⟩ (.need ⟨rN, [(.v 1), (.v 3)]⟩ (.bind ⟨fun us _ => gB Dy.dmax us, 1, [(.v 2), (.v 4)]⟩ (.need ⟨rN, [(.v 2), (.v 4)]⟩ (.bind ⟨fun us i => calR (Dy.cAsk (gI us 0) (Dy.ivR (gF us 3, gF us 4) && Dy.ivR (gF us 5, gF us 6)) ((gF us 1, gF us 2), 0)) i, 3, [(.v 0), (.v 5), (.v 6), (.v 1), (.v 2), (.v 3), (.v 4)]⟩ (.done .ret ⟨[.agg [.fl (.v 7), .fl (.v 8)]], [some ([.it .i64 (.v 9)])], 10, [0]⟩)))))) (by kernel_rfl) (by kernel_rfl) (by kernel_rfl) (fun us hl hF hB hN => ?_)
 match us, hl with
 | [u0, u1, u2, u3, u4], _ =>
  simp [FactsB, FactsL, Facts, ctMax] at hF hB
  simp [NeedsAt, runB, evs, E.ev, upto, resl, List.range, List.range.loop, ctMax] at hN
  obtain ⟨⟨⟨a1, rfl, w1⟩, ⟨a2, rfl, w2⟩⟩, ⟨b1, rfl, w3⟩, ⟨b2, rfl, w4⟩⟩ := hF
  obtain ⟨e, rfl⟩ := hB
  simp [nIv, gF, U.F] at hN
  have r1 := Dy.ivR_of hN.1
  have r2 := Dy.ivR_of hN.2
  simp at r1 r2
  refine T.HH.h ?_
  refine T.hbind (us := [.f a1, .f b1]) (xs := [.f (Dy.dmax a1 b1)]) rfl (rfl) rfl ?_
  refine T.hneed (us := [.f a1, .f b1]) rfl (show (Dy.right a1 && Dy.right b1) = true from by simp [r1, r2]) ?_
  refine T.hbind (us := [.f a2, .f b2]) (xs := [.f (Dy.dmax a2 b2)]) rfl (rfl) rfl ?_
  refine T.hneed (us := [.f a2, .f b2]) rfl (show (Dy.right a2 && Dy.right b2) = true from by simp [r1, r2]) ?_
  refine T.hbind (us := [.i e, .f (Dy.dmax a1 b1), .f (Dy.dmax a2 b2), .f a1, .f a2, .f b1, .f b2]) (xs := [.f ((Dy.cAsk (e) (Dy.ivR (a1, a2) && Dy.ivR (b1, b2)) (((Dy.dmax a1 b1), (Dy.dmax a2 b2)), 0)).1.1), .f ((Dy.cAsk (e) (Dy.ivR (a1, a2) && Dy.ivR (b1, b2)) (((Dy.dmax a1 b1), (Dy.dmax a2 b2)), 0)).1.2), .i ((Dy.cAsk (e) (Dy.ivR (a1, a2) && Dy.ivR (b1, b2)) (((Dy.dmax a1 b1), (Dy.dmax a2 b2)), 0)).2)]) rfl (rfl) rfl ?_
  refine T.hdone ?_
  have e0 : Dy.cMax (e) (a1, a2) (b1, b2) = Dy.cAsk e (Dy.ivR (a1, a2) && Dy.ivR (b1, b2)) ((Dy.dmax a1 b1, Dy.dmax a2 b2), 0) := rfl
  exact ⟨⟨(congrArg (fun r => some (calR r 0)) e0.symm), (congrArg (fun r => some (calR r 1)) e0.symm), trivial⟩, ⟨⟨⟨rfl, (congrArg (fun r => some (calR r 2)) e0.symm)⟩, trivial⟩, trivial⟩, rfl⟩
def oa1 : List (Nat × Ct) := (50, ctMax) :: oa0
theorem oa1_ok : AllOk Tryz.prog oa1 := ⟨ctMax_ok, oa0_ok⟩
def ctPiL : Ct := ⟨0, [], [], { val := .agg [.fl (.l (.f 4614256656552045848)), .fl (.l (.f 4614256656552045849))] }⟩
set_option maxRecDepth 100000 in
theorem ctPiL_ok : CtOk Tryz.prog 53 ctPiL := by
 refine CtOk.of_eval2 oa1_ok (dr_ok oa1_ok) Tryz.func53 rfl (by decide) [] 200 (by kernel_rfl) rfl (.bind ⟨fOp1 Dy.dNext, 2, [(.l (.f 4614256656552045848)), (.l (.b true))]⟩ (.done .ret ⟨[.agg [.fl (.l (.f 4614256656552045848)), .fl (.v 0)]], [], 2, []⟩)) (by kernel_rfl) (by kernel_rfl) (by kernel_rfl) (fun us hl hF hB hN => ?_)
 match us, hl with
 | [], _ =>
  refine T.HH.h ?_
  refine T.hbind (us := [.f 4614256656552045848, .b true]) (xs := [.f 4614256656552045849, .i 0]) rfl (uO (show Dy.dNext 4614256656552045848 true = (4614256656552045849, 0) from by decide +kernel)) rfl ?_
  exact T.hdone ⟨⟨rfl, rfl, trivial⟩, trivial, rfl⟩
def oa2 : List (Nat × Ct) := (53, ctPiL) :: oa1
theorem oa2_ok : AllOk Tryz.prog oa2 := ⟨ctPiL_ok, oa1_ok⟩
def ctL1 : Ct := ⟨4, [[vf 0, vf 1, vf 2, vf 3]], [.slc 0 0 1 1], { binds := [⟨fun us i => iRes ((oL1 (gF us 0, gF us 1) (gF us 2) (gF us 3))) i, 1, upto 0 4⟩], needs := [], val := vi .i64 4, upd := [] }⟩
set_option maxRecDepth 100000 in
set_option maxHeartbeats 8000000 in
theorem ctL1_ok : CtOk Tryz.prog 19 ctL1 := by
 refine CtOk.of_eval2 oa2_ok (dr_ok oa2_ok) Tryz.func19 rfl (by decide) [] 200 (by kernel_rfl) rfl (.bind ⟨fIv1 Dy.ivR, 1, [(.v 0), (.v 1)]⟩ (.bind ⟨fun us _ => nB us, 1, [(.v 4)]⟩ (.ite (.v 5) (.done .ret ⟨[.it .i64 (.l (.i 20))], [some ([.fl (.v 0), .fl (.v 1), .fl (.v 2), .fl (.v 3)])], 6, []⟩) (.bind ⟨fun us _ => cB Dy.flt us, 1, [(.v 0), (.v 2)]⟩ (.ite (.v 6) (.done .ret ⟨[.it .i64 (.l (.i 2))], [some ([.fl (.v 0), .fl (.v 1), .fl (.v 2), .fl (.v 3)])], 7, []⟩) (.bind ⟨fun us _ => cB Dy.fgt us, 1, [(.v 1), (.v 3)]⟩ (.ite (.v 7) (.done .ret ⟨[.it .i64 (.l (.i 2))], [some ([.fl (.v 0), .fl (.v 1), .fl (.v 2), .fl (.v 3)])], 8, []⟩) (.done .ret ⟨[.it .i64 (.l (.i 0))], [some ([.fl (.v 0), .fl (.v 1), .fl (.v 2), .fl (.v 3)])], 8, []⟩)))))))) (by kernel_rfl) (by kernel_rfl) (by kernel_rfl) (fun us hl hF hB hN => ?_)
 match us, hl with
 | [u0, u1, u2, u3], _ =>
  simp [FactsB, FactsL, Facts, ctL1] at hF hB
  simp [NeedsAt, runB, evs, E.ev, upto, resl, List.range, List.range.loop, ctL1] at hN
  obtain ⟨⟨a0, rfl, wa0⟩, ⟨b0, rfl, wb0⟩, ⟨l0, rfl, wl0⟩, ⟨h0, rfl, wh0⟩⟩ := hB
  refine T.HH.h ?_
  obtain ⟨t0, e1⟩ : ∃ t0, (Dy.ivR (a0, b0)) = t0 := ⟨_, rfl⟩
  refine T.hbind (us := [.f a0, .f b0]) (xs := [.b t0]) rfl (uB e1) rfl ?_
  obtain ⟨t2, e3⟩ : ∃ t2, (!t0) = t2 := ⟨_, rfl⟩
  refine T.hbind (us := [.b t0]) (xs := [.b t2]) rfl (uB e3) rfl ?_
  refine T.hite (x := t2) ?_ ?_ ?_
  ·rfl
  ·intro c5
   refine T.hdone ?_
   have e00 : (oL1 (a0, b0) (l0) (h0)) = 20 := by simp only [oL1, wiB, e1, e3, c5] <;> simp_all
   exact ⟨⟨rfl, (congrArg (fun r => some (iRes r 0)) e00.symm)⟩, trivial, rfl⟩
  ·intro c5
   obtain ⟨t5, e6⟩ : ∃ t5, (Dy.flt a0 l0) = t5 := ⟨_, rfl⟩
   refine T.hbind (us := [.f a0, .f l0]) (xs := [.b t5]) rfl (uB e6) rfl ?_
   refine T.hite (x := t5) ?_ ?_ ?_
   ·rfl
   ·intro c8
    refine T.hdone ?_
    have e00 : (oL1 (a0, b0) (l0) (h0)) = 2 := by simp only [oL1, wiB, e1, e3, c5, e6, c8] <;> simp_all
    exact ⟨⟨rfl, (congrArg (fun r => some (iRes r 0)) e00.symm)⟩, trivial, rfl⟩
   ·intro c8
    obtain ⟨t8, e9⟩ : ∃ t8, (Dy.fgt b0 h0) = t8 := ⟨_, rfl⟩
    refine T.hbind (us := [.f b0, .f h0]) (xs := [.b t8]) (ρ' := [.f a0, .f b0, .f l0, .f h0, .b t0, .b t2, .b t5, .b t8]) rfl (uB e9) rfl ?_
    refine T.hite (x := t8) ?_ ?_ ?_
    ·rfl
    ·intro c11
     refine T.hdone ?_
     have e00 : (oL1 (a0, b0) (l0) (h0)) = 2 := by simp only [oL1, wiB, e1, e3, c5, e6, c8, e9, c11] <;> simp_all
     exact ⟨⟨rfl, (congrArg (fun r => some (iRes r 0)) e00.symm)⟩, trivial, rfl⟩
    ·intro c11
     refine T.hdone ?_
     have e00 : (oL1 (a0, b0) (l0) (h0)) = 0 := by simp only [oL1, wiB, e1, e3, c5, e6, c8, e9, c11] <;> simp_all
     exact ⟨⟨rfl, (congrArg (fun r => some (iRes r 0)) e00.symm)⟩, trivial, rfl⟩
def oa3 : List (Nat × Ct) := (19, ctL1) :: oa2
theorem oa3_ok : AllOk Tryz.prog oa3 := ⟨ctL1_ok, oa2_ok⟩
def ctL3 : Ct := ⟨12, [[vf 0, vf 1, vf 2, vf 3, vf 4, vf 5, vf 6, vf 7, vf 8, vf 9, vf 10, vf 11]], [.slc 0 0 3 3], { binds := [⟨fun us i => iRes ((oL3 (gF us 0, gF us 1) (gF us 4, gF us 5) (gF us 8, gF us 9) (gF us 2) (gF us 3) (gF us 6) (gF us 7) (gF us 10) (gF us 11))) i, 1, upto 0 12⟩], needs := [], val := vi .i64 12, upd := [] }⟩
set_option maxRecDepth 100000 in
set_option maxHeartbeats 8000000 in
theorem ctL3_ok : CtOk Tryz.prog 19 ctL3 := by
 refine CtOk.of_eval2 oa3_ok (dr_ok oa3_ok) Tryz.func19 rfl (by decide) [] 200 (by kernel_rfl) rfl (.bind ⟨fIv1 Dy.ivR, 1, [(.v 0), (.v 1)]⟩ (.bind ⟨fun us _ => nB us, 1, [(.v 12)]⟩ (.ite (.v 13) (.done .ret ⟨[.it .i64 (.l (.i 20))], [some ([.fl (.v 0), .fl (.v 1), .fl (.v 2), .fl (.v 3), .fl (.v 4), .fl (.v 5), .fl (.v 6), .fl (.v 7), .fl (.v 8), .fl (.v 9), .fl (.v 10), .fl (.v 11)])], 14, []⟩) (.bind ⟨fIv1 Dy.ivR, 1, [(.v 4), (.v 5)]⟩ (.bind ⟨fun us _ => nB us, 1, [(.v 14)]⟩ (.ite (.v 15) (.done .ret ⟨[.it .i64 (.l (.i 20))], [some ([.fl (.v 0), .fl (.v 1), .fl (.v 2), .fl (.v 3), .fl (.v 4), .fl (.v 5), .fl (.v 6), .fl (.v 7), .fl (.v 8), .fl (.v 9), .fl (.v 10), .fl (.v 11)])], 16, []⟩) (.bind ⟨fIv1 Dy.ivR, 1, [(.v 8), (.v 9)]⟩ (.bind ⟨fun us _ => nB us, 1, [(.v 16)]⟩ (.ite (.v 17) (.done .ret ⟨[.it .i64 (.l (.i 20))], [some ([.fl (.v 0), .fl (.v 1), .fl (.v 2), .fl (.v 3), .fl (.v 4), .fl (.v 5), .fl (.v 6), .fl (.v 7), .fl (.v 8), .fl (.v 9), .fl (.v 10), .fl (.v 11)])], 18, []⟩) (.bind ⟨fun us _ => cB Dy.flt us, 1, [(.v 0), (.v 2)]⟩ (.ite (.v 18) (.done .ret ⟨[.it .i64 (.l (.i 2))], [some ([.fl (.v 0), .fl (.v 1), .fl (.v 2), .fl (.v 3), .fl (.v 4), .fl (.v 5), .fl (.v 6), .fl (.v 7), .fl (.v 8), .fl (.v 9), .fl (.v 10), .fl (.v 11)])], 19, []⟩) (.bind ⟨fun us _ => cB Dy.fgt us, 1, [(.v 1), (.v 3)]⟩ (.ite (.v 19) (.done .ret ⟨[.it .i64 (.l (.i 2))], [some ([.fl (.v 0), .fl (.v 1), .fl (.v 2), .fl (.v 3), .fl (.v 4), .fl (.v 5), .fl (.v 6), .fl (.v 7), .fl (.v 8), .fl (.v 9), .fl (.v 10), .fl (.v 11)])], 20, []⟩) (.bind ⟨fun us _ => cB Dy.flt us, 1, [(.v 4), (.v 6)]⟩ (.ite (.v 20) (.done .ret ⟨[.it .i64 (.l (.i 2))], [some ([.fl (.v 0), .fl (.v 1), .fl (.v 2), .fl (.v 3), .fl (.v 4), .fl (.v 5), .fl (.v 6), .fl (.v 7), .fl (.v 8), .fl (.v 9), .fl (.v 10), .fl (.v 11)])], 21, []⟩) (.bind ⟨fun us _ => cB Dy.fgt us, 1, [(.v 5), (.v 7)]⟩ (.ite (.v 21) (.done .ret ⟨[.it .i64 (.l (.i 2))], [some ([.fl (.v 0), .fl (.v 1), .fl (.v 2), .fl (.v 3), .fl (.v 4), .fl (.v 5), .fl (.v 6), .fl (.v 7), .fl (.v 8), .fl (.v 9), .fl (.v 10), .fl (.v 11)])], 22, []⟩) (.bind ⟨fun us _ => cB Dy.flt us, 1, [(.v 8), (.v 10)]⟩ (.ite (.v 22) (.done .ret ⟨[.it .i64 (.l (.i 2))], [some ([.fl (.v 0), .fl (.v 1), .fl (.v 2), .fl (.v 3), .fl (.v 4), .fl (.v 5), .fl (.v 6), .fl (.v 7), .fl (.v 8), .fl (.v 9), .fl (.v 10), .fl (.v 11)])], 23, []⟩) (.bind ⟨fun us _ => cB Dy.fgt us, 1, [(.v 9), (.v 11)]⟩ (.ite (.v 23) (.done .ret ⟨[.it .i64 (.l (.i 2))], [some ([.fl (.v 0), .fl (.v 1), .fl (.v 2), .fl (.v 3), .fl (.v 4), .fl (.v 5), .fl (.v 6), .fl (.v 7), .fl (.v 8), .fl (.v 9), .fl (.v 10), .fl (.v 11)])], 24, []⟩) (.done .ret ⟨[.it .i64 (.l (.i 0))], [some ([.fl (.v 0), .fl (.v 1), .fl (.v 2), .fl (.v 3), .fl (.v 4), .fl (.v 5), .fl (.v 6), .fl (.v 7), .fl (.v 8), .fl (.v 9), .fl (.v 10), .fl (.v 11)])], 24, []⟩)))))))))))))))))))))) (by kernel_rfl) (by kernel_rfl) (by kernel_rfl) (fun us hl hF hB hN => ?_)
 match us, hl with
 | [u0, u1, u2, u3, u4, u5, u6, u7, u8, u9, u10, u11], _ =>
  simp [FactsB, FactsL, Facts, ctL3] at hF hB
  simp [NeedsAt, runB, evs, E.ev, upto, resl, List.range, List.range.loop, ctL3] at hN
  obtain ⟨⟨a0, rfl, wa0⟩, ⟨b0, rfl, wb0⟩, ⟨l0, rfl, wl0⟩, ⟨h0, rfl, wh0⟩, ⟨a1, rfl, wa1⟩, ⟨b1, rfl, wb1⟩, ⟨l1, rfl, wl1⟩, ⟨h1, rfl, wh1⟩, ⟨a2, rfl, wa2⟩, ⟨b2, rfl, wb2⟩, ⟨l2, rfl, wl2⟩, ⟨h2, rfl, wh2⟩⟩ := hB
  refine T.HH.h ?_
  obtain ⟨t0, e1⟩ : ∃ t0, (Dy.ivR (a0, b0)) = t0 := ⟨_, rfl⟩
  refine T.hbind (us := [.f a0, .f b0]) (xs := [.b t0]) rfl (uB e1) rfl ?_
  obtain ⟨t2, e3⟩ : ∃ t2, (!t0) = t2 := ⟨_, rfl⟩
  refine T.hbind (us := [.b t0]) (xs := [.b t2]) rfl (uB e3) rfl ?_
  refine T.hite (x := t2) ?_ ?_ ?_
  ·rfl
  ·intro c5
   refine T.hdone ?_
   have e00 : (oL3 (a0, b0) (a1, b1) (a2, b2) (l0) (h0) (l1) (h1) (l2) (h2)) = 20 := by simp only [oL3, wiB, e1, e3, c5] <;> simp_all
   exact ⟨⟨rfl, (congrArg (fun r => some (iRes r 0)) e00.symm)⟩, trivial, rfl⟩
  ·intro c5
   obtain ⟨t5, e6⟩ : ∃ t5, (Dy.ivR (a1, b1)) = t5 := ⟨_, rfl⟩
   refine T.hbind (us := [.f a1, .f b1]) (xs := [.b t5]) rfl (uB e6) rfl ?_
   obtain ⟨t7, e8⟩ : ∃ t7, (!t5) = t7 := ⟨_, rfl⟩
   refine T.hbind (us := [.b t5]) (xs := [.b t7]) rfl (uB e8) rfl ?_
   refine T.hite (x := t7) ?_ ?_ ?_
   ·rfl
   ·intro c10
    refine T.hdone ?_
    have e00 : (oL3 (a0, b0) (a1, b1) (a2, b2) (l0) (h0) (l1) (h1) (l2) (h2)) = 20 := by simp only [oL3, wiB, e1, e3, c5, e6, e8, c10] <;> simp_all
    exact ⟨⟨rfl, (congrArg (fun r => some (iRes r 0)) e00.symm)⟩, trivial, rfl⟩
   ·intro c10
    obtain ⟨t10, e11⟩ : ∃ t10, (Dy.ivR (a2, b2)) = t10 := ⟨_, rfl⟩
    refine T.hbind (us := [.f a2, .f b2]) (xs := [.b t10]) rfl (uB e11) rfl ?_
    obtain ⟨t12, e13⟩ : ∃ t12, (!t10) = t12 := ⟨_, rfl⟩
    refine T.hbind (us := [.b t10]) (xs := [.b t12]) rfl (uB e13) rfl ?_
    refine T.hite (x := t12) ?_ ?_ ?_
    ·rfl
    ·intro c15
     refine T.hdone ?_
     have e00 : (oL3 (a0, b0) (a1, b1) (a2, b2) (l0) (h0) (l1) (h1) (l2) (h2)) = 20 := by simp only [oL3, wiB, e1, e3, c5, e6, e8, c10, e11, e13, c15] <;> simp_all
     exact ⟨⟨rfl, (congrArg (fun r => some (iRes r 0)) e00.symm)⟩, trivial, rfl⟩
    ·intro c15
     obtain ⟨t15, e16⟩ : ∃ t15, (Dy.flt a0 l0) = t15 := ⟨_, rfl⟩
     refine T.hbind (us := [.f a0, .f l0]) (xs := [.b t15]) rfl (uB e16) rfl ?_
     refine T.hite (x := t15) ?_ ?_ ?_
     ·rfl
     ·intro c18
      refine T.hdone ?_
      have e00 : (oL3 (a0, b0) (a1, b1) (a2, b2) (l0) (h0) (l1) (h1) (l2) (h2)) = 2 := by simp only [oL3, wiB, e1, e3, c5, e6, e8, c10, e11, e13, c15, e16, c18] <;> simp_all
      exact ⟨⟨rfl, (congrArg (fun r => some (iRes r 0)) e00.symm)⟩, trivial, rfl⟩
     ·intro c18
      obtain ⟨t18, e19⟩ : ∃ t18, (Dy.fgt b0 h0) = t18 := ⟨_, rfl⟩
      refine T.hbind (us := [.f b0, .f h0]) (xs := [.b t18]) (ρ' := [.f a0, .f b0, .f l0, .f h0, .f a1, .f b1, .f l1, .f h1, .f a2, .f b2, .f l2, .f h2, .b t0, .b t2, .b t5, .b t7, .b t10, .b t12, .b t15, .b t18]) rfl (uB e19) rfl ?_
      refine T.hite (x := t18) ?_ ?_ ?_
      ·rfl
      ·intro c21
       refine T.hdone ?_
       have e00 : (oL3 (a0, b0) (a1, b1) (a2, b2) (l0) (h0) (l1) (h1) (l2) (h2)) = 2 := by simp only [oL3, wiB, e1, e3, c5, e6, e8, c10, e11, e13, c15, e16, c18, e19, c21] <;> simp_all
       exact ⟨⟨rfl, (congrArg (fun r => some (iRes r 0)) e00.symm)⟩, trivial, rfl⟩
      ·intro c21
       obtain ⟨t21, e22⟩ : ∃ t21, (Dy.flt a1 l1) = t21 := ⟨_, rfl⟩
       refine T.hbind (us := [.f a1, .f l1]) (xs := [.b t21]) rfl (uB e22) rfl ?_
       refine T.hite (x := t21) ?_ ?_ ?_
       ·rfl
       ·intro c24
        refine T.hdone ?_
        have e00 : (oL3 (a0, b0) (a1, b1) (a2, b2) (l0) (h0) (l1) (h1) (l2) (h2)) = 2 := by simp only [oL3, wiB, e1, e3, c5, e6, e8, c10, e11, e13, c15, e16, c18, e19, c21, e22, c24] <;> simp_all
        exact ⟨⟨rfl, (congrArg (fun r => some (iRes r 0)) e00.symm)⟩, trivial, rfl⟩
       ·intro c24
        obtain ⟨t24, e25⟩ : ∃ t24, (Dy.fgt b1 h1) = t24 := ⟨_, rfl⟩
        refine T.hbind (us := [.f b1, .f h1]) (xs := [.b t24]) rfl (uB e25) rfl ?_
        refine T.hite (x := t24) ?_ ?_ ?_
        ·rfl
        ·intro c27
         refine T.hdone ?_
         have e00 : (oL3 (a0, b0) (a1, b1) (a2, b2) (l0) (h0) (l1) (h1) (l2) (h2)) = 2 := by simp only [oL3, wiB, e1, e3, c5, e6, e8, c10, e11, e13, c15, e16, c18, e19, c21, e22, c24, e25, c27] <;> simp_all
         exact ⟨⟨rfl, (congrArg (fun r => some (iRes r 0)) e00.symm)⟩, trivial, rfl⟩
        ·intro c27
         obtain ⟨t27, e28⟩ : ∃ t27, (Dy.flt a2 l2) = t27 := ⟨_, rfl⟩
         refine T.hbind (us := [.f a2, .f l2]) (xs := [.b t27]) rfl (uB e28) rfl ?_
         refine T.hite (x := t27) ?_ ?_ ?_
         ·rfl
         ·intro c30
          refine T.hdone ?_
          have e00 : (oL3 (a0, b0) (a1, b1) (a2, b2) (l0) (h0) (l1) (h1) (l2) (h2)) = 2 := by simp only [oL3, wiB, e1, e3, c5, e6, e8, c10, e11, e13, c15, e16, c18, e19, c21, e22, c24, e25, c27, e28, c30] <;> simp_all
          exact ⟨⟨rfl, (congrArg (fun r => some (iRes r 0)) e00.symm)⟩, trivial, rfl⟩
         ·intro c30
          obtain ⟨t30, e31⟩ : ∃ t30, (Dy.fgt b2 h2) = t30 := ⟨_, rfl⟩
          refine T.hbind (us := [.f b2, .f h2]) (xs := [.b t30]) rfl (uB e31) rfl ?_
          refine T.hite (x := t30) ?_ ?_ ?_
          ·rfl
          ·intro c33
           refine T.hdone ?_
           have e00 : (oL3 (a0, b0) (a1, b1) (a2, b2) (l0) (h0) (l1) (h1) (l2) (h2)) = 2 := by simp only [oL3, wiB, e1, e3, c5, e6, e8, c10, e11, e13, c15, e16, c18, e19, c21, e22, c24, e25, c27, e28, c30, e31, c33] <;> simp_all
           exact ⟨⟨rfl, (congrArg (fun r => some (iRes r 0)) e00.symm)⟩, trivial, rfl⟩
          ·intro c33
           refine T.hdone ?_
           have e00 : (oL3 (a0, b0) (a1, b1) (a2, b2) (l0) (h0) (l1) (h1) (l2) (h2)) = 0 := by simp only [oL3, wiB, e1, e3, c5, e6, e8, c10, e11, e13, c15, e16, c18, e19, c21, e22, c24, e25, c27, e28, c30, e31, c33] <;> simp_all
           exact ⟨⟨rfl, (congrArg (fun r => some (iRes r 0)) e00.symm)⟩, trivial, rfl⟩
def oa4 : List (Nat × Ct) := (19, ctL3) :: oa3
theorem oa4_ok : AllOk Tryz.prog oa4 := ⟨ctL3_ok, oa3_ok⟩
def ctL5 : Ct := ⟨20, [[vf 0, vf 1, vf 2, vf 3, vf 4, vf 5, vf 6, vf 7, vf 8, vf 9, vf 10, vf 11, vf 12, vf 13, vf 14, vf 15, vf 16, vf 17, vf 18, vf 19]], [.slc 0 0 5 5], { binds := [⟨fun us i => iRes ((oL5 (gF us 0, gF us 1) (gF us 4, gF us 5) (gF us 8, gF us 9) (gF us 12, gF us 13) (gF us 16, gF us 17) (gF us 2) (gF us 3) (gF us 6) (gF us 7) (gF us 10) (gF us 11) (gF us 14) (gF us 15) (gF us 18) (gF us 19))) i, 1, upto 0 20⟩], needs := [], val := vi .i64 20, upd := [] }⟩
set_option maxRecDepth 100000 in
set_option maxHeartbeats 8000000 in
theorem ctL5_ok : CtOk Tryz.prog 19 ctL5 := by
 refine CtOk.of_eval2 oa4_ok (dr_ok oa4_ok) Tryz.func19 rfl (by decide) [] 200 (by kernel_rfl) rfl (.bind ⟨fIv1 Dy.ivR, 1, [(.v 0), (.v 1)]⟩ (.bind ⟨fun us _ => nB us, 1, [(.v 20)]⟩ (.ite (.v 21) (.done .ret ⟨[.it .i64 (.l (.i 20))], [some ([.fl (.v 0), .fl (.v 1), .fl (.v 2), .fl (.v 3), .fl (.v 4), .fl (.v 5), .fl (.v 6), .fl (.v 7), .fl (.v 8), .fl (.v 9), .fl (.v 10), .fl (.v 11), .fl (.v 12), .fl (.v 13), .fl (.v 14), .fl (.v 15), .fl (.v 16), .fl (.v 17), .fl (.v 18), .fl (.v 19)])], 22, []⟩) (.bind ⟨fIv1 Dy.ivR, 1, [(.v 4), (.v 5)]⟩ (.bind ⟨fun us _ => nB us, 1, [(.v 22)]⟩ (.ite (.v 23) (.done .ret ⟨[.it .i64 (.l (.i 20))], [some ([.fl (.v 0), .fl (.v 1), .fl (.v 2), .fl (.v 3), .fl (.v 4), .fl (.v 5), .fl (.v 6), .fl (.v 7), .fl (.v 8), .fl (.v 9), .fl (.v 10), .fl (.v 11), .fl (.v 12), .fl (.v 13), .fl (.v 14), .fl (.v 15), .fl (.v 16), .fl (.v 17), .fl (.v 18), .fl (.v 19)])], 24, []⟩) (.bind ⟨fIv1 Dy.ivR, 1, [(.v 8), (.v 9)]⟩ (.bind ⟨fun us _ => nB us, 1, [(.v 24)]⟩ (.ite (.v 25) (.done .ret ⟨[.it .i64 (.l (.i 20))], [some ([.fl (.v 0), .fl (.v 1), .fl (.v 2), .fl (.v 3), .fl (.v 4), .fl (.v 5), .fl (.v 6), .fl (.v 7), .fl (.v 8), .fl (.v 9), .fl (.v 10), .fl (.v 11), .fl (.v 12), .fl (.v 13), .fl (.v 14), .fl (.v 15), .fl (.v 16), .fl (.v 17), .fl (.v 18), .fl (.v 19)])], 26, []⟩) (.bind ⟨fIv1 Dy.ivR, 1, [(.v 12), (.v 13)]⟩ (.bind ⟨fun us _ => nB us, 1, [(.v 26)]⟩ (.ite (.v 27) (.done .ret ⟨[.it .i64 (.l (.i 20))], [some ([.fl (.v 0), .fl (.v 1), .fl (.v 2), .fl (.v 3), .fl (.v 4), .fl (.v 5), .fl (.v 6), .fl (.v 7), .fl (.v 8), .fl (.v 9), .fl (.v 10), .fl (.v 11), .fl (.v 12), .fl (.v 13), .fl (.v 14), .fl (.v 15), .fl (.v 16), .fl (.v 17), .fl (.v 18), .fl (.v 19)])], 28, []⟩) (.bind ⟨fIv1 Dy.ivR, 1, [(.v 16), (.v 17)]⟩ (.bind ⟨fun us _ => nB us, 1, [(.v 28)]⟩ (.ite (.v 29) (.done .ret ⟨[.it .i64 (.l (.i 20))], [some ([.fl (.v 0), .fl (.v 1), .fl (.v 2), .fl (.v 3), .fl (.v 4), .fl (.v 5), .fl (.v 6), .fl (.v 7), .fl (.v 8), .fl (.v 9), .fl (.v 10), .fl (.v 11), .fl (.v 12), .fl (.v 13), .fl (.v 14), .fl (.v 15), .fl (.v 16), .fl (.v 17), .fl (.v 18), .fl (.v 19)])], 30, []⟩) (.bind ⟨fun us _ => cB Dy.flt us, 1, [(.v 0), (.v 2)]⟩ (.ite (.v 30) (.done .ret ⟨[.it .i64 (.l (.i 2))], [some ([.fl (.v 0), .fl (.v 1), .fl (.v 2), .fl (.v 3), .fl (.v 4), .fl (.v 5), .fl (.v 6), .fl (.v 7), .fl (.v 8), .fl (.v 9), .fl (.v 10), .fl (.v 11), .fl (.v 12), .fl (.v 13), .fl (.v 14), .fl (.v 15), .fl (.v 16), .fl (.v 17), .fl (.v 18), .fl (.v 19)])], 31, []⟩) (.bind ⟨fun us _ => cB Dy.fgt us, 1, [(.v 1), (.v 3)]⟩ (.ite (.v 31) (.done .ret ⟨[.it .i64 (.l (.i 2))], [some ([.fl (.v 0), .fl (.v 1), .fl (.v 2), .fl (.v 3), .fl (.v 4), .fl (.v 5), .fl (.v 6), .fl (.v 7), .fl (.v 8), .fl (.v 9), .fl (.v 10), .fl (.v 11), .fl (.v 12), .fl (.v 13), .fl (.v 14), .fl (.v 15), .fl (.v 16), .fl (.v 17), .fl (.v 18), .fl (.v 19)])], 32, []⟩) (.bind ⟨fun us _ => cB Dy.flt us, 1, [(.v 4), (.v 6)]⟩ (.ite (.v 32) (.done .ret ⟨[.it .i64 (.l (.i 2))], [some ([.fl (.v 0), .fl (.v 1), .fl (.v 2), .fl (.v 3), .fl (.v 4), .fl (.v 5), .fl (.v 6), .fl (.v 7), .fl (.v 8), .fl (.v 9), .fl (.v 10), .fl (.v 11), .fl (.v 12), .fl (.v 13), .fl (.v 14), .fl (.v 15), .fl (.v 16), .fl (.v 17), .fl (.v 18), .fl (.v 19)])], 33, []⟩) (.bind ⟨fun us _ => cB Dy.fgt us, 1, [(.v 5), (.v 7)]⟩ (.ite (.v 33) (.done .ret ⟨[.it .i64 (.l (.i 2))], [some ([.fl (.v 0), .fl (.v 1), .fl (.v 2), .fl (.v 3), .fl (.v 4), .fl (.v 5), .fl (.v 6), .fl (.v 7), .fl (.v 8), .fl (.v 9), .fl (.v 10), .fl (.v 11), .fl (.v 12), .fl (.v 13), .fl (.v 14), .fl (.v 15), .fl (.v 16), .fl (.v 17), .fl (.v 18), .fl (.v 19)])], 34, []⟩) (.bind ⟨fun us _ => cB Dy.flt us, 1, [(.v 8), (.v 10)]⟩ (.ite (.v 34) (.done .ret ⟨[.it .i64 (.l (.i 2))], [some ([.fl (.v 0), .fl (.v 1), .fl (.v 2), .fl (.v 3), .fl (.v 4), .fl (.v 5), .fl (.v 6), .fl (.v 7), .fl (.v 8), .fl (.v 9), .fl (.v 10), .fl (.v 11), .fl (.v 12), .fl (.v 13), .fl (.v 14), .fl (.v 15), .fl (.v 16), .fl (.v 17), .fl (.v 18), .fl (.v 19)])], 35, []⟩) (.bind ⟨fun us _ => cB Dy.fgt us, 1, [(.v 9), (.v 11)]⟩ (.ite (.v 35) (.done .ret ⟨[.it .i64 (.l (.i 2))], [some ([.fl (.v 0), .fl (.v 1), .fl (.v 2), .fl (.v 3), .fl (.v 4), .fl (.v 5), .fl (.v 6), .fl (.v 7), .fl (.v 8), .fl (.v 9), .fl (.v 10), .fl (.v 11), .fl (.v 12), .fl (.v 13), .fl (.v 14), .fl (.v 15), .fl (.v 16), .fl (.v 17), .fl (.v 18), .fl (.v 19)])], 36, []⟩) (.bind ⟨fun us _ => cB Dy.flt us, 1, [(.v 12), (.v 14)]⟩ (.ite (.v 36) (.done .ret ⟨[.it .i64 (.l (.i 2))], [some ([.fl (.v 0), .fl (.v 1), .fl (.v 2), .fl (.v 3), .fl (.v 4), .fl (.v 5), .fl (.v 6), .fl (.v 7), .fl (.v 8), .fl (.v 9), .fl (.v 10), .fl (.v 11), .fl (.v 12), .fl (.v 13), .fl (.v 14), .fl (.v 15), .fl (.v 16), .fl (.v 17), .fl (.v 18), .fl (.v 19)])], 37, []⟩) (.bind ⟨fun us _ => cB Dy.fgt us, 1, [(.v 13), (.v 15)]⟩ (.ite (.v 37) (.done .ret ⟨[.it .i64 (.l (.i 2))], [some ([.fl (.v 0), .fl (.v 1), .fl (.v 2), .fl (.v 3), .fl (.v 4), .fl (.v 5), .fl (.v 6), .fl (.v 7), .fl (.v 8), .fl (.v 9), .fl (.v 10), .fl (.v 11), .fl (.v 12), .fl (.v 13), .fl (.v 14), .fl (.v 15), .fl (.v 16), .fl (.v 17), .fl (.v 18), .fl (.v 19)])], 38, []⟩) (.bind ⟨fun us _ => cB Dy.flt us, 1, [(.v 16), (.v 18)]⟩ (.ite (.v 38) (.done .ret ⟨[.it .i64 (.l (.i 2))], [some ([.fl (.v 0), .fl (.v 1), .fl (.v 2), .fl (.v 3), .fl (.v 4), .fl (.v 5), .fl (.v 6), .fl (.v 7), .fl (.v 8), .fl (.v 9), .fl (.v 10), .fl (.v 11), .fl (.v 12), .fl (.v 13), .fl (.v 14), .fl (.v 15), .fl (.v 16), .fl (.v 17), .fl (.v 18), .fl (.v 19)])], 39, []⟩) (.bind ⟨fun us _ => cB Dy.fgt us, 1, [(.v 17), (.v 19)]⟩ (.ite (.v 39) (.done .ret ⟨[.it .i64 (.l (.i 2))], [some ([.fl (.v 0), .fl (.v 1), .fl (.v 2), .fl (.v 3), .fl (.v 4), .fl (.v 5), .fl (.v 6), .fl (.v 7), .fl (.v 8), .fl (.v 9), .fl (.v 10), .fl (.v 11), .fl (.v 12), .fl (.v 13), .fl (.v 14), .fl (.v 15), .fl (.v 16), .fl (.v 17), .fl (.v 18), .fl (.v 19)])], 40, []⟩) (.done .ret ⟨[.it .i64 (.l (.i 0))], [some ([.fl (.v 0), .fl (.v 1), .fl (.v 2), .fl (.v 3), .fl (.v 4), .fl (.v 5), .fl (.v 6), .fl (.v 7), .fl (.v 8), .fl (.v 9), .fl (.v 10), .fl (.v 11), .fl (.v 12), .fl (.v 13), .fl (.v 14), .fl (.v 15), .fl (.v 16), .fl (.v 17), .fl (.v 18), .fl (.v 19)])], 40, []⟩)))))))))))))))))))))))))))))))))))) (by kernel_rfl) (by kernel_rfl) (by kernel_rfl) (fun us hl hF hB hN => ?_)
 match us, hl with
 | [u0, u1, u2, u3, u4, u5, u6, u7, u8, u9, u10, u11, u12, u13, u14, u15, u16, u17, u18, u19], _ =>
  simp [FactsB, FactsL, Facts, ctL5] at hF hB
  simp [NeedsAt, runB, evs, E.ev, upto, resl, List.range, List.range.loop, ctL5] at hN
  obtain ⟨⟨a0, rfl, wa0⟩, ⟨b0, rfl, wb0⟩, ⟨l0, rfl, wl0⟩, ⟨h0, rfl, wh0⟩, ⟨a1, rfl, wa1⟩, ⟨b1, rfl, wb1⟩, ⟨l1, rfl, wl1⟩, ⟨h1, rfl, wh1⟩, ⟨a2, rfl, wa2⟩, ⟨b2, rfl, wb2⟩, ⟨l2, rfl, wl2⟩, ⟨h2, rfl, wh2⟩, ⟨a3, rfl, wa3⟩, ⟨b3, rfl, wb3⟩, ⟨l3, rfl, wl3⟩, ⟨h3, rfl, wh3⟩, ⟨a4, rfl, wa4⟩, ⟨b4, rfl, wb4⟩, ⟨l4, rfl, wl4⟩, ⟨h4, rfl, wh4⟩⟩ := hB
  refine T.HH.h ?_
  obtain ⟨t0, e1⟩ : ∃ t0, (Dy.ivR (a0, b0)) = t0 := ⟨_, rfl⟩
  refine T.hbind (us := [.f a0, .f b0]) (xs := [.b t0]) rfl (uB e1) rfl ?_
  obtain ⟨t2, e3⟩ : ∃ t2, (!t0) = t2 := ⟨_, rfl⟩
  refine T.hbind (us := [.b t0]) (xs := [.b t2]) rfl (uB e3) rfl ?_
  refine T.hite (x := t2) ?_ ?_ ?_
  ·rfl
  ·intro c5
   refine T.hdone ?_
   have e00 : (oL5 (a0, b0) (a1, b1) (a2, b2) (a3, b3) (a4, b4) (l0) (h0) (l1) (h1) (l2) (h2) (l3) (h3) (l4) (h4)) = 20 := by simp only [oL5, wiB, e1, e3, c5] <;> simp_all
   exact ⟨⟨rfl, (congrArg (fun r => some (iRes r 0)) e00.symm)⟩, trivial, rfl⟩
  ·intro c5
   obtain ⟨t5, e6⟩ : ∃ t5, (Dy.ivR (a1, b1)) = t5 := ⟨_, rfl⟩
   refine T.hbind (us := [.f a1, .f b1]) (xs := [.b t5]) rfl (uB e6) rfl ?_
   obtain ⟨t7, e8⟩ : ∃ t7, (!t5) = t7 := ⟨_, rfl⟩
   refine T.hbind (us := [.b t5]) (xs := [.b t7]) (ρ' := [.f a0, .f b0, .f l0, .f h0, .f a1, .f b1, .f l1, .f h1, .f a2, .f b2, .f l2, .f h2, .f a3, .f b3, .f l3, .f h3, .f a4, .f b4, .f l4, .f h4, .b t0, .b t2, .b t5, .b t7]) rfl (uB e8) rfl ?_
   refine T.hite (x := t7) ?_ ?_ ?_
   ·rfl
   ·intro c10
    refine T.hdone ?_
    have e00 : (oL5 (a0, b0) (a1, b1) (a2, b2) (a3, b3) (a4, b4) (l0) (h0) (l1) (h1) (l2) (h2) (l3) (h3) (l4) (h4)) = 20 := by simp only [oL5, wiB, e1, e3, c5, e6, e8, c10] <;> simp_all
    exact ⟨⟨rfl, (congrArg (fun r => some (iRes r 0)) e00.symm)⟩, trivial, rfl⟩
   ·intro c10
    obtain ⟨t10, e11⟩ : ∃ t10, (Dy.ivR (a2, b2)) = t10 := ⟨_, rfl⟩
    refine T.hbind (us := [.f a2, .f b2]) (xs := [.b t10]) rfl (uB e11) rfl ?_
    obtain ⟨t12, e13⟩ : ∃ t12, (!t10) = t12 := ⟨_, rfl⟩
    refine T.hbind (us := [.b t10]) (xs := [.b t12]) rfl (uB e13) rfl ?_
    refine T.hite (x := t12) ?_ ?_ ?_
    ·rfl
    ·intro c15
     refine T.hdone ?_
     have e00 : (oL5 (a0, b0) (a1, b1) (a2, b2) (a3, b3) (a4, b4) (l0) (h0) (l1) (h1) (l2) (h2) (l3) (h3) (l4) (h4)) = 20 := by simp only [oL5, wiB, e1, e3, c5, e6, e8, c10, e11, e13, c15] <;> simp_all
     exact ⟨⟨rfl, (congrArg (fun r => some (iRes r 0)) e00.symm)⟩, trivial, rfl⟩
    ·intro c15
     obtain ⟨t15, e16⟩ : ∃ t15, (Dy.ivR (a3, b3)) = t15 := ⟨_, rfl⟩
     refine T.hbind (us := [.f a3, .f b3]) (xs := [.b t15]) rfl (uB e16) rfl ?_
     obtain ⟨t17, e18⟩ : ∃ t17, (!t15) = t17 := ⟨_, rfl⟩
     refine T.hbind (us := [.b t15]) (xs := [.b t17]) rfl (uB e18) rfl ?_
     refine T.hite (x := t17) ?_ ?_ ?_
     ·rfl
     ·intro c20
      refine T.hdone ?_
      have e00 : (oL5 (a0, b0) (a1, b1) (a2, b2) (a3, b3) (a4, b4) (l0) (h0) (l1) (h1) (l2) (h2) (l3) (h3) (l4) (h4)) = 20 := by simp only [oL5, wiB, e1, e3, c5, e6, e8, c10, e11, e13, c15, e16, e18, c20] <;> simp_all
      exact ⟨⟨rfl, (congrArg (fun r => some (iRes r 0)) e00.symm)⟩, trivial, rfl⟩
     ·intro c20
      obtain ⟨t20, e21⟩ : ∃ t20, (Dy.ivR (a4, b4)) = t20 := ⟨_, rfl⟩
      refine T.hbind (us := [.f a4, .f b4]) (xs := [.b t20]) rfl (uB e21) rfl ?_
      obtain ⟨t22, e23⟩ : ∃ t22, (!t20) = t22 := ⟨_, rfl⟩
      refine T.hbind (us := [.b t20]) (xs := [.b t22]) rfl (uB e23) rfl ?_
      refine T.hite (x := t22) ?_ ?_ ?_
      ·rfl
      ·intro c25
       refine T.hdone ?_
       have e00 : (oL5 (a0, b0) (a1, b1) (a2, b2) (a3, b3) (a4, b4) (l0) (h0) (l1) (h1) (l2) (h2) (l3) (h3) (l4) (h4)) = 20 := by simp only [oL5, wiB, e1, e3, c5, e6, e8, c10, e11, e13, c15, e16, e18, c20, e21, e23, c25] <;> simp_all
       exact ⟨⟨rfl, (congrArg (fun r => some (iRes r 0)) e00.symm)⟩, trivial, rfl⟩
      ·intro c25
       obtain ⟨t25, e26⟩ : ∃ t25, (Dy.flt a0 l0) = t25 := ⟨_, rfl⟩
       refine T.hbind (us := [.f a0, .f l0]) (xs := [.b t25]) rfl (uB e26) rfl ?_
       refine T.hite (x := t25) ?_ ?_ ?_
       ·rfl
       ·intro c28
        refine T.hdone ?_
        have e00 : (oL5 (a0, b0) (a1, b1) (a2, b2) (a3, b3) (a4, b4) (l0) (h0) (l1) (h1) (l2) (h2) (l3) (h3) (l4) (h4)) = 2 := by simp only [oL5, wiB, e1, e3, c5, e6, e8, c10, e11, e13, c15, e16, e18, c20, e21, e23, c25, e26, c28] <;> simp_all
        exact ⟨⟨rfl, (congrArg (fun r => some (iRes r 0)) e00.symm)⟩, trivial, rfl⟩
       ·intro c28
        obtain ⟨t28, e29⟩ : ∃ t28, (Dy.fgt b0 h0) = t28 := ⟨_, rfl⟩
        refine T.hbind (us := [.f b0, .f h0]) (xs := [.b t28]) (ρ' := [.f a0, .f b0, .f l0, .f h0, .f a1, .f b1, .f l1, .f h1, .f a2, .f b2, .f l2, .f h2, .f a3, .f b3, .f l3, .f h3, .f a4, .f b4, .f l4, .f h4, .b t0, .b t2, .b t5, .b t7, .b t10, .b t12, .b t15, .b t17, .b t20, .b t22, .b t25, .b t28]) rfl (uB e29) rfl ?_
        refine T.hite (x := t28) ?_ ?_ ?_
        ·rfl
        ·intro c31
         refine T.hdone ?_
         have e00 : (oL5 (a0, b0) (a1, b1) (a2, b2) (a3, b3) (a4, b4) (l0) (h0) (l1) (h1) (l2) (h2) (l3) (h3) (l4) (h4)) = 2 := by simp only [oL5, wiB, e1, e3, c5, e6, e8, c10, e11, e13, c15, e16, e18, c20, e21, e23, c25, e26, c28, e29, c31] <;> simp_all
         exact ⟨⟨rfl, (congrArg (fun r => some (iRes r 0)) e00.symm)⟩, trivial, rfl⟩
        ·intro c31
         obtain ⟨t31, e32⟩ : ∃ t31, (Dy.flt a1 l1) = t31 := ⟨_, rfl⟩
         refine T.hbind (us := [.f a1, .f l1]) (xs := [.b t31]) rfl (uB e32) rfl ?_
         refine T.hite (x := t31) ?_ ?_ ?_
         ·rfl
         ·intro c34
          refine T.hdone ?_
          have e00 : (oL5 (a0, b0) (a1, b1) (a2, b2) (a3, b3) (a4, b4) (l0) (h0) (l1) (h1) (l2) (h2) (l3) (h3) (l4) (h4)) = 2 := by simp only [oL5, wiB, e1, e3, c5, e6, e8, c10, e11, e13, c15, e16, e18, c20, e21, e23, c25, e26, c28, e29, c31, e32, c34] <;> simp_all
          exact ⟨⟨rfl, (congrArg (fun r => some (iRes r 0)) e00.symm)⟩, trivial, rfl⟩
         ·intro c34
          obtain ⟨t34, e35⟩ : ∃ t34, (Dy.fgt b1 h1) = t34 := ⟨_, rfl⟩
          refine T.hbind (us := [.f b1, .f h1]) (xs := [.b t34]) rfl (uB e35) rfl ?_
          refine T.hite (x := t34) ?_ ?_ ?_
          ·rfl
          ·intro c37
           refine T.hdone ?_
           have e00 : (oL5 (a0, b0) (a1, b1) (a2, b2) (a3, b3) (a4, b4) (l0) (h0) (l1) (h1) (l2) (h2) (l3) (h3) (l4) (h4)) = 2 := by simp only [oL5, wiB, e1, e3, c5, e6, e8, c10, e11, e13, c15, e16, e18, c20, e21, e23, c25, e26, c28, e29, c31, e32, c34, e35, c37] <;> simp_all
           exact ⟨⟨rfl, (congrArg (fun r => some (iRes r 0)) e00.symm)⟩, trivial, rfl⟩
          ·intro c37
           obtain ⟨t37, e38⟩ : ∃ t37, (Dy.flt a2 l2) = t37 := ⟨_, rfl⟩
           refine T.hbind (us := [.f a2, .f l2]) (xs := [.b t37]) rfl (uB e38) rfl ?_
           refine T.hite (x := t37) ?_ ?_ ?_
           ·rfl
           ·intro c40
            refine T.hdone ?_
            have e00 : (oL5 (a0, b0) (a1, b1) (a2, b2) (a3, b3) (a4, b4) (l0) (h0) (l1) (h1) (l2) (h2) (l3) (h3) (l4) (h4)) = 2 := by simp only [oL5, wiB, e1, e3, c5, e6, e8, c10, e11, e13, c15, e16, e18, c20, e21, e23, c25, e26, c28, e29, c31, e32, c34, e35, c37, e38, c40] <;> simp_all
            exact ⟨⟨rfl, (congrArg (fun r => some (iRes r 0)) e00.symm)⟩, trivial, rfl⟩
           ·intro c40
            obtain ⟨t40, e41⟩ : ∃ t40, (Dy.fgt b2 h2) = t40 := ⟨_, rfl⟩
            refine T.hbind (us := [.f b2, .f h2]) (xs := [.b t40]) rfl (uB e41) rfl ?_
            refine T.hite (x := t40) ?_ ?_ ?_
            ·rfl
            ·intro c43
             refine T.hdone ?_
             have e00 : (oL5 (a0, b0) (a1, b1) (a2, b2) (a3, b3) (a4, b4) (l0) (h0) (l1) (h1) (l2) (h2) (l3) (h3) (l4) (h4)) = 2 := by simp only [oL5, wiB, e1, e3, c5, e6, e8, c10, e11, e13, c15, e16, e18, c20, e21, e23, c25, e26, c28, e29, c31, e32, c34, e35, c37, e38, c40, e41, c43] <;> simp_all
             exact ⟨⟨rfl, (congrArg (fun r => some (iRes r 0)) e00.symm)⟩, trivial, rfl⟩
            ·intro c43
             obtain ⟨t43, e44⟩ : ∃ t43, (Dy.flt a3 l3) = t43 := ⟨_, rfl⟩
             refine T.hbind (us := [.f a3, .f l3]) (xs := [.b t43]) rfl (uB e44) rfl ?_
             refine T.hite (x := t43) ?_ ?_ ?_
             ·rfl
             ·intro c46
              refine T.hdone ?_
              have e00 : (oL5 (a0, b0) (a1, b1) (a2, b2) (a3, b3) (a4, b4) (l0) (h0) (l1) (h1) (l2) (h2) (l3) (h3) (l4) (h4)) = 2 := by simp only [oL5, wiB, e1, e3, c5, e6, e8, c10, e11, e13, c15, e16, e18, c20, e21, e23, c25, e26, c28, e29, c31, e32, c34, e35, c37, e38, c40, e41, c43, e44, c46] <;> simp_all
              exact ⟨⟨rfl, (congrArg (fun r => some (iRes r 0)) e00.symm)⟩, trivial, rfl⟩
             ·intro c46
              obtain ⟨t46, e47⟩ : ∃ t46, (Dy.fgt b3 h3) = t46 := ⟨_, rfl⟩
              refine T.hbind (us := [.f b3, .f h3]) (xs := [.b t46]) rfl (uB e47) rfl ?_
              refine T.hite (x := t46) ?_ ?_ ?_
              ·rfl
              ·intro c49
               refine T.hdone ?_
               have e00 : (oL5 (a0, b0) (a1, b1) (a2, b2) (a3, b3) (a4, b4) (l0) (h0) (l1) (h1) (l2) (h2) (l3) (h3) (l4) (h4)) = 2 := by simp only [oL5, wiB, e1, e3, c5, e6, e8, c10, e11, e13, c15, e16, e18, c20, e21, e23, c25, e26, c28, e29, c31, e32, c34, e35, c37, e38, c40, e41, c43, e44, c46, e47, c49] <;> simp_all
               exact ⟨⟨rfl, (congrArg (fun r => some (iRes r 0)) e00.symm)⟩, trivial, rfl⟩
              ·intro c49
               obtain ⟨t49, e50⟩ : ∃ t49, (Dy.flt a4 l4) = t49 := ⟨_, rfl⟩
               refine T.hbind (us := [.f a4, .f l4]) (xs := [.b t49]) rfl (uB e50) rfl ?_
               refine T.hite (x := t49) ?_ ?_ ?_
               ·rfl
               ·intro c52
                refine T.hdone ?_
                have e00 : (oL5 (a0, b0) (a1, b1) (a2, b2) (a3, b3) (a4, b4) (l0) (h0) (l1) (h1) (l2) (h2) (l3) (h3) (l4) (h4)) = 2 := by simp only [oL5, wiB, e1, e3, c5, e6, e8, c10, e11, e13, c15, e16, e18, c20, e21, e23, c25, e26, c28, e29, c31, e32, c34, e35, c37, e38, c40, e41, c43, e44, c46, e47, c49, e50, c52] <;> simp_all
                exact ⟨⟨rfl, (congrArg (fun r => some (iRes r 0)) e00.symm)⟩, trivial, rfl⟩
               ·intro c52
                obtain ⟨t52, e53⟩ : ∃ t52, (Dy.fgt b4 h4) = t52 := ⟨_, rfl⟩
                refine T.hbind (us := [.f b4, .f h4]) (xs := [.b t52]) (ρ' := [.f a0, .f b0, .f l0, .f h0, .f a1, .f b1, .f l1, .f h1, .f a2, .f b2, .f l2, .f h2, .f a3, .f b3, .f l3, .f h3, .f a4, .f b4, .f l4, .f h4, .b t0, .b t2, .b t5, .b t7, .b t10, .b t12, .b t15, .b t17, .b t20, .b t22, .b t25, .b t28, .b t31, .b t34, .b t37, .b t40, .b t43, .b t46, .b t49, .b t52]) rfl (uB e53) rfl ?_
                refine T.hite (x := t52) ?_ ?_ ?_
                ·rfl
                ·intro c55
                 refine T.hdone ?_
                 have e00 : (oL5 (a0, b0) (a1, b1) (a2, b2) (a3, b3) (a4, b4) (l0) (h0) (l1) (h1) (l2) (h2) (l3) (h3) (l4) (h4)) = 2 := by simp only [oL5, wiB, e1, e3, c5, e6, e8, c10, e11, e13, c15, e16, e18, c20, e21, e23, c25, e26, c28, e29, c31, e32, c34, e35, c37, e38, c40, e41, c43, e44, c46, e47, c49, e50, c52, e53, c55] <;> simp_all
                 exact ⟨⟨rfl, (congrArg (fun r => some (iRes r 0)) e00.symm)⟩, trivial, rfl⟩
                ·intro c55
                 refine T.hdone ?_
                 have e00 : (oL5 (a0, b0) (a1, b1) (a2, b2) (a3, b3) (a4, b4) (l0) (h0) (l1) (h1) (l2) (h2) (l3) (h3) (l4) (h4)) = 0 := by simp only [oL5, wiB, e1, e3, c5, e6, e8, c10, e11, e13, c15, e16, e18, c20, e21, e23, c25, e26, c28, e29, c31, e32, c34, e35, c37, e38, c40, e41, c43, e44, c46, e47, c49, e50, c52, e53, c55] <;> simp_all
                 exact ⟨⟨rfl, (congrArg (fun r => some (iRes r 0)) e00.symm)⟩, trivial, rfl⟩
def oa5 : List (Nat × Ct) := (19, ctL5) :: oa4
theorem oa5_ok : AllOk Tryz.prog oa5 := ⟨ctL5_ok, oa4_ok⟩
def ctOKept : Ct := ⟨4, [], [vp 0 1, vf 2, vf 3], { binds := [⟨fun us i => ivU (Dy.clip (gF us 2) (gF us 3) (gF us 0, gF us 1)) i, 2, upto 0 4⟩], needs := [⟨rN, [.v 0, .v 1]⟩, ⟨rN, [.v 2, .v 3]⟩], val := vp 4 5, upd := [] }⟩
set_option maxRecDepth 100000 in
set_option maxHeartbeats 8000000 in
theorem ctOKept_ok : CtOk Tryz.prog 62 ctOKept := by
 refine CtOk.of_eval2 oa5_ok (dr_ok oa5_ok) Tryz.func62 rfl (by decide) [] 200 (by kernel_rfl) rfl (.bind ⟨fun us _ => gB Dy.dmax us, 1, [(.v 0), (.v 2)]⟩ (.need ⟨rN, [(.v 0), (.v 2)]⟩ (.bind ⟨fun us _ => gB Dy.dmin us, 1, [(.v 4), (.v 3)]⟩ (.need ⟨rN, [(.v 4), (.v 3)]⟩ (.bind ⟨fun us _ => gB Dy.dmax us, 1, [(.v 1), (.v 2)]⟩ (.need ⟨rN, [(.v 1), (.v 2)]⟩ (.bind ⟨fun us _ => gB Dy.dmin us, 1, [(.v 6), (.v 3)]⟩ (.need ⟨rN, [(.v 6), (.v 3)]⟩ (.done .ret ⟨[.agg [.fl (.v 5), .fl (.v 7)]], [], 8, []⟩))))))))) (by kernel_rfl) (by kernel_rfl) (by kernel_rfl) (fun us hl hF hB hN => ?_)
 match us, hl with
 | [u0, u1, u2, u3], _ =>
  simp [FactsB, FactsL, Facts, ctOKept] at hF hB
  simp [NeedsAt, runB, evs, E.ev, upto, resl, List.range, List.range.loop, ctOKept] at hN
  obtain ⟨⟨⟨a1, rfl, wa1⟩, ⟨a2, rfl, wa2⟩⟩, ⟨l, rfl, wl⟩, ⟨h, rfl, wh⟩⟩ := hF
  simp [rN, gF, U.F] at hN
  refine T.HH.h ?_
  obtain ⟨t0, e1⟩ : ∃ t0, (Dy.dmax a1 l) = t0 := ⟨_, rfl⟩
  have R1 : Dy.right t0 = true := by rw [← e1]; exact Dy.dmax_right hN.1.1 hN.2.1
  refine T.hbind (us := [.f a1, .f l]) (xs := [.f t0]) rfl (uF e1) rfl ?_
  refine T.hneed (us := [.f a1, .f l]) rfl (show (Dy.right a1 && Dy.right l) = true from by rw [hN.1.1, hN.2.1]; rfl) ?_
  obtain ⟨t2, e3⟩ : ∃ t2, (Dy.dmin t0 h) = t2 := ⟨_, rfl⟩
  refine T.hbind (us := [.f t0, .f h]) (xs := [.f t2]) rfl (uF e3) rfl ?_
  refine T.hneed (us := [.f t0, .f h]) rfl (show (Dy.right t0 && Dy.right h) = true from by rw [R1, hN.2.2]; rfl) ?_
  obtain ⟨t4, e5⟩ : ∃ t4, (Dy.dmax a2 l) = t4 := ⟨_, rfl⟩
  have R5 : Dy.right t4 = true := by rw [← e5]; exact Dy.dmax_right hN.1.2 hN.2.1
  refine T.hbind (us := [.f a2, .f l]) (xs := [.f t4]) rfl (uF e5) rfl ?_
  refine T.hneed (us := [.f a2, .f l]) rfl (show (Dy.right a2 && Dy.right l) = true from by rw [hN.1.2, hN.2.1]; rfl) ?_
  obtain ⟨t6, e7⟩ : ∃ t6, (Dy.dmin t4 h) = t6 := ⟨_, rfl⟩
  refine T.hbind (us := [.f t4, .f h]) (xs := [.f t6]) rfl (uF e7) rfl ?_
  refine T.hneed (us := [.f t4, .f h]) rfl (show (Dy.right t4 && Dy.right h) = true from by rw [R5, hN.2.2]; rfl) ?_
  refine T.hdone ?_
  have e00 : Dy.clip (l) (h) (a1, a2) = (t2, t6) := by simp only [Dy.clip, e1, e3, e5, e7] <;> simp_all
  exact ⟨⟨vI e00 0, vI e00 1, trivial⟩, trivial, rfl⟩
def oa6 : List (Nat × Ct) := (62, ctOKept) :: oa5
theorem oa6_ok : AllOk Tryz.prog oa6 := ⟨ctOKept_ok, oa5_ok⟩
def ctOPair : Ct := ⟨3, [[vi .i64 0]], [.ptr 0 0, vp 1 2], { binds := [⟨fun us i => pairU (pairM (gF us 1, gF us 2) (gI us 0)) i, 5, upto 0 3⟩], needs := [], val := .tup [vp 3 4, vp 5 6], upd := [(0, [vi .i64 7])] }⟩
set_option maxRecDepth 100000 in
set_option maxHeartbeats 8000000 in
theorem ctOPair_ok : CtOk Tryz.prog 20 ctOPair := by
 refine CtOk.of_eval2 oa6_ok (dr_ok oa6_ok) Tryz.func20 rfl (by decide) [] 200 (by kernel_rfl) rfl (.bind ⟨calF0 Dy.cNum, 3, [(.v 0), (.l (.f 4611686018427387904))]⟩ (.bind ⟨calF0 Dy.cNum, 3, [(.v 5), (.l (.f 4607182418800017408))]⟩ (.bind ⟨calF2 Dy.cDiv, 3, [(.v 8), (.l (.f 4614256656552045848)), (.l (.f 4614256656552045849)), (.v 3), (.v 4)]⟩ (.bind ⟨calF0 Dy.cNum, 3, [(.v 11), (.l (.f 4613937818241073152))]⟩ (.bind ⟨calF2 Dy.cDiv, 3, [(.v 14), (.v 3), (.v 4), (.v 12), (.v 13)]⟩ (.bind ⟨calF2 Dy.cSub, 3, [(.v 17), (.v 9), (.v 10), (.v 15), (.v 16)]⟩ (.bind ⟨calF2 Dy.cMul, 3, [(.v 20), (.v 18), (.v 19), (.v 1), (.v 2)]⟩ (.bind ⟨calF2 Dy.cAdd, 3, [(.v 23), (.l (.f 4614256656552045848)), (.l (.f 4614256656552045849)), (.v 21), (.v 22)]⟩ (.bind ⟨calF2 Dy.cDiv, 3, [(.v 26), (.v 6), (.v 7), (.v 24), (.v 25)]⟩ (.bind ⟨calF2 Dy.cMul, 3, [(.v 29), (.v 1), (.v 2), (.v 27), (.v 28)]⟩ (.done .ret ⟨[.tup [.agg [.fl (.v 27), .fl (.v 28)], .agg [.fl (.v 30), .fl (.v 31)]]], [some ([.it .i64 (.v 32)])], 33, [0, 0, 0, 0, 0, 0, 0, 0, 0, 0]⟩))))))))))) (by kernel_rfl) (by kernel_rfl) (by kernel_rfl) (fun us hl hF hB hN => ?_)
 match us, hl with
 | [u0, u1, u2], _ =>
  simp [FactsB, FactsL, Facts, ctOPair] at hF hB
  simp [NeedsAt, runB, evs, E.ev, upto, resl, List.range, List.range.loop, ctOPair] at hN
  obtain ⟨⟨a1, rfl, wa1⟩, ⟨a2, rfl, wa2⟩⟩ := hF
  obtain ⟨e, rfl⟩ := hB
  refine T.HH.h ?_
  obtain ⟨t0, t1, t2, e3⟩ := Dy.ex3 (Dy.cNum e 4611686018427387904)
  refine T.hbind (us := [.i e, .f 4611686018427387904]) (xs := [.f t0, .f t1, .i t2]) rfl (uC e3) rfl ?_
  obtain ⟨t4, t5, t6, e7⟩ := Dy.ex3 (Dy.cNum t2 4607182418800017408)
  refine T.hbind (us := [.i t2, .f 4607182418800017408]) (xs := [.f t4, .f t5, .i t6]) rfl (uC e7) rfl ?_
  obtain ⟨t8, t9, t10, e11⟩ := Dy.ex3 (Dy.cDiv t6 (4614256656552045848, 4614256656552045849) (t0, t1))
  refine T.hbind (us := [.i t6, .f 4614256656552045848, .f 4614256656552045849, .f t0, .f t1]) (xs := [.f t8, .f t9, .i t10]) rfl (uC e11) rfl ?_
  obtain ⟨t12, t13, t14, e15⟩ := Dy.ex3 (Dy.cNum t10 4613937818241073152)
  refine T.hbind (us := [.i t10, .f 4613937818241073152]) (xs := [.f t12, .f t13, .i t14]) (ρ' := [.i e, .f a1, .f a2, .f t0, .f t1, .i t2, .f t4, .f t5, .i t6, .f t8, .f t9, .i t10, .f t12, .f t13, .i t14]) rfl (uC e15) rfl ?_
  obtain ⟨t16, t17, t18, e19⟩ := Dy.ex3 (Dy.cDiv t14 (t0, t1) (t12, t13))
  refine T.hbind (us := [.i t14, .f t0, .f t1, .f t12, .f t13]) (xs := [.f t16, .f t17, .i t18]) rfl (uC e19) rfl ?_
  obtain ⟨t20, t21, t22, e23⟩ := Dy.ex3 (Dy.cSub t18 (t8, t9) (t16, t17))
  refine T.hbind (us := [.i t18, .f t8, .f t9, .f t16, .f t17]) (xs := [.f t20, .f t21, .i t22]) rfl (uC e23) rfl ?_
  obtain ⟨t24, t25, t26, e27⟩ := Dy.ex3 (Dy.cMul t22 (t20, t21) (a1, a2))
  refine T.hbind (us := [.i t22, .f t20, .f t21, .f a1, .f a2]) (xs := [.f t24, .f t25, .i t26]) rfl (uC e27) rfl ?_
  obtain ⟨t28, t29, t30, e31⟩ := Dy.ex3 (Dy.cAdd t26 (4614256656552045848, 4614256656552045849) (t24, t25))
  refine T.hbind (us := [.i t26, .f 4614256656552045848, .f 4614256656552045849, .f t24, .f t25]) (xs := [.f t28, .f t29, .i t30]) rfl (uC e31) rfl ?_
  obtain ⟨t32, t33, t34, e35⟩ := Dy.ex3 (Dy.cDiv t30 (t4, t5) (t28, t29))
  refine T.hbind (us := [.i t30, .f t4, .f t5, .f t28, .f t29]) (xs := [.f t32, .f t33, .i t34]) rfl (uC e35) rfl ?_
  obtain ⟨t36, t37, t38, e39⟩ := Dy.ex3 (Dy.cMul t34 (a1, a2) (t32, t33))
  refine T.hbind (us := [.i t34, .f a1, .f a2, .f t32, .f t33]) (xs := [.f t36, .f t37, .i t38]) rfl (uC e39) rfl ?_
  refine T.hdone ?_
  have eM : pairM (a1, a2) e = (((t32, t33), (t36, t37)), t38) := by
   unfold pairM
   refine (Dy.cs_num e3).trans ?_
   refine (Dy.cs_num e7).trans ?_
   refine (Dy.cs_div e11).trans ?_
   refine (Dy.cs_num e15).trans ?_
   refine (Dy.cs_div e19).trans ?_
   refine (Dy.cs_sub e23).trans ?_
   refine (Dy.cs_mul e27).trans ?_
   refine (Dy.cs_add e31).trans ?_
   refine (Dy.cs_div e35).trans ?_
   first | exact e39 | (refine (Dy.cs_mul e39).trans ?_; rfl)
  have e00 : pairM (a1, a2) (e) = (((t32, t33), (t36, t37)), t38) := by simp only [eM] <;> simp_all
  exact ⟨⟨⟨(congrArg (fun r => some (pairU r 0)) e00.symm), (congrArg (fun r => some (pairU r 1)) e00.symm), trivial⟩, ⟨(congrArg (fun r => some (pairU r 2)) e00.symm), (congrArg (fun r => some (pairU r 3)) e00.symm), trivial⟩, trivial⟩, ⟨⟨⟨rfl, (congrArg (fun r => some (pairU r 4)) e00.symm)⟩, trivial⟩, trivial⟩, rfl⟩
def oa7 : List (Nat × Ct) := (20, ctOPair) :: oa6
theorem oa7_ok : AllOk Tryz.prog oa7 := ⟨ctOPair_ok, oa6_ok⟩
def ctOSlope : Ct := ⟨7, [[vi .i64 0]], [.ptr 0 0, vp 1 2, vp 3 4, vp 5 6], { binds := [⟨fun us i => calR (slopeM (gF us 1, gF us 2) (gF us 3, gF us 4) (gF us 5, gF us 6) (gI us 0)) i, 3, upto 0 7⟩], needs := [⟨nIv, [.v 1, .v 2]⟩, ⟨nIv, [.v 3, .v 4]⟩], val := vp 7 8, upd := [(0, [vi .i64 9])] }⟩
set_option maxRecDepth 100000 in
set_option maxHeartbeats 8000000 in
theorem ctOSlope_ok : CtOk Tryz.prog 30 ctOSlope := by
 refine CtOk.of_eval2 oa7_ok (dr_ok oa7_ok) Tryz.func30 rfl (by decide) [] 200 (by kernel_rfl) rfl (.bind ⟨calF2 Dy.cMul, 3, [(.v 0), (.v 1), (.v 2), (.v 3), (.v 4)]⟩ (.bind ⟨calF2 Dy.cSub, 3, [(.v 9), (.v 5), (.v 6), (.v 7), (.v 8)]⟩ (.bind ⟨fun us _ => cB (fun a b => Dy.flt a b || Dy.feq a b) us, 1, [(.v 11), (.l (.f 0))]⟩ (.ite (.v 13) (.bind ⟨fun us i => ivU (Dy.clip (gF us 2) (gF us 3) (gF us 0, gF us 1)) i, 2, [(.v 10), (.v 11), (.l (.f 13830554455654793216)), (.l (.f 4607182418800017408))]⟩ (.need ⟨rN, [(.v 10), (.v 11)]⟩ (.need ⟨rN, [(.l (.f 13830554455654793216)), (.l (.f 4607182418800017408))]⟩ (.done .ret ⟨[.agg [.fl (.v 14), .fl (.v 15)]], [some ([.it .i64 (.v 12)])], 16, [0, 0]⟩)))) (.bind ⟨fun us _ => cB (fun a b => Dy.fgt a b || Dy.feq a b) us, 1, [(.v 10), (.l (.f 0))]⟩ (.ite (.v 14) (.bind ⟨fun us i => calR (Dy.cMax (gI us 0) (gF us 1, gF us 2) (gF us 3, gF us 4)) i, 3, [(.v 12), (.v 1), (.v 2), (.v 3), (.v 4)]⟩ (.need ⟨nIv, [(.v 1), (.v 2)]⟩ (.need ⟨nIv, [(.v 3), (.v 4)]⟩ (.bind ⟨calF2 Dy.cDiv, 3, [(.v 17), (.v 10), (.v 11), (.v 15), (.v 16)]⟩ (.bind ⟨fun us i => ivU (Dy.clip (gF us 2) (gF us 3) (gF us 0, gF us 1)) i, 2, [(.v 18), (.v 19), (.l (.f 13830554455654793216)), (.l (.f 4607182418800017408))]⟩ (.need ⟨rN, [(.v 18), (.v 19)]⟩ (.need ⟨rN, [(.l (.f 13830554455654793216)), (.l (.f 4607182418800017408))]⟩ (.done .ret ⟨[.agg [.fl (.v 21), .fl (.v 22)]], [some ([.it .i64 (.v 20)])], 23, [0, 0, 0, 0]⟩)))))))) (.bind ⟨fun us i => calR (Dy.cMax (gI us 0) (gF us 1, gF us 2) (gF us 3, gF us 4)) i, 3, [(.v 12), (.v 1), (.v 2), (.v 3), (.v 4)]⟩ (.need ⟨nIv, [(.v 1), (.v 2)]⟩ (.need ⟨nIv, [(.v 3), (.v 4)]⟩ (.bind ⟨calF2 Dy.cDiv, 3, [(.v 17), (.l (.f 0)), (.v 11), (.v 15), (.v 16)]⟩ (.bind ⟨fun us _ => gB Dy.dmin us, 1, [(.v 10), (.v 18)]⟩ (.bind ⟨fun us _ => gB Dy.dmax us, 1, [(.l (.f 0)), (.v 19)]⟩ (.need ⟨rN, [(.v 10), (.v 18)]⟩ (.need ⟨rN, [(.l (.f 0)), (.v 19)]⟩ (.bind ⟨fun us i => ivU (Dy.clip (gF us 2) (gF us 3) (gF us 0, gF us 1)) i, 2, [(.v 21), (.v 22), (.l (.f 13830554455654793216)), (.l (.f 4607182418800017408))]⟩ (.need ⟨rN, [(.v 21), (.v 22)]⟩ (.need ⟨rN, [(.l (.f 13830554455654793216)), (.l (.f 4607182418800017408))]⟩ (.done .ret ⟨[.agg [.fl (.v 23), .fl (.v 24)]], [some ([.it .i64 (.v 20)])], 25, [0, 0, 0, 0]⟩)))))))))))))))))) (by kernel_rfl) (by kernel_rfl) (by kernel_rfl) (fun us hl hF hB hN => ?_)
 match us, hl with
 | [u0, u1, u2, u3, u4, u5, u6], _ =>
  simp [FactsB, FactsL, Facts, ctOSlope] at hF hB
  simp [NeedsAt, runB, evs, E.ev, upto, resl, List.range, List.range.loop, ctOSlope] at hN
  obtain ⟨⟨⟨a1, rfl, wa1⟩, ⟨a2, rfl, wa2⟩⟩, ⟨⟨b1, rfl, wb1⟩, ⟨b2, rfl, wb2⟩⟩, ⟨c1x, rfl, wc1x⟩, ⟨c2x, rfl, wc2x⟩⟩ := hF
  obtain ⟨e, rfl⟩ := hB
  simp [nIv, gF, U.F] at hN
  refine T.HH.h ?_
  obtain ⟨t0, t1, t2, e3⟩ := Dy.ex3 (Dy.cMul e (a1, a2) (b1, b2))
  have g3 := Dy.good_mul (a := (a1, a2)) (b := (b1, b2)) (err := e)
  rw [e3] at g3
  refine T.hbind (us := [.i e, .f a1, .f a2, .f b1, .f b2]) (xs := [.f t0, .f t1, .i t2]) rfl (uC e3) rfl ?_
  obtain ⟨t4, t5, t6, e7⟩ := Dy.ex3 (Dy.cSub t2 (c1x, c2x) (t0, t1))
  have g7 := Dy.good_sub (a := (c1x, c2x)) (b := (t0, t1)) ⟨g3.1.1, g3.1.2⟩ (err := t2)
  rw [e7] at g7
  refine T.hbind (us := [.i t2, .f c1x, .f c2x, .f t0, .f t1]) (xs := [.f t4, .f t5, .i t6]) (ρ' := [.i e, .f a1, .f a2, .f b1, .f b2, .f c1x, .f c2x, .f t0, .f t1, .i t2, .f t4, .f t5, .i t6]) rfl (uC e7) rfl ?_
  obtain ⟨t8, e9⟩ : ∃ t8, (Dy.flt t5 0 || Dy.feq t5 0) = t8 := ⟨_, rfl⟩
  refine T.hbind (us := [.f t5, .f 0]) (xs := [.b t8]) rfl (uB e9) rfl ?_
  refine T.hite (x := t8) ?_ ?_ ?_
  ·rfl
  ·intro c11
   obtain ⟨t11, t12, e13⟩ := Dy.ex2 (Dy.clip (13830554455654793216) (4607182418800017408) (t4, t5))
   have k13 := clip_ends (a := (t4, t5)) (l := 13830554455654793216) (h := 4607182418800017408) ⟨g7.1.1, g7.1.2⟩ ((Dy.ivR_of g7.2).1) ((Dy.ivR_of g7.2).2.1) (show Dy.W 13830554455654793216 from by unfold Dy.W; decide) (show Dy.right 13830554455654793216 = true from by decide +kernel) (show Dy.W 4607182418800017408 from by unfold Dy.W; decide) (show Dy.right 4607182418800017408 = true from by decide +kernel)
   rw [e13] at k13
   refine T.hbind (us := [.f t4, .f t5, .f 13830554455654793216, .f 4607182418800017408]) (xs := [.f t11, .f t12]) rfl (uI e13) rfl ?_
   refine T.hneed (us := [.f t4, .f t5]) rfl (show (Dy.right t4 && Dy.right t5) = true from by rw [(Dy.ivR_of g7.2).1, (Dy.ivR_of g7.2).2.1]; rfl) ?_
   refine T.hneed (us := [.f 13830554455654793216, .f 4607182418800017408]) rfl (show (Dy.right 13830554455654793216 && Dy.right 4607182418800017408) = true from by rw [(show Dy.right 13830554455654793216 = true from by decide +kernel), (show Dy.right 4607182418800017408 = true from by decide +kernel)]; rfl) ?_
   refine T.hdone ?_
   have eM : slopeM (a1, a2) (b1, b2) (c1x, c2x) e = ((t11, t12), t6) := by
    unfold slopeM
    refine (Dy.cs_mul e3).trans ?_
    refine (Dy.cs_sub e7).trans ?_
    refine (Dy.cif_t (e9.trans c11)).trans ?_
    first | exact congrArg (fun r => (r, t6)) e13 | (refine (Dy.cm_p e13).trans ?_; rfl) | (rw [Dy.cm_pure]; simp only [Dy.iHull, e9, c11, e13])
   have e00 : slopeM (a1, a2) (b1, b2) (c1x, c2x) (e) = ((t11, t12), t6) := by simp only [eM, e9, c11] <;> simp_all
   exact ⟨⟨vC e00 0, vC e00 1, trivial⟩, ⟨⟨⟨rfl, vC e00 2⟩, trivial⟩, trivial⟩, rfl⟩
  ·intro c11
   obtain ⟨t14, e15⟩ : ∃ t14, (Dy.fgt t4 0 || Dy.feq t4 0) = t14 := ⟨_, rfl⟩
   refine T.hbind (us := [.f t4, .f 0]) (xs := [.b t14]) rfl (uB e15) rfl ?_
   refine T.hite (x := t14) ?_ ?_ ?_
   ·rfl
   ·intro c17
    obtain ⟨t17, t18, t19, e20⟩ := Dy.ex3 (Dy.cMax (t6) (a1, a2) (b1, b2))
    have g20 := Dy.good_max (a := (a1, a2)) (b := (b1, b2)) ⟨wa1, wa2⟩ ⟨wb1, wb2⟩ (err := t6)
    rw [e20] at g20
    refine T.hbind (us := [.i t6, .f a1, .f a2, .f b1, .f b2]) (xs := [.f t17, .f t18, .i t19]) rfl (uC e20) rfl ?_
    refine T.hneed (us := [.f a1, .f a2]) rfl (hN.1) ?_
    refine T.hneed (us := [.f b1, .f b2]) rfl (hN.2) ?_
    obtain ⟨t21, t22, t23, e24⟩ := Dy.ex3 (Dy.cDiv t19 (t4, t5) (t17, t18))
    have g24 := Dy.good_div (a := (t4, t5)) (b := (t17, t18)) ⟨g20.1.1, g20.1.2⟩ (err := t19)
    rw [e24] at g24
    refine T.hbind (us := [.i t19, .f t4, .f t5, .f t17, .f t18]) (xs := [.f t21, .f t22, .i t23]) rfl (uC e24) rfl ?_
    obtain ⟨t25, t26, e27⟩ := Dy.ex2 (Dy.clip (13830554455654793216) (4607182418800017408) (t21, t22))
    have k27 := clip_ends (a := (t21, t22)) (l := 13830554455654793216) (h := 4607182418800017408) ⟨g24.1.1, g24.1.2⟩ ((Dy.ivR_of g24.2).1) ((Dy.ivR_of g24.2).2.1) (show Dy.W 13830554455654793216 from by unfold Dy.W; decide) (show Dy.right 13830554455654793216 = true from by decide +kernel) (show Dy.W 4607182418800017408 from by unfold Dy.W; decide) (show Dy.right 4607182418800017408 = true from by decide +kernel)
    rw [e27] at k27
    refine T.hbind (us := [.f t21, .f t22, .f 13830554455654793216, .f 4607182418800017408]) (xs := [.f t25, .f t26]) rfl (uI e27) rfl ?_
    refine T.hneed (us := [.f t21, .f t22]) rfl (show (Dy.right t21 && Dy.right t22) = true from by rw [(Dy.ivR_of g24.2).1, (Dy.ivR_of g24.2).2.1]; rfl) ?_
    refine T.hneed (us := [.f 13830554455654793216, .f 4607182418800017408]) rfl (show (Dy.right 13830554455654793216 && Dy.right 4607182418800017408) = true from by rw [(show Dy.right 13830554455654793216 = true from by decide +kernel), (show Dy.right 4607182418800017408 = true from by decide +kernel)]; rfl) ?_
    refine T.hdone ?_
    have eM : slopeM (a1, a2) (b1, b2) (c1x, c2x) e = ((t25, t26), t23) := by
     unfold slopeM
     refine (Dy.cs_mul e3).trans ?_
     refine (Dy.cs_sub e7).trans ?_
     refine (Dy.cif_f (e9.trans c11)).trans ?_
     refine (Dy.cif_t (e15.trans c17)).trans ?_
     refine (Dy.cs_max e20).trans ?_
     refine (Dy.cs_div e24).trans ?_
     first | exact congrArg (fun r => (r, t23)) e27 | (refine (Dy.cm_p e27).trans ?_; rfl) | (rw [Dy.cm_pure]; simp only [Dy.iHull, e9, c11, e15, c17, e27])
    have e00 : slopeM (a1, a2) (b1, b2) (c1x, c2x) (e) = ((t25, t26), t23) := by simp only [eM, e9, c11, e15, c17] <;> simp_all
    exact ⟨⟨vC e00 0, vC e00 1, trivial⟩, ⟨⟨⟨rfl, vC e00 2⟩, trivial⟩, trivial⟩, rfl⟩
   ·intro c17
    obtain ⟨t28, t29, t30, e31⟩ := Dy.ex3 (Dy.cMax (t6) (a1, a2) (b1, b2))
    have g31 := Dy.good_max (a := (a1, a2)) (b := (b1, b2)) ⟨wa1, wa2⟩ ⟨wb1, wb2⟩ (err := t6)
    rw [e31] at g31
    refine T.hbind (us := [.i t6, .f a1, .f a2, .f b1, .f b2]) (xs := [.f t28, .f t29, .i t30]) rfl (uC e31) rfl ?_
    refine T.hneed (us := [.f a1, .f a2]) rfl (hN.1) ?_
    refine T.hneed (us := [.f b1, .f b2]) rfl (hN.2) ?_
    obtain ⟨t32, t33, t34, e35⟩ := Dy.ex3 (Dy.cDiv t30 (0, t5) (t28, t29))
    have g35 := Dy.good_div (a := (0, t5)) (b := (t28, t29)) ⟨g31.1.1, g31.1.2⟩ (err := t30)
    rw [e35] at g35
    refine T.hbind (us := [.i t30, .f 0, .f t5, .f t28, .f t29]) (xs := [.f t32, .f t33, .i t34]) (ρ' := [.i e, .f a1, .f a2, .f b1, .f b2, .f c1x, .f c2x, .f t0, .f t1, .i t2, .f t4, .f t5, .i t6, .b t8, .b t14, .f t28, .f t29, .i t30, .f t32, .f t33, .i t34]) rfl (uC e35) rfl ?_
    obtain ⟨t36, e37⟩ : ∃ t36, (Dy.dmin t4 t32) = t36 := ⟨_, rfl⟩
    have W37 : Dy.W t36 := by rw [← e37]; exact Dy.dmin_W g7.1.1 g35.1.1
    have R37 : Dy.right t36 = true := by rw [← e37]; exact Dy.dmin_right (Dy.ivR_of g7.2).1 (Dy.ivR_of g35.2).1
    refine T.hbind (us := [.f t4, .f t32]) (xs := [.f t36]) rfl (uF e37) rfl ?_
    obtain ⟨t38, e39⟩ : ∃ t38, (Dy.dmax 0 t33) = t38 := ⟨_, rfl⟩
    have W39 : Dy.W t38 := by rw [← e39]; exact Dy.dmax_W (show Dy.W 0 from by unfold Dy.W; decide) g35.1.2
    have R39 : Dy.right t38 = true := by rw [← e39]; exact Dy.dmax_right (show Dy.right 0 = true from by decide +kernel) (Dy.ivR_of g35.2).2.1
    refine T.hbind (us := [.f 0, .f t33]) (xs := [.f t38]) rfl (uF e39) rfl ?_
    refine T.hneed (us := [.f t4, .f t32]) rfl (show (Dy.right t4 && Dy.right t32) = true from by rw [(Dy.ivR_of g7.2).1, (Dy.ivR_of g35.2).1]; rfl) ?_
    refine T.hneed (us := [.f 0, .f t33]) rfl (show (Dy.right 0 && Dy.right t33) = true from by rw [(show Dy.right 0 = true from by decide +kernel), (Dy.ivR_of g35.2).2.1]; rfl) ?_
    obtain ⟨t40, t41, e42⟩ := Dy.ex2 (Dy.clip (13830554455654793216) (4607182418800017408) (t36, t38))
    have k42 := clip_ends (a := (t36, t38)) (l := 13830554455654793216) (h := 4607182418800017408) ⟨W37, W39⟩ R37 R39 (show Dy.W 13830554455654793216 from by unfold Dy.W; decide) (show Dy.right 13830554455654793216 = true from by decide +kernel) (show Dy.W 4607182418800017408 from by unfold Dy.W; decide) (show Dy.right 4607182418800017408 = true from by decide +kernel)
    rw [e42] at k42
    refine T.hbind (us := [.f t36, .f t38, .f 13830554455654793216, .f 4607182418800017408]) (xs := [.f t40, .f t41]) rfl (uI e42) rfl ?_
    refine T.hneed (us := [.f t36, .f t38]) rfl (show (Dy.right t36 && Dy.right t38) = true from by rw [R37, R39]; rfl) ?_
    refine T.hneed (us := [.f 13830554455654793216, .f 4607182418800017408]) rfl (show (Dy.right 13830554455654793216 && Dy.right 4607182418800017408) = true from by rw [(show Dy.right 13830554455654793216 = true from by decide +kernel), (show Dy.right 4607182418800017408 = true from by decide +kernel)]; rfl) ?_
    refine T.hdone ?_
    have eM : slopeM (a1, a2) (b1, b2) (c1x, c2x) e = ((t40, t41), t34) := by
     unfold slopeM
     refine (Dy.cs_mul e3).trans ?_
     refine (Dy.cs_sub e7).trans ?_
     refine (Dy.cif_f (e9.trans c11)).trans ?_
     refine (Dy.cif_f (e15.trans c17)).trans ?_
     refine (Dy.cs_max e31).trans ?_
     refine (Dy.cs_div e35).trans ?_
     first | exact congrArg (fun r => (r, t34)) e42 | (refine (Dy.cm_p e42).trans ?_; rfl) | (rw [Dy.cm_pure]; simp only [Dy.iHull, e9, c11, e15, c17, e37, e39, e42])
    have e00 : slopeM (a1, a2) (b1, b2) (c1x, c2x) (e) = ((t40, t41), t34) := by simp only [eM, e9, c11, e15, c17, e37, e39] <;> simp_all
    exact ⟨⟨vC e00 0, vC e00 1, trivial⟩, ⟨⟨⟨rfl, vC e00 2⟩, trivial⟩, trivial⟩, rfl⟩
def oa8 : List (Nat × Ct) := (30, ctOSlope) :: oa7
theorem oa8_ok : AllOk Tryz.prog oa8 := ⟨ctOSlope_ok, oa7_ok⟩
theorem bne0 {x : Int} (h : (x != 0) = false) : x = 0 := by simpa using h
theorem oL1_R {a : Nat × Nat} {l h : Nat} (k : oL1 a l h = 0) : Dy.ivR a = true := by
 unfold oL1 at k
 by_cases c : Dy.ivR a = true
 ·exact c
 ·rw [if_neg c] at k; cases k
theorem oL3_R {a b c : Nat × Nat} {l h m n p q : Nat} (k : oL3 a b c l h m n p q = 0) : Dy.ivR a = true ∧ Dy.ivR b = true ∧ Dy.ivR c = true := by
 unfold oL3 at k
 by_cases x : (Dy.ivR a && Dy.ivR b && Dy.ivR c) = true
 ·simp only [Bool.and_eq_true] at x; exact ⟨x.1.1, x.1.2, x.2⟩
 ·rw [if_neg x] at k; cases k
theorem oL5_R {a b c d e : Nat × Nat} {l h m n p q r s t u : Nat} (k : oL5 a b c d e l h m n p q r s t u = 0) : Dy.ivR a = true ∧ Dy.ivR b = true ∧ Dy.ivR c = true ∧ Dy.ivR d = true ∧ Dy.ivR e = true := by
 unfold oL5 at k
 by_cases x : (Dy.ivR a && Dy.ivR b && Dy.ivR c && Dy.ivR d && Dy.ivR e) = true
 ·simp only [Bool.and_eq_true] at x; exact ⟨x.1.1.1.1, x.1.1.1.2, x.1.1.2, x.1.2, x.2⟩
 ·rw [if_neg x] at k; cases k
def oPair (a : Nat × Nat) : ((Nat × Nat) × (Nat × Nat)) × Int := if (oL1 a 0 4607182418800017408 != 0) = true then (((0, 0), (0, 0)), oL1 a 0 4607182418800017408) else told2 (pairM a 0)
def oSlope (a b c : Nat × Nat) : (Nat × Nat) × Int := if (oL3 a b c 0 4607182418800017408 0 4607182418800017408 13830554455654793216 4607182418800017408 != 0) = true then ((0, 0), oL3 a b c 0 4607182418800017408 0 4607182418800017408 13830554455654793216 4607182418800017408) else Dy.told (slopeM a b c 0)
def oVal (r s a b c : Nat × Nat) : (Nat × Nat) × Int := if (oL5 r s a b c 0 4607182418800017408 0 4607182418800017408 0 4607182418800017408 0 4607182418800017408 13830554455654793216 4607182418800017408 != 0) = true then ((0, 0), oL5 r s a b c 0 4607182418800017408 0 4607182418800017408 0 4607182418800017408 0 4607182418800017408 13830554455654793216 4607182418800017408) else Dy.told (orenM r s a b c 0)
attribute [local irreducible] pairM slopeM
def ctPair : Ct := ⟨2, [], [vp 0 1], { binds := [⟨fun us i => pairU ((oPair (gF us 0, gF us 1))) i, 5, upto 0 2⟩], needs := [], val := .tup [vp 2 3, vp 4 5, vi .i64 6], upd := [] }⟩
set_option maxRecDepth 100000 in
set_option maxHeartbeats 8000000 in
theorem ctPair_ok : CtOk Tryz.prog 6 ctPair := by
 refine CtOk.of_eval2 oa8_ok (dr_ok oa8_ok) Tryz.func6 rfl (by decide) [] 200 (by kernel_rfl) rfl (.bind ⟨fun us i => iRes ((oL1 (gF us 0, gF us 1) (gF us 2) (gF us 3))) i, 1, [(.v 0), (.v 1), (.l (.f 0)), (.l (.f 4607182418800017408))]⟩ (.bind ⟨fun us _ => jB (fun a b => a != b) us, 1, [(.v 2), (.l (.i 0))]⟩ (.ite (.v 3) (.done .ret ⟨[.tup [.agg [.fl (.l (.f 0)), .fl (.l (.f 0))], .agg [.fl (.l (.f 0)), .fl (.l (.f 0))], .it .i64 (.v 2)]], [], 4, []⟩) (.bind ⟨fun us i => pairU (pairM (gF us 1, gF us 2) (gI us 0)) i, 5, [(.l (.i 0)), (.v 0), (.v 1)]⟩ (.bind ⟨fun us _ => jB (fun a b => a != b) us, 1, [(.v 8), (.l (.i 0))]⟩ (.ite (.v 9) (.done .ret ⟨[.tup [.agg [.fl (.l (.f 0)), .fl (.l (.f 0))], .agg [.fl (.l (.f 0)), .fl (.l (.f 0))], .it .i64 (.v 8)]], [], 10, []⟩) (.done .ret ⟨[.tup [.agg [.fl (.v 4), .fl (.v 5)], .agg [.fl (.v 6), .fl (.v 7)], .it .i64 (.l (.i 0))]], [], 10, []⟩))))))) (by kernel_rfl) (by kernel_rfl) (by kernel_rfl) (fun us hl hF hB hN => ?_)
 match us, hl with
 | [u0, u1], _ =>
  simp [FactsB, FactsL, Facts, ctPair] at hF hB
  simp [NeedsAt, runB, evs, E.ev, upto, resl, List.range, List.range.loop, ctPair] at hN
  obtain ⟨⟨a1, rfl, wa1⟩, ⟨a2, rfl, wa2⟩⟩ := hF
  refine T.HH.h ?_
  obtain ⟨t0, e1⟩ : ∃ t0, (((oL1 (a1, a2) (0) (4607182418800017408)))) = t0 := ⟨_, rfl⟩
  refine T.hbind (us := [.f a1, .f a2, .f 0, .f 4607182418800017408]) (xs := [.i t0]) rfl (uJ e1) rfl ?_
  obtain ⟨t2, e3⟩ : ∃ t2, (t0 != 0) = t2 := ⟨_, rfl⟩
  refine T.hbind (us := [.i t0, .i 0]) (xs := [.b t2]) rfl (uB e3) rfl ?_
  refine T.hite (x := t2) ?_ ?_ ?_
  ·rfl
  ·intro c5
   refine T.hdone ?_
   have e00 : (oPair (a1, a2)) = (((0, 0), (0, 0)), t0) := by simp only [oPair, told2, e1, e3, c5] <;> simp_all
   exact ⟨⟨⟨(congrArg (fun r => some (pairU r 0)) e00.symm), (congrArg (fun r => some (pairU r 1)) e00.symm), trivial⟩, ⟨(congrArg (fun r => some (pairU r 2)) e00.symm), (congrArg (fun r => some (pairU r 3)) e00.symm), trivial⟩, ⟨rfl, (congrArg (fun r => some (pairU r 4)) e00.symm)⟩, trivial⟩, trivial, rfl⟩
  ·intro c5
   have rr := oL1_R (e1.trans (bne0 (e3.trans c5)))
   obtain ⟨t5, t6, t7, t8, t9, e10⟩ := Dy.ex5 (pairM (a1, a2) (0))
   refine T.hbind (us := [.i 0, .f a1, .f a2]) (xs := [.f t5, .f t6, .f t7, .f t8, .i t9]) rfl (congrArg (fun r => [pairU r 0, pairU r 1, pairU r 2, pairU r 3, pairU r 4]) e10) rfl ?_
   obtain ⟨t11, e12⟩ : ∃ t11, (t9 != 0) = t11 := ⟨_, rfl⟩
   refine T.hbind (us := [.i t9, .i 0]) (xs := [.b t11]) rfl (uB e12) rfl ?_
   refine T.hite (x := t11) ?_ ?_ ?_
   ·rfl
   ·intro c14
    refine T.hdone ?_
    have e00 : (oPair (a1, a2)) = (((0, 0), (0, 0)), t9) := by simp only [oPair, told2, e1, e3, c5, e10, e12, c14] <;> simp_all
    exact ⟨⟨⟨(congrArg (fun r => some (pairU r 0)) e00.symm), (congrArg (fun r => some (pairU r 1)) e00.symm), trivial⟩, ⟨(congrArg (fun r => some (pairU r 2)) e00.symm), (congrArg (fun r => some (pairU r 3)) e00.symm), trivial⟩, ⟨rfl, (congrArg (fun r => some (pairU r 4)) e00.symm)⟩, trivial⟩, trivial, rfl⟩
   ·intro c14
    refine T.hdone ?_
    have e00 : (oPair (a1, a2)) = (((t5, t6), (t7, t8)), 0) := by simp only [oPair, told2, e1, e3, c5, e10, e12, c14] <;> simp_all
    exact ⟨⟨⟨(congrArg (fun r => some (pairU r 0)) e00.symm), (congrArg (fun r => some (pairU r 1)) e00.symm), trivial⟩, ⟨(congrArg (fun r => some (pairU r 2)) e00.symm), (congrArg (fun r => some (pairU r 3)) e00.symm), trivial⟩, ⟨rfl, (congrArg (fun r => some (pairU r 4)) e00.symm)⟩, trivial⟩, trivial, rfl⟩
def oa9 : List (Nat × Ct) := (6, ctPair) :: oa8
theorem oa9_ok : AllOk Tryz.prog oa9 := ⟨ctPair_ok, oa8_ok⟩
def ctSlope : Ct := ⟨6, [], [vp 0 1, vp 2 3, vp 4 5], { binds := [⟨fun us i => calR ((oSlope (gF us 0, gF us 1) (gF us 2, gF us 3) (gF us 4, gF us 5))) i, 3, upto 0 6⟩], needs := [], val := .tup [vp 6 7, vi .i64 8], upd := [] }⟩
set_option maxRecDepth 100000 in
set_option maxHeartbeats 8000000 in
theorem ctSlope_ok : CtOk Tryz.prog 8 ctSlope := by
 refine CtOk.of_eval2 oa9_ok (dr_ok oa9_ok) Tryz.func8 rfl (by decide) [] 200 (by kernel_rfl) rfl (.bind ⟨fun us i => iRes ((oL3 (gF us 0, gF us 1) (gF us 4, gF us 5) (gF us 8, gF us 9) (gF us 2) (gF us 3) (gF us 6) (gF us 7) (gF us 10) (gF us 11))) i, 1, [(.v 0), (.v 1), (.l (.f 0)), (.l (.f 4607182418800017408)), (.v 2), (.v 3), (.l (.f 0)), (.l (.f 4607182418800017408)), (.v 4), (.v 5), (.l (.f 13830554455654793216)), (.l (.f 4607182418800017408))]⟩ (.bind ⟨fun us _ => jB (fun a b => a != b) us, 1, [(.v 6), (.l (.i 0))]⟩ (.ite (.v 7) (.done .ret ⟨[.tup [.agg [.fl (.l (.f 0)), .fl (.l (.f 0))], .it .i64 (.v 6)]], [], 8, []⟩) (.bind ⟨fun us i => calR (slopeM (gF us 1, gF us 2) (gF us 3, gF us 4) (gF us 5, gF us 6) (gI us 0)) i, 3, [(.l (.i 0)), (.v 0), (.v 1), (.v 2), (.v 3), (.v 4), (.v 5)]⟩ (.need ⟨nIv, [(.v 0), (.v 1)]⟩ (.need ⟨nIv, [(.v 2), (.v 3)]⟩ (.bind ⟨fun us _ => jB (fun a b => a != b) us, 1, [(.v 10), (.l (.i 0))]⟩ (.ite (.v 11) (.done .ret ⟨[.tup [.agg [.fl (.l (.f 0)), .fl (.l (.f 0))], .it .i64 (.v 10)]], [], 12, []⟩) (.done .ret ⟨[.tup [.agg [.fl (.v 8), .fl (.v 9)], .it .i64 (.l (.i 0))]], [], 12, []⟩))))))))) (by kernel_rfl) (by kernel_rfl) (by kernel_rfl) (fun us hl hF hB hN => ?_)
 match us, hl with
 | [u0, u1, u2, u3, u4, u5], _ =>
  simp [FactsB, FactsL, Facts, ctSlope] at hF hB
  simp [NeedsAt, runB, evs, E.ev, upto, resl, List.range, List.range.loop, ctSlope] at hN
  obtain ⟨⟨⟨a1, rfl, wa1⟩, ⟨a2, rfl, wa2⟩⟩, ⟨⟨b1, rfl, wb1⟩, ⟨b2, rfl, wb2⟩⟩, ⟨c1, rfl, wc1⟩, ⟨c2, rfl, wc2⟩⟩ := hF
  refine T.HH.h ?_
  obtain ⟨t0, e1⟩ : ∃ t0, (((oL3 (a1, a2) (b1, b2) (c1, c2) (0) (4607182418800017408) (0) (4607182418800017408) (13830554455654793216) (4607182418800017408)))) = t0 := ⟨_, rfl⟩
  refine T.hbind (us := [.f a1, .f a2, .f 0, .f 4607182418800017408, .f b1, .f b2, .f 0, .f 4607182418800017408, .f c1, .f c2, .f 13830554455654793216, .f 4607182418800017408]) (xs := [.i t0]) (ρ' := [.f a1, .f a2, .f b1, .f b2, .f c1, .f c2, .i t0]) rfl (uJ e1) rfl ?_
  obtain ⟨t2, e3⟩ : ∃ t2, (t0 != 0) = t2 := ⟨_, rfl⟩
  refine T.hbind (us := [.i t0, .i 0]) (xs := [.b t2]) rfl (uB e3) rfl ?_
  refine T.hite (x := t2) ?_ ?_ ?_
  ·rfl
  ·intro c5
   refine T.hdone ?_
   have e00 : (oSlope (a1, a2) (b1, b2) (c1, c2)) = ((0, 0), t0) := by simp only [oSlope, Dy.told, e1, e3, c5] <;> simp_all
   exact ⟨⟨⟨vC e00 0, vC e00 1, trivial⟩, ⟨rfl, vC e00 2⟩, trivial⟩, trivial, rfl⟩
  ·intro c5
   have rr := oL3_R (e1.trans (bne0 (e3.trans c5)))
   obtain ⟨t5, t6, t7, e8⟩ := Dy.ex3 (slopeM (a1, a2) (b1, b2) (c1, c2) (0))
   refine T.hbind (us := [.i 0, .f a1, .f a2, .f b1, .f b2, .f c1, .f c2]) (xs := [.f t5, .f t6, .i t7]) rfl (uC e8) rfl ?_
   refine T.hneed (us := [.f a1, .f a2]) rfl (rr.1) ?_
   refine T.hneed (us := [.f b1, .f b2]) rfl (rr.2.1) ?_
   obtain ⟨t9, e10⟩ : ∃ t9, (t7 != 0) = t9 := ⟨_, rfl⟩
   refine T.hbind (us := [.i t7, .i 0]) (xs := [.b t9]) rfl (uB e10) rfl ?_
   refine T.hite (x := t9) ?_ ?_ ?_
   ·rfl
   ·intro c12
    refine T.hdone ?_
    have e00 : (oSlope (a1, a2) (b1, b2) (c1, c2)) = ((0, 0), t7) := by simp only [oSlope, Dy.told, e1, e3, c5, e8, e10, c12] <;> simp_all
    exact ⟨⟨⟨vC e00 0, vC e00 1, trivial⟩, ⟨rfl, vC e00 2⟩, trivial⟩, trivial, rfl⟩
   ·intro c12
    refine T.hdone ?_
    have e00 : (oSlope (a1, a2) (b1, b2) (c1, c2)) = ((t5, t6), 0) := by simp only [oSlope, Dy.told, e1, e3, c5, e8, e10, c12] <;> simp_all
    exact ⟨⟨⟨vC e00 0, vC e00 1, trivial⟩, ⟨rfl, vC e00 2⟩, trivial⟩, trivial, rfl⟩
def oa10 : List (Nat × Ct) := (8, ctSlope) :: oa9
theorem oa10_ok : AllOk Tryz.prog oa10 := ⟨ctSlope_ok, oa9_ok⟩
def ctValue : Ct := ⟨10, [], [vp 0 1, vp 2 3, vp 4 5, vp 6 7, vp 8 9], { binds := [⟨fun us i => calR ((oVal (gF us 0, gF us 1) (gF us 2, gF us 3) (gF us 4, gF us 5) (gF us 6, gF us 7) (gF us 8, gF us 9))) i, 3, upto 0 10⟩], needs := [], val := .tup [vp 10 11, vi .i64 12], upd := [] }⟩
set_option maxRecDepth 100000 in
set_option maxHeartbeats 8000000 in
theorem ctValue_ok : CtOk Tryz.prog 34 ctValue := by
 refine CtOk.of_eval2 oa10_ok (dr_ok oa10_ok) Tryz.func34 rfl (by decide) [] 200 (by kernel_rfl) rfl (.bind ⟨fun us i => iRes ((oL5 (gF us 0, gF us 1) (gF us 4, gF us 5) (gF us 8, gF us 9) (gF us 12, gF us 13) (gF us 16, gF us 17) (gF us 2) (gF us 3) (gF us 6) (gF us 7) (gF us 10) (gF us 11) (gF us 14) (gF us 15) (gF us 18) (gF us 19))) i, 1, [(.v 0), (.v 1), (.l (.f 0)), (.l (.f 4607182418800017408)), (.v 2), (.v 3), (.l (.f 0)), (.l (.f 4607182418800017408)), (.v 4), (.v 5), (.l (.f 0)), (.l (.f 4607182418800017408)), (.v 6), (.v 7), (.l (.f 0)), (.l (.f 4607182418800017408)), (.v 8), (.v 9), (.l (.f 13830554455654793216)), (.l (.f 4607182418800017408))]⟩ (.bind ⟨fun us _ => jB (fun a b => a != b) us, 1, [(.v 10), (.l (.i 0))]⟩ (.ite (.v 11) (.done .ret ⟨[.tup [.agg [.fl (.l (.f 0)), .fl (.l (.f 0))], .it .i64 (.v 10)]], [], 12, []⟩) (.bind ⟨fun us i => calR (slopeM (gF us 1, gF us 2) (gF us 3, gF us 4) (gF us 5, gF us 6) (gI us 0)) i, 3, [(.l (.i 0)), (.v 4), (.v 5), (.v 6), (.v 7), (.v 8), (.v 9)]⟩ (.need ⟨nIv, [(.v 4), (.v 5)]⟩ (.need ⟨nIv, [(.v 6), (.v 7)]⟩ (.bind ⟨fun us i => pairU (pairM (gF us 1, gF us 2) (gI us 0)) i, 5, [(.v 14), (.v 2), (.v 3)]⟩ (.bind ⟨calF2 Dy.cMul, 3, [(.v 19), (.v 17), (.v 18), (.v 12), (.v 13)]⟩ (.bind ⟨calF2 Dy.cAdd, 3, [(.v 22), (.v 15), (.v 16), (.v 20), (.v 21)]⟩ (.bind ⟨calF2 Dy.cMul, 3, [(.v 25), (.v 0), (.v 1), (.v 23), (.v 24)]⟩ (.bind ⟨fun us i => ivU (Dy.clip (gF us 2) (gF us 3) (gF us 0, gF us 1)) i, 2, [(.v 26), (.v 27), (.l (.f 0)), (.l (.f 4607182418800017408))]⟩ (.need ⟨rN, [(.v 26), (.v 27)]⟩ (.need ⟨rN, [(.l (.f 0)), (.l (.f 4607182418800017408))]⟩ (.bind ⟨fun us _ => jB (fun a b => a != b) us, 1, [(.v 28), (.l (.i 0))]⟩ (.ite (.v 31) (.done .ret ⟨[.tup [.agg [.fl (.l (.f 0)), .fl (.l (.f 0))], .it .i64 (.v 28)]], [], 32, []⟩) (.done .ret ⟨[.tup [.agg [.fl (.v 29), .fl (.v 30)], .it .i64 (.l (.i 0))]], [], 32, []⟩)))))))))))))))) (by kernel_rfl) (by kernel_rfl) (by kernel_rfl) (fun us hl hF hB hN => ?_)
 match us, hl with
 | [u0, u1, u2, u3, u4, u5, u6, u7, u8, u9], _ =>
  simp [FactsB, FactsL, Facts, ctValue] at hF hB
  simp [NeedsAt, runB, evs, E.ev, upto, resl, List.range, List.range.loop, ctValue] at hN
  obtain ⟨⟨⟨r1, rfl, wr1⟩, ⟨r2, rfl, wr2⟩⟩, ⟨⟨s1, rfl, ws1⟩, ⟨s2, rfl, ws2⟩⟩, ⟨⟨a1, rfl, wa1⟩, ⟨a2, rfl, wa2⟩⟩, ⟨⟨b1, rfl, wb1⟩, ⟨b2, rfl, wb2⟩⟩, ⟨c1, rfl, wc1⟩, ⟨c2, rfl, wc2⟩⟩ := hF
  refine T.HH.h ?_
  obtain ⟨t0, e1⟩ : ∃ t0, (((oL5 (r1, r2) (s1, s2) (a1, a2) (b1, b2) (c1, c2) (0) (4607182418800017408) (0) (4607182418800017408) (0) (4607182418800017408) (0) (4607182418800017408) (13830554455654793216) (4607182418800017408)))) = t0 := ⟨_, rfl⟩
  refine T.hbind (us := [.f r1, .f r2, .f 0, .f 4607182418800017408, .f s1, .f s2, .f 0, .f 4607182418800017408, .f a1, .f a2, .f 0, .f 4607182418800017408, .f b1, .f b2, .f 0, .f 4607182418800017408, .f c1, .f c2, .f 13830554455654793216, .f 4607182418800017408]) (xs := [.i t0]) rfl (uJ e1) rfl ?_
  obtain ⟨t2, e3⟩ : ∃ t2, (t0 != 0) = t2 := ⟨_, rfl⟩
  refine T.hbind (us := [.i t0, .i 0]) (xs := [.b t2]) rfl (uB e3) rfl ?_
  refine T.hite (x := t2) ?_ ?_ ?_
  ·rfl
  ·intro c5
   refine T.hdone ?_
   have e00 : (oVal (r1, r2) (s1, s2) (a1, a2) (b1, b2) (c1, c2)) = ((0, 0), t0) := by simp only [oVal, Dy.told, e1, e3, c5] <;> simp_all
   exact ⟨⟨⟨vC e00 0, vC e00 1, trivial⟩, ⟨rfl, vC e00 2⟩, trivial⟩, trivial, rfl⟩
  ·intro c5
   have rr := oL5_R (e1.trans (bne0 (e3.trans c5)))
   obtain ⟨t5, t6, t7, e8⟩ := Dy.ex3 (slopeM (a1, a2) (b1, b2) (c1, c2) (0))
   refine T.hbind (us := [.i 0, .f a1, .f a2, .f b1, .f b2, .f c1, .f c2]) (xs := [.f t5, .f t6, .i t7]) rfl (uC e8) rfl ?_
   refine T.hneed (us := [.f a1, .f a2]) rfl (rr.2.2.1) ?_
   refine T.hneed (us := [.f b1, .f b2]) rfl (rr.2.2.2.1) ?_
   obtain ⟨t9, t10, t11, t12, t13, e14⟩ := Dy.ex5 (pairM (s1, s2) (t7))
   refine T.hbind (us := [.i t7, .f s1, .f s2]) (xs := [.f t9, .f t10, .f t11, .f t12, .i t13]) rfl (congrArg (fun r => [pairU r 0, pairU r 1, pairU r 2, pairU r 3, pairU r 4]) e14) rfl ?_
   obtain ⟨t15, t16, t17, e18⟩ := Dy.ex3 (Dy.cMul t13 (t11, t12) (t5, t6))
   refine T.hbind (us := [.i t13, .f t11, .f t12, .f t5, .f t6]) (xs := [.f t15, .f t16, .i t17]) (ρ' := [.f r1, .f r2, .f s1, .f s2, .f a1, .f a2, .f b1, .f b2, .f c1, .f c2, .i t0, .b t2, .f t5, .f t6, .i t7, .f t9, .f t10, .f t11, .f t12, .i t13, .f t15, .f t16, .i t17]) rfl (uC e18) rfl ?_
   obtain ⟨t19, t20, t21, e22⟩ := Dy.ex3 (Dy.cAdd t17 (t9, t10) (t15, t16))
   refine T.hbind (us := [.i t17, .f t9, .f t10, .f t15, .f t16]) (xs := [.f t19, .f t20, .i t21]) rfl (uC e22) rfl ?_
   obtain ⟨t23, t24, t25, e26⟩ := Dy.ex3 (Dy.cMul t21 (r1, r2) (t19, t20))
   have g26 := Dy.good_mul (a := (r1, r2)) (b := (t19, t20)) (err := t21)
   rw [e26] at g26
   refine T.hbind (us := [.i t21, .f r1, .f r2, .f t19, .f t20]) (xs := [.f t23, .f t24, .i t25]) rfl (uC e26) rfl ?_
   obtain ⟨t27, t28, e29⟩ := Dy.ex2 (Dy.clip (0) (4607182418800017408) (t23, t24))
   have k29 := clip_ends (a := (t23, t24)) (l := 0) (h := 4607182418800017408) ⟨g26.1.1, g26.1.2⟩ ((Dy.ivR_of g26.2).1) ((Dy.ivR_of g26.2).2.1) (show Dy.W 0 from by unfold Dy.W; decide) (show Dy.right 0 = true from by decide +kernel) (show Dy.W 4607182418800017408 from by unfold Dy.W; decide) (show Dy.right 4607182418800017408 = true from by decide +kernel)
   rw [e29] at k29
   refine T.hbind (us := [.f t23, .f t24, .f 0, .f 4607182418800017408]) (xs := [.f t27, .f t28]) rfl (uI e29) rfl ?_
   refine T.hneed (us := [.f t23, .f t24]) rfl (show (Dy.right t23 && Dy.right t24) = true from by rw [(Dy.ivR_of g26.2).1, (Dy.ivR_of g26.2).2.1]; rfl) ?_
   refine T.hneed (us := [.f 0, .f 4607182418800017408]) rfl (show (Dy.right 0 && Dy.right 4607182418800017408) = true from by rw [(show Dy.right 0 = true from by decide +kernel), (show Dy.right 4607182418800017408 = true from by decide +kernel)]; rfl) ?_
   obtain ⟨t30, e31⟩ : ∃ t30, (t25 != 0) = t30 := ⟨_, rfl⟩
   refine T.hbind (us := [.i t25, .i 0]) (xs := [.b t30]) rfl (uB e31) rfl ?_
   refine T.hite (x := t30) ?_ ?_ ?_
   ·rfl
   ·intro c33
    refine T.hdone ?_
    have eM : orenM (r1, r2) (s1, s2) (a1, a2) (b1, b2) (c1, c2) 0 = ((t27, t28), t25) := by
     unfold orenM
     refine (Dy.cm_s (x := slopeM (a1, a2) (b1, b2) (c1, c2)) e8).trans ?_
     refine (Dy.cm_s (x := pairM (s1, s2)) e14).trans ?_
     refine (Dy.cs_mul e18).trans ?_
     refine (Dy.cs_add e22).trans ?_
     refine (Dy.cs_mul e26).trans ?_
     first | exact congrArg (fun r => (r, t25)) e29 | (refine (Dy.cm_p e29).trans ?_; rfl) | (rw [Dy.cm_pure]; simp only [Dy.iHull, e1, e3, c5, e31, c33, e29])
    have e00 : (oVal (r1, r2) (s1, s2) (a1, a2) (b1, b2) (c1, c2)) = ((0, 0), t25) := by simp only [oVal, Dy.told, eM, e1, e3, c5, e31, c33] <;> simp_all
    exact ⟨⟨⟨vC e00 0, vC e00 1, trivial⟩, ⟨rfl, vC e00 2⟩, trivial⟩, trivial, rfl⟩
   ·intro c33
    refine T.hdone ?_
    have eM : orenM (r1, r2) (s1, s2) (a1, a2) (b1, b2) (c1, c2) 0 = ((t27, t28), t25) := by
     unfold orenM
     refine (Dy.cm_s (x := slopeM (a1, a2) (b1, b2) (c1, c2)) e8).trans ?_
     refine (Dy.cm_s (x := pairM (s1, s2)) e14).trans ?_
     refine (Dy.cs_mul e18).trans ?_
     refine (Dy.cs_add e22).trans ?_
     refine (Dy.cs_mul e26).trans ?_
     first | exact congrArg (fun r => (r, t25)) e29 | (refine (Dy.cm_p e29).trans ?_; rfl) | (rw [Dy.cm_pure]; simp only [Dy.iHull, e1, e3, c5, e31, c33, e29])
    have e00 : (oVal (r1, r2) (s1, s2) (a1, a2) (b1, b2) (c1, c2)) = ((t27, t28), 0) := by simp only [oVal, Dy.told, eM, e1, e3, c5, e31, c33] <;> simp_all
    exact ⟨⟨⟨vC e00 0, vC e00 1, trivial⟩, ⟨rfl, vC e00 2⟩, trivial⟩, trivial, rfl⟩
def oa11 : List (Nat × Ct) := (34, ctValue) :: oa10
theorem oa11_ok : AllOk Tryz.prog oa11 := ⟨ctValue_ok, oa10_ok⟩
end Go.Proofs.YtiphdhpacklboaaGreat
