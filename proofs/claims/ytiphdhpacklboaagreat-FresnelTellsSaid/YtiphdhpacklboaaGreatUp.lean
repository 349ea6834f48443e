/- A reckoning of programs by symbols: package fresnel. -/
import Derived.Test.YtiphdhpacklboaaGreatUo
import Derived.Test.YtiphdhpacklboaaGreatCb
namespace Go.Proofs.YtiphdhpacklboaaGreat
open Go Go.RowKit
set_option linter.unusedSimpArgs false
set_option linter.unusedVariables false
def up0 : List (Nat × Ct) := uo8
theorem up0_ok : AllOk Tryz.prog up0 := uo8_ok
def ctMax : Ct := ⟨5, [[vi .i64 0]], [.ptr 0 0, vp 1 2, vp 3 4], { binds := [⟨fun us i => calR (Dy.cMax (gI us 0) (gF us 1, gF us 2) (gF us 3, gF us 4)) i, 3, upto 0 5⟩], needs := [⟨nIv, [.v 1, .v 2]⟩, ⟨nIv, [.v 3, .v 4]⟩], val := vp 5 6, upd := [(0, [vi .i64 7])] }⟩
set_option maxRecDepth 100000 in
set_option maxHeartbeats 4000000 in
theorem ctMax_ok : CtOk Tryz.prog 50 ctMax := by
 refine CtOk.of_eval2 up0_ok (dr_ok up0_ok) Tryz.func50 rfl (by decide) [] 200 (by kernel_rfl) rfl (.bind ⟨fun us _ => gB Dy.dmax us, 1, [(.v 1), (.v 3)]⟩ (.need ⟨rN, [(.v 1), (.v 3)]⟩ (.bind ⟨fun us _ => gB Dy.dmax us, 1, [(.v 2), (.v 4)]⟩ (.need ⟨rN, [(.v 2), (.v 4)]⟩ (.bind ⟨fun us i => calR (Dy.cAsk (gI us 0) (Dy.ivR (gF us 3, gF us 4) && Dy.ivR (gF us 5, gF us 6)) ((gF us 1, gF us 2), 0)) i, 3, [(.v 0), (.v 5), (.v 6), (.v 1), (.v 2), (.v 3), (.v 4)]⟩ (.done .ret ⟨[.agg [.fl (.v 7), .fl (.v 8)]], [some ([.it .i64 (.v 9)])], 10, [0]⟩)))))) (by kernel_rfl) (by kernel_rfl) (by kernel_rfl) (fun us hl hF hB hN => ?_)
 match us, hl with
 | [u0, u1, u2, u3, u4], _ =>
  simp [FactsB, FactsL, Facts, ctMax] at hF hB
  simp [NeedsAt, runB, evs, E.ev, upto, resl, List.range, List.range.loop, ctMax] at hN
  obtain ⟨⟨⟨a1, rfl, w1⟩, ⟨a2, rfl, w2⟩⟩, ⟨b1, rfl, w3⟩, ⟨b2, rfl, w4⟩⟩ := hF
  obtain ⟨e, rfl⟩ := hB
  simp [nIv, gF, U.F] at hN
  have r1 := Dy.ivR_of hN.1
  have r2 := Dy.ivR_of hN.2
  simp at r1 r2
  refine T.HH.h ?_
  refine T.hbind (us := [.f a1, .f b1]) (xs := [.f (Dy.dmax a1 b1)]) rfl (rfl) rfl ?_
  refine T.hneed (us := [.f a1, .f b1]) rfl (show (Dy.right a1 && Dy.right b1) = true from by simp [r1, r2]) ?_
  refine T.hbind (us := [.f a2, .f b2]) (xs := [.f (Dy.dmax a2 b2)]) rfl (rfl) rfl ?_
  refine T.hneed (us := [.f a2, .f b2]) rfl (show (Dy.right a2 && Dy.right b2) = true from by simp [r1, r2]) ?_
  refine T.hbind (us := [.i e, .f (Dy.dmax a1 b1), .f (Dy.dmax a2 b2), .f a1, .f a2, .f b1, .f b2]) (xs := [.f ((Dy.cAsk (e) (Dy.ivR (a1, a2) && Dy.ivR (b1, b2)) (((Dy.dmax a1 b1), (Dy.dmax a2 b2)), 0)).1.1), .f ((Dy.cAsk (e) (Dy.ivR (a1, a2) && Dy.ivR (b1, b2)) (((Dy.dmax a1 b1), (Dy.dmax a2 b2)), 0)).1.2), .i ((Dy.cAsk (e) (Dy.ivR (a1, a2) && Dy.ivR (b1, b2)) (((Dy.dmax a1 b1), (Dy.dmax a2 b2)), 0)).2)]) rfl (rfl) rfl ?_
  refine T.hdone ?_
  have e0 : Dy.cMax (e) (a1, a2) (b1, b2) = Dy.cAsk e (Dy.ivR (a1, a2) && Dy.ivR (b1, b2)) ((Dy.dmax a1 b1, Dy.dmax a2 b2), 0) := rfl
  exact ⟨⟨(congrArg (fun r => some (calR r 0)) e0.symm), (congrArg (fun r => some (calR r 1)) e0.symm), trivial⟩, ⟨⟨⟨rfl, (congrArg (fun r => some (calR r 2)) e0.symm)⟩, trivial⟩, trivial⟩, rfl⟩
def up1 : List (Nat × Ct) := (50, ctMax) :: up0
theorem up1_ok : AllOk Tryz.prog up1 := ⟨ctMax_ok, up0_ok⟩
def ctRight2 : Ct := ⟨4, [[vf 0, vf 1, vf 2, vf 3]], [.slc 0 0 2 2], { binds := [⟨fun us i => bRes ((Dy.ivR (gF us 0, gF us 1) && Dy.ivR (gF us 2, gF us 3))) i, 1, upto 0 4⟩], needs := [], val := vb 4, upd := [] }⟩
set_option maxRecDepth 100000 in
set_option maxHeartbeats 8000000 in
theorem ctRight2_ok : CtOk Tryz.prog 37 ctRight2 := by
 refine CtOk.of_eval2 up1_ok (dr_ok up1_ok) Tryz.func37 rfl (by decide) [] 200 (by kernel_rfl) rfl (.bind ⟨fIv1 Dy.ivR, 1, [(.v 0), (.v 1)]⟩ (.bind ⟨fun us _ => nB us, 1, [(.v 4)]⟩ (.ite (.v 5) (.done .ret ⟨[.bo (.l (.b false))], [some ([.fl (.v 0), .fl (.v 1), .fl (.v 2), .fl (.v 3)])], 6, []⟩) (.bind ⟨fIv1 Dy.ivR, 1, [(.v 2), (.v 3)]⟩ (.bind ⟨fun us _ => nB us, 1, [(.v 6)]⟩ (.ite (.v 7) (.done .ret ⟨[.bo (.l (.b false))], [some ([.fl (.v 0), .fl (.v 1), .fl (.v 2), .fl (.v 3)])], 8, []⟩) (.done .ret ⟨[.bo (.l (.b true))], [some ([.fl (.v 0), .fl (.v 1), .fl (.v 2), .fl (.v 3)])], 8, []⟩))))))) (by kernel_rfl) (by kernel_rfl) (by kernel_rfl) (fun us hl hF hB hN => ?_)
 match us, hl with
 | [u0, u1, u2, u3], _ =>
  simp [FactsB, FactsL, Facts, ctRight2] at hF hB
  simp [NeedsAt, runB, evs, E.ev, upto, resl, List.range, List.range.loop, ctRight2] at hN
  obtain ⟨⟨a1, rfl, wa1⟩, ⟨a2, rfl, wa2⟩, ⟨b1, rfl, wb1⟩, ⟨b2, rfl, wb2⟩⟩ := hB
  refine T.HH.h ?_
  obtain ⟨t0, e1⟩ : ∃ t0, (Dy.ivR (a1, a2)) = t0 := ⟨_, rfl⟩
  refine T.hbind (us := [.f a1, .f a2]) (xs := [.b t0]) (ρ' := [.f a1, .f a2, .f b1, .f b2, .b t0]) rfl (congrArg (fun r => [U.b r]) e1) rfl ?_
  obtain ⟨t2, e3⟩ : ∃ t2, (!t0) = t2 := ⟨_, rfl⟩
  refine T.hbind (us := [.b t0]) (xs := [.b t2]) rfl (congrArg (fun r => [U.b r]) e3) rfl ?_
  refine T.hite (x := t2) ?_ ?_ ?_
  ·rfl
  ·intro c5
   refine T.hdone ?_
   have e00 : (Dy.ivR (a1, a2) && Dy.ivR (b1, b2)) = false := by simp only [e1, e3, c5] <;> simp_all
   exact ⟨(congrArg (fun r => some (bRes r 0)) e00.symm), trivial, rfl⟩
  ·intro c5
   obtain ⟨t5, e6⟩ : ∃ t5, (Dy.ivR (b1, b2)) = t5 := ⟨_, rfl⟩
   refine T.hbind (us := [.f b1, .f b2]) (xs := [.b t5]) rfl (congrArg (fun r => [U.b r]) e6) rfl ?_
   obtain ⟨t7, e8⟩ : ∃ t7, (!t5) = t7 := ⟨_, rfl⟩
   refine T.hbind (us := [.b t5]) (xs := [.b t7]) rfl (congrArg (fun r => [U.b r]) e8) rfl ?_
   refine T.hite (x := t7) ?_ ?_ ?_
   ·rfl
   ·intro c10
    refine T.hdone ?_
    have e00 : (Dy.ivR (a1, a2) && Dy.ivR (b1, b2)) = false := by simp only [e1, e3, c5, e6, e8, c10] <;> simp_all
    exact ⟨(congrArg (fun r => some (bRes r 0)) e00.symm), trivial, rfl⟩
   ·intro c10
    refine T.hdone ?_
    have e00 : (Dy.ivR (a1, a2) && Dy.ivR (b1, b2)) = true := by simp only [e1, e3, c5, e6, e8, c10] <;> simp_all
    exact ⟨(congrArg (fun r => some (bRes r 0)) e00.symm), trivial, rfl⟩
def up2 : List (Nat × Ct) := (37, ctRight2) :: up1
theorem up2_ok : AllOk Tryz.prog up2 := ⟨ctRight2_ok, up1_ok⟩
def ctRight3 : Ct := ⟨6, [[vf 0, vf 1, vf 2, vf 3, vf 4, vf 5]], [.slc 0 0 3 3], { binds := [⟨fun us i => bRes ((Dy.ivR (gF us 0, gF us 1) && (Dy.ivR (gF us 2, gF us 3) && Dy.ivR (gF us 4, gF us 5)))) i, 1, upto 0 6⟩], needs := [], val := vb 6, upd := [] }⟩
set_option maxRecDepth 100000 in
set_option maxHeartbeats 8000000 in
theorem ctRight3_ok : CtOk Tryz.prog 37 ctRight3 := by
 refine CtOk.of_eval2 up2_ok (dr_ok up2_ok) Tryz.func37 rfl (by decide) [] 200 (by kernel_rfl) rfl (.bind ⟨fIv1 Dy.ivR, 1, [(.v 0), (.v 1)]⟩ (.bind ⟨fun us _ => nB us, 1, [(.v 6)]⟩ (.ite (.v 7) (.done .ret ⟨[.bo (.l (.b false))], [some ([.fl (.v 0), .fl (.v 1), .fl (.v 2), .fl (.v 3), .fl (.v 4), .fl (.v 5)])], 8, []⟩) (.bind ⟨fIv1 Dy.ivR, 1, [(.v 2), (.v 3)]⟩ (.bind ⟨fun us _ => nB us, 1, [(.v 8)]⟩ (.ite (.v 9) (.done .ret ⟨[.bo (.l (.b false))], [some ([.fl (.v 0), .fl (.v 1), .fl (.v 2), .fl (.v 3), .fl (.v 4), .fl (.v 5)])], 10, []⟩) (.bind ⟨fIv1 Dy.ivR, 1, [(.v 4), (.v 5)]⟩ (.bind ⟨fun us _ => nB us, 1, [(.v 10)]⟩ (.ite (.v 11) (.done .ret ⟨[.bo (.l (.b false))], [some ([.fl (.v 0), .fl (.v 1), .fl (.v 2), .fl (.v 3), .fl (.v 4), .fl (.v 5)])], 12, []⟩) (.done .ret ⟨[.bo (.l (.b true))], [some ([.fl (.v 0), .fl (.v 1), .fl (.v 2), .fl (.v 3), .fl (.v 4), .fl (.v 5)])], 12, []⟩)))))))))) (by kernel_rfl) (by kernel_rfl) (by kernel_rfl) (fun us hl hF hB hN => ?_)
 match us, hl with
 | [u0, u1, u2, u3, u4, u5], _ =>
  simp [FactsB, FactsL, Facts, ctRight3] at hF hB
  simp [NeedsAt, runB, evs, E.ev, upto, resl, List.range, List.range.loop, ctRight3] at hN
  obtain ⟨⟨a1, rfl, wa1⟩, ⟨a2, rfl, wa2⟩, ⟨b1, rfl, wb1⟩, ⟨b2, rfl, wb2⟩, ⟨c1x, rfl, wc1x⟩, ⟨c2x, rfl, wc2x⟩⟩ := hB
  refine T.HH.h ?_
  obtain ⟨t0, e1⟩ : ∃ t0, (Dy.ivR (a1, a2)) = t0 := ⟨_, rfl⟩
  refine T.hbind (us := [.f a1, .f a2]) (xs := [.b t0]) (ρ' := [.f a1, .f a2, .f b1, .f b2, .f c1x, .f c2x, .b t0]) rfl (congrArg (fun r => [U.b r]) e1) rfl ?_
  obtain ⟨t2, e3⟩ : ∃ t2, (!t0) = t2 := ⟨_, rfl⟩
  refine T.hbind (us := [.b t0]) (xs := [.b t2]) rfl (congrArg (fun r => [U.b r]) e3) rfl ?_
  refine T.hite (x := t2) ?_ ?_ ?_
  ·rfl
  ·intro c5
   refine T.hdone ?_
   have e00 : (Dy.ivR (a1, a2) && (Dy.ivR (b1, b2) && Dy.ivR (c1x, c2x))) = false := by simp only [e1, e3, c5] <;> simp_all
   exact ⟨(congrArg (fun r => some (bRes r 0)) e00.symm), trivial, rfl⟩
  ·intro c5
   obtain ⟨t5, e6⟩ : ∃ t5, (Dy.ivR (b1, b2)) = t5 := ⟨_, rfl⟩
   refine T.hbind (us := [.f b1, .f b2]) (xs := [.b t5]) rfl (congrArg (fun r => [U.b r]) e6) rfl ?_
   obtain ⟨t7, e8⟩ : ∃ t7, (!t5) = t7 := ⟨_, rfl⟩
   refine T.hbind (us := [.b t5]) (xs := [.b t7]) rfl (congrArg (fun r => [U.b r]) e8) rfl ?_
   refine T.hite (x := t7) ?_ ?_ ?_
   ·rfl
   ·intro c10
    refine T.hdone ?_
    have e00 : (Dy.ivR (a1, a2) && (Dy.ivR (b1, b2) && Dy.ivR (c1x, c2x))) = false := by simp only [e1, e3, c5, e6, e8, c10] <;> simp_all
    exact ⟨(congrArg (fun r => some (bRes r 0)) e00.symm), trivial, rfl⟩
   ·intro c10
    obtain ⟨t10, e11⟩ : ∃ t10, (Dy.ivR (c1x, c2x)) = t10 := ⟨_, rfl⟩
    refine T.hbind (us := [.f c1x, .f c2x]) (xs := [.b t10]) (ρ' := [.f a1, .f a2, .f b1, .f b2, .f c1x, .f c2x, .b t0, .b t2, .b t5, .b t7, .b t10]) rfl (congrArg (fun r => [U.b r]) e11) rfl ?_
    obtain ⟨t12, e13⟩ : ∃ t12, (!t10) = t12 := ⟨_, rfl⟩
    refine T.hbind (us := [.b t10]) (xs := [.b t12]) rfl (congrArg (fun r => [U.b r]) e13) rfl ?_
    refine T.hite (x := t12) ?_ ?_ ?_
    ·rfl
    ·intro c15
     refine T.hdone ?_
     have e00 : (Dy.ivR (a1, a2) && (Dy.ivR (b1, b2) && Dy.ivR (c1x, c2x))) = false := by simp only [e1, e3, c5, e6, e8, c10, e11, e13, c15] <;> simp_all
     exact ⟨(congrArg (fun r => some (bRes r 0)) e00.symm), trivial, rfl⟩
    ·intro c15
     refine T.hdone ?_
     have e00 : (Dy.ivR (a1, a2) && (Dy.ivR (b1, b2) && Dy.ivR (c1x, c2x))) = true := by simp only [e1, e3, c5, e6, e8, c10, e11, e13, c15] <;> simp_all
     exact ⟨(congrArg (fun r => some (bRes r 0)) e00.symm), trivial, rfl⟩
def up3 : List (Nat × Ct) := (37, ctRight3) :: up2
theorem up3_ok : AllOk Tryz.prog up3 := ⟨ctRight3_ok, up2_ok⟩
def wiB (lo hi : Nat) (a : Nat × Nat) : Bool := !(Dy.flt a.1 lo || Dy.fgt a.2 hi)
def ctWith1 : Ct := ⟨4, [[vf 2, vf 3]], [vf 0, vf 1, .slc 0 0 1 1], { binds := [⟨fun us i => bRes (wiB (gF us 0) (gF us 1) (gF us 2, gF us 3)) i, 1, upto 0 4⟩], needs := [], val := vb 4, upd := [] }⟩
set_option maxRecDepth 100000 in
set_option maxHeartbeats 8000000 in
theorem ctWith1_ok : CtOk Tryz.prog 38 ctWith1 := by
 refine CtOk.of_eval2 up3_ok (dr_ok up3_ok) Tryz.func38 rfl (by decide) [] 200 (by kernel_rfl) rfl (.bind ⟨fun us _ => cB Dy.flt us, 1, [(.v 2), (.v 0)]⟩ (.ite (.v 4) (.done .ret ⟨[.bo (.l (.b false))], [some ([.fl (.v 2), .fl (.v 3)])], 5, []⟩) (.bind ⟨fun us _ => cB Dy.fgt us, 1, [(.v 3), (.v 1)]⟩ (.ite (.v 5) (.done .ret ⟨[.bo (.l (.b false))], [some ([.fl (.v 2), .fl (.v 3)])], 6, []⟩) (.done .ret ⟨[.bo (.l (.b true))], [some ([.fl (.v 2), .fl (.v 3)])], 6, []⟩))))) (by kernel_rfl) (by kernel_rfl) (by kernel_rfl) (fun us hl hF hB hN => ?_)
 match us, hl with
 | [u0, u1, u2, u3], _ =>
  simp [FactsB, FactsL, Facts, ctWith1] at hF hB
  simp [NeedsAt, runB, evs, E.ev, upto, resl, List.range, List.range.loop, ctWith1] at hN
  obtain ⟨⟨l, rfl, wl⟩, ⟨h, rfl, wh⟩⟩ := hF
  obtain ⟨⟨a1, rfl, wa1⟩, ⟨a2, rfl, wa2⟩⟩ := hB
  refine T.HH.h ?_
  obtain ⟨t0, e1⟩ : ∃ t0, (Dy.flt a1 l) = t0 := ⟨_, rfl⟩
  refine T.hbind (us := [.f a1, .f l]) (xs := [.b t0]) rfl (congrArg (fun r => [U.b r]) e1) rfl ?_
  refine T.hite (x := t0) ?_ ?_ ?_
  ·rfl
  ·intro c3
   refine T.hdone ?_
   have e00 : wiB (l) (h) (a1, a2) = false := by simp only [wiB, e1, c3] <;> simp_all
   exact ⟨(congrArg (fun r => some (bRes r 0)) e00.symm), trivial, rfl⟩
  ·intro c3
   obtain ⟨t3, e4⟩ : ∃ t3, (Dy.fgt a2 h) = t3 := ⟨_, rfl⟩
   refine T.hbind (us := [.f a2, .f h]) (xs := [.b t3]) rfl (congrArg (fun r => [U.b r]) e4) rfl ?_
   refine T.hite (x := t3) ?_ ?_ ?_
   ·rfl
   ·intro c6
    refine T.hdone ?_
    have e00 : wiB (l) (h) (a1, a2) = false := by simp only [wiB, e1, c3, e4, c6] <;> simp_all
    exact ⟨(congrArg (fun r => some (bRes r 0)) e00.symm), trivial, rfl⟩
   ·intro c6
    refine T.hdone ?_
    have e00 : wiB (l) (h) (a1, a2) = true := by simp only [wiB, e1, c3, e4, c6] <;> simp_all
    exact ⟨(congrArg (fun r => some (bRes r 0)) e00.symm), trivial, rfl⟩
def up4 : List (Nat × Ct) := (38, ctWith1) :: up3
theorem up4_ok : AllOk Tryz.prog up4 := ⟨ctWith1_ok, up3_ok⟩
def ctWith2 : Ct := ⟨6, [[vf 2, vf 3, vf 4, vf 5]], [vf 0, vf 1, .slc 0 0 2 2], { binds := [⟨fun us i => bRes ((wiB (gF us 0) (gF us 1) (gF us 2, gF us 3) && wiB (gF us 0) (gF us 1) (gF us 4, gF us 5))) i, 1, upto 0 6⟩], needs := [], val := vb 6, upd := [] }⟩
set_option maxRecDepth 100000 in
set_option maxHeartbeats 8000000 in
theorem ctWith2_ok : CtOk Tryz.prog 38 ctWith2 := by
 refine CtOk.of_eval2 up4_ok (dr_ok up4_ok) Tryz.func38 rfl (by decide) [] 200 (by kernel_rfl) rfl (.bind ⟨fun us _ => cB Dy.flt us, 1, [(.v 2), (.v 0)]⟩ (.ite (.v 6) (.done .ret ⟨[.bo (.l (.b false))], [some ([.fl (.v 2), .fl (.v 3), .fl (.v 4), .fl (.v 5)])], 7, []⟩) (.bind ⟨fun us _ => cB Dy.fgt us, 1, [(.v 3), (.v 1)]⟩ (.ite (.v 7) (.done .ret ⟨[.bo (.l (.b false))], [some ([.fl (.v 2), .fl (.v 3), .fl (.v 4), .fl (.v 5)])], 8, []⟩) (.bind ⟨fun us _ => cB Dy.flt us, 1, [(.v 4), (.v 0)]⟩ (.ite (.v 8) (.done .ret ⟨[.bo (.l (.b false))], [some ([.fl (.v 2), .fl (.v 3), .fl (.v 4), .fl (.v 5)])], 9, []⟩) (.bind ⟨fun us _ => cB Dy.fgt us, 1, [(.v 5), (.v 1)]⟩ (.ite (.v 9) (.done .ret ⟨[.bo (.l (.b false))], [some ([.fl (.v 2), .fl (.v 3), .fl (.v 4), .fl (.v 5)])], 10, []⟩) (.done .ret ⟨[.bo (.l (.b true))], [some ([.fl (.v 2), .fl (.v 3), .fl (.v 4), .fl (.v 5)])], 10, []⟩))))))))) (by kernel_rfl) (by kernel_rfl) (by kernel_rfl) (fun us hl hF hB hN => ?_)
 match us, hl with
 | [u0, u1, u2, u3, u4, u5], _ =>
  simp [FactsB, FactsL, Facts, ctWith2] at hF hB
  simp [NeedsAt, runB, evs, E.ev, upto, resl, List.range, List.range.loop, ctWith2] at hN
  obtain ⟨⟨l, rfl, wl⟩, ⟨h, rfl, wh⟩⟩ := hF
  obtain ⟨⟨a1, rfl, wa1⟩, ⟨a2, rfl, wa2⟩, ⟨b1, rfl, wb1⟩, ⟨b2, rfl, wb2⟩⟩ := hB
  refine T.HH.h ?_
  obtain ⟨t0, e1⟩ : ∃ t0, (Dy.flt a1 l) = t0 := ⟨_, rfl⟩
  refine T.hbind (us := [.f a1, .f l]) (xs := [.b t0]) (ρ' := [.f l, .f h, .f a1, .f a2, .f b1, .f b2, .b t0]) rfl (congrArg (fun r => [U.b r]) e1) rfl ?_
  refine T.hite (x := t0) ?_ ?_ ?_
  ·rfl
  ·intro c3
   refine T.hdone ?_
   have e00 : (wiB (l) (h) (a1, a2) && wiB (l) (h) (b1, b2)) = false := by simp only [wiB, e1, c3] <;> simp_all
   exact ⟨(congrArg (fun r => some (bRes r 0)) e00.symm), trivial, rfl⟩
  ·intro c3
   obtain ⟨t3, e4⟩ : ∃ t3, (Dy.fgt a2 h) = t3 := ⟨_, rfl⟩
   refine T.hbind (us := [.f a2, .f h]) (xs := [.b t3]) rfl (congrArg (fun r => [U.b r]) e4) rfl ?_
   refine T.hite (x := t3) ?_ ?_ ?_
   ·rfl
   ·intro c6
    refine T.hdone ?_
    have e00 : (wiB (l) (h) (a1, a2) && wiB (l) (h) (b1, b2)) = false := by simp only [wiB, e1, c3, e4, c6] <;> simp_all
    exact ⟨(congrArg (fun r => some (bRes r 0)) e00.symm), trivial, rfl⟩
   ·intro c6
    obtain ⟨t6, e7⟩ : ∃ t6, (Dy.flt b1 l) = t6 := ⟨_, rfl⟩
    refine T.hbind (us := [.f b1, .f l]) (xs := [.b t6]) rfl (congrArg (fun r => [U.b r]) e7) rfl ?_
    refine T.hite (x := t6) ?_ ?_ ?_
    ·rfl
    ·intro c9
     refine T.hdone ?_
     have e00 : (wiB (l) (h) (a1, a2) && wiB (l) (h) (b1, b2)) = false := by simp only [wiB, e1, c3, e4, c6, e7, c9] <;> simp_all
     exact ⟨(congrArg (fun r => some (bRes r 0)) e00.symm), trivial, rfl⟩
    ·intro c9
     obtain ⟨t9, e10⟩ : ∃ t9, (Dy.fgt b2 h) = t9 := ⟨_, rfl⟩
     refine T.hbind (us := [.f b2, .f h]) (xs := [.b t9]) rfl (congrArg (fun r => [U.b r]) e10) rfl ?_
     refine T.hite (x := t9) ?_ ?_ ?_
     ·rfl
     ·intro c12
      refine T.hdone ?_
      have e00 : (wiB (l) (h) (a1, a2) && wiB (l) (h) (b1, b2)) = false := by simp only [wiB, e1, c3, e4, c6, e7, c9, e10, c12] <;> simp_all
      exact ⟨(congrArg (fun r => some (bRes r 0)) e00.symm), trivial, rfl⟩
     ·intro c12
      refine T.hdone ?_
      have e00 : (wiB (l) (h) (a1, a2) && wiB (l) (h) (b1, b2)) = true := by simp only [wiB, e1, c3, e4, c6, e7, c9, e10, c12] <;> simp_all
      exact ⟨(congrArg (fun r => some (bRes r 0)) e00.symm), trivial, rfl⟩
def up5 : List (Nat × Ct) := (38, ctWith2) :: up4
theorem up5_ok : AllOk Tryz.prog up5 := ⟨ctWith2_ok, up4_ok⟩
def ctKept : Ct := ⟨2, [], [vp 0 1], { binds := [⟨fun us i => ivU (Dy.clip 0 4607182418800017408 (gF us 0, gF us 1)) i, 2, upto 0 2⟩], needs := [⟨nIv, [.v 0, .v 1]⟩], val := vp 2 3, upd := [] }⟩
set_option maxRecDepth 100000 in
set_option maxHeartbeats 8000000 in
theorem ctKept_ok : CtOk Tryz.prog 47 ctKept := by
 refine CtOk.of_eval2 up5_ok (dr_ok up5_ok) Tryz.func47 rfl (by decide) [] 200 (by kernel_rfl) rfl (.bind ⟨fun us _ => gB Dy.dmax us, 1, [(.v 0), (.l (.f 0))]⟩ (.need ⟨rN, [(.v 0), (.l (.f 0))]⟩ (.bind ⟨fun us _ => gB Dy.dmin us, 1, [(.v 2), (.l (.f 4607182418800017408))]⟩ (.need ⟨rN, [(.v 2), (.l (.f 4607182418800017408))]⟩ (.bind ⟨fun us _ => gB Dy.dmax us, 1, [(.v 1), (.l (.f 0))]⟩ (.need ⟨rN, [(.v 1), (.l (.f 0))]⟩ (.bind ⟨fun us _ => gB Dy.dmin us, 1, [(.v 4), (.l (.f 4607182418800017408))]⟩ (.need ⟨rN, [(.v 4), (.l (.f 4607182418800017408))]⟩ (.done .ret ⟨[.agg [.fl (.v 3), .fl (.v 5)]], [], 6, []⟩))))))))) (by kernel_rfl) (by kernel_rfl) (by kernel_rfl) (fun us hl hF hB hN => ?_)
 match us, hl with
 | [u0, u1], _ =>
  simp [FactsB, FactsL, Facts, ctKept] at hF hB
  simp [NeedsAt, runB, evs, E.ev, upto, resl, List.range, List.range.loop, ctKept] at hN
  obtain ⟨⟨a1, rfl, wa1⟩, ⟨a2, rfl, wa2⟩⟩ := hF
  simp [nIv, gF, U.F] at hN
  have r1 := Dy.ivR_of hN
  simp at r1
  refine T.HH.h ?_
  obtain ⟨t0, e1⟩ : ∃ t0, (Dy.dmax a1 0) = t0 := ⟨_, rfl⟩
  have R1 : Dy.right t0 = true := by rw [← e1]; exact Dy.dmax_right r1.1 (show Dy.right 0 = true from by decide +kernel)
  refine T.hbind (us := [.f a1, .f 0]) (xs := [.f t0]) (ρ' := [.f a1, .f a2, .f t0]) rfl (congrArg (fun r => [U.f r]) e1) rfl ?_
  refine T.hneed (us := [.f a1, .f 0]) rfl (show (Dy.right a1 && Dy.right 0) = true from by rw [r1.1, (show Dy.right 0 = true from by decide +kernel)]; rfl) ?_
  obtain ⟨t2, e3⟩ : ∃ t2, (Dy.dmin t0 4607182418800017408) = t2 := ⟨_, rfl⟩
  refine T.hbind (us := [.f t0, .f 4607182418800017408]) (xs := [.f t2]) rfl (congrArg (fun r => [U.f r]) e3) rfl ?_
  refine T.hneed (us := [.f t0, .f 4607182418800017408]) rfl (show (Dy.right t0 && Dy.right 4607182418800017408) = true from by rw [R1, (show Dy.right 4607182418800017408 = true from by decide +kernel)]; rfl) ?_
  obtain ⟨t4, e5⟩ : ∃ t4, (Dy.dmax a2 0) = t4 := ⟨_, rfl⟩
  have R5 : Dy.right t4 = true := by rw [← e5]; exact Dy.dmax_right r1.2.1 (show Dy.right 0 = true from by decide +kernel)
  refine T.hbind (us := [.f a2, .f 0]) (xs := [.f t4]) rfl (congrArg (fun r => [U.f r]) e5) rfl ?_
  refine T.hneed (us := [.f a2, .f 0]) rfl (show (Dy.right a2 && Dy.right 0) = true from by rw [r1.2.1, (show Dy.right 0 = true from by decide +kernel)]; rfl) ?_
  obtain ⟨t6, e7⟩ : ∃ t6, (Dy.dmin t4 4607182418800017408) = t6 := ⟨_, rfl⟩
  refine T.hbind (us := [.f t4, .f 4607182418800017408]) (xs := [.f t6]) rfl (congrArg (fun r => [U.f r]) e7) rfl ?_
  refine T.hneed (us := [.f t4, .f 4607182418800017408]) rfl (show (Dy.right t4 && Dy.right 4607182418800017408) = true from by rw [R5, (show Dy.right 4607182418800017408 = true from by decide +kernel)]; rfl) ?_
  refine T.hdone ?_
  have e00 : Dy.clip 0 4607182418800017408 (a1, a2) = (t2, t6) := by simp only [Dy.clip, e1, e3, e5, e7] <;> simp_all
  exact ⟨⟨(congrArg (fun r => some (ivU r 0)) e00.symm), (congrArg (fun r => some (ivU r 1)) e00.symm), trivial⟩, trivial, rfl⟩
def up6 : List (Nat × Ct) := (47, ctKept) :: up5
theorem up6_ok : AllOk Tryz.prog up6 := ⟨ctKept_ok, up5_ok⟩
def ctTold : Ct := ⟨3, [[vi .i64 0]], [.ptr 0 0, vp 1 2], { binds := [⟨fun us i => calR (Dy.told ((gF us 1, gF us 2), gI us 0)) i, 3, upto 0 3⟩], needs := [], val := .tup [vp 3 4, vi .i64 5], upd := [] }⟩
set_option maxRecDepth 100000 in
set_option maxHeartbeats 8000000 in
theorem ctTold_ok : CtOk Tryz.prog 46 ctTold := by
 refine CtOk.of_eval2 up6_ok (dr_ok up6_ok) Tryz.func46 rfl (by decide) [] 200 (by kernel_rfl) rfl (.bind ⟨fun us _ => jB (fun a b => a != b) us, 1, [(.v 0), (.l (.i 0))]⟩ (.ite (.v 3) (.done .ret ⟨[.tup [.agg [.fl (.l (.f 0)), .fl (.l (.f 0))], .it .i64 (.v 0)]], [some ([.it .i64 (.v 0)])], 4, []⟩) (.done .ret ⟨[.tup [.agg [.fl (.v 1), .fl (.v 2)], .it .i64 (.l (.i 0))]], [some ([.it .i64 (.v 0)])], 4, []⟩))) (by kernel_rfl) (by kernel_rfl) (by kernel_rfl) (fun us hl hF hB hN => ?_)
 match us, hl with
 | [u0, u1, u2], _ =>
  simp [FactsB, FactsL, Facts, ctTold] at hF hB
  simp [NeedsAt, runB, evs, E.ev, upto, resl, List.range, List.range.loop, ctTold] at hN
  obtain ⟨⟨a1, rfl, wa1⟩, ⟨a2, rfl, wa2⟩⟩ := hF
  obtain ⟨e, rfl⟩ := hB
  refine T.HH.h ?_
  obtain ⟨t0, e1⟩ : ∃ t0, (e != 0) = t0 := ⟨_, rfl⟩
  refine T.hbind (us := [.i e, .i 0]) (xs := [.b t0]) (ρ' := [.i e, .f a1, .f a2, .b t0]) rfl (congrArg (fun r => [U.b r]) e1) rfl ?_
  refine T.hite (x := t0) ?_ ?_ ?_
  ·rfl
  ·intro c3
   refine T.hdone ?_
   have e00 : Dy.told ((a1, a2), e) = ((0, 0), e) := by simp only [Dy.told, e1, c3] <;> simp_all
   exact ⟨⟨⟨(congrArg (fun r => some (calR r 0)) e00.symm), (congrArg (fun r => some (calR r 1)) e00.symm), trivial⟩, ⟨rfl, (congrArg (fun r => some (calR r 2)) e00.symm)⟩, trivial⟩, trivial, rfl⟩
  ·intro c3
   refine T.hdone ?_
   have e00 : Dy.told ((a1, a2), e) = ((a1, a2), 0) := by simp only [Dy.told, e1, c3] <;> simp_all
   exact ⟨⟨⟨(congrArg (fun r => some (calR r 0)) e00.symm), (congrArg (fun r => some (calR r 1)) e00.symm), trivial⟩, ⟨rfl, (congrArg (fun r => some (calR r 2)) e00.symm)⟩, trivial⟩, trivial, rfl⟩
def up7 : List (Nat × Ct) := (46, ctTold) :: up6
theorem up7_ok : AllOk Tryz.prog up7 := ⟨ctTold_ok, up6_ok⟩
theorem clip_good {a : Nat × Nat} {x y : Int} {l h : Nat} (ox : Dy.ok x) (oy : Dy.ok y) (hl : l = Dy.enc x) (hh : h = Dy.enc y) (w : Dy.WW a) (r : Dy.ivR a = true) : Dy.WW (Dy.clip l h a) ∧ Dy.ivR (Dy.clip l h a) = true := by
 subst hl hh
 obtain ⟨p, hp, rfl⟩ := Dy.rk_of w r
 obtain ⟨e, k⟩ := Dy.clip_E hp ox oy
 rw [e]; exact ⟨k.E_W, k.E_R⟩
theorem clip01_good {a : Nat × Nat} (w : Dy.WW a) (r : Dy.ivR a = true) : Dy.WW (Dy.clip 0 4607182418800017408 a) ∧ Dy.ivR (Dy.clip 0 4607182418800017408 a) = true := clip_good (x := 0) (y := (4607182418800017408 : Int)) Dy.ok_zero (Dy.ok_B (by decide) (by decide)) rfl (by decide) w r
def dielG (cos n : Nat × Nat) : (Nat × Nat) × Int := if (Dy.ivR cos && Dy.ivR n) = true then (if wiB 0 4607182418800017408 cos = true then (if wiB 4607463893776728064 4616189618054758400 n = true then Dy.told (dielM cos n 0) else ((0, 0), 2)) else ((0, 0), 2)) else ((0, 0), 20)
def ctDiel : Ct := ⟨4, [], [vp 0 1, vp 2 3], { binds := [⟨fun us i => calR (dielG (gF us 0, gF us 1) (gF us 2, gF us 3)) i, 3, upto 0 4⟩], needs := [], val := .tup [vp 4 5, vi .i64 6], upd := [] }⟩
set_option maxRecDepth 100000 in
set_option maxHeartbeats 8000000 in
theorem ctDiel_ok : CtOk Tryz.prog 14 ctDiel := by
 refine CtOk.of_eval2 up7_ok (dr_ok up7_ok) Tryz.func14 rfl (by decide) [] 200 (by kernel_rfl) rfl (.bind ⟨fun us i => bRes ((Dy.ivR (gF us 0, gF us 1) && Dy.ivR (gF us 2, gF us 3))) i, 1, [(.v 0), (.v 1), (.v 2), (.v 3)]⟩ (.bind ⟨fun us _ => nB us, 1, [(.v 4)]⟩ (.ite (.v 5) (.done .ret ⟨[.tup [.agg [.fl (.l (.f 0)), .fl (.l (.f 0))], .it .i64 (.l (.i 20))]], [], 6, []⟩) (.bind ⟨fun us i => bRes (wiB (gF us 0) (gF us 1) (gF us 2, gF us 3)) i, 1, [(.l (.f 0)), (.l (.f 4607182418800017408)), (.v 0), (.v 1)]⟩ (.bind ⟨fun us _ => nB us, 1, [(.v 6)]⟩ (.ite (.v 7) (.done .ret ⟨[.tup [.agg [.fl (.l (.f 0)), .fl (.l (.f 0))], .it .i64 (.l (.i 2))]], [], 8, []⟩) (.bind ⟨fun us i => bRes (wiB (gF us 0) (gF us 1) (gF us 2, gF us 3)) i, 1, [(.l (.f 4607463893776728064)), (.l (.f 4616189618054758400)), (.v 2), (.v 3)]⟩ (.bind ⟨fun us _ => nB us, 1, [(.v 8)]⟩ (.ite (.v 9) (.done .ret ⟨[.tup [.agg [.fl (.l (.f 0)), .fl (.l (.f 0))], .it .i64 (.l (.i 2))]], [], 10, []⟩) (.bind ⟨calF0 Dy.cNum, 3, [(.l (.i 0)), (.l (.f 4607182418800017408))]⟩ (.bind ⟨calF1 Dy.cSqr, 3, [(.v 12), (.v 2), (.v 3)]⟩ (.bind ⟨calF2 Dy.cSub, 3, [(.v 15), (.v 13), (.v 14), (.v 10), (.v 11)]⟩ (.bind ⟨calF1 Dy.cSqr, 3, [(.v 18), (.v 0), (.v 1)]⟩ (.bind ⟨calF2 Dy.cAdd, 3, [(.v 21), (.v 16), (.v 17), (.v 19), (.v 20)]⟩ (.bind ⟨calF1 Dy.cSqrt, 3, [(.v 24), (.v 22), (.v 23)]⟩ (.bind ⟨calF2 Dy.cSub, 3, [(.v 27), (.v 25), (.v 26), (.v 0), (.v 1)]⟩ (.bind ⟨calF2 Dy.cAdd, 3, [(.v 30), (.v 25), (.v 26), (.v 0), (.v 1)]⟩ (.bind ⟨calF2 Dy.cDiv, 3, [(.v 33), (.v 28), (.v 29), (.v 31), (.v 32)]⟩ (.bind ⟨calF1 Dy.cSqr, 3, [(.v 36), (.v 34), (.v 35)]⟩ (.bind ⟨calF2 Dy.cAdd, 3, [(.v 39), (.v 25), (.v 26), (.v 0), (.v 1)]⟩ (.bind ⟨calF2 Dy.cMul, 3, [(.v 42), (.v 0), (.v 1), (.v 40), (.v 41)]⟩ (.bind ⟨calF2 Dy.cSub, 3, [(.v 45), (.v 43), (.v 44), (.v 10), (.v 11)]⟩ (.bind ⟨calF2 Dy.cSub, 3, [(.v 48), (.v 25), (.v 26), (.v 0), (.v 1)]⟩ (.bind ⟨calF2 Dy.cMul, 3, [(.v 51), (.v 0), (.v 1), (.v 49), (.v 50)]⟩ (.bind ⟨calF2 Dy.cAdd, 3, [(.v 54), (.v 52), (.v 53), (.v 10), (.v 11)]⟩ (.bind ⟨calF2 Dy.cDiv, 3, [(.v 57), (.v 46), (.v 47), (.v 55), (.v 56)]⟩ (.bind ⟨calF1 Dy.cSqr, 3, [(.v 60), (.v 58), (.v 59)]⟩ (.bind ⟨calF0 Dy.cNum, 3, [(.v 63), (.l (.f 4602678819172646912))]⟩ (.bind ⟨calF2 Dy.cMul, 3, [(.v 66), (.v 64), (.v 65), (.v 37), (.v 38)]⟩ (.bind ⟨calF2 Dy.cAdd, 3, [(.v 69), (.v 10), (.v 11), (.v 61), (.v 62)]⟩ (.bind ⟨calF2 Dy.cMul, 3, [(.v 72), (.v 67), (.v 68), (.v 70), (.v 71)]⟩ (.bind ⟨fun us i => ivU (Dy.clip 0 4607182418800017408 (gF us 0, gF us 1)) i, 2, [(.v 73), (.v 74)]⟩ (.need ⟨nIv, [(.v 73), (.v 74)]⟩ (.bind ⟨fun us i => calR (Dy.told ((gF us 1, gF us 2), gI us 0)) i, 3, [(.v 75), (.v 76), (.v 77)]⟩ (.done .ret ⟨[.tup [.agg [.fl (.v 78), .fl (.v 79)], .it .i64 (.v 80)]], [], 81, []⟩))))))))))))))))))))))))))))))))))) (by kernel_rfl) (by kernel_rfl) (by kernel_rfl) (fun us hl hF hB hN => ?_)
 match us, hl with
 | [u0, u1, u2, u3], _ =>
  simp [FactsB, FactsL, Facts, ctDiel] at hF hB
  simp [NeedsAt, runB, evs, E.ev, upto, resl, List.range, List.range.loop, ctDiel] at hN
  obtain ⟨⟨⟨a1, rfl, wa1⟩, ⟨a2, rfl, wa2⟩⟩, ⟨b1, rfl, wb1⟩, ⟨b2, rfl, wb2⟩⟩ := hF
  refine T.HH.h ?_
  obtain ⟨t0, e1⟩ : ∃ t0, (((Dy.ivR (a1, a2) && Dy.ivR (b1, b2)))) = t0 := ⟨_, rfl⟩
  refine T.hbind (us := [.f a1, .f a2, .f b1, .f b2]) (xs := [.b t0]) rfl (congrArg (fun r => [U.b r]) e1) rfl ?_
  obtain ⟨t2, e3⟩ : ∃ t2, (!t0) = t2 := ⟨_, rfl⟩
  refine T.hbind (us := [.b t0]) (xs := [.b t2]) rfl (congrArg (fun r => [U.b r]) e3) rfl ?_
  refine T.hite (x := t2) ?_ ?_ ?_
  ·rfl
  ·intro c5
   refine T.hdone ?_
   have e00 : dielG (a1, a2) (b1, b2) = ((0, 0), 20) := by simp only [dielG, e1, e3, c5] <;> simp_all
   exact ⟨⟨⟨(congrArg (fun r => some (calR r 0)) e00.symm), (congrArg (fun r => some (calR r 1)) e00.symm), trivial⟩, ⟨rfl, (congrArg (fun r => some (calR r 2)) e00.symm)⟩, trivial⟩, trivial, rfl⟩
  ·intro c5
   obtain ⟨t5, e6⟩ : ∃ t5, ((wiB (0) (4607182418800017408) (a1, a2))) = t5 := ⟨_, rfl⟩
   refine T.hbind (us := [.f 0, .f 4607182418800017408, .f a1, .f a2]) (xs := [.b t5]) rfl (congrArg (fun r => [U.b r]) e6) rfl ?_
   obtain ⟨t7, e8⟩ : ∃ t7, (!t5) = t7 := ⟨_, rfl⟩
   refine T.hbind (us := [.b t5]) (xs := [.b t7]) (ρ' := [.f a1, .f a2, .f b1, .f b2, .b t0, .b t2, .b t5, .b t7]) rfl (congrArg (fun r => [U.b r]) e8) rfl ?_
   refine T.hite (x := t7) ?_ ?_ ?_
   ·rfl
   ·intro c10
    refine T.hdone ?_
    have e00 : dielG (a1, a2) (b1, b2) = ((0, 0), 2) := by simp only [dielG, e1, e3, c5, e6, e8, c10] <;> simp_all
    exact ⟨⟨⟨(congrArg (fun r => some (calR r 0)) e00.symm), (congrArg (fun r => some (calR r 1)) e00.symm), trivial⟩, ⟨rfl, (congrArg (fun r => some (calR r 2)) e00.symm)⟩, trivial⟩, trivial, rfl⟩
   ·intro c10
    obtain ⟨t10, e11⟩ : ∃ t10, ((wiB (4607463893776728064) (4616189618054758400) (b1, b2))) = t10 := ⟨_, rfl⟩
    refine T.hbind (us := [.f 4607463893776728064, .f 4616189618054758400, .f b1, .f b2]) (xs := [.b t10]) rfl (congrArg (fun r => [U.b r]) e11) rfl ?_
    obtain ⟨t12, e13⟩ : ∃ t12, (!t10) = t12 := ⟨_, rfl⟩
    refine T.hbind (us := [.b t10]) (xs := [.b t12]) rfl (congrArg (fun r => [U.b r]) e13) rfl ?_
    refine T.hite (x := t12) ?_ ?_ ?_
    ·rfl
    ·intro c15
     refine T.hdone ?_
     have e00 : dielG (a1, a2) (b1, b2) = ((0, 0), 2) := by simp only [dielG, e1, e3, c5, e6, e8, c10, e11, e13, c15] <;> simp_all
     exact ⟨⟨⟨(congrArg (fun r => some (calR r 0)) e00.symm), (congrArg (fun r => some (calR r 1)) e00.symm), trivial⟩, ⟨rfl, (congrArg (fun r => some (calR r 2)) e00.symm)⟩, trivial⟩, trivial, rfl⟩
    ·intro c15
     obtain ⟨t15, t16, t17, e18⟩ := Dy.ex3 (Dy.cNum 0 4607182418800017408)
     refine T.hbind (us := [.i 0, .f 4607182418800017408]) (xs := [.f t15, .f t16, .i t17]) rfl (congrArg (fun r => [calR r 0, calR r 1, calR r 2]) e18) rfl ?_
     obtain ⟨t19, t20, t21, e22⟩ := Dy.ex3 (Dy.cSqr t17 (b1, b2))
     refine T.hbind (us := [.i t17, .f b1, .f b2]) (xs := [.f t19, .f t20, .i t21]) (ρ' := [.f a1, .f a2, .f b1, .f b2, .b t0, .b t2, .b t5, .b t7, .b t10, .b t12, .f t15, .f t16, .i t17, .f t19, .f t20, .i t21]) rfl (congrArg (fun r => [calR r 0, calR r 1, calR r 2]) e22) rfl ?_
     obtain ⟨t23, t24, t25, e26⟩ := Dy.ex3 (Dy.cSub t21 (t19, t20) (t15, t16))
     refine T.hbind (us := [.i t21, .f t19, .f t20, .f t15, .f t16]) (xs := [.f t23, .f t24, .i t25]) rfl (congrArg (fun r => [calR r 0, calR r 1, calR r 2]) e26) rfl ?_
     obtain ⟨t27, t28, t29, e30⟩ := Dy.ex3 (Dy.cSqr t25 (a1, a2))
     refine T.hbind (us := [.i t25, .f a1, .f a2]) (xs := [.f t27, .f t28, .i t29]) rfl (congrArg (fun r => [calR r 0, calR r 1, calR r 2]) e30) rfl ?_
     obtain ⟨t31, t32, t33, e34⟩ := Dy.ex3 (Dy.cAdd t29 (t23, t24) (t27, t28))
     refine T.hbind (us := [.i t29, .f t23, .f t24, .f t27, .f t28]) (xs := [.f t31, .f t32, .i t33]) rfl (congrArg (fun r => [calR r 0, calR r 1, calR r 2]) e34) rfl ?_
     obtain ⟨t35, t36, t37, e38⟩ := Dy.ex3 (Dy.cSqrt t33 (t31, t32))
     refine T.hbind (us := [.i t33, .f t31, .f t32]) (xs := [.f t35, .f t36, .i t37]) (ρ' := [.f a1, .f a2, .f b1, .f b2, .b t0, .b t2, .b t5, .b t7, .b t10, .b t12, .f t15, .f t16, .i t17, .f t19, .f t20, .i t21, .f t23, .f t24, .i t25, .f t27, .f t28, .i t29, .f t31, .f t32, .i t33, .f t35, .f t36, .i t37]) rfl (congrArg (fun r => [calR r 0, calR r 1, calR r 2]) e38) rfl ?_
     obtain ⟨t39, t40, t41, e42⟩ := Dy.ex3 (Dy.cSub t37 (t35, t36) (a1, a2))
     refine T.hbind (us := [.i t37, .f t35, .f t36, .f a1, .f a2]) (xs := [.f t39, .f t40, .i t41]) rfl (congrArg (fun r => [calR r 0, calR r 1, calR r 2]) e42) rfl ?_
     obtain ⟨t43, t44, t45, e46⟩ := Dy.ex3 (Dy.cAdd t41 (t35, t36) (a1, a2))
     refine T.hbind (us := [.i t41, .f t35, .f t36, .f a1, .f a2]) (xs := [.f t43, .f t44, .i t45]) rfl (congrArg (fun r => [calR r 0, calR r 1, calR r 2]) e46) rfl ?_
     obtain ⟨t47, t48, t49, e50⟩ := Dy.ex3 (Dy.cDiv t45 (t39, t40) (t43, t44))
     refine T.hbind (us := [.i t45, .f t39, .f t40, .f t43, .f t44]) (xs := [.f t47, .f t48, .i t49]) rfl (congrArg (fun r => [calR r 0, calR r 1, calR r 2]) e50) rfl ?_
     obtain ⟨t51, t52, t53, e54⟩ := Dy.ex3 (Dy.cSqr t49 (t47, t48))
     refine T.hbind (us := [.i t49, .f t47, .f t48]) (xs := [.f t51, .f t52, .i t53]) (ρ' := [.f a1, .f a2, .f b1, .f b2, .b t0, .b t2, .b t5, .b t7, .b t10, .b t12, .f t15, .f t16, .i t17, .f t19, .f t20, .i t21, .f t23, .f t24, .i t25, .f t27, .f t28, .i t29, .f t31, .f t32, .i t33, .f t35, .f t36, .i t37, .f t39, .f t40, .i t41, .f t43, .f t44, .i t45, .f t47, .f t48, .i t49, .f t51, .f t52, .i t53]) rfl (congrArg (fun r => [calR r 0, calR r 1, calR r 2]) e54) rfl ?_
     obtain ⟨t55, t56, t57, e58⟩ := Dy.ex3 (Dy.cAdd t53 (t35, t36) (a1, a2))
     refine T.hbind (us := [.i t53, .f t35, .f t36, .f a1, .f a2]) (xs := [.f t55, .f t56, .i t57]) rfl (congrArg (fun r => [calR r 0, calR r 1, calR r 2]) e58) rfl ?_
     obtain ⟨t59, t60, t61, e62⟩ := Dy.ex3 (Dy.cMul t57 (a1, a2) (t55, t56))
     refine T.hbind (us := [.i t57, .f a1, .f a2, .f t55, .f t56]) (xs := [.f t59, .f t60, .i t61]) rfl (congrArg (fun r => [calR r 0, calR r 1, calR r 2]) e62) rfl ?_
     obtain ⟨t63, t64, t65, e66⟩ := Dy.ex3 (Dy.cSub t61 (t59, t60) (t15, t16))
     refine T.hbind (us := [.i t61, .f t59, .f t60, .f t15, .f t16]) (xs := [.f t63, .f t64, .i t65]) rfl (congrArg (fun r => [calR r 0, calR r 1, calR r 2]) e66) rfl ?_
     obtain ⟨t67, t68, t69, e70⟩ := Dy.ex3 (Dy.cSub t65 (t35, t36) (a1, a2))
     refine T.hbind (us := [.i t65, .f t35, .f t36, .f a1, .f a2]) (xs := [.f t67, .f t68, .i t69]) (ρ' := [.f a1, .f a2, .f b1, .f b2, .b t0, .b t2, .b t5, .b t7, .b t10, .b t12, .f t15, .f t16, .i t17, .f t19, .f t20, .i t21, .f t23, .f t24, .i t25, .f t27, .f t28, .i t29, .f t31, .f t32, .i t33, .f t35, .f t36, .i t37, .f t39, .f t40, .i t41, .f t43, .f t44, .i t45, .f t47, .f t48, .i t49, .f t51, .f t52, .i t53, .f t55, .f t56, .i t57, .f t59, .f t60, .i t61, .f t63, .f t64, .i t65, .f t67, .f t68, .i t69]) rfl (congrArg (fun r => [calR r 0, calR r 1, calR r 2]) e70) rfl ?_
     obtain ⟨t71, t72, t73, e74⟩ := Dy.ex3 (Dy.cMul t69 (a1, a2) (t67, t68))
     refine T.hbind (us := [.i t69, .f a1, .f a2, .f t67, .f t68]) (xs := [.f t71, .f t72, .i t73]) rfl (congrArg (fun r => [calR r 0, calR r 1, calR r 2]) e74) rfl ?_
     obtain ⟨t75, t76, t77, e78⟩ := Dy.ex3 (Dy.cAdd t73 (t71, t72) (t15, t16))
     refine T.hbind (us := [.i t73, .f t71, .f t72, .f t15, .f t16]) (xs := [.f t75, .f t76, .i t77]) rfl (congrArg (fun r => [calR r 0, calR r 1, calR r 2]) e78) rfl ?_
     obtain ⟨t79, t80, t81, e82⟩ := Dy.ex3 (Dy.cDiv t77 (t63, t64) (t75, t76))
     refine T.hbind (us := [.i t77, .f t63, .f t64, .f t75, .f t76]) (xs := [.f t79, .f t80, .i t81]) rfl (congrArg (fun r => [calR r 0, calR r 1, calR r 2]) e82) rfl ?_
     obtain ⟨t83, t84, t85, e86⟩ := Dy.ex3 (Dy.cSqr t81 (t79, t80))
     refine T.hbind (us := [.i t81, .f t79, .f t80]) (xs := [.f t83, .f t84, .i t85]) (ρ' := [.f a1, .f a2, .f b1, .f b2, .b t0, .b t2, .b t5, .b t7, .b t10, .b t12, .f t15, .f t16, .i t17, .f t19, .f t20, .i t21, .f t23, .f t24, .i t25, .f t27, .f t28, .i t29, .f t31, .f t32, .i t33, .f t35, .f t36, .i t37, .f t39, .f t40, .i t41, .f t43, .f t44, .i t45, .f t47, .f t48, .i t49, .f t51, .f t52, .i t53, .f t55, .f t56, .i t57, .f t59, .f t60, .i t61, .f t63, .f t64, .i t65, .f t67, .f t68, .i t69, .f t71, .f t72, .i t73, .f t75, .f t76, .i t77, .f t79, .f t80, .i t81, .f t83, .f t84, .i t85]) rfl (congrArg (fun r => [calR r 0, calR r 1, calR r 2]) e86) rfl ?_
     obtain ⟨t87, t88, t89, e90⟩ := Dy.ex3 (Dy.cNum t85 4602678819172646912)
     refine T.hbind (us := [.i t85, .f 4602678819172646912]) (xs := [.f t87, .f t88, .i t89]) rfl (congrArg (fun r => [calR r 0, calR r 1, calR r 2]) e90) rfl ?_
     obtain ⟨t91, t92, t93, e94⟩ := Dy.ex3 (Dy.cMul t89 (t87, t88) (t51, t52))
     refine T.hbind (us := [.i t89, .f t87, .f t88, .f t51, .f t52]) (xs := [.f t91, .f t92, .i t93]) rfl (congrArg (fun r => [calR r 0, calR r 1, calR r 2]) e94) rfl ?_
     obtain ⟨t95, t96, t97, e98⟩ := Dy.ex3 (Dy.cAdd t93 (t15, t16) (t83, t84))
     refine T.hbind (us := [.i t93, .f t15, .f t16, .f t83, .f t84]) (xs := [.f t95, .f t96, .i t97]) rfl (congrArg (fun r => [calR r 0, calR r 1, calR r 2]) e98) rfl ?_
     obtain ⟨t99, t100, t101, e102⟩ := Dy.ex3 (Dy.cMul t97 (t91, t92) (t95, t96))
     have g102 := Dy.good_mul (a := (t91, t92)) (b := (t95, t96)) (err := t97)
     rw [e102] at g102
     refine T.hbind (us := [.i t97, .f t91, .f t92, .f t95, .f t96]) (xs := [.f t99, .f t100, .i t101]) (ρ' := [.f a1, .f a2, .f b1, .f b2, .b t0, .b t2, .b t5, .b t7, .b t10, .b t12, .f t15, .f t16, .i t17, .f t19, .f t20, .i t21, .f t23, .f t24, .i t25, .f t27, .f t28, .i t29, .f t31, .f t32, .i t33, .f t35, .f t36, .i t37, .f t39, .f t40, .i t41, .f t43, .f t44, .i t45, .f t47, .f t48, .i t49, .f t51, .f t52, .i t53, .f t55, .f t56, .i t57, .f t59, .f t60, .i t61, .f t63, .f t64, .i t65, .f t67, .f t68, .i t69, .f t71, .f t72, .i t73, .f t75, .f t76, .i t77, .f t79, .f t80, .i t81, .f t83, .f t84, .i t85, .f t87, .f t88, .i t89, .f t91, .f t92, .i t93, .f t95, .f t96, .i t97, .f t99, .f t100, .i t101]) rfl (congrArg (fun r => [calR r 0, calR r 1, calR r 2]) e102) rfl ?_
     obtain ⟨t103, t104, e105⟩ := Dy.ex2 (Dy.clip 0 4607182418800017408 (t99, t100))
     refine T.hbind (us := [.f t99, .f t100]) (xs := [.f t103, .f t104]) rfl (congrArg (fun r => [ivU r 0, ivU r 1]) e105) rfl ?_
     refine T.hneed (us := [.f t99, .f t100]) rfl (g102.2) ?_
     obtain ⟨t106, t107, t108, e109⟩ := Dy.ex3 (Dy.told ((t103, t104), t101))
     refine T.hbind (us := [.i t101, .f t103, .f t104]) (xs := [.f t106, .f t107, .i t108]) rfl (congrArg (fun r => [calR r 0, calR r 1, calR r 2]) e109) rfl ?_
     refine T.hdone ?_
     have eM : dielM (a1, a2) (b1, b2) 0 = ((t103, t104), t101) := by
      unfold dielM
      refine (Dy.cs_num e18).trans ?_
      refine (Dy.cs_sqr e22).trans ?_
      refine (Dy.cs_sub e26).trans ?_
      refine (Dy.cs_sqr e30).trans ?_
      refine (Dy.cs_add e34).trans ?_
      refine (Dy.cs_sqrt e38).trans ?_
      refine (Dy.cs_sub e42).trans ?_
      refine (Dy.cs_add e46).trans ?_
      refine (Dy.cs_div e50).trans ?_
      refine (Dy.cs_sqr e54).trans ?_
      refine (Dy.cs_add e58).trans ?_
      refine (Dy.cs_mul e62).trans ?_
      refine (Dy.cs_sub e66).trans ?_
      refine (Dy.cs_sub e70).trans ?_
      refine (Dy.cs_mul e74).trans ?_
      refine (Dy.cs_add e78).trans ?_
      refine (Dy.cs_div e82).trans ?_
      refine (Dy.cs_sqr e86).trans ?_
      refine (Dy.cs_num e90).trans ?_
      refine (Dy.cs_mul e94).trans ?_
      refine (Dy.cs_add e98).trans ?_
      refine (Dy.cs_mul e102).trans ?_
      first | exact congrArg (fun r => (r, t101)) e105 | (refine (Dy.cm_p e105).trans ?_; rfl) | (rw [Dy.cm_pure]; simp only [Dy.iHull, e1, e3, c5, e6, e8, c10, e11, e13, c15, e109, e105])
     have e00 : dielG (a1, a2) (b1, b2) = ((t106, t107), t108) := by simp only [dielG, eM, e1, e3, c5, e6, e8, c10, e11, e13, c15, e109] <;> simp_all
     exact ⟨⟨⟨(congrArg (fun r => some (calR r 0)) e00.symm), (congrArg (fun r => some (calR r 1)) e00.symm), trivial⟩, ⟨rfl, (congrArg (fun r => some (calR r 2)) e00.symm)⟩, trivial⟩, trivial, rfl⟩
def up8 : List (Nat × Ct) := (14, ctDiel) :: up7
theorem up8_ok : AllOk Tryz.prog up8 := ⟨ctDiel_ok, up7_ok⟩
def condG (cos eta k : Nat × Nat) : (Nat × Nat) × Int := if (Dy.ivR cos && (Dy.ivR eta && Dy.ivR k)) = true then (if wiB 0 4607182418800017408 cos = true then (if (wiB 4589168020290535424 4625196817309499392 eta && wiB 4589168020290535424 4625196817309499392 k) = true then Dy.told (condM cos eta k 0) else ((0, 0), 2)) else ((0, 0), 2)) else ((0, 0), 20)
def ctCond : Ct := ⟨6, [], [vp 0 1, vp 2 3, vp 4 5], { binds := [⟨fun us i => calR (condG (gF us 0, gF us 1) (gF us 2, gF us 3) (gF us 4, gF us 5)) i, 3, upto 0 6⟩], needs := [], val := .tup [vp 6 7, vi .i64 8], upd := [] }⟩
set_option maxRecDepth 100000 in
set_option maxHeartbeats 8000000 in
theorem ctCond_ok : CtOk Tryz.prog 16 ctCond := by
 refine CtOk.of_eval2 up8_ok (dr_ok up8_ok) Tryz.func16 rfl (by decide) [] 200 (by kernel_rfl) rfl (.bind ⟨fun us i => bRes ((Dy.ivR (gF us 0, gF us 1) && (Dy.ivR (gF us 2, gF us 3) && Dy.ivR (gF us 4, gF us 5)))) i, 1, [(.v 0), (.v 1), (.v 2), (.v 3), (.v 4), (.v 5)]⟩ (.bind ⟨fun us _ => nB us, 1, [(.v 6)]⟩ (.ite (.v 7) (.done .ret ⟨[.tup [.agg [.fl (.l (.f 0)), .fl (.l (.f 0))], .it .i64 (.l (.i 20))]], [], 8, []⟩) (.bind ⟨fun us i => bRes (wiB (gF us 0) (gF us 1) (gF us 2, gF us 3)) i, 1, [(.l (.f 0)), (.l (.f 4607182418800017408)), (.v 0), (.v 1)]⟩ (.bind ⟨fun us _ => nB us, 1, [(.v 8)]⟩ (.ite (.v 9) (.done .ret ⟨[.tup [.agg [.fl (.l (.f 0)), .fl (.l (.f 0))], .it .i64 (.l (.i 2))]], [], 10, []⟩) (.bind ⟨fun us i => bRes ((wiB (gF us 0) (gF us 1) (gF us 2, gF us 3) && wiB (gF us 0) (gF us 1) (gF us 4, gF us 5))) i, 1, [(.l (.f 4589168020290535424)), (.l (.f 4625196817309499392)), (.v 2), (.v 3), (.v 4), (.v 5)]⟩ (.bind ⟨fun us _ => nB us, 1, [(.v 10)]⟩ (.ite (.v 11) (.done .ret ⟨[.tup [.agg [.fl (.l (.f 0)), .fl (.l (.f 0))], .it .i64 (.l (.i 2))]], [], 12, []⟩) (.bind ⟨calF0 Dy.cNum, 3, [(.l (.i 0)), (.l (.f 4602678819172646912))]⟩ (.bind ⟨calF1 Dy.cSqr, 3, [(.v 14), (.v 0), (.v 1)]⟩ (.bind ⟨calF0 Dy.cNum, 3, [(.v 17), (.l (.f 4607182418800017408))]⟩ (.bind ⟨calF2 Dy.cSub, 3, [(.v 20), (.v 18), (.v 19), (.v 15), (.v 16)]⟩ (.bind ⟨fun us i => ivU (Dy.clip 0 4607182418800017408 (gF us 0, gF us 1)) i, 2, [(.v 21), (.v 22)]⟩ (.need ⟨nIv, [(.v 21), (.v 22)]⟩ (.bind ⟨calF1 Dy.cSqr, 3, [(.v 23), (.v 2), (.v 3)]⟩ (.bind ⟨calF1 Dy.cSqr, 3, [(.v 28), (.v 4), (.v 5)]⟩ (.bind ⟨calF2 Dy.cSub, 3, [(.v 31), (.v 26), (.v 27), (.v 29), (.v 30)]⟩ (.bind ⟨calF2 Dy.cSub, 3, [(.v 34), (.v 32), (.v 33), (.v 24), (.v 25)]⟩ (.bind ⟨calF1 Dy.cSqr, 3, [(.v 37), (.v 35), (.v 36)]⟩ (.bind ⟨calF0 Dy.cNum, 3, [(.v 40), (.l (.f 4616189618054758400))]⟩ (.bind ⟨calF2 Dy.cMul, 3, [(.v 43), (.v 26), (.v 27), (.v 29), (.v 30)]⟩ (.bind ⟨calF2 Dy.cMul, 3, [(.v 46), (.v 41), (.v 42), (.v 44), (.v 45)]⟩ (.bind ⟨calF2 Dy.cAdd, 3, [(.v 49), (.v 38), (.v 39), (.v 47), (.v 48)]⟩ (.bind ⟨calF1 Dy.cSqrt, 3, [(.v 52), (.v 50), (.v 51)]⟩ (.bind ⟨calF2 Dy.cAdd, 3, [(.v 55), (.v 53), (.v 54), (.v 35), (.v 36)]⟩ (.bind ⟨calF0 Dy.cNum, 3, [(.v 58), (.l (.f 0))]⟩ (.bind ⟨fun us i => calR (Dy.cMax (gI us 0) (gF us 1, gF us 2) (gF us 3, gF us 4)) i, 3, [(.v 61), (.v 56), (.v 57), (.v 59), (.v 60)]⟩ (.need ⟨nIv, [(.v 56), (.v 57)]⟩ (.need ⟨nIv, [(.v 59), (.v 60)]⟩ (.bind ⟨calF2 Dy.cMul, 3, [(.v 64), (.v 12), (.v 13), (.v 62), (.v 63)]⟩ (.bind ⟨calF1 Dy.cSqrt, 3, [(.v 67), (.v 65), (.v 66)]⟩ (.bind ⟨calF2 Dy.cAdd, 3, [(.v 70), (.v 53), (.v 54), (.v 15), (.v 16)]⟩ (.bind ⟨calF0 Dy.cNum, 3, [(.v 73), (.l (.f 4611686018427387904))]⟩ (.bind ⟨calF2 Dy.cMul, 3, [(.v 76), (.v 74), (.v 75), (.v 68), (.v 69)]⟩ (.bind ⟨calF2 Dy.cMul, 3, [(.v 79), (.v 77), (.v 78), (.v 0), (.v 1)]⟩ (.bind ⟨calF2 Dy.cSub, 3, [(.v 82), (.v 71), (.v 72), (.v 80), (.v 81)]⟩ (.bind ⟨calF2 Dy.cAdd, 3, [(.v 85), (.v 71), (.v 72), (.v 80), (.v 81)]⟩ (.bind ⟨calF2 Dy.cDiv, 3, [(.v 88), (.v 83), (.v 84), (.v 86), (.v 87)]⟩ (.bind ⟨fun us i => ivU (Dy.clip 0 4607182418800017408 (gF us 0, gF us 1)) i, 2, [(.v 89), (.v 90)]⟩ (.need ⟨nIv, [(.v 89), (.v 90)]⟩ (.bind ⟨calF2 Dy.cMul, 3, [(.v 91), (.v 15), (.v 16), (.v 53), (.v 54)]⟩ (.bind ⟨calF1 Dy.cSqr, 3, [(.v 96), (.v 24), (.v 25)]⟩ (.bind ⟨calF2 Dy.cAdd, 3, [(.v 99), (.v 94), (.v 95), (.v 97), (.v 98)]⟩ (.bind ⟨calF2 Dy.cMul, 3, [(.v 102), (.v 80), (.v 81), (.v 24), (.v 25)]⟩ (.bind ⟨calF2 Dy.cSub, 3, [(.v 105), (.v 100), (.v 101), (.v 103), (.v 104)]⟩ (.bind ⟨calF2 Dy.cAdd, 3, [(.v 108), (.v 100), (.v 101), (.v 103), (.v 104)]⟩ (.bind ⟨calF2 Dy.cDiv, 3, [(.v 111), (.v 106), (.v 107), (.v 109), (.v 110)]⟩ (.bind ⟨calF2 Dy.cMul, 3, [(.v 114), (.v 92), (.v 93), (.v 112), (.v 113)]⟩ (.bind ⟨fun us i => ivU (Dy.clip 0 4607182418800017408 (gF us 0, gF us 1)) i, 2, [(.v 115), (.v 116)]⟩ (.need ⟨nIv, [(.v 115), (.v 116)]⟩ (.bind ⟨calF2 Dy.cAdd, 3, [(.v 117), (.v 92), (.v 93), (.v 118), (.v 119)]⟩ (.bind ⟨calF2 Dy.cMul, 3, [(.v 122), (.v 12), (.v 13), (.v 120), (.v 121)]⟩ (.bind ⟨fun us i => calR (Dy.told ((gF us 1, gF us 2), gI us 0)) i, 3, [(.v 125), (.v 123), (.v 124)]⟩ (.done .ret ⟨[.tup [.agg [.fl (.v 126), .fl (.v 127)], .it .i64 (.v 128)]], [], 129, []⟩))))))))))))))))))))))))))))))))))))))))))))))))))))))) (by kernel_rfl) (by kernel_rfl) (by kernel_rfl) (fun us hl hF hB hN => ?_)
 match us, hl with
 | [u0, u1, u2, u3, u4, u5], _ =>
  simp [FactsB, FactsL, Facts, ctCond] at hF hB
  simp [NeedsAt, runB, evs, E.ev, upto, resl, List.range, List.range.loop, ctCond] at hN
  obtain ⟨⟨⟨a1, rfl, wa1⟩, ⟨a2, rfl, wa2⟩⟩, ⟨⟨b1, rfl, wb1⟩, ⟨b2, rfl, wb2⟩⟩, ⟨c1x, rfl, wc1x⟩, ⟨c2x, rfl, wc2x⟩⟩ := hF
  refine T.HH.h ?_
  obtain ⟨t0, e1⟩ : ∃ t0, (((Dy.ivR (a1, a2) && (Dy.ivR (b1, b2) && Dy.ivR (c1x, c2x))))) = t0 := ⟨_, rfl⟩
  refine T.hbind (us := [.f a1, .f a2, .f b1, .f b2, .f c1x, .f c2x]) (xs := [.b t0]) rfl (congrArg (fun r => [U.b r]) e1) rfl ?_
  obtain ⟨t2, e3⟩ : ∃ t2, (!t0) = t2 := ⟨_, rfl⟩
  refine T.hbind (us := [.b t0]) (xs := [.b t2]) (ρ' := [.f a1, .f a2, .f b1, .f b2, .f c1x, .f c2x, .b t0, .b t2]) rfl (congrArg (fun r => [U.b r]) e3) rfl ?_
  refine T.hite (x := t2) ?_ ?_ ?_
  ·rfl
  ·intro c5
   refine T.hdone ?_
   have e00 : condG (a1, a2) (b1, b2) (c1x, c2x) = ((0, 0), 20) := by simp only [condG, e1, e3, c5] <;> simp_all
   exact ⟨⟨⟨(congrArg (fun r => some (calR r 0)) e00.symm), (congrArg (fun r => some (calR r 1)) e00.symm), trivial⟩, ⟨rfl, (congrArg (fun r => some (calR r 2)) e00.symm)⟩, trivial⟩, trivial, rfl⟩
  ·intro c5
   obtain ⟨t5, e6⟩ : ∃ t5, ((wiB (0) (4607182418800017408) (a1, a2))) = t5 := ⟨_, rfl⟩
   refine T.hbind (us := [.f 0, .f 4607182418800017408, .f a1, .f a2]) (xs := [.b t5]) rfl (congrArg (fun r => [U.b r]) e6) rfl ?_
   obtain ⟨t7, e8⟩ : ∃ t7, (!t5) = t7 := ⟨_, rfl⟩
   refine T.hbind (us := [.b t5]) (xs := [.b t7]) rfl (congrArg (fun r => [U.b r]) e8) rfl ?_
   refine T.hite (x := t7) ?_ ?_ ?_
   ·rfl
   ·intro c10
    refine T.hdone ?_
    have e00 : condG (a1, a2) (b1, b2) (c1x, c2x) = ((0, 0), 2) := by simp only [condG, e1, e3, c5, e6, e8, c10] <;> simp_all
    exact ⟨⟨⟨(congrArg (fun r => some (calR r 0)) e00.symm), (congrArg (fun r => some (calR r 1)) e00.symm), trivial⟩, ⟨rfl, (congrArg (fun r => some (calR r 2)) e00.symm)⟩, trivial⟩, trivial, rfl⟩
   ·intro c10
    obtain ⟨t10, e11⟩ : ∃ t10, (((wiB (4589168020290535424) (4625196817309499392) (b1, b2) && wiB (4589168020290535424) (4625196817309499392) (c1x, c2x)))) = t10 := ⟨_, rfl⟩
    refine T.hbind (us := [.f 4589168020290535424, .f 4625196817309499392, .f b1, .f b2, .f c1x, .f c2x]) (xs := [.b t10]) rfl (congrArg (fun r => [U.b r]) e11) rfl ?_
    obtain ⟨t12, e13⟩ : ∃ t12, (!t10) = t12 := ⟨_, rfl⟩
    refine T.hbind (us := [.b t10]) (xs := [.b t12]) (ρ' := [.f a1, .f a2, .f b1, .f b2, .f c1x, .f c2x, .b t0, .b t2, .b t5, .b t7, .b t10, .b t12]) rfl (congrArg (fun r => [U.b r]) e13) rfl ?_
    refine T.hite (x := t12) ?_ ?_ ?_
    ·rfl
    ·intro c15
     refine T.hdone ?_
     have e00 : condG (a1, a2) (b1, b2) (c1x, c2x) = ((0, 0), 2) := by simp only [condG, e1, e3, c5, e6, e8, c10, e11, e13, c15] <;> simp_all
     exact ⟨⟨⟨(congrArg (fun r => some (calR r 0)) e00.symm), (congrArg (fun r => some (calR r 1)) e00.symm), trivial⟩, ⟨rfl, (congrArg (fun r => some (calR r 2)) e00.symm)⟩, trivial⟩, trivial, rfl⟩
    ·intro c15
     obtain ⟨t15, t16, t17, e18⟩ := Dy.ex3 (Dy.cNum 0 4602678819172646912)
     refine T.hbind (us := [.i 0, .f 4602678819172646912]) (xs := [.f t15, .f t16, .i t17]) rfl (congrArg (fun r => [calR r 0, calR r 1, calR r 2]) e18) rfl ?_
     obtain ⟨t19, t20, t21, e22⟩ := Dy.ex3 (Dy.cSqr t17 (a1, a2))
     have g22 := Dy.good_sqr (a := (a1, a2)) ⟨wa1, wa2⟩ (err := t17)
     rw [e22] at g22
     refine T.hbind (us := [.i t17, .f a1, .f a2]) (xs := [.f t19, .f t20, .i t21]) rfl (congrArg (fun r => [calR r 0, calR r 1, calR r 2]) e22) rfl ?_
     obtain ⟨t23, t24, t25, e26⟩ := Dy.ex3 (Dy.cNum t21 4607182418800017408)
     refine T.hbind (us := [.i t21, .f 4607182418800017408]) (xs := [.f t23, .f t24, .i t25]) rfl (congrArg (fun r => [calR r 0, calR r 1, calR r 2]) e26) rfl ?_
     obtain ⟨t27, t28, t29, e30⟩ := Dy.ex3 (Dy.cSub t25 (t23, t24) (t19, t20))
     have g30 := Dy.good_sub (a := (t23, t24)) (b := (t19, t20)) ⟨g22.1.1, g22.1.2⟩ (err := t25)
     rw [e30] at g30
     refine T.hbind (us := [.i t25, .f t23, .f t24, .f t19, .f t20]) (xs := [.f t27, .f t28, .i t29]) (ρ' := [.f a1, .f a2, .f b1, .f b2, .f c1x, .f c2x, .b t0, .b t2, .b t5, .b t7, .b t10, .b t12, .f t15, .f t16, .i t17, .f t19, .f t20, .i t21, .f t23, .f t24, .i t25, .f t27, .f t28, .i t29]) rfl (congrArg (fun r => [calR r 0, calR r 1, calR r 2]) e30) rfl ?_
     obtain ⟨t31, t32, e33⟩ := Dy.ex2 (Dy.clip 0 4607182418800017408 (t27, t28))
     refine T.hbind (us := [.f t27, .f t28]) (xs := [.f t31, .f t32]) rfl (congrArg (fun r => [ivU r 0, ivU r 1]) e33) rfl ?_
     refine T.hneed (us := [.f t27, .f t28]) rfl (g30.2) ?_
     obtain ⟨t34, t35, t36, e37⟩ := Dy.ex3 (Dy.cSqr t29 (b1, b2))
     refine T.hbind (us := [.i t29, .f b1, .f b2]) (xs := [.f t34, .f t35, .i t36]) rfl (congrArg (fun r => [calR r 0, calR r 1, calR r 2]) e37) rfl ?_
     obtain ⟨t38, t39, t40, e41⟩ := Dy.ex3 (Dy.cSqr t36 (c1x, c2x))
     refine T.hbind (us := [.i t36, .f c1x, .f c2x]) (xs := [.f t38, .f t39, .i t40]) rfl (congrArg (fun r => [calR r 0, calR r 1, calR r 2]) e41) rfl ?_
     obtain ⟨t42, t43, t44, e45⟩ := Dy.ex3 (Dy.cSub t40 (t34, t35) (t38, t39))
     refine T.hbind (us := [.i t40, .f t34, .f t35, .f t38, .f t39]) (xs := [.f t42, .f t43, .i t44]) (ρ' := [.f a1, .f a2, .f b1, .f b2, .f c1x, .f c2x, .b t0, .b t2, .b t5, .b t7, .b t10, .b t12, .f t15, .f t16, .i t17, .f t19, .f t20, .i t21, .f t23, .f t24, .i t25, .f t27, .f t28, .i t29, .f t31, .f t32, .f t34, .f t35, .i t36, .f t38, .f t39, .i t40, .f t42, .f t43, .i t44]) rfl (congrArg (fun r => [calR r 0, calR r 1, calR r 2]) e45) rfl ?_
     obtain ⟨t46, t47, t48, e49⟩ := Dy.ex3 (Dy.cSub t44 (t42, t43) (t31, t32))
     refine T.hbind (us := [.i t44, .f t42, .f t43, .f t31, .f t32]) (xs := [.f t46, .f t47, .i t48]) rfl (congrArg (fun r => [calR r 0, calR r 1, calR r 2]) e49) rfl ?_
     obtain ⟨t50, t51, t52, e53⟩ := Dy.ex3 (Dy.cSqr t48 (t46, t47))
     refine T.hbind (us := [.i t48, .f t46, .f t47]) (xs := [.f t50, .f t51, .i t52]) rfl (congrArg (fun r => [calR r 0, calR r 1, calR r 2]) e53) rfl ?_
     obtain ⟨t54, t55, t56, e57⟩ := Dy.ex3 (Dy.cNum t52 4616189618054758400)
     refine T.hbind (us := [.i t52, .f 4616189618054758400]) (xs := [.f t54, .f t55, .i t56]) rfl (congrArg (fun r => [calR r 0, calR r 1, calR r 2]) e57) rfl ?_
     obtain ⟨t58, t59, t60, e61⟩ := Dy.ex3 (Dy.cMul t56 (t34, t35) (t38, t39))
     refine T.hbind (us := [.i t56, .f t34, .f t35, .f t38, .f t39]) (xs := [.f t58, .f t59, .i t60]) (ρ' := [.f a1, .f a2, .f b1, .f b2, .f c1x, .f c2x, .b t0, .b t2, .b t5, .b t7, .b t10, .b t12, .f t15, .f t16, .i t17, .f t19, .f t20, .i t21, .f t23, .f t24, .i t25, .f t27, .f t28, .i t29, .f t31, .f t32, .f t34, .f t35, .i t36, .f t38, .f t39, .i t40, .f t42, .f t43, .i t44, .f t46, .f t47, .i t48, .f t50, .f t51, .i t52, .f t54, .f t55, .i t56, .f t58, .f t59, .i t60]) rfl (congrArg (fun r => [calR r 0, calR r 1, calR r 2]) e61) rfl ?_
     obtain ⟨t62, t63, t64, e65⟩ := Dy.ex3 (Dy.cMul t60 (t54, t55) (t58, t59))
     refine T.hbind (us := [.i t60, .f t54, .f t55, .f t58, .f t59]) (xs := [.f t62, .f t63, .i t64]) rfl (congrArg (fun r => [calR r 0, calR r 1, calR r 2]) e65) rfl ?_
     obtain ⟨t66, t67, t68, e69⟩ := Dy.ex3 (Dy.cAdd t64 (t50, t51) (t62, t63))
     refine T.hbind (us := [.i t64, .f t50, .f t51, .f t62, .f t63]) (xs := [.f t66, .f t67, .i t68]) rfl (congrArg (fun r => [calR r 0, calR r 1, calR r 2]) e69) rfl ?_
     obtain ⟨t70, t71, t72, e73⟩ := Dy.ex3 (Dy.cSqrt t68 (t66, t67))
     refine T.hbind (us := [.i t68, .f t66, .f t67]) (xs := [.f t70, .f t71, .i t72]) rfl (congrArg (fun r => [calR r 0, calR r 1, calR r 2]) e73) rfl ?_
     obtain ⟨t74, t75, t76, e77⟩ := Dy.ex3 (Dy.cAdd t72 (t70, t71) (t46, t47))
     have g77 := Dy.good_add (a := (t70, t71)) (b := (t46, t47)) (err := t72)
     rw [e77] at g77
     refine T.hbind (us := [.i t72, .f t70, .f t71, .f t46, .f t47]) (xs := [.f t74, .f t75, .i t76]) (ρ' := [.f a1, .f a2, .f b1, .f b2, .f c1x, .f c2x, .b t0, .b t2, .b t5, .b t7, .b t10, .b t12, .f t15, .f t16, .i t17, .f t19, .f t20, .i t21, .f t23, .f t24, .i t25, .f t27, .f t28, .i t29, .f t31, .f t32, .f t34, .f t35, .i t36, .f t38, .f t39, .i t40, .f t42, .f t43, .i t44, .f t46, .f t47, .i t48, .f t50, .f t51, .i t52, .f t54, .f t55, .i t56, .f t58, .f t59, .i t60, .f t62, .f t63, .i t64, .f t66, .f t67, .i t68, .f t70, .f t71, .i t72, .f t74, .f t75, .i t76]) rfl (congrArg (fun r => [calR r 0, calR r 1, calR r 2]) e77) rfl ?_
     obtain ⟨t78, t79, t80, e81⟩ := Dy.ex3 (Dy.cNum t76 0)
     have g81 := Dy.good_num (show Dy.W 0 from by unfold Dy.W; decide) (err := t76)
     rw [e81] at g81
     refine T.hbind (us := [.i t76, .f 0]) (xs := [.f t78, .f t79, .i t80]) rfl (congrArg (fun r => [calR r 0, calR r 1, calR r 2]) e81) rfl ?_
     obtain ⟨t82, t83, t84, e85⟩ := Dy.ex3 (Dy.cMax (t80) (t74, t75) (t78, t79))
     refine T.hbind (us := [.i t80, .f t74, .f t75, .f t78, .f t79]) (xs := [.f t82, .f t83, .i t84]) rfl (congrArg (fun r => [calR r 0, calR r 1, calR r 2]) e85) rfl ?_
     refine T.hneed (us := [.f t74, .f t75]) rfl (g77.2) ?_
     refine T.hneed (us := [.f t78, .f t79]) rfl (g81.2) ?_
     obtain ⟨t86, t87, t88, e89⟩ := Dy.ex3 (Dy.cMul t84 (t15, t16) (t82, t83))
     refine T.hbind (us := [.i t84, .f t15, .f t16, .f t82, .f t83]) (xs := [.f t86, .f t87, .i t88]) rfl (congrArg (fun r => [calR r 0, calR r 1, calR r 2]) e89) rfl ?_
     obtain ⟨t90, t91, t92, e93⟩ := Dy.ex3 (Dy.cSqrt t88 (t86, t87))
     refine T.hbind (us := [.i t88, .f t86, .f t87]) (xs := [.f t90, .f t91, .i t92]) (ρ' := [.f a1, .f a2, .f b1, .f b2, .f c1x, .f c2x, .b t0, .b t2, .b t5, .b t7, .b t10, .b t12, .f t15, .f t16, .i t17, .f t19, .f t20, .i t21, .f t23, .f t24, .i t25, .f t27, .f t28, .i t29, .f t31, .f t32, .f t34, .f t35, .i t36, .f t38, .f t39, .i t40, .f t42, .f t43, .i t44, .f t46, .f t47, .i t48, .f t50, .f t51, .i t52, .f t54, .f t55, .i t56, .f t58, .f t59, .i t60, .f t62, .f t63, .i t64, .f t66, .f t67, .i t68, .f t70, .f t71, .i t72, .f t74, .f t75, .i t76, .f t78, .f t79, .i t80, .f t82, .f t83, .i t84, .f t86, .f t87, .i t88, .f t90, .f t91, .i t92]) rfl (congrArg (fun r => [calR r 0, calR r 1, calR r 2]) e93) rfl ?_
     obtain ⟨t94, t95, t96, e97⟩ := Dy.ex3 (Dy.cAdd t92 (t70, t71) (t19, t20))
     refine T.hbind (us := [.i t92, .f t70, .f t71, .f t19, .f t20]) (xs := [.f t94, .f t95, .i t96]) rfl (congrArg (fun r => [calR r 0, calR r 1, calR r 2]) e97) rfl ?_
     obtain ⟨t98, t99, t100, e101⟩ := Dy.ex3 (Dy.cNum t96 4611686018427387904)
     refine T.hbind (us := [.i t96, .f 4611686018427387904]) (xs := [.f t98, .f t99, .i t100]) rfl (congrArg (fun r => [calR r 0, calR r 1, calR r 2]) e101) rfl ?_
     obtain ⟨t102, t103, t104, e105⟩ := Dy.ex3 (Dy.cMul t100 (t98, t99) (t90, t91))
     refine T.hbind (us := [.i t100, .f t98, .f t99, .f t90, .f t91]) (xs := [.f t102, .f t103, .i t104]) rfl (congrArg (fun r => [calR r 0, calR r 1, calR r 2]) e105) rfl ?_
     obtain ⟨t106, t107, t108, e109⟩ := Dy.ex3 (Dy.cMul t104 (t102, t103) (a1, a2))
     refine T.hbind (us := [.i t104, .f t102, .f t103, .f a1, .f a2]) (xs := [.f t106, .f t107, .i t108]) (ρ' := [.f a1, .f a2, .f b1, .f b2, .f c1x, .f c2x, .b t0, .b t2, .b t5, .b t7, .b t10, .b t12, .f t15, .f t16, .i t17, .f t19, .f t20, .i t21, .f t23, .f t24, .i t25, .f t27, .f t28, .i t29, .f t31, .f t32, .f t34, .f t35, .i t36, .f t38, .f t39, .i t40, .f t42, .f t43, .i t44, .f t46, .f t47, .i t48, .f t50, .f t51, .i t52, .f t54, .f t55, .i t56, .f t58, .f t59, .i t60, .f t62, .f t63, .i t64, .f t66, .f t67, .i t68, .f t70, .f t71, .i t72, .f t74, .f t75, .i t76, .f t78, .f t79, .i t80, .f t82, .f t83, .i t84, .f t86, .f t87, .i t88, .f t90, .f t91, .i t92, .f t94, .f t95, .i t96, .f t98, .f t99, .i t100, .f t102, .f t103, .i t104, .f t106, .f t107, .i t108]) rfl (congrArg (fun r => [calR r 0, calR r 1, calR r 2]) e109) rfl ?_
     obtain ⟨t110, t111, t112, e113⟩ := Dy.ex3 (Dy.cSub t108 (t94, t95) (t106, t107))
     refine T.hbind (us := [.i t108, .f t94, .f t95, .f t106, .f t107]) (xs := [.f t110, .f t111, .i t112]) rfl (congrArg (fun r => [calR r 0, calR r 1, calR r 2]) e113) rfl ?_
     obtain ⟨t114, t115, t116, e117⟩ := Dy.ex3 (Dy.cAdd t112 (t94, t95) (t106, t107))
     have g117 := Dy.good_add (a := (t94, t95)) (b := (t106, t107)) (err := t112)
     rw [e117] at g117
     refine T.hbind (us := [.i t112, .f t94, .f t95, .f t106, .f t107]) (xs := [.f t114, .f t115, .i t116]) rfl (congrArg (fun r => [calR r 0, calR r 1, calR r 2]) e117) rfl ?_
     obtain ⟨t118, t119, t120, e121⟩ := Dy.ex3 (Dy.cDiv t116 (t110, t111) (t114, t115))
     have g121 := Dy.good_div (a := (t110, t111)) (b := (t114, t115)) ⟨g117.1.1, g117.1.2⟩ (err := t116)
     rw [e121] at g121
     refine T.hbind (us := [.i t116, .f t110, .f t111, .f t114, .f t115]) (xs := [.f t118, .f t119, .i t120]) rfl (congrArg (fun r => [calR r 0, calR r 1, calR r 2]) e121) rfl ?_
     obtain ⟨t122, t123, e124⟩ := Dy.ex2 (Dy.clip 0 4607182418800017408 (t118, t119))
     refine T.hbind (us := [.f t118, .f t119]) (xs := [.f t122, .f t123]) (ρ' := [.f a1, .f a2, .f b1, .f b2, .f c1x, .f c2x, .b t0, .b t2, .b t5, .b t7, .b t10, .b t12, .f t15, .f t16, .i t17, .f t19, .f t20, .i t21, .f t23, .f t24, .i t25, .f t27, .f t28, .i t29, .f t31, .f t32, .f t34, .f t35, .i t36, .f t38, .f t39, .i t40, .f t42, .f t43, .i t44, .f t46, .f t47, .i t48, .f t50, .f t51, .i t52, .f t54, .f t55, .i t56, .f t58, .f t59, .i t60, .f t62, .f t63, .i t64, .f t66, .f t67, .i t68, .f t70, .f t71, .i t72, .f t74, .f t75, .i t76, .f t78, .f t79, .i t80, .f t82, .f t83, .i t84, .f t86, .f t87, .i t88, .f t90, .f t91, .i t92, .f t94, .f t95, .i t96, .f t98, .f t99, .i t100, .f t102, .f t103, .i t104, .f t106, .f t107, .i t108, .f t110, .f t111, .i t112, .f t114, .f t115, .i t116, .f t118, .f t119, .i t120, .f t122, .f t123]) rfl (congrArg (fun r => [ivU r 0, ivU r 1]) e124) rfl ?_
     refine T.hneed (us := [.f t118, .f t119]) rfl (g121.2) ?_
     obtain ⟨t125, t126, t127, e128⟩ := Dy.ex3 (Dy.cMul t120 (t19, t20) (t70, t71))
     refine T.hbind (us := [.i t120, .f t19, .f t20, .f t70, .f t71]) (xs := [.f t125, .f t126, .i t127]) rfl (congrArg (fun r => [calR r 0, calR r 1, calR r 2]) e128) rfl ?_
     obtain ⟨t129, t130, t131, e132⟩ := Dy.ex3 (Dy.cSqr t127 (t31, t32))
     refine T.hbind (us := [.i t127, .f t31, .f t32]) (xs := [.f t129, .f t130, .i t131]) rfl (congrArg (fun r => [calR r 0, calR r 1, calR r 2]) e132) rfl ?_
     obtain ⟨t133, t134, t135, e136⟩ := Dy.ex3 (Dy.cAdd t131 (t125, t126) (t129, t130))
     refine T.hbind (us := [.i t131, .f t125, .f t126, .f t129, .f t130]) (xs := [.f t133, .f t134, .i t135]) rfl (congrArg (fun r => [calR r 0, calR r 1, calR r 2]) e136) rfl ?_
     obtain ⟨t137, t138, t139, e140⟩ := Dy.ex3 (Dy.cMul t135 (t106, t107) (t31, t32))
     refine T.hbind (us := [.i t135, .f t106, .f t107, .f t31, .f t32]) (xs := [.f t137, .f t138, .i t139]) (ρ' := [.f a1, .f a2, .f b1, .f b2, .f c1x, .f c2x, .b t0, .b t2, .b t5, .b t7, .b t10, .b t12, .f t15, .f t16, .i t17, .f t19, .f t20, .i t21, .f t23, .f t24, .i t25, .f t27, .f t28, .i t29, .f t31, .f t32, .f t34, .f t35, .i t36, .f t38, .f t39, .i t40, .f t42, .f t43, .i t44, .f t46, .f t47, .i t48, .f t50, .f t51, .i t52, .f t54, .f t55, .i t56, .f t58, .f t59, .i t60, .f t62, .f t63, .i t64, .f t66, .f t67, .i t68, .f t70, .f t71, .i t72, .f t74, .f t75, .i t76, .f t78, .f t79, .i t80, .f t82, .f t83, .i t84, .f t86, .f t87, .i t88, .f t90, .f t91, .i t92, .f t94, .f t95, .i t96, .f t98, .f t99, .i t100, .f t102, .f t103, .i t104, .f t106, .f t107, .i t108, .f t110, .f t111, .i t112, .f t114, .f t115, .i t116, .f t118, .f t119, .i t120, .f t122, .f t123, .f t125, .f t126, .i t127, .f t129, .f t130, .i t131, .f t133, .f t134, .i t135, .f t137, .f t138, .i t139]) rfl (congrArg (fun r => [calR r 0, calR r 1, calR r 2]) e140) rfl ?_
     obtain ⟨t141, t142, t143, e144⟩ := Dy.ex3 (Dy.cSub t139 (t133, t134) (t137, t138))
     refine T.hbind (us := [.i t139, .f t133, .f t134, .f t137, .f t138]) (xs := [.f t141, .f t142, .i t143]) rfl (congrArg (fun r => [calR r 0, calR r 1, calR r 2]) e144) rfl ?_
     obtain ⟨t145, t146, t147, e148⟩ := Dy.ex3 (Dy.cAdd t143 (t133, t134) (t137, t138))
     refine T.hbind (us := [.i t143, .f t133, .f t134, .f t137, .f t138]) (xs := [.f t145, .f t146, .i t147]) rfl (congrArg (fun r => [calR r 0, calR r 1, calR r 2]) e148) rfl ?_
     obtain ⟨t149, t150, t151, e152⟩ := Dy.ex3 (Dy.cDiv t147 (t141, t142) (t145, t146))
     refine T.hbind (us := [.i t147, .f t141, .f t142, .f t145, .f t146]) (xs := [.f t149, .f t150, .i t151]) rfl (congrArg (fun r => [calR r 0, calR r 1, calR r 2]) e152) rfl ?_
     obtain ⟨t153, t154, t155, e156⟩ := Dy.ex3 (Dy.cMul t151 (t122, t123) (t149, t150))
     have g156 := Dy.good_mul (a := (t122, t123)) (b := (t149, t150)) (err := t151)
     rw [e156] at g156
     refine T.hbind (us := [.i t151, .f t122, .f t123, .f t149, .f t150]) (xs := [.f t153, .f t154, .i t155]) (ρ' := [.f a1, .f a2, .f b1, .f b2, .f c1x, .f c2x, .b t0, .b t2, .b t5, .b t7, .b t10, .b t12, .f t15, .f t16, .i t17, .f t19, .f t20, .i t21, .f t23, .f t24, .i t25, .f t27, .f t28, .i t29, .f t31, .f t32, .f t34, .f t35, .i t36, .f t38, .f t39, .i t40, .f t42, .f t43, .i t44, .f t46, .f t47, .i t48, .f t50, .f t51, .i t52, .f t54, .f t55, .i t56, .f t58, .f t59, .i t60, .f t62, .f t63, .i t64, .f t66, .f t67, .i t68, .f t70, .f t71, .i t72, .f t74, .f t75, .i t76, .f t78, .f t79, .i t80, .f t82, .f t83, .i t84, .f t86, .f t87, .i t88, .f t90, .f t91, .i t92, .f t94, .f t95, .i t96, .f t98, .f t99, .i t100, .f t102, .f t103, .i t104, .f t106, .f t107, .i t108, .f t110, .f t111, .i t112, .f t114, .f t115, .i t116, .f t118, .f t119, .i t120, .f t122, .f t123, .f t125, .f t126, .i t127, .f t129, .f t130, .i t131, .f t133, .f t134, .i t135, .f t137, .f t138, .i t139, .f t141, .f t142, .i t143, .f t145, .f t146, .i t147, .f t149, .f t150, .i t151, .f t153, .f t154, .i t155]) rfl (congrArg (fun r => [calR r 0, calR r 1, calR r 2]) e156) rfl ?_
     obtain ⟨t157, t158, e159⟩ := Dy.ex2 (Dy.clip 0 4607182418800017408 (t153, t154))
     refine T.hbind (us := [.f t153, .f t154]) (xs := [.f t157, .f t158]) rfl (congrArg (fun r => [ivU r 0, ivU r 1]) e159) rfl ?_
     refine T.hneed (us := [.f t153, .f t154]) rfl (g156.2) ?_
     obtain ⟨t160, t161, t162, e163⟩ := Dy.ex3 (Dy.cAdd t155 (t122, t123) (t157, t158))
     refine T.hbind (us := [.i t155, .f t122, .f t123, .f t157, .f t158]) (xs := [.f t160, .f t161, .i t162]) rfl (congrArg (fun r => [calR r 0, calR r 1, calR r 2]) e163) rfl ?_
     obtain ⟨t164, t165, t166, e167⟩ := Dy.ex3 (Dy.cMul t162 (t15, t16) (t160, t161))
     refine T.hbind (us := [.i t162, .f t15, .f t16, .f t160, .f t161]) (xs := [.f t164, .f t165, .i t166]) rfl (congrArg (fun r => [calR r 0, calR r 1, calR r 2]) e167) rfl ?_
     obtain ⟨t168, t169, t170, e171⟩ := Dy.ex3 (Dy.told ((t164, t165), t166))
     refine T.hbind (us := [.i t166, .f t164, .f t165]) (xs := [.f t168, .f t169, .i t170]) (ρ' := [.f a1, .f a2, .f b1, .f b2, .f c1x, .f c2x, .b t0, .b t2, .b t5, .b t7, .b t10, .b t12, .f t15, .f t16, .i t17, .f t19, .f t20, .i t21, .f t23, .f t24, .i t25, .f t27, .f t28, .i t29, .f t31, .f t32, .f t34, .f t35, .i t36, .f t38, .f t39, .i t40, .f t42, .f t43, .i t44, .f t46, .f t47, .i t48, .f t50, .f t51, .i t52, .f t54, .f t55, .i t56, .f t58, .f t59, .i t60, .f t62, .f t63, .i t64, .f t66, .f t67, .i t68, .f t70, .f t71, .i t72, .f t74, .f t75, .i t76, .f t78, .f t79, .i t80, .f t82, .f t83, .i t84, .f t86, .f t87, .i t88, .f t90, .f t91, .i t92, .f t94, .f t95, .i t96, .f t98, .f t99, .i t100, .f t102, .f t103, .i t104, .f t106, .f t107, .i t108, .f t110, .f t111, .i t112, .f t114, .f t115, .i t116, .f t118, .f t119, .i t120, .f t122, .f t123, .f t125, .f t126, .i t127, .f t129, .f t130, .i t131, .f t133, .f t134, .i t135, .f t137, .f t138, .i t139, .f t141, .f t142, .i t143, .f t145, .f t146, .i t147, .f t149, .f t150, .i t151, .f t153, .f t154, .i t155, .f t157, .f t158, .f t160, .f t161, .i t162, .f t164, .f t165, .i t166, .f t168, .f t169, .i t170]) rfl (congrArg (fun r => [calR r 0, calR r 1, calR r 2]) e171) rfl ?_
     refine T.hdone ?_
     have eM : condM (a1, a2) (b1, b2) (c1x, c2x) 0 = ((t164, t165), t166) := by
      unfold condM
      refine (Dy.cs_num e18).trans ?_
      refine (Dy.cs_sqr e22).trans ?_
      refine (Dy.cs_num e26).trans ?_
      refine (Dy.cs_sub e30).trans ?_
      refine (Dy.cm_p e33).trans ?_
      refine (Dy.cs_sqr e37).trans ?_
      refine (Dy.cs_sqr e41).trans ?_
      refine (Dy.cs_sub e45).trans ?_
      refine (Dy.cs_sub e49).trans ?_
      refine (Dy.cs_sqr e53).trans ?_
      refine (Dy.cs_num e57).trans ?_
      refine (Dy.cs_mul e61).trans ?_
      refine (Dy.cs_mul e65).trans ?_
      refine (Dy.cs_add e69).trans ?_
      refine (Dy.cs_sqrt e73).trans ?_
      refine (Dy.cs_add e77).trans ?_
      refine (Dy.cs_num e81).trans ?_
      refine (Dy.cs_max e85).trans ?_
      refine (Dy.cs_mul e89).trans ?_
      refine (Dy.cs_sqrt e93).trans ?_
      refine (Dy.cs_add e97).trans ?_
      refine (Dy.cs_num e101).trans ?_
      refine (Dy.cs_mul e105).trans ?_
      refine (Dy.cs_mul e109).trans ?_
      refine (Dy.cs_sub e113).trans ?_
      refine (Dy.cs_add e117).trans ?_
      refine (Dy.cs_div e121).trans ?_
      refine (Dy.cm_p e124).trans ?_
      refine (Dy.cs_mul e128).trans ?_
      refine (Dy.cs_sqr e132).trans ?_
      refine (Dy.cs_add e136).trans ?_
      refine (Dy.cs_mul e140).trans ?_
      refine (Dy.cs_sub e144).trans ?_
      refine (Dy.cs_add e148).trans ?_
      refine (Dy.cs_div e152).trans ?_
      refine (Dy.cs_mul e156).trans ?_
      refine (Dy.cm_p e159).trans ?_
      refine (Dy.cs_add e163).trans ?_
      first | exact e167 | (refine (Dy.cs_mul e167).trans ?_; rfl) | (refine (Dy.cs_mul e167).trans ?_; rw [Dy.cm_pure]; simp only [e1, e3, c5, e6, e8, c10, e11, e13, c15, e171])
     have e00 : condG (a1, a2) (b1, b2) (c1x, c2x) = ((t168, t169), t170) := by simp only [condG, eM, e1, e3, c5, e6, e8, c10, e11, e13, c15, e171] <;> simp_all
     exact ⟨⟨⟨(congrArg (fun r => some (calR r 0)) e00.symm), (congrArg (fun r => some (calR r 1)) e00.symm), trivial⟩, ⟨rfl, (congrArg (fun r => some (calR r 2)) e00.symm)⟩, trivial⟩, trivial, rfl⟩
def up9 : List (Nat × Ct) := (16, ctCond) :: up8
theorem up9_ok : AllOk Tryz.prog up9 := ⟨ctCond_ok, up8_ok⟩
end Go.Proofs.YtiphdhpacklboaaGreat
