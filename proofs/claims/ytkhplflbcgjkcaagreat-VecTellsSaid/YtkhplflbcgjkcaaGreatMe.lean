/- A reckoning of programs by symbols: burnishref05. -/
import Derived.Test.YtkhplflbcgjkcaaGreatAg
namespace Go.Proofs.YtkhplflbcgjkcaaGreat
open Go Go.RowKit
set_option linter.unusedSimpArgs false
set_option linter.unusedVariables false
def iMeetT (a b : Nat × Nat) : (Nat × Nat) × Bool := if Dy.fgt (moreT a.1 b.1) (lessT a.2 b.2) = true then ((0, 0), false) else ((moreT a.1 b.1, lessT a.2 b.2), true)
theorem iMeetT_eq {a b : Nat × Nat} (wa : Dy.WW a) (wb : Dy.WW b) (ra : Dy.ivR a = true) (rb : Dy.ivR b = true) : iMeetT a b = iMeet a b := by
 obtain ⟨a1, a2, _⟩ := Dy.ivR_of ra
 obtain ⟨b1, b2, _⟩ := Dy.ivR_of rb
 unfold iMeetT iMeet
 rw [moreT_eq wa.1 wb.1 a1 b1, lessT_eq wa.2 wb.2 a2 b2]
def mostT (a b c : Nat) : Nat := if Dy.fgt (Dy.abs c) (if Dy.fgt (Dy.abs b) (Dy.abs a) = true then Dy.abs b else Dy.abs a) = true then Dy.abs c else (if Dy.fgt (Dy.abs b) (Dy.abs a) = true then Dy.abs b else Dy.abs a)
def unitR (a b c : Nat) : ((Nat × Nat) × (Nat × Nat) × (Nat × Nat)) × Int := if Dy.flt (mostT a b c) (Dy.ldx 4607182418800017408 (-64)) = true then (((0, 0), (0, 0), (0, 0)), 50) else if Dy.fgt (mostT a b c) (Dy.ldx 4607182418800017408 64) = true then (((0, 0), (0, 0), (0, 0)), 50) else ((unitM a b c 0).1, 0)
theorem max_gt {x y : Nat} (hx : Dy.W x) (hy : Dy.W y) (rx : Dy.right x = true) (ry : Dy.right y = true) : (if Dy.fgt y x = true then y else x) = Dy.dmax x y := by
 rw [Dy.fgt_dec hy hx ry rx]
 unfold Dy.dmax
 by_cases h : Dy.dec x < Dy.dec y
 ·rw [if_pos h, if_pos (decide_eq_true h)]
 ·rw [if_neg h, if_neg (by simpa using h)]
theorem ldx_64 : Dy.ldx 4607182418800017408 (-64) = 4318952042648305664 ∧ Dy.ldx 4607182418800017408 64 = 4895412794951729152 := by decide +kernel
theorem unitR_eq {a b c : Nat} (wa : Dy.W a) (wb : Dy.W b) (wc : Dy.W c) (ra : Dy.right a = true) (rb : Dy.right b = true) (rc : Dy.right c = true) : unitR a b c = unitG a b c := by
 have m : mostT a b c = most3 a b c := by
  unfold mostT most3
  rw [max_gt (Dy.W_abs a) (Dy.W_abs b) (Dy.right_abs ra) (Dy.right_abs rb)]
  exact max_gt (Dy.dmax_W (Dy.W_abs a) (Dy.W_abs b)) (Dy.W_abs c) (Dy.dmax_right (Dy.right_abs ra) (Dy.right_abs rb)) (Dy.right_abs rc)
 unfold unitR unitG
 rw [m, ldx_64.1, ldx_64.2]
def unitRR (a b c : Nat) : ((Nat × Nat) × (Nat × Nat) × (Nat × Nat)) × Int := if rrT a = true then (if rrT b = true then (if rrT c = true then unitR a b c else (((0, 0), (0, 0), (0, 0)), 50)) else (((0, 0), (0, 0), (0, 0)), 50)) else (((0, 0), (0, 0), (0, 0)), 50)
attribute [local irreducible] iMeet unitM
def me0 : List (Nat × Ct) := lx0
theorem me0_ok : AllOk Tryz.prog me0 := lx0_ok
def ctMeetT : Ct := ⟨4, [], [vp 0 1, vp 2 3], { binds := [⟨fun us i => meetU (iMeetT (gF us 0, gF us 1) (gF us 2, gF us 3)) i, 3, upto 0 4⟩], needs := [], val := .tup [vp 4 5, vb 6], upd := [] }⟩
set_option maxRecDepth 100000 in
set_option maxHeartbeats 8000000 in
theorem ctMeetT_ok : CtOk Tryz.prog 24 ctMeetT := by
 refine CtOk.of_eval2 me0_ok (dr_ok me0_ok) Tryz.func24 rfl (by decide) [] 200 (by kernel_rfl) rfl (.bind ⟨fun us i => fRes (moreT (gF us 0) (gF us 1)) i, 1, [(.v 0), (.v 2)]⟩ (.bind ⟨fun us i => fRes (lessT (gF us 0) (gF us 1)) i, 1, [(.v 1), (.v 3)]⟩ (.bind ⟨fun us _ => cB Dy.fgt us, 1, [(.v 4), (.v 5)]⟩ (.ite (.v 6) (.done .ret ⟨[.tup [.agg [.fl (.l (.f 0)), .fl (.l (.f 0))], .bo (.l (.b false))]], [], 7, []⟩) (.done .ret ⟨[.tup [.agg [.fl (.v 4), .fl (.v 5)], .bo (.l (.b true))]], [], 7, []⟩))))) (by kernel_rfl) (by kernel_rfl) (by kernel_rfl) (fun us hl hF hB hN => ?_)
 match us, hl with
 | [u0, u1, u2, u3], _ =>
  simp [FactsB, FactsL, Facts, ctMeetT] at hF hB
  simp [NeedsAt, runB, evs, E.ev, upto, resl, List.range, List.range.loop, ctMeetT] at hN
  obtain ⟨⟨⟨a1, rfl, wa1⟩, ⟨a2, rfl, wa2⟩⟩, ⟨b1, rfl, wb1⟩, ⟨b2, rfl, wb2⟩⟩ := hF
  refine T.HH.h ?_
  obtain ⟨t0, e1⟩ : ∃ t0, ((moreT (a1) (b1))) = t0 := ⟨_, rfl⟩
  refine T.hbind rfl (congrArg (fun r => [U.f r]) e1) rfl ?_
  obtain ⟨t2, e3⟩ : ∃ t2, ((lessT (a2) (b2))) = t2 := ⟨_, rfl⟩
  refine T.hbind rfl (congrArg (fun r => [U.f r]) e3) rfl ?_
  obtain ⟨t4, e5⟩ : ∃ t4, (Dy.fgt t0 t2) = t4 := ⟨_, rfl⟩
  refine T.hbind rfl (congrArg (fun r => [U.b r]) e5) rfl ?_
  refine T.hite (x := t4) ?_ ?_ ?_
  ·rfl
  ·intro c7
   refine T.hdone ?_
   have e00 : iMeetT (a1, a2) (b1, b2) = ((0, 0), false) := by simp only [iMeetT, e1, e3, e5, c7] <;> simp_all
   exact ⟨⟨⟨(congrArg (fun r => some (meetU r 0)) e00.symm), (congrArg (fun r => some (meetU r 1)) e00.symm), trivial⟩, (congrArg (fun r => some (meetU r 2)) e00.symm), trivial⟩, trivial, rfl⟩
  ·intro c7
   refine T.hdone ?_
   have e00 : iMeetT (a1, a2) (b1, b2) = ((t0, t2), true) := by simp only [iMeetT, e1, e3, e5, c7] <;> simp_all
   exact ⟨⟨⟨(congrArg (fun r => some (meetU r 0)) e00.symm), (congrArg (fun r => some (meetU r 1)) e00.symm), trivial⟩, (congrArg (fun r => some (meetU r 2)) e00.symm), trivial⟩, trivial, rfl⟩
def me1 : List (Nat × Ct) := (24, ctMeetT) :: me0
theorem me1_ok : AllOk Tryz.prog me1 := ⟨ctMeetT_ok, me0_ok⟩
def ctMeetR : Ct := ⟨4, [], [vp 0 1, vp 2 3], { binds := [⟨fun us i => meetU (iMeet (gF us 0, gF us 1) (gF us 2, gF us 3)) i, 3, upto 0 4⟩], needs := [⟨nIv, [.v 0, .v 1]⟩, ⟨nIv, [.v 2, .v 3]⟩], val := .tup [vp 4 5, vb 6], upd := [] }⟩
theorem ctMeetR_ok : CtOk Tryz.prog 24 ctMeetR := by
 refine CtOk.swap ctMeetT_ok fun ρ us h1 hm hF hN i => ?_
 match ρ, hm with
 | u0 :: u1 :: u2 :: u3 :: l, _ =>
  simp [evs, upto, E.ev] at h1
  subst h1
  simp [FactsL, Facts] at hF
  obtain ⟨⟨⟨a1, rfl, wa1⟩, ⟨a2, rfl, wa2⟩⟩, ⟨b1, rfl, wb1⟩, ⟨b2, rfl, wb2⟩⟩ := hF
  obtain ⟨xs, h1, h2⟩ := hN _ (List.mem_cons_self ..)
  simp [evs, E.ev] at h1; subst h1
  obtain ⟨ys, h3, h4⟩ := hN _ (List.mem_cons_of_mem _ (List.mem_singleton.2 rfl))
  simp [evs, E.ev] at h3; subst h3
  exact congrArg (fun r => meetU r i) (iMeetT_eq ⟨wa1, wa2⟩ ⟨wb1, wb2⟩ h2 h4)
def me2 : List (Nat × Ct) := (24, ctMeetR) :: me1
theorem me2_ok : AllOk Tryz.prog me2 := ⟨ctMeetR_ok, me1_ok⟩
def ctWithR : Ct := ⟨2, [], [vp 0 1], { binds := [⟨fun us i => ivU (vWithin (gF us 0, gF us 1)) i, 2, upto 0 2⟩], needs := [⟨nIv, [.v 0, .v 1]⟩], val := vp 2 3, upd := [] }⟩
set_option maxRecDepth 100000 in
set_option maxHeartbeats 8000000 in
theorem ctWithR_ok : CtOk Tryz.prog 93 ctWithR := by
 refine CtOk.of_eval2 me2_ok (dr_ok me2_ok) Tryz.func93 rfl (by decide) [] 200 (by kernel_rfl) rfl (.bind ⟨fun us i => meetU (iMeet (gF us 0, gF us 1) (gF us 2, gF us 3)) i, 3, [(.v 0), (.v 1), (.l (.f 13830554455654793216)), (.l (.f 4607182418800017408))]⟩ (.need ⟨nIv, [(.v 0), (.v 1)]⟩ (.need ⟨nIv, [(.l (.f 13830554455654793216)), (.l (.f 4607182418800017408))]⟩ (.done .ret ⟨[.agg [.fl (.v 2), .fl (.v 3)]], [], 5, []⟩)))) (by kernel_rfl) (by kernel_rfl) (by kernel_rfl) (fun us hl hF hB hN => ?_)
 match us, hl with
 | [u0, u1], _ =>
  simp [FactsB, FactsL, Facts, ctWithR] at hF hB
  simp [NeedsAt, runB, evs, E.ev, upto, resl, List.range, List.range.loop, ctWithR] at hN
  obtain ⟨⟨a1, rfl, wa1⟩, ⟨a2, rfl, wa2⟩⟩ := hF
  simp [nIv, gF, U.F] at hN
  refine T.HH.h ?_
  obtain ⟨t0, t1, t2, e3⟩ := Dy.ex3 (iMeet (a1, a2) (13830554455654793216, 4607182418800017408))
  refine T.hbind rfl (congrArg (fun r => [meetU r 0, meetU r 1, meetU r 2]) e3) rfl ?_
  refine T.hneed rfl (hN) ?_
  refine T.hneed rfl ((show Dy.ivR (13830554455654793216, 4607182418800017408) = true from by decide +kernel)) ?_
  refine T.hdone ?_
  have e00 : vWithin (a1, a2) = (t0, t1) := by simp only [vWithin, e3] <;> simp_all
  exact ⟨⟨(congrArg (fun r => some (ivU r 0)) e00.symm), (congrArg (fun r => some (ivU r 1)) e00.symm), trivial⟩, trivial, rfl⟩
def me3 : List (Nat × Ct) := (93, ctWithR) :: me2
theorem me3_ok : AllOk Tryz.prog me3 := ⟨ctWithR_ok, me2_ok⟩
def ctRAdd : Ct := ⟨13, [[vi .i64 0]], [.ptr 0 0, .agg [vf 1, vf 2, vf 3, vf 4, vf 5, vf 6], .agg [vf 7, vf 8, vf 9, vf 10, vf 11, vf 12]], { binds := [⟨calF2 Dy.cAdd, 3, [(.v 0), (.v 1), (.v 2), (.v 7), (.v 8)]⟩, ⟨calF2 Dy.cAdd, 3, [(.v 15), (.v 3), (.v 4), (.v 9), (.v 10)]⟩, ⟨calF2 Dy.cAdd, 3, [(.v 18), (.v 5), (.v 6), (.v 11), (.v 12)]⟩], needs := [], val := .agg [.fl (.v 13), .fl (.v 14), .fl (.v 16), .fl (.v 17), .fl (.v 19), .fl (.v 20)], upd := [(0, [.it .i64 (.v 21)])] }⟩
theorem ctRAdd_ok : CtOk Tryz.prog 97 ctRAdd := CtOk.flat me3_ok (dr_ok me3_ok) Tryz.func97 rfl (by decide) [] 200 ⟨[.agg [.fl (.v 13), .fl (.v 14), .fl (.v 16), .fl (.v 17), .fl (.v 19), .fl (.v 20)]], [some ([.it .i64 (.v 21)])], 22, [0, 0, 0]⟩ (by kernel_rfl) rfl (by kernel_rfl) rfl (by kernel_rfl) (by kernel_rfl) (by kernel_rfl) (by kernel_rfl)
def me4 : List (Nat × Ct) := (97, ctRAdd) :: me3
theorem me4_ok : AllOk Tryz.prog me4 := ⟨ctRAdd_ok, me3_ok⟩
def ctRSub : Ct := ⟨13, [[vi .i64 0]], [.ptr 0 0, .agg [vf 1, vf 2, vf 3, vf 4, vf 5, vf 6], .agg [vf 7, vf 8, vf 9, vf 10, vf 11, vf 12]], { binds := [⟨calF2 Dy.cSub, 3, [(.v 0), (.v 1), (.v 2), (.v 7), (.v 8)]⟩, ⟨calF2 Dy.cSub, 3, [(.v 15), (.v 3), (.v 4), (.v 9), (.v 10)]⟩, ⟨calF2 Dy.cSub, 3, [(.v 18), (.v 5), (.v 6), (.v 11), (.v 12)]⟩], needs := [], val := .agg [.fl (.v 13), .fl (.v 14), .fl (.v 16), .fl (.v 17), .fl (.v 19), .fl (.v 20)], upd := [(0, [.it .i64 (.v 21)])] }⟩
theorem ctRSub_ok : CtOk Tryz.prog 50 ctRSub := CtOk.flat me4_ok (dr_ok me4_ok) Tryz.func50 rfl (by decide) [] 200 ⟨[.agg [.fl (.v 13), .fl (.v 14), .fl (.v 16), .fl (.v 17), .fl (.v 19), .fl (.v 20)]], [some ([.it .i64 (.v 21)])], 22, [0, 0, 0]⟩ (by kernel_rfl) rfl (by kernel_rfl) rfl (by kernel_rfl) (by kernel_rfl) (by kernel_rfl) (by kernel_rfl)
def me5 : List (Nat × Ct) := (50, ctRSub) :: me4
theorem me5_ok : AllOk Tryz.prog me5 := ⟨ctRSub_ok, me4_ok⟩
def ctRNeg : Ct := ⟨7, [[vi .i64 0]], [.ptr 0 0, .agg [vf 1, vf 2, vf 3, vf 4, vf 5, vf 6]], { binds := [⟨calF1 Dy.cNeg, 3, [(.v 0), (.v 1), (.v 2)]⟩, ⟨calF1 Dy.cNeg, 3, [(.v 9), (.v 3), (.v 4)]⟩, ⟨calF1 Dy.cNeg, 3, [(.v 12), (.v 5), (.v 6)]⟩], needs := [], val := .agg [.fl (.v 7), .fl (.v 8), .fl (.v 10), .fl (.v 11), .fl (.v 13), .fl (.v 14)], upd := [(0, [.it .i64 (.v 15)])] }⟩
theorem ctRNeg_ok : CtOk Tryz.prog 98 ctRNeg := CtOk.flat me5_ok (dr_ok me5_ok) Tryz.func98 rfl (by decide) [] 200 ⟨[.agg [.fl (.v 7), .fl (.v 8), .fl (.v 10), .fl (.v 11), .fl (.v 13), .fl (.v 14)]], [some ([.it .i64 (.v 15)])], 16, [0, 0, 0]⟩ (by kernel_rfl) rfl (by kernel_rfl) rfl (by kernel_rfl) (by kernel_rfl) (by kernel_rfl) (by kernel_rfl)
def me6 : List (Nat × Ct) := (98, ctRNeg) :: me5
theorem me6_ok : AllOk Tryz.prog me6 := ⟨ctRNeg_ok, me5_ok⟩
def ctRScale : Ct := ⟨9, [[vi .i64 0]], [.ptr 0 0, vp 1 2, .agg [vf 3, vf 4, vf 5, vf 6, vf 7, vf 8]], { binds := [⟨calF2 Dy.cMul, 3, [(.v 0), (.v 1), (.v 2), (.v 3), (.v 4)]⟩, ⟨calF2 Dy.cMul, 3, [(.v 11), (.v 1), (.v 2), (.v 5), (.v 6)]⟩, ⟨calF2 Dy.cMul, 3, [(.v 14), (.v 1), (.v 2), (.v 7), (.v 8)]⟩], needs := [], val := .agg [.fl (.v 9), .fl (.v 10), .fl (.v 12), .fl (.v 13), .fl (.v 15), .fl (.v 16)], upd := [(0, [.it .i64 (.v 17)])] }⟩
theorem ctRScale_ok : CtOk Tryz.prog 51 ctRScale := CtOk.flat me6_ok (dr_ok me6_ok) Tryz.func51 rfl (by decide) [] 200 ⟨[.agg [.fl (.v 9), .fl (.v 10), .fl (.v 12), .fl (.v 13), .fl (.v 15), .fl (.v 16)]], [some ([.it .i64 (.v 17)])], 18, [0, 0, 0]⟩ (by kernel_rfl) rfl (by kernel_rfl) rfl (by kernel_rfl) (by kernel_rfl) (by kernel_rfl) (by kernel_rfl)
def me7 : List (Nat × Ct) := (51, ctRScale) :: me6
theorem me7_ok : AllOk Tryz.prog me7 := ⟨ctRScale_ok, me6_ok⟩
def ctRDot : Ct := ⟨13, [[vi .i64 0]], [.ptr 0 0, .agg [vf 1, vf 2, vf 3, vf 4, vf 5, vf 6], .agg [vf 7, vf 8, vf 9, vf 10, vf 11, vf 12]], { binds := [⟨calF2 Dy.cMul, 3, [(.v 0), (.v 1), (.v 2), (.v 7), (.v 8)]⟩, ⟨calF2 Dy.cMul, 3, [(.v 15), (.v 3), (.v 4), (.v 9), (.v 10)]⟩, ⟨calF2 Dy.cAdd, 3, [(.v 18), (.v 13), (.v 14), (.v 16), (.v 17)]⟩, ⟨calF2 Dy.cMul, 3, [(.v 21), (.v 5), (.v 6), (.v 11), (.v 12)]⟩, ⟨calF2 Dy.cAdd, 3, [(.v 24), (.v 19), (.v 20), (.v 22), (.v 23)]⟩], needs := [], val := .agg [.fl (.v 25), .fl (.v 26)], upd := [(0, [.it .i64 (.v 27)])] }⟩
theorem ctRDot_ok : CtOk Tryz.prog 49 ctRDot := CtOk.flat me7_ok (dr_ok me7_ok) Tryz.func49 rfl (by decide) [] 200 ⟨[.agg [.fl (.v 25), .fl (.v 26)]], [some ([.it .i64 (.v 27)])], 28, [0, 0, 0, 0, 0]⟩ (by kernel_rfl) rfl (by kernel_rfl) rfl (by kernel_rfl) (by kernel_rfl) (by kernel_rfl) (by kernel_rfl)
def me8 : List (Nat × Ct) := (49, ctRDot) :: me7
theorem me8_ok : AllOk Tryz.prog me8 := ⟨ctRDot_ok, me7_ok⟩
def ctRLess : Ct := ⟨9, [[vi .i64 0]], [.ptr 0 0, vp 1 2, vp 3 4, vp 5 6, vp 7 8], { binds := [⟨calF2 Dy.cMul, 3, [(.v 0), (.v 1), (.v 2), (.v 3), (.v 4)]⟩, ⟨calF2 Dy.cMul, 3, [(.v 11), (.v 5), (.v 6), (.v 7), (.v 8)]⟩, ⟨calF2 Dy.cSub, 3, [(.v 14), (.v 9), (.v 10), (.v 12), (.v 13)]⟩], needs := [], val := .agg [.fl (.v 15), .fl (.v 16)], upd := [(0, [.it .i64 (.v 17)])] }⟩
theorem ctRLess_ok : CtOk Tryz.prog 148 ctRLess := CtOk.flat me8_ok (dr_ok me8_ok) Tryz.func148 rfl (by decide) [] 200 ⟨[.agg [.fl (.v 15), .fl (.v 16)]], [some ([.it .i64 (.v 17)])], 18, [0, 0, 0]⟩ (by kernel_rfl) rfl (by kernel_rfl) rfl (by kernel_rfl) (by kernel_rfl) (by kernel_rfl) (by kernel_rfl)
def me9 : List (Nat × Ct) := (148, ctRLess) :: me8
theorem me9_ok : AllOk Tryz.prog me9 := ⟨ctRLess_ok, me8_ok⟩
def ctRCross : Ct := ⟨13, [[vi .i64 0]], [.ptr 0 0, .agg [vf 1, vf 2, vf 3, vf 4, vf 5, vf 6], .agg [vf 7, vf 8, vf 9, vf 10, vf 11, vf 12]], { binds := [⟨calF2 Dy.cMul, 3, [(.v 0), (.v 3), (.v 4), (.v 11), (.v 12)]⟩, ⟨calF2 Dy.cMul, 3, [(.v 15), (.v 5), (.v 6), (.v 9), (.v 10)]⟩, ⟨calF2 Dy.cSub, 3, [(.v 18), (.v 13), (.v 14), (.v 16), (.v 17)]⟩, ⟨calF2 Dy.cMul, 3, [(.v 21), (.v 5), (.v 6), (.v 7), (.v 8)]⟩, ⟨calF2 Dy.cMul, 3, [(.v 24), (.v 1), (.v 2), (.v 11), (.v 12)]⟩, ⟨calF2 Dy.cSub, 3, [(.v 27), (.v 22), (.v 23), (.v 25), (.v 26)]⟩, ⟨calF2 Dy.cMul, 3, [(.v 30), (.v 1), (.v 2), (.v 9), (.v 10)]⟩, ⟨calF2 Dy.cMul, 3, [(.v 33), (.v 3), (.v 4), (.v 7), (.v 8)]⟩, ⟨calF2 Dy.cSub, 3, [(.v 36), (.v 31), (.v 32), (.v 34), (.v 35)]⟩], needs := [], val := .agg [.fl (.v 19), .fl (.v 20), .fl (.v 28), .fl (.v 29), .fl (.v 37), .fl (.v 38)], upd := [(0, [.it .i64 (.v 39)])] }⟩
theorem ctRCross_ok : CtOk Tryz.prog 99 ctRCross := CtOk.flat me9_ok (dr_ok me9_ok) Tryz.func99 rfl (by decide) [] 200 ⟨[.agg [.fl (.v 19), .fl (.v 20), .fl (.v 28), .fl (.v 29), .fl (.v 37), .fl (.v 38)]], [some ([.it .i64 (.v 39)])], 40, [0, 0, 0]⟩ (by kernel_rfl) rfl (by kernel_rfl) rfl (by kernel_rfl) (by kernel_rfl) (by kernel_rfl) (by kernel_rfl)
def me10 : List (Nat × Ct) := (99, ctRCross) :: me9
theorem me10_ok : AllOk Tryz.prog me10 := ⟨ctRCross_ok, me9_ok⟩
def ctRNorm : Ct := ⟨7, [[vi .i64 0]], [.ptr 0 0, .agg [vf 1, vf 2, vf 3, vf 4, vf 5, vf 6]], { binds := [⟨calF1 Dy.cSqr, 3, [(.v 0), (.v 1), (.v 2)]⟩, ⟨calF1 Dy.cSqr, 3, [(.v 9), (.v 3), (.v 4)]⟩, ⟨calF2 Dy.cAdd, 3, [(.v 12), (.v 7), (.v 8), (.v 10), (.v 11)]⟩, ⟨calF1 Dy.cSqr, 3, [(.v 15), (.v 5), (.v 6)]⟩, ⟨calF2 Dy.cAdd, 3, [(.v 18), (.v 13), (.v 14), (.v 16), (.v 17)]⟩, ⟨calF1 Dy.cSqrt, 3, [(.v 21), (.v 19), (.v 20)]⟩], needs := [], val := .agg [.fl (.v 22), .fl (.v 23)], upd := [(0, [.it .i64 (.v 24)])] }⟩
theorem ctRNorm_ok : CtOk Tryz.prog 92 ctRNorm := CtOk.flat me10_ok (dr_ok me10_ok) Tryz.func92 rfl (by decide) [] 200 ⟨[.agg [.fl (.v 22), .fl (.v 23)]], [some ([.it .i64 (.v 24)])], 25, [0, 0, 0, 0, 0, 0]⟩ (by kernel_rfl) rfl (by kernel_rfl) rfl (by kernel_rfl) (by kernel_rfl) (by kernel_rfl) (by kernel_rfl)
def me11 : List (Nat × Ct) := (92, ctRNorm) :: me10
theorem me11_ok : AllOk Tryz.prog me11 := ⟨ctRNorm_ok, me10_ok⟩
def ctUnitRT : Ct := ⟨3, [], [.agg [vf 0, vf 1, vf 2]], { binds := [⟨fun us i => vecU ((unitRR (gF us 0) (gF us 1) (gF us 2))) i, 7, upto 0 3⟩], needs := [], val := .tup [.agg [vf 3, vf 4, vf 5, vf 6, vf 7, vf 8], vi .i64 9], upd := [] }⟩
set_option maxRecDepth 100000 in
set_option maxHeartbeats 8000000 in
theorem ctUnitRT_ok : CtOk Tryz.prog 34 ctUnitRT := by
 refine CtOk.of_eval2 me11_ok (dr_ok me11_ok) Tryz.func34 rfl (by decide) [] 200 (by kernel_rfl) rfl (.bind ⟨fun us i => bRes (rrT (gF us 0)) i, 1, [(.v 0)]⟩ (.bind ⟨fun us _ => nB us, 1, [(.v 3)]⟩ (.ite (.v 4) (.done .ret ⟨[.tup [.agg [.fl (.l (.f 0)), .fl (.l (.f 0)), .fl (.l (.f 0)), .fl (.l (.f 0)), .fl (.l (.f 0)), .fl (.l (.f 0))], .it .i64 (.l (.i 50))]], [], 5, []⟩) (.bind ⟨fun us i => bRes (rrT (gF us 0)) i, 1, [(.v 1)]⟩ (.bind ⟨fun us _ => nB us, 1, [(.v 5)]⟩ (.ite (.v 6) (.done .ret ⟨[.tup [.agg [.fl (.l (.f 0)), .fl (.l (.f 0)), .fl (.l (.f 0)), .fl (.l (.f 0)), .fl (.l (.f 0)), .fl (.l (.f 0))], .it .i64 (.l (.i 50))]], [], 7, []⟩) (.bind ⟨fun us i => bRes (rrT (gF us 0)) i, 1, [(.v 2)]⟩ (.bind ⟨fun us _ => nB us, 1, [(.v 7)]⟩ (.ite (.v 8) (.done .ret ⟨[.tup [.agg [.fl (.l (.f 0)), .fl (.l (.f 0)), .fl (.l (.f 0)), .fl (.l (.f 0)), .fl (.l (.f 0)), .fl (.l (.f 0))], .it .i64 (.l (.i 50))]], [], 9, []⟩) (.bind ⟨fun us _ => .f (Dy.abs (gF us 0)), 1, [(.v 0)]⟩ (.bind ⟨fun us _ => .f (Dy.abs (gF us 0)), 1, [(.v 1)]⟩ (.bind ⟨fun us _ => cB Dy.fgt us, 1, [(.v 10), (.v 9)]⟩ (.ite (.v 11) (.bind ⟨fun us _ => .f (Dy.abs (gF us 0)), 1, [(.v 1)]⟩ (.bind ⟨fun us _ => .f (Dy.abs (gF us 0)), 1, [(.v 2)]⟩ (.bind ⟨fun us _ => cB Dy.fgt us, 1, [(.v 13), (.v 12)]⟩ (.ite (.v 14) (.bind ⟨fun us _ => .f (Dy.abs (gF us 0)), 1, [(.v 2)]⟩ (.bind ⟨fun us _ => .f (Dy.ldx (gF us 0) (gI us 1)), 1, [(.l (.f 4607182418800017408)), (.l (.i (-64)))]⟩ (.need ⟨nLdx, [(.l (.i (-64)))]⟩ (.bind ⟨fun us _ => cB Dy.flt us, 1, [(.v 15), (.v 16)]⟩ (.ite (.v 17) (.done .ret ⟨[.tup [.agg [.fl (.l (.f 0)), .fl (.l (.f 0)), .fl (.l (.f 0)), .fl (.l (.f 0)), .fl (.l (.f 0)), .fl (.l (.f 0))], .it .i64 (.l (.i 50))]], [], 18, []⟩) (.bind ⟨fun us _ => .f (Dy.ldx (gF us 0) (gI us 1)), 1, [(.l (.f 4607182418800017408)), (.l (.i 64))]⟩ (.need ⟨nLdx, [(.l (.i 64))]⟩ (.bind ⟨fun us _ => cB Dy.fgt us, 1, [(.v 15), (.v 18)]⟩ (.ite (.v 19) (.done .ret ⟨[.tup [.agg [.fl (.l (.f 0)), .fl (.l (.f 0)), .fl (.l (.f 0)), .fl (.l (.f 0)), .fl (.l (.f 0)), .fl (.l (.f 0))], .it .i64 (.l (.i 50))]], [], 20, []⟩) (.bind ⟨calF0 Dy.cNum, 3, [(.l (.i 0)), (.v 0)]⟩ (.bind ⟨calF0 Dy.cNum, 3, [(.v 22), (.v 1)]⟩ (.bind ⟨calF0 Dy.cNum, 3, [(.v 25), (.v 2)]⟩ (.bind ⟨calF1 Dy.cSqr, 3, [(.v 28), (.v 20), (.v 21)]⟩ (.bind ⟨calF1 Dy.cSqr, 3, [(.v 31), (.v 23), (.v 24)]⟩ (.bind ⟨calF2 Dy.cAdd, 3, [(.v 34), (.v 29), (.v 30), (.v 32), (.v 33)]⟩ (.bind ⟨calF1 Dy.cSqr, 3, [(.v 37), (.v 26), (.v 27)]⟩ (.bind ⟨calF2 Dy.cAdd, 3, [(.v 40), (.v 35), (.v 36), (.v 38), (.v 39)]⟩ (.bind ⟨calF1 Dy.cSqrt, 3, [(.v 43), (.v 41), (.v 42)]⟩ (.bind ⟨calF2 Dy.cDiv, 3, [(.v 46), (.v 20), (.v 21), (.v 44), (.v 45)]⟩ (.bind ⟨fun us i => ivU (vWithin (gF us 0, gF us 1)) i, 2, [(.v 47), (.v 48)]⟩ (.need ⟨nIv, [(.v 47), (.v 48)]⟩ (.bind ⟨calF2 Dy.cDiv, 3, [(.v 49), (.v 23), (.v 24), (.v 44), (.v 45)]⟩ (.bind ⟨fun us i => ivU (vWithin (gF us 0, gF us 1)) i, 2, [(.v 52), (.v 53)]⟩ (.need ⟨nIv, [(.v 52), (.v 53)]⟩ (.bind ⟨calF2 Dy.cDiv, 3, [(.v 54), (.v 26), (.v 27), (.v 44), (.v 45)]⟩ (.bind ⟨fun us i => ivU (vWithin (gF us 0, gF us 1)) i, 2, [(.v 57), (.v 58)]⟩ (.need ⟨nIv, [(.v 57), (.v 58)]⟩ (.done .ret ⟨[.tup [.agg [.fl (.v 50), .fl (.v 51), .fl (.v 55), .fl (.v 56), .fl (.v 60), .fl (.v 61)], .it .i64 (.l (.i 0))]], [], 62, []⟩)))))))))))))))))))))))))))) (.bind ⟨fun us _ => .f (Dy.ldx (gF us 0) (gI us 1)), 1, [(.l (.f 4607182418800017408)), (.l (.i (-64)))]⟩ (.need ⟨nLdx, [(.l (.i (-64)))]⟩ (.bind ⟨fun us _ => cB Dy.flt us, 1, [(.v 12), (.v 15)]⟩ (.ite (.v 16) (.done .ret ⟨[.tup [.agg [.fl (.l (.f 0)), .fl (.l (.f 0)), .fl (.l (.f 0)), .fl (.l (.f 0)), .fl (.l (.f 0)), .fl (.l (.f 0))], .it .i64 (.l (.i 50))]], [], 17, []⟩) (.bind ⟨fun us _ => .f (Dy.ldx (gF us 0) (gI us 1)), 1, [(.l (.f 4607182418800017408)), (.l (.i 64))]⟩ (.need ⟨nLdx, [(.l (.i 64))]⟩ (.bind ⟨fun us _ => cB Dy.fgt us, 1, [(.v 12), (.v 17)]⟩ (.ite (.v 18) (.done .ret ⟨[.tup [.agg [.fl (.l (.f 0)), .fl (.l (.f 0)), .fl (.l (.f 0)), .fl (.l (.f 0)), .fl (.l (.f 0)), .fl (.l (.f 0))], .it .i64 (.l (.i 50))]], [], 19, []⟩) (.bind ⟨calF0 Dy.cNum, 3, [(.l (.i 0)), (.v 0)]⟩ (.bind ⟨calF0 Dy.cNum, 3, [(.v 21), (.v 1)]⟩ (.bind ⟨calF0 Dy.cNum, 3, [(.v 24), (.v 2)]⟩ (.bind ⟨calF1 Dy.cSqr, 3, [(.v 27), (.v 19), (.v 20)]⟩ (.bind ⟨calF1 Dy.cSqr, 3, [(.v 30), (.v 22), (.v 23)]⟩ (.bind ⟨calF2 Dy.cAdd, 3, [(.v 33), (.v 28), (.v 29), (.v 31), (.v 32)]⟩ (.bind ⟨calF1 Dy.cSqr, 3, [(.v 36), (.v 25), (.v 26)]⟩ (.bind ⟨calF2 Dy.cAdd, 3, [(.v 39), (.v 34), (.v 35), (.v 37), (.v 38)]⟩ (.bind ⟨calF1 Dy.cSqrt, 3, [(.v 42), (.v 40), (.v 41)]⟩ (.bind ⟨calF2 Dy.cDiv, 3, [(.v 45), (.v 19), (.v 20), (.v 43), (.v 44)]⟩ (.bind ⟨fun us i => ivU (vWithin (gF us 0, gF us 1)) i, 2, [(.v 46), (.v 47)]⟩ (.need ⟨nIv, [(.v 46), (.v 47)]⟩ (.bind ⟨calF2 Dy.cDiv, 3, [(.v 48), (.v 22), (.v 23), (.v 43), (.v 44)]⟩ (.bind ⟨fun us i => ivU (vWithin (gF us 0, gF us 1)) i, 2, [(.v 51), (.v 52)]⟩ (.need ⟨nIv, [(.v 51), (.v 52)]⟩ (.bind ⟨calF2 Dy.cDiv, 3, [(.v 53), (.v 25), (.v 26), (.v 43), (.v 44)]⟩ (.bind ⟨fun us i => ivU (vWithin (gF us 0, gF us 1)) i, 2, [(.v 56), (.v 57)]⟩ (.need ⟨nIv, [(.v 56), (.v 57)]⟩ (.done .ret ⟨[.tup [.agg [.fl (.v 49), .fl (.v 50), .fl (.v 54), .fl (.v 55), .fl (.v 59), .fl (.v 60)], .it .i64 (.l (.i 0))]], [], 61, []⟩))))))))))))))))))))))))))))))) (.bind ⟨fun us _ => .f (Dy.abs (gF us 0)), 1, [(.v 2)]⟩ (.bind ⟨fun us _ => cB Dy.fgt us, 1, [(.v 12), (.v 9)]⟩ (.ite (.v 13) (.bind ⟨fun us _ => .f (Dy.abs (gF us 0)), 1, [(.v 2)]⟩ (.bind ⟨fun us _ => .f (Dy.ldx (gF us 0) (gI us 1)), 1, [(.l (.f 4607182418800017408)), (.l (.i (-64)))]⟩ (.need ⟨nLdx, [(.l (.i (-64)))]⟩ (.bind ⟨fun us _ => cB Dy.flt us, 1, [(.v 14), (.v 15)]⟩ (.ite (.v 16) (.done .ret ⟨[.tup [.agg [.fl (.l (.f 0)), .fl (.l (.f 0)), .fl (.l (.f 0)), .fl (.l (.f 0)), .fl (.l (.f 0)), .fl (.l (.f 0))], .it .i64 (.l (.i 50))]], [], 17, []⟩) (.bind ⟨fun us _ => .f (Dy.ldx (gF us 0) (gI us 1)), 1, [(.l (.f 4607182418800017408)), (.l (.i 64))]⟩ (.need ⟨nLdx, [(.l (.i 64))]⟩ (.bind ⟨fun us _ => cB Dy.fgt us, 1, [(.v 14), (.v 17)]⟩ (.ite (.v 18) (.done .ret ⟨[.tup [.agg [.fl (.l (.f 0)), .fl (.l (.f 0)), .fl (.l (.f 0)), .fl (.l (.f 0)), .fl (.l (.f 0)), .fl (.l (.f 0))], .it .i64 (.l (.i 50))]], [], 19, []⟩) (.bind ⟨calF0 Dy.cNum, 3, [(.l (.i 0)), (.v 0)]⟩ (.bind ⟨calF0 Dy.cNum, 3, [(.v 21), (.v 1)]⟩ (.bind ⟨calF0 Dy.cNum, 3, [(.v 24), (.v 2)]⟩ (.bind ⟨calF1 Dy.cSqr, 3, [(.v 27), (.v 19), (.v 20)]⟩ (.bind ⟨calF1 Dy.cSqr, 3, [(.v 30), (.v 22), (.v 23)]⟩ (.bind ⟨calF2 Dy.cAdd, 3, [(.v 33), (.v 28), (.v 29), (.v 31), (.v 32)]⟩ (.bind ⟨calF1 Dy.cSqr, 3, [(.v 36), (.v 25), (.v 26)]⟩ (.bind ⟨calF2 Dy.cAdd, 3, [(.v 39), (.v 34), (.v 35), (.v 37), (.v 38)]⟩ (.bind ⟨calF1 Dy.cSqrt, 3, [(.v 42), (.v 40), (.v 41)]⟩ (.bind ⟨calF2 Dy.cDiv, 3, [(.v 45), (.v 19), (.v 20), (.v 43), (.v 44)]⟩ (.bind ⟨fun us i => ivU (vWithin (gF us 0, gF us 1)) i, 2, [(.v 46), (.v 47)]⟩ (.need ⟨nIv, [(.v 46), (.v 47)]⟩ (.bind ⟨calF2 Dy.cDiv, 3, [(.v 48), (.v 22), (.v 23), (.v 43), (.v 44)]⟩ (.bind ⟨fun us i => ivU (vWithin (gF us 0, gF us 1)) i, 2, [(.v 51), (.v 52)]⟩ (.need ⟨nIv, [(.v 51), (.v 52)]⟩ (.bind ⟨calF2 Dy.cDiv, 3, [(.v 53), (.v 25), (.v 26), (.v 43), (.v 44)]⟩ (.bind ⟨fun us i => ivU (vWithin (gF us 0, gF us 1)) i, 2, [(.v 56), (.v 57)]⟩ (.need ⟨nIv, [(.v 56), (.v 57)]⟩ (.done .ret ⟨[.tup [.agg [.fl (.v 49), .fl (.v 50), .fl (.v 54), .fl (.v 55), .fl (.v 59), .fl (.v 60)], .it .i64 (.l (.i 0))]], [], 61, []⟩)))))))))))))))))))))))))))) (.bind ⟨fun us _ => .f (Dy.ldx (gF us 0) (gI us 1)), 1, [(.l (.f 4607182418800017408)), (.l (.i (-64)))]⟩ (.need ⟨nLdx, [(.l (.i (-64)))]⟩ (.bind ⟨fun us _ => cB Dy.flt us, 1, [(.v 9), (.v 14)]⟩ (.ite (.v 15) (.done .ret ⟨[.tup [.agg [.fl (.l (.f 0)), .fl (.l (.f 0)), .fl (.l (.f 0)), .fl (.l (.f 0)), .fl (.l (.f 0)), .fl (.l (.f 0))], .it .i64 (.l (.i 50))]], [], 16, []⟩) (.bind ⟨fun us _ => .f (Dy.ldx (gF us 0) (gI us 1)), 1, [(.l (.f 4607182418800017408)), (.l (.i 64))]⟩ (.need ⟨nLdx, [(.l (.i 64))]⟩ (.bind ⟨fun us _ => cB Dy.fgt us, 1, [(.v 9), (.v 16)]⟩ (.ite (.v 17) (.done .ret ⟨[.tup [.agg [.fl (.l (.f 0)), .fl (.l (.f 0)), .fl (.l (.f 0)), .fl (.l (.f 0)), .fl (.l (.f 0)), .fl (.l (.f 0))], .it .i64 (.l (.i 50))]], [], 18, []⟩) (.bind ⟨calF0 Dy.cNum, 3, [(.l (.i 0)), (.v 0)]⟩ (.bind ⟨calF0 Dy.cNum, 3, [(.v 20), (.v 1)]⟩ (.bind ⟨calF0 Dy.cNum, 3, [(.v 23), (.v 2)]⟩ (.bind ⟨calF1 Dy.cSqr, 3, [(.v 26), (.v 18), (.v 19)]⟩ (.bind ⟨calF1 Dy.cSqr, 3, [(.v 29), (.v 21), (.v 22)]⟩ (.bind ⟨calF2 Dy.cAdd, 3, [(.v 32), (.v 27), (.v 28), (.v 30), (.v 31)]⟩ (.bind ⟨calF1 Dy.cSqr, 3, [(.v 35), (.v 24), (.v 25)]⟩ (.bind ⟨calF2 Dy.cAdd, 3, [(.v 38), (.v 33), (.v 34), (.v 36), (.v 37)]⟩ (.bind ⟨calF1 Dy.cSqrt, 3, [(.v 41), (.v 39), (.v 40)]⟩ (.bind ⟨calF2 Dy.cDiv, 3, [(.v 44), (.v 18), (.v 19), (.v 42), (.v 43)]⟩ (.bind ⟨fun us i => ivU (vWithin (gF us 0, gF us 1)) i, 2, [(.v 45), (.v 46)]⟩ (.need ⟨nIv, [(.v 45), (.v 46)]⟩ (.bind ⟨calF2 Dy.cDiv, 3, [(.v 47), (.v 21), (.v 22), (.v 42), (.v 43)]⟩ (.bind ⟨fun us i => ivU (vWithin (gF us 0, gF us 1)) i, 2, [(.v 50), (.v 51)]⟩ (.need ⟨nIv, [(.v 50), (.v 51)]⟩ (.bind ⟨calF2 Dy.cDiv, 3, [(.v 52), (.v 24), (.v 25), (.v 42), (.v 43)]⟩ (.bind ⟨fun us i => ivU (vWithin (gF us 0, gF us 1)) i, 2, [(.v 55), (.v 56)]⟩ (.need ⟨nIv, [(.v 55), (.v 56)]⟩ (.done .ret ⟨[.tup [.agg [.fl (.v 48), .fl (.v 49), .fl (.v 53), .fl (.v 54), .fl (.v 58), .fl (.v 59)], .it .i64 (.l (.i 0))]], [], 60, []⟩))))))))))))))))))))))))))))))))))))))))))) (by kernel_rfl) (by kernel_rfl) (by kernel_rfl) (fun us hl hF hB hN => ?_)
 match us, hl with
 | [u0, u1, u2], _ =>
  simp [FactsB, FactsL, Facts, ctUnitRT] at hF hB
  simp [NeedsAt, runB, evs, E.ev, upto, resl, List.range, List.range.loop, ctUnitRT] at hN
  obtain ⟨⟨a, rfl, wa⟩, ⟨b, rfl, wb⟩, ⟨c, rfl, wc⟩⟩ := hF
  refine T.HH.h ?_
  obtain ⟨t0, e1⟩ : ∃ t0, ((rrT (a))) = t0 := ⟨_, rfl⟩
  refine T.hbind rfl (congrArg (fun r => [U.b r]) e1) rfl ?_
  obtain ⟨t2, e3⟩ : ∃ t2, (!t0) = t2 := ⟨_, rfl⟩
  refine T.hbind rfl (congrArg (fun r => [U.b r]) e3) rfl ?_
  refine T.hite (x := t2) ?_ ?_ ?_
  ·rfl
  ·intro c5
   refine T.hdone ?_
   have e00 : (unitRR (a) (b) (c)) = (((0, 0), (0, 0), (0, 0)), 50) := by simp only [unitRR, unitR, mostT, e1, e3, c5] <;> simp_all
   exact ⟨⟨⟨(congrArg (fun r => some (vecU r 0)) e00.symm), (congrArg (fun r => some (vecU r 1)) e00.symm), (congrArg (fun r => some (vecU r 2)) e00.symm), (congrArg (fun r => some (vecU r 3)) e00.symm), (congrArg (fun r => some (vecU r 4)) e00.symm), (congrArg (fun r => some (vecU r 5)) e00.symm), trivial⟩, ⟨rfl, (congrArg (fun r => some (vecU r 6)) e00.symm)⟩, trivial⟩, trivial, rfl⟩
  ·intro c5
   obtain ⟨t5, e6⟩ : ∃ t5, ((rrT (b))) = t5 := ⟨_, rfl⟩
   refine T.hbind rfl (congrArg (fun r => [U.b r]) e6) rfl ?_
   obtain ⟨t7, e8⟩ : ∃ t7, (!t5) = t7 := ⟨_, rfl⟩
   refine T.hbind (ρ' := [.f a, .f b, .f c, .b t0, .b t2, .b t5, .b t7]) rfl (congrArg (fun r => [U.b r]) e8) rfl ?_
   refine T.hite (x := t7) ?_ ?_ ?_
   ·rfl
   ·intro c10
    refine T.hdone ?_
    have e00 : (unitRR (a) (b) (c)) = (((0, 0), (0, 0), (0, 0)), 50) := by simp only [unitRR, unitR, mostT, e1, e3, c5, e6, e8, c10] <;> simp_all
    exact ⟨⟨⟨(congrArg (fun r => some (vecU r 0)) e00.symm), (congrArg (fun r => some (vecU r 1)) e00.symm), (congrArg (fun r => some (vecU r 2)) e00.symm), (congrArg (fun r => some (vecU r 3)) e00.symm), (congrArg (fun r => some (vecU r 4)) e00.symm), (congrArg (fun r => some (vecU r 5)) e00.symm), trivial⟩, ⟨rfl, (congrArg (fun r => some (vecU r 6)) e00.symm)⟩, trivial⟩, trivial, rfl⟩
   ·intro c10
    obtain ⟨t10, e11⟩ : ∃ t10, ((rrT (c))) = t10 := ⟨_, rfl⟩
    refine T.hbind rfl (congrArg (fun r => [U.b r]) e11) rfl ?_
    obtain ⟨t12, e13⟩ : ∃ t12, (!t10) = t12 := ⟨_, rfl⟩
    refine T.hbind rfl (congrArg (fun r => [U.b r]) e13) rfl ?_
    refine T.hite (x := t12) ?_ ?_ ?_
    ·rfl
    ·intro c15
     refine T.hdone ?_
     have e00 : (unitRR (a) (b) (c)) = (((0, 0), (0, 0), (0, 0)), 50) := by simp only [unitRR, unitR, mostT, e1, e3, c5, e6, e8, c10, e11, e13, c15] <;> simp_all
     exact ⟨⟨⟨(congrArg (fun r => some (vecU r 0)) e00.symm), (congrArg (fun r => some (vecU r 1)) e00.symm), (congrArg (fun r => some (vecU r 2)) e00.symm), (congrArg (fun r => some (vecU r 3)) e00.symm), (congrArg (fun r => some (vecU r 4)) e00.symm), (congrArg (fun r => some (vecU r 5)) e00.symm), trivial⟩, ⟨rfl, (congrArg (fun r => some (vecU r 6)) e00.symm)⟩, trivial⟩, trivial, rfl⟩
    ·intro c15
     obtain ⟨t15, e16⟩ : ∃ t15, ((Dy.abs (a))) = t15 := ⟨_, rfl⟩
     have ra : Dy.right a = true := (rrT_right wa).symm.trans (by simp_all)
     have ab16 : Dy.W t15 ∧ Dy.right t15 = true := by rw [← e16]; exact ⟨Dy.W_abs _, Dy.right_abs ra⟩
     refine T.hbind rfl (congrArg (fun r => [U.f r]) e16) rfl ?_
     obtain ⟨t17, e18⟩ : ∃ t17, ((Dy.abs (b))) = t17 := ⟨_, rfl⟩
     have rb : Dy.right b = true := (rrT_right wb).symm.trans (by simp_all)
     have ab18 : Dy.W t17 ∧ Dy.right t17 = true := by rw [← e18]; exact ⟨Dy.W_abs _, Dy.right_abs rb⟩
     refine T.hbind rfl (congrArg (fun r => [U.f r]) e18) rfl ?_
     obtain ⟨t19, e20⟩ : ∃ t19, (Dy.fgt t17 t15) = t19 := ⟨_, rfl⟩
     refine T.hbind rfl (congrArg (fun r => [U.b r]) e20) rfl ?_
     refine T.hite (x := t19) ?_ ?_ ?_
     ·rfl
     ·intro c22
      refine T.hbind rfl (congrArg (fun r => [U.f r]) e18) rfl ?_
      obtain ⟨t22, e23⟩ : ∃ t22, ((Dy.abs (c))) = t22 := ⟨_, rfl⟩
      have rc : Dy.right c = true := (rrT_right wc).symm.trans (by simp_all)
      have ab23 : Dy.W t22 ∧ Dy.right t22 = true := by rw [← e23]; exact ⟨Dy.W_abs _, Dy.right_abs rc⟩
      refine T.hbind rfl (congrArg (fun r => [U.f r]) e23) rfl ?_
      obtain ⟨t24, e25⟩ : ∃ t24, (Dy.fgt t22 t17) = t24 := ⟨_, rfl⟩
      refine T.hbind (ρ' := [.f a, .f b, .f c, .b t0, .b t2, .b t5, .b t7, .b t10, .b t12, .f t15, .f t17, .b t19, .f t17, .f t22, .b t24]) rfl (congrArg (fun r => [U.b r]) e25) rfl ?_
      refine T.hite (x := t24) ?_ ?_ ?_
      ·rfl
      ·intro c27
       refine T.hbind rfl (congrArg (fun r => [U.f r]) e23) rfl ?_
       obtain ⟨t27, e28⟩ : ∃ t27, ((Dy.ldx (4607182418800017408) ((-64)))) = t27 := ⟨_, rfl⟩
       refine T.hbind rfl (congrArg (fun r => [U.f r]) e28) rfl ?_
       refine T.hneed rfl ((by decide)) ?_
       obtain ⟨t29, e30⟩ : ∃ t29, (Dy.flt t22 t27) = t29 := ⟨_, rfl⟩
       refine T.hbind rfl (congrArg (fun r => [U.b r]) e30) rfl ?_
       refine T.hite (x := t29) ?_ ?_ ?_
       ·rfl
       ·intro c32
        refine T.hdone ?_
        have e00 : (unitRR (a) (b) (c)) = (((0, 0), (0, 0), (0, 0)), 50) := by simp only [unitRR, unitR, mostT, e1, e3, c5, e6, e8, c10, e11, e13, c15, e16, e18, e20, c22, e23, e25, c27, e28, e30, c32] <;> simp_all
        exact ⟨⟨⟨(congrArg (fun r => some (vecU r 0)) e00.symm), (congrArg (fun r => some (vecU r 1)) e00.symm), (congrArg (fun r => some (vecU r 2)) e00.symm), (congrArg (fun r => some (vecU r 3)) e00.symm), (congrArg (fun r => some (vecU r 4)) e00.symm), (congrArg (fun r => some (vecU r 5)) e00.symm), trivial⟩, ⟨rfl, (congrArg (fun r => some (vecU r 6)) e00.symm)⟩, trivial⟩, trivial, rfl⟩
       ·intro c32
        obtain ⟨t32, e33⟩ : ∃ t32, ((Dy.ldx (4607182418800017408) (64))) = t32 := ⟨_, rfl⟩
        refine T.hbind rfl (congrArg (fun r => [U.f r]) e33) rfl ?_
        refine T.hneed rfl ((by decide)) ?_
        obtain ⟨t34, e35⟩ : ∃ t34, (Dy.fgt t22 t32) = t34 := ⟨_, rfl⟩
        refine T.hbind rfl (congrArg (fun r => [U.b r]) e35) rfl ?_
        refine T.hite (x := t34) ?_ ?_ ?_
        ·rfl
        ·intro c37
         refine T.hdone ?_
         have e00 : (unitRR (a) (b) (c)) = (((0, 0), (0, 0), (0, 0)), 50) := by simp only [unitRR, unitR, mostT, e1, e3, c5, e6, e8, c10, e11, e13, c15, e16, e18, e20, c22, e23, e25, c27, e28, e30, c32, e33, e35, c37] <;> simp_all
         exact ⟨⟨⟨(congrArg (fun r => some (vecU r 0)) e00.symm), (congrArg (fun r => some (vecU r 1)) e00.symm), (congrArg (fun r => some (vecU r 2)) e00.symm), (congrArg (fun r => some (vecU r 3)) e00.symm), (congrArg (fun r => some (vecU r 4)) e00.symm), (congrArg (fun r => some (vecU r 5)) e00.symm), trivial⟩, ⟨rfl, (congrArg (fun r => some (vecU r 6)) e00.symm)⟩, trivial⟩, trivial, rfl⟩
        ·intro c37
         obtain ⟨t37, t38, t39, e40⟩ := Dy.ex3 (Dy.cNum 0 a)
         refine T.hbind rfl (congrArg (fun r => [calR r 0, calR r 1, calR r 2]) e40) rfl ?_
         obtain ⟨t41, t42, t43, e44⟩ := Dy.ex3 (Dy.cNum t39 b)
         refine T.hbind rfl (congrArg (fun r => [calR r 0, calR r 1, calR r 2]) e44) rfl ?_
         obtain ⟨t45, t46, t47, e48⟩ := Dy.ex3 (Dy.cNum t43 c)
         refine T.hbind (ρ' := [.f a, .f b, .f c, .b t0, .b t2, .b t5, .b t7, .b t10, .b t12, .f t15, .f t17, .b t19, .f t17, .f t22, .b t24, .f t22, .f t27, .b t29, .f t32, .b t34, .f t37, .f t38, .i t39, .f t41, .f t42, .i t43, .f t45, .f t46, .i t47]) rfl (congrArg (fun r => [calR r 0, calR r 1, calR r 2]) e48) rfl ?_
         obtain ⟨t49, t50, t51, e52⟩ := Dy.ex3 (Dy.cSqr t47 (t37, t38))
         refine T.hbind rfl (congrArg (fun r => [calR r 0, calR r 1, calR r 2]) e52) rfl ?_
         obtain ⟨t53, t54, t55, e56⟩ := Dy.ex3 (Dy.cSqr t51 (t41, t42))
         refine T.hbind rfl (congrArg (fun r => [calR r 0, calR r 1, calR r 2]) e56) rfl ?_
         obtain ⟨t57, t58, t59, e60⟩ := Dy.ex3 (Dy.cAdd t55 (t49, t50) (t53, t54))
         refine T.hbind rfl (congrArg (fun r => [calR r 0, calR r 1, calR r 2]) e60) rfl ?_
         obtain ⟨t61, t62, t63, e64⟩ := Dy.ex3 (Dy.cSqr t59 (t45, t46))
         refine T.hbind rfl (congrArg (fun r => [calR r 0, calR r 1, calR r 2]) e64) rfl ?_
         obtain ⟨t65, t66, t67, e68⟩ := Dy.ex3 (Dy.cAdd t63 (t57, t58) (t61, t62))
         have g68 := Dy.good_add (a := (t57, t58)) (b := (t61, t62)) (err := t63)
         rw [e68] at g68
         refine T.hbind rfl (congrArg (fun r => [calR r 0, calR r 1, calR r 2]) e68) rfl ?_
         obtain ⟨t69, t70, t71, e72⟩ := Dy.ex3 (Dy.cSqrt t67 (t65, t66))
         have g72 := Dy.good_sqrt (a := (t65, t66)) ⟨g68.1.1, g68.1.2⟩ (err := t67)
         rw [e72] at g72
         refine T.hbind rfl (congrArg (fun r => [calR r 0, calR r 1, calR r 2]) e72) rfl ?_
         obtain ⟨t73, t74, t75, e76⟩ := Dy.ex3 (Dy.cDiv t71 (t37, t38) (t69, t70))
         have g76 := Dy.good_div (a := (t37, t38)) (b := (t69, t70)) ⟨g72.1.1, g72.1.2⟩ (err := t71)
         rw [e76] at g76
         refine T.hbind rfl (congrArg (fun r => [calR r 0, calR r 1, calR r 2]) e76) rfl ?_
         obtain ⟨t77, t78, e79⟩ := Dy.ex2 (vWithin (t73, t74))
         refine T.hbind (ρ' := [.f a, .f b, .f c, .b t0, .b t2, .b t5, .b t7, .b t10, .b t12, .f t15, .f t17, .b t19, .f t17, .f t22, .b t24, .f t22, .f t27, .b t29, .f t32, .b t34, .f t37, .f t38, .i t39, .f t41, .f t42, .i t43, .f t45, .f t46, .i t47, .f t49, .f t50, .i t51, .f t53, .f t54, .i t55, .f t57, .f t58, .i t59, .f t61, .f t62, .i t63, .f t65, .f t66, .i t67, .f t69, .f t70, .i t71, .f t73, .f t74, .i t75, .f t77, .f t78]) rfl (congrArg (fun r => [ivU r 0, ivU r 1]) e79) rfl ?_
         refine T.hneed rfl (g76.2) ?_
         obtain ⟨t80, t81, t82, e83⟩ := Dy.ex3 (Dy.cDiv t75 (t41, t42) (t69, t70))
         have g83 := Dy.good_div (a := (t41, t42)) (b := (t69, t70)) ⟨g72.1.1, g72.1.2⟩ (err := t75)
         rw [e83] at g83
         refine T.hbind rfl (congrArg (fun r => [calR r 0, calR r 1, calR r 2]) e83) rfl ?_
         obtain ⟨t84, t85, e86⟩ := Dy.ex2 (vWithin (t80, t81))
         refine T.hbind rfl (congrArg (fun r => [ivU r 0, ivU r 1]) e86) rfl ?_
         refine T.hneed rfl (g83.2) ?_
         obtain ⟨t87, t88, t89, e90⟩ := Dy.ex3 (Dy.cDiv t82 (t45, t46) (t69, t70))
         have g90 := Dy.good_div (a := (t45, t46)) (b := (t69, t70)) ⟨g72.1.1, g72.1.2⟩ (err := t82)
         rw [e90] at g90
         refine T.hbind rfl (congrArg (fun r => [calR r 0, calR r 1, calR r 2]) e90) rfl ?_
         obtain ⟨t91, t92, e93⟩ := Dy.ex2 (vWithin (t87, t88))
         refine T.hbind rfl (congrArg (fun r => [ivU r 0, ivU r 1]) e93) rfl ?_
         refine T.hneed rfl (g90.2) ?_
         refine T.hdone ?_
         have eM : unitM a b c 0 = (((t77, t78), (t84, t85), (t91, t92)), t89) := by
          unfold unitM
          refine (Dy.cs_num e40).trans ?_
          refine (Dy.cs_num e44).trans ?_
          refine (Dy.cs_num e48).trans ?_
          refine (Dy.cs_sqr e52).trans ?_
          refine (Dy.cs_sqr e56).trans ?_
          refine (Dy.cs_add e60).trans ?_
          refine (Dy.cs_sqr e64).trans ?_
          refine (Dy.cs_add e68).trans ?_
          refine (Dy.cs_sqrt e72).trans ?_
          refine (Dy.cs_div e76).trans ?_
          refine (Dy.cm_p e79).trans ?_
          refine (Dy.cs_div e83).trans ?_
          refine (Dy.cm_p e86).trans ?_
          refine (Dy.cs_div e90).trans ?_
          first | exact congrArg (fun r => (r, t89)) e93 | (refine (Dy.cm_p e93).trans ?_; rfl) | (rw [Dy.cm_pure]; simp only [Dy.iHull, e1, e3, c5, e6, e8, c10, e11, e13, c15, e16, e18, e20, c22, e23, e25, c27, e28, e30, c32, e33, e35, c37, e93])
         have e00 : (unitRR (a) (b) (c)) = (((t77, t78), (t84, t85), (t91, t92)), 0) := by simp only [unitRR, unitR, mostT, eM, e1, e3, c5, e6, e8, c10, e11, e13, c15, e16, e18, e20, c22, e23, e25, c27, e28, e30, c32, e33, e35, c37] <;> simp_all
         exact ⟨⟨⟨(congrArg (fun r => some (vecU r 0)) e00.symm), (congrArg (fun r => some (vecU r 1)) e00.symm), (congrArg (fun r => some (vecU r 2)) e00.symm), (congrArg (fun r => some (vecU r 3)) e00.symm), (congrArg (fun r => some (vecU r 4)) e00.symm), (congrArg (fun r => some (vecU r 5)) e00.symm), trivial⟩, ⟨rfl, (congrArg (fun r => some (vecU r 6)) e00.symm)⟩, trivial⟩, trivial, rfl⟩
      ·intro c27
       obtain ⟨t94, e95⟩ : ∃ t94, ((Dy.ldx (4607182418800017408) ((-64)))) = t94 := ⟨_, rfl⟩
       refine T.hbind rfl (congrArg (fun r => [U.f r]) e95) rfl ?_
       refine T.hneed rfl ((by decide)) ?_
       obtain ⟨t96, e97⟩ : ∃ t96, (Dy.flt t17 t94) = t96 := ⟨_, rfl⟩
       refine T.hbind rfl (congrArg (fun r => [U.b r]) e97) rfl ?_
       refine T.hite (x := t96) ?_ ?_ ?_
       ·rfl
       ·intro c99
        refine T.hdone ?_
        have e00 : (unitRR (a) (b) (c)) = (((0, 0), (0, 0), (0, 0)), 50) := by simp only [unitRR, unitR, mostT, e1, e3, c5, e6, e8, c10, e11, e13, c15, e16, e18, e20, c22, e23, e25, c27, e95, e97, c99] <;> simp_all
        exact ⟨⟨⟨(congrArg (fun r => some (vecU r 0)) e00.symm), (congrArg (fun r => some (vecU r 1)) e00.symm), (congrArg (fun r => some (vecU r 2)) e00.symm), (congrArg (fun r => some (vecU r 3)) e00.symm), (congrArg (fun r => some (vecU r 4)) e00.symm), (congrArg (fun r => some (vecU r 5)) e00.symm), trivial⟩, ⟨rfl, (congrArg (fun r => some (vecU r 6)) e00.symm)⟩, trivial⟩, trivial, rfl⟩
       ·intro c99
        obtain ⟨t99, e100⟩ : ∃ t99, ((Dy.ldx (4607182418800017408) (64))) = t99 := ⟨_, rfl⟩
        refine T.hbind rfl (congrArg (fun r => [U.f r]) e100) rfl ?_
        refine T.hneed rfl ((by decide)) ?_
        obtain ⟨t101, e102⟩ : ∃ t101, (Dy.fgt t17 t99) = t101 := ⟨_, rfl⟩
        refine T.hbind (ρ' := [.f a, .f b, .f c, .b t0, .b t2, .b t5, .b t7, .b t10, .b t12, .f t15, .f t17, .b t19, .f t17, .f t22, .b t24, .f t94, .b t96, .f t99, .b t101]) rfl (congrArg (fun r => [U.b r]) e102) rfl ?_
        refine T.hite (x := t101) ?_ ?_ ?_
        ·rfl
        ·intro c104
         refine T.hdone ?_
         have e00 : (unitRR (a) (b) (c)) = (((0, 0), (0, 0), (0, 0)), 50) := by simp only [unitRR, unitR, mostT, e1, e3, c5, e6, e8, c10, e11, e13, c15, e16, e18, e20, c22, e23, e25, c27, e95, e97, c99, e100, e102, c104] <;> simp_all
         exact ⟨⟨⟨(congrArg (fun r => some (vecU r 0)) e00.symm), (congrArg (fun r => some (vecU r 1)) e00.symm), (congrArg (fun r => some (vecU r 2)) e00.symm), (congrArg (fun r => some (vecU r 3)) e00.symm), (congrArg (fun r => some (vecU r 4)) e00.symm), (congrArg (fun r => some (vecU r 5)) e00.symm), trivial⟩, ⟨rfl, (congrArg (fun r => some (vecU r 6)) e00.symm)⟩, trivial⟩, trivial, rfl⟩
        ·intro c104
         obtain ⟨t104, t105, t106, e107⟩ := Dy.ex3 (Dy.cNum 0 a)
         refine T.hbind rfl (congrArg (fun r => [calR r 0, calR r 1, calR r 2]) e107) rfl ?_
         obtain ⟨t108, t109, t110, e111⟩ := Dy.ex3 (Dy.cNum t106 b)
         refine T.hbind rfl (congrArg (fun r => [calR r 0, calR r 1, calR r 2]) e111) rfl ?_
         obtain ⟨t112, t113, t114, e115⟩ := Dy.ex3 (Dy.cNum t110 c)
         refine T.hbind rfl (congrArg (fun r => [calR r 0, calR r 1, calR r 2]) e115) rfl ?_
         obtain ⟨t116, t117, t118, e119⟩ := Dy.ex3 (Dy.cSqr t114 (t104, t105))
         refine T.hbind rfl (congrArg (fun r => [calR r 0, calR r 1, calR r 2]) e119) rfl ?_
         obtain ⟨t120, t121, t122, e123⟩ := Dy.ex3 (Dy.cSqr t118 (t108, t109))
         refine T.hbind rfl (congrArg (fun r => [calR r 0, calR r 1, calR r 2]) e123) rfl ?_
         obtain ⟨t124, t125, t126, e127⟩ := Dy.ex3 (Dy.cAdd t122 (t116, t117) (t120, t121))
         refine T.hbind rfl (congrArg (fun r => [calR r 0, calR r 1, calR r 2]) e127) rfl ?_
         obtain ⟨t128, t129, t130, e131⟩ := Dy.ex3 (Dy.cSqr t126 (t112, t113))
         refine T.hbind rfl (congrArg (fun r => [calR r 0, calR r 1, calR r 2]) e131) rfl ?_
         obtain ⟨t132, t133, t134, e135⟩ := Dy.ex3 (Dy.cAdd t130 (t124, t125) (t128, t129))
         have g135 := Dy.good_add (a := (t124, t125)) (b := (t128, t129)) (err := t130)
         rw [e135] at g135
         refine T.hbind (ρ' := [.f a, .f b, .f c, .b t0, .b t2, .b t5, .b t7, .b t10, .b t12, .f t15, .f t17, .b t19, .f t17, .f t22, .b t24, .f t94, .b t96, .f t99, .b t101, .f t104, .f t105, .i t106, .f t108, .f t109, .i t110, .f t112, .f t113, .i t114, .f t116, .f t117, .i t118, .f t120, .f t121, .i t122, .f t124, .f t125, .i t126, .f t128, .f t129, .i t130, .f t132, .f t133, .i t134]) rfl (congrArg (fun r => [calR r 0, calR r 1, calR r 2]) e135) rfl ?_
         obtain ⟨t136, t137, t138, e139⟩ := Dy.ex3 (Dy.cSqrt t134 (t132, t133))
         have g139 := Dy.good_sqrt (a := (t132, t133)) ⟨g135.1.1, g135.1.2⟩ (err := t134)
         rw [e139] at g139
         refine T.hbind rfl (congrArg (fun r => [calR r 0, calR r 1, calR r 2]) e139) rfl ?_
         obtain ⟨t140, t141, t142, e143⟩ := Dy.ex3 (Dy.cDiv t138 (t104, t105) (t136, t137))
         have g143 := Dy.good_div (a := (t104, t105)) (b := (t136, t137)) ⟨g139.1.1, g139.1.2⟩ (err := t138)
         rw [e143] at g143
         refine T.hbind rfl (congrArg (fun r => [calR r 0, calR r 1, calR r 2]) e143) rfl ?_
         obtain ⟨t144, t145, e146⟩ := Dy.ex2 (vWithin (t140, t141))
         refine T.hbind rfl (congrArg (fun r => [ivU r 0, ivU r 1]) e146) rfl ?_
         refine T.hneed rfl (g143.2) ?_
         obtain ⟨t147, t148, t149, e150⟩ := Dy.ex3 (Dy.cDiv t142 (t108, t109) (t136, t137))
         have g150 := Dy.good_div (a := (t108, t109)) (b := (t136, t137)) ⟨g139.1.1, g139.1.2⟩ (err := t142)
         rw [e150] at g150
         refine T.hbind rfl (congrArg (fun r => [calR r 0, calR r 1, calR r 2]) e150) rfl ?_
         obtain ⟨t151, t152, e153⟩ := Dy.ex2 (vWithin (t147, t148))
         refine T.hbind rfl (congrArg (fun r => [ivU r 0, ivU r 1]) e153) rfl ?_
         refine T.hneed rfl (g150.2) ?_
         obtain ⟨t154, t155, t156, e157⟩ := Dy.ex3 (Dy.cDiv t149 (t112, t113) (t136, t137))
         have g157 := Dy.good_div (a := (t112, t113)) (b := (t136, t137)) ⟨g139.1.1, g139.1.2⟩ (err := t149)
         rw [e157] at g157
         refine T.hbind rfl (congrArg (fun r => [calR r 0, calR r 1, calR r 2]) e157) rfl ?_
         obtain ⟨t158, t159, e160⟩ := Dy.ex2 (vWithin (t154, t155))
         refine T.hbind rfl (congrArg (fun r => [ivU r 0, ivU r 1]) e160) rfl ?_
         refine T.hneed rfl (g157.2) ?_
         refine T.hdone ?_
         have eM : unitM a b c 0 = (((t144, t145), (t151, t152), (t158, t159)), t156) := by
          unfold unitM
          refine (Dy.cs_num e107).trans ?_
          refine (Dy.cs_num e111).trans ?_
          refine (Dy.cs_num e115).trans ?_
          refine (Dy.cs_sqr e119).trans ?_
          refine (Dy.cs_sqr e123).trans ?_
          refine (Dy.cs_add e127).trans ?_
          refine (Dy.cs_sqr e131).trans ?_
          refine (Dy.cs_add e135).trans ?_
          refine (Dy.cs_sqrt e139).trans ?_
          refine (Dy.cs_div e143).trans ?_
          refine (Dy.cm_p e146).trans ?_
          refine (Dy.cs_div e150).trans ?_
          refine (Dy.cm_p e153).trans ?_
          refine (Dy.cs_div e157).trans ?_
          first | exact congrArg (fun r => (r, t156)) e160 | (refine (Dy.cm_p e160).trans ?_; rfl) | (rw [Dy.cm_pure]; simp only [Dy.iHull, e1, e3, c5, e6, e8, c10, e11, e13, c15, e16, e18, e20, c22, e23, e25, c27, e95, e97, c99, e100, e102, c104, e160])
         have e00 : (unitRR (a) (b) (c)) = (((t144, t145), (t151, t152), (t158, t159)), 0) := by simp only [unitRR, unitR, mostT, eM, e1, e3, c5, e6, e8, c10, e11, e13, c15, e16, e18, e20, c22, e23, e25, c27, e95, e97, c99, e100, e102, c104] <;> simp_all
         exact ⟨⟨⟨(congrArg (fun r => some (vecU r 0)) e00.symm), (congrArg (fun r => some (vecU r 1)) e00.symm), (congrArg (fun r => some (vecU r 2)) e00.symm), (congrArg (fun r => some (vecU r 3)) e00.symm), (congrArg (fun r => some (vecU r 4)) e00.symm), (congrArg (fun r => some (vecU r 5)) e00.symm), trivial⟩, ⟨rfl, (congrArg (fun r => some (vecU r 6)) e00.symm)⟩, trivial⟩, trivial, rfl⟩
     ·intro c22
      obtain ⟨t161, e162⟩ : ∃ t161, ((Dy.abs (c))) = t161 := ⟨_, rfl⟩
      have rc : Dy.right c = true := (rrT_right wc).symm.trans (by simp_all)
      have ab162 : Dy.W t161 ∧ Dy.right t161 = true := by rw [← e162]; exact ⟨Dy.W_abs _, Dy.right_abs rc⟩
      refine T.hbind (ρ' := [.f a, .f b, .f c, .b t0, .b t2, .b t5, .b t7, .b t10, .b t12, .f t15, .f t17, .b t19, .f t161]) rfl (congrArg (fun r => [U.f r]) e162) rfl ?_
      obtain ⟨t163, e164⟩ : ∃ t163, (Dy.fgt t161 t15) = t163 := ⟨_, rfl⟩
      refine T.hbind rfl (congrArg (fun r => [U.b r]) e164) rfl ?_
      refine T.hite (x := t163) ?_ ?_ ?_
      ·rfl
      ·intro c166
       refine T.hbind rfl (congrArg (fun r => [U.f r]) e162) rfl ?_
       obtain ⟨t166, e167⟩ : ∃ t166, ((Dy.ldx (4607182418800017408) ((-64)))) = t166 := ⟨_, rfl⟩
       refine T.hbind rfl (congrArg (fun r => [U.f r]) e167) rfl ?_
       refine T.hneed rfl ((by decide)) ?_
       obtain ⟨t168, e169⟩ : ∃ t168, (Dy.flt t161 t166) = t168 := ⟨_, rfl⟩
       refine T.hbind rfl (congrArg (fun r => [U.b r]) e169) rfl ?_
       refine T.hite (x := t168) ?_ ?_ ?_
       ·rfl
       ·intro c171
        refine T.hdone ?_
        have e00 : (unitRR (a) (b) (c)) = (((0, 0), (0, 0), (0, 0)), 50) := by simp only [unitRR, unitR, mostT, e1, e3, c5, e6, e8, c10, e11, e13, c15, e16, e18, e20, c22, e162, e164, c166, e167, e169, c171] <;> simp_all
        exact ⟨⟨⟨(congrArg (fun r => some (vecU r 0)) e00.symm), (congrArg (fun r => some (vecU r 1)) e00.symm), (congrArg (fun r => some (vecU r 2)) e00.symm), (congrArg (fun r => some (vecU r 3)) e00.symm), (congrArg (fun r => some (vecU r 4)) e00.symm), (congrArg (fun r => some (vecU r 5)) e00.symm), trivial⟩, ⟨rfl, (congrArg (fun r => some (vecU r 6)) e00.symm)⟩, trivial⟩, trivial, rfl⟩
       ·intro c171
        obtain ⟨t171, e172⟩ : ∃ t171, ((Dy.ldx (4607182418800017408) (64))) = t171 := ⟨_, rfl⟩
        refine T.hbind rfl (congrArg (fun r => [U.f r]) e172) rfl ?_
        refine T.hneed rfl ((by decide)) ?_
        obtain ⟨t173, e174⟩ : ∃ t173, (Dy.fgt t161 t171) = t173 := ⟨_, rfl⟩
        refine T.hbind rfl (congrArg (fun r => [U.b r]) e174) rfl ?_
        refine T.hite (x := t173) ?_ ?_ ?_
        ·rfl
        ·intro c176
         refine T.hdone ?_
         have e00 : (unitRR (a) (b) (c)) = (((0, 0), (0, 0), (0, 0)), 50) := by simp only [unitRR, unitR, mostT, e1, e3, c5, e6, e8, c10, e11, e13, c15, e16, e18, e20, c22, e162, e164, c166, e167, e169, c171, e172, e174, c176] <;> simp_all
         exact ⟨⟨⟨(congrArg (fun r => some (vecU r 0)) e00.symm), (congrArg (fun r => some (vecU r 1)) e00.symm), (congrArg (fun r => some (vecU r 2)) e00.symm), (congrArg (fun r => some (vecU r 3)) e00.symm), (congrArg (fun r => some (vecU r 4)) e00.symm), (congrArg (fun r => some (vecU r 5)) e00.symm), trivial⟩, ⟨rfl, (congrArg (fun r => some (vecU r 6)) e00.symm)⟩, trivial⟩, trivial, rfl⟩
        ·intro c176
         obtain ⟨t176, t177, t178, e179⟩ := Dy.ex3 (Dy.cNum 0 a)
         refine T.hbind rfl (congrArg (fun r => [calR r 0, calR r 1, calR r 2]) e179) rfl ?_
         obtain ⟨t180, t181, t182, e183⟩ := Dy.ex3 (Dy.cNum t178 b)
         refine T.hbind (ρ' := [.f a, .f b, .f c, .b t0, .b t2, .b t5, .b t7, .b t10, .b t12, .f t15, .f t17, .b t19, .f t161, .b t163, .f t161, .f t166, .b t168, .f t171, .b t173, .f t176, .f t177, .i t178, .f t180, .f t181, .i t182]) rfl (congrArg (fun r => [calR r 0, calR r 1, calR r 2]) e183) rfl ?_
         obtain ⟨t184, t185, t186, e187⟩ := Dy.ex3 (Dy.cNum t182 c)
         refine T.hbind rfl (congrArg (fun r => [calR r 0, calR r 1, calR r 2]) e187) rfl ?_
         obtain ⟨t188, t189, t190, e191⟩ := Dy.ex3 (Dy.cSqr t186 (t176, t177))
         refine T.hbind rfl (congrArg (fun r => [calR r 0, calR r 1, calR r 2]) e191) rfl ?_
         obtain ⟨t192, t193, t194, e195⟩ := Dy.ex3 (Dy.cSqr t190 (t180, t181))
         refine T.hbind rfl (congrArg (fun r => [calR r 0, calR r 1, calR r 2]) e195) rfl ?_
         obtain ⟨t196, t197, t198, e199⟩ := Dy.ex3 (Dy.cAdd t194 (t188, t189) (t192, t193))
         refine T.hbind rfl (congrArg (fun r => [calR r 0, calR r 1, calR r 2]) e199) rfl ?_
         obtain ⟨t200, t201, t202, e203⟩ := Dy.ex3 (Dy.cSqr t198 (t184, t185))
         refine T.hbind rfl (congrArg (fun r => [calR r 0, calR r 1, calR r 2]) e203) rfl ?_
         obtain ⟨t204, t205, t206, e207⟩ := Dy.ex3 (Dy.cAdd t202 (t196, t197) (t200, t201))
         have g207 := Dy.good_add (a := (t196, t197)) (b := (t200, t201)) (err := t202)
         rw [e207] at g207
         refine T.hbind rfl (congrArg (fun r => [calR r 0, calR r 1, calR r 2]) e207) rfl ?_
         obtain ⟨t208, t209, t210, e211⟩ := Dy.ex3 (Dy.cSqrt t206 (t204, t205))
         have g211 := Dy.good_sqrt (a := (t204, t205)) ⟨g207.1.1, g207.1.2⟩ (err := t206)
         rw [e211] at g211
         refine T.hbind rfl (congrArg (fun r => [calR r 0, calR r 1, calR r 2]) e211) rfl ?_
         obtain ⟨t212, t213, t214, e215⟩ := Dy.ex3 (Dy.cDiv t210 (t176, t177) (t208, t209))
         have g215 := Dy.good_div (a := (t176, t177)) (b := (t208, t209)) ⟨g211.1.1, g211.1.2⟩ (err := t210)
         rw [e215] at g215
         refine T.hbind (ρ' := [.f a, .f b, .f c, .b t0, .b t2, .b t5, .b t7, .b t10, .b t12, .f t15, .f t17, .b t19, .f t161, .b t163, .f t161, .f t166, .b t168, .f t171, .b t173, .f t176, .f t177, .i t178, .f t180, .f t181, .i t182, .f t184, .f t185, .i t186, .f t188, .f t189, .i t190, .f t192, .f t193, .i t194, .f t196, .f t197, .i t198, .f t200, .f t201, .i t202, .f t204, .f t205, .i t206, .f t208, .f t209, .i t210, .f t212, .f t213, .i t214]) rfl (congrArg (fun r => [calR r 0, calR r 1, calR r 2]) e215) rfl ?_
         obtain ⟨t216, t217, e218⟩ := Dy.ex2 (vWithin (t212, t213))
         refine T.hbind rfl (congrArg (fun r => [ivU r 0, ivU r 1]) e218) rfl ?_
         refine T.hneed rfl (g215.2) ?_
         obtain ⟨t219, t220, t221, e222⟩ := Dy.ex3 (Dy.cDiv t214 (t180, t181) (t208, t209))
         have g222 := Dy.good_div (a := (t180, t181)) (b := (t208, t209)) ⟨g211.1.1, g211.1.2⟩ (err := t214)
         rw [e222] at g222
         refine T.hbind rfl (congrArg (fun r => [calR r 0, calR r 1, calR r 2]) e222) rfl ?_
         obtain ⟨t223, t224, e225⟩ := Dy.ex2 (vWithin (t219, t220))
         refine T.hbind rfl (congrArg (fun r => [ivU r 0, ivU r 1]) e225) rfl ?_
         refine T.hneed rfl (g222.2) ?_
         obtain ⟨t226, t227, t228, e229⟩ := Dy.ex3 (Dy.cDiv t221 (t184, t185) (t208, t209))
         have g229 := Dy.good_div (a := (t184, t185)) (b := (t208, t209)) ⟨g211.1.1, g211.1.2⟩ (err := t221)
         rw [e229] at g229
         refine T.hbind rfl (congrArg (fun r => [calR r 0, calR r 1, calR r 2]) e229) rfl ?_
         obtain ⟨t230, t231, e232⟩ := Dy.ex2 (vWithin (t226, t227))
         refine T.hbind rfl (congrArg (fun r => [ivU r 0, ivU r 1]) e232) rfl ?_
         refine T.hneed rfl (g229.2) ?_
         refine T.hdone ?_
         have eM : unitM a b c 0 = (((t216, t217), (t223, t224), (t230, t231)), t228) := by
          unfold unitM
          refine (Dy.cs_num e179).trans ?_
          refine (Dy.cs_num e183).trans ?_
          refine (Dy.cs_num e187).trans ?_
          refine (Dy.cs_sqr e191).trans ?_
          refine (Dy.cs_sqr e195).trans ?_
          refine (Dy.cs_add e199).trans ?_
          refine (Dy.cs_sqr e203).trans ?_
          refine (Dy.cs_add e207).trans ?_
          refine (Dy.cs_sqrt e211).trans ?_
          refine (Dy.cs_div e215).trans ?_
          refine (Dy.cm_p e218).trans ?_
          refine (Dy.cs_div e222).trans ?_
          refine (Dy.cm_p e225).trans ?_
          refine (Dy.cs_div e229).trans ?_
          first | exact congrArg (fun r => (r, t228)) e232 | (refine (Dy.cm_p e232).trans ?_; rfl) | (rw [Dy.cm_pure]; simp only [Dy.iHull, e1, e3, c5, e6, e8, c10, e11, e13, c15, e16, e18, e20, c22, e162, e164, c166, e167, e169, c171, e172, e174, c176, e232])
         have e00 : (unitRR (a) (b) (c)) = (((t216, t217), (t223, t224), (t230, t231)), 0) := by simp only [unitRR, unitR, mostT, eM, e1, e3, c5, e6, e8, c10, e11, e13, c15, e16, e18, e20, c22, e162, e164, c166, e167, e169, c171, e172, e174, c176] <;> simp_all
         exact ⟨⟨⟨(congrArg (fun r => some (vecU r 0)) e00.symm), (congrArg (fun r => some (vecU r 1)) e00.symm), (congrArg (fun r => some (vecU r 2)) e00.symm), (congrArg (fun r => some (vecU r 3)) e00.symm), (congrArg (fun r => some (vecU r 4)) e00.symm), (congrArg (fun r => some (vecU r 5)) e00.symm), trivial⟩, ⟨rfl, (congrArg (fun r => some (vecU r 6)) e00.symm)⟩, trivial⟩, trivial, rfl⟩
      ·intro c166
       obtain ⟨t233, e234⟩ : ∃ t233, ((Dy.ldx (4607182418800017408) ((-64)))) = t233 := ⟨_, rfl⟩
       refine T.hbind rfl (congrArg (fun r => [U.f r]) e234) rfl ?_
       refine T.hneed rfl ((by decide)) ?_
       obtain ⟨t235, e236⟩ : ∃ t235, (Dy.flt t15 t233) = t235 := ⟨_, rfl⟩
       refine T.hbind rfl (congrArg (fun r => [U.b r]) e236) rfl ?_
       refine T.hite (x := t235) ?_ ?_ ?_
       ·rfl
       ·intro c238
        refine T.hdone ?_
        have e00 : (unitRR (a) (b) (c)) = (((0, 0), (0, 0), (0, 0)), 50) := by simp only [unitRR, unitR, mostT, e1, e3, c5, e6, e8, c10, e11, e13, c15, e16, e18, e20, c22, e162, e164, c166, e234, e236, c238] <;> simp_all
        exact ⟨⟨⟨(congrArg (fun r => some (vecU r 0)) e00.symm), (congrArg (fun r => some (vecU r 1)) e00.symm), (congrArg (fun r => some (vecU r 2)) e00.symm), (congrArg (fun r => some (vecU r 3)) e00.symm), (congrArg (fun r => some (vecU r 4)) e00.symm), (congrArg (fun r => some (vecU r 5)) e00.symm), trivial⟩, ⟨rfl, (congrArg (fun r => some (vecU r 6)) e00.symm)⟩, trivial⟩, trivial, rfl⟩
       ·intro c238
        obtain ⟨t238, e239⟩ : ∃ t238, ((Dy.ldx (4607182418800017408) (64))) = t238 := ⟨_, rfl⟩
        refine T.hbind (ρ' := [.f a, .f b, .f c, .b t0, .b t2, .b t5, .b t7, .b t10, .b t12, .f t15, .f t17, .b t19, .f t161, .b t163, .f t233, .b t235, .f t238]) rfl (congrArg (fun r => [U.f r]) e239) rfl ?_
        refine T.hneed rfl ((by decide)) ?_
        obtain ⟨t240, e241⟩ : ∃ t240, (Dy.fgt t15 t238) = t240 := ⟨_, rfl⟩
        refine T.hbind rfl (congrArg (fun r => [U.b r]) e241) rfl ?_
        refine T.hite (x := t240) ?_ ?_ ?_
        ·rfl
        ·intro c243
         refine T.hdone ?_
         have e00 : (unitRR (a) (b) (c)) = (((0, 0), (0, 0), (0, 0)), 50) := by simp only [unitRR, unitR, mostT, e1, e3, c5, e6, e8, c10, e11, e13, c15, e16, e18, e20, c22, e162, e164, c166, e234, e236, c238, e239, e241, c243] <;> simp_all
         exact ⟨⟨⟨(congrArg (fun r => some (vecU r 0)) e00.symm), (congrArg (fun r => some (vecU r 1)) e00.symm), (congrArg (fun r => some (vecU r 2)) e00.symm), (congrArg (fun r => some (vecU r 3)) e00.symm), (congrArg (fun r => some (vecU r 4)) e00.symm), (congrArg (fun r => some (vecU r 5)) e00.symm), trivial⟩, ⟨rfl, (congrArg (fun r => some (vecU r 6)) e00.symm)⟩, trivial⟩, trivial, rfl⟩
        ·intro c243
         obtain ⟨t243, t244, t245, e246⟩ := Dy.ex3 (Dy.cNum 0 a)
         refine T.hbind rfl (congrArg (fun r => [calR r 0, calR r 1, calR r 2]) e246) rfl ?_
         obtain ⟨t247, t248, t249, e250⟩ := Dy.ex3 (Dy.cNum t245 b)
         refine T.hbind rfl (congrArg (fun r => [calR r 0, calR r 1, calR r 2]) e250) rfl ?_
         obtain ⟨t251, t252, t253, e254⟩ := Dy.ex3 (Dy.cNum t249 c)
         refine T.hbind rfl (congrArg (fun r => [calR r 0, calR r 1, calR r 2]) e254) rfl ?_
         obtain ⟨t255, t256, t257, e258⟩ := Dy.ex3 (Dy.cSqr t253 (t243, t244))
         refine T.hbind rfl (congrArg (fun r => [calR r 0, calR r 1, calR r 2]) e258) rfl ?_
         obtain ⟨t259, t260, t261, e262⟩ := Dy.ex3 (Dy.cSqr t257 (t247, t248))
         refine T.hbind rfl (congrArg (fun r => [calR r 0, calR r 1, calR r 2]) e262) rfl ?_
         obtain ⟨t263, t264, t265, e266⟩ := Dy.ex3 (Dy.cAdd t261 (t255, t256) (t259, t260))
         refine T.hbind rfl (congrArg (fun r => [calR r 0, calR r 1, calR r 2]) e266) rfl ?_
         obtain ⟨t267, t268, t269, e270⟩ := Dy.ex3 (Dy.cSqr t265 (t251, t252))
         refine T.hbind (ρ' := [.f a, .f b, .f c, .b t0, .b t2, .b t5, .b t7, .b t10, .b t12, .f t15, .f t17, .b t19, .f t161, .b t163, .f t233, .b t235, .f t238, .b t240, .f t243, .f t244, .i t245, .f t247, .f t248, .i t249, .f t251, .f t252, .i t253, .f t255, .f t256, .i t257, .f t259, .f t260, .i t261, .f t263, .f t264, .i t265, .f t267, .f t268, .i t269]) rfl (congrArg (fun r => [calR r 0, calR r 1, calR r 2]) e270) rfl ?_
         obtain ⟨t271, t272, t273, e274⟩ := Dy.ex3 (Dy.cAdd t269 (t263, t264) (t267, t268))
         have g274 := Dy.good_add (a := (t263, t264)) (b := (t267, t268)) (err := t269)
         rw [e274] at g274
         refine T.hbind rfl (congrArg (fun r => [calR r 0, calR r 1, calR r 2]) e274) rfl ?_
         obtain ⟨t275, t276, t277, e278⟩ := Dy.ex3 (Dy.cSqrt t273 (t271, t272))
         have g278 := Dy.good_sqrt (a := (t271, t272)) ⟨g274.1.1, g274.1.2⟩ (err := t273)
         rw [e278] at g278
         refine T.hbind rfl (congrArg (fun r => [calR r 0, calR r 1, calR r 2]) e278) rfl ?_
         obtain ⟨t279, t280, t281, e282⟩ := Dy.ex3 (Dy.cDiv t277 (t243, t244) (t275, t276))
         have g282 := Dy.good_div (a := (t243, t244)) (b := (t275, t276)) ⟨g278.1.1, g278.1.2⟩ (err := t277)
         rw [e282] at g282
         refine T.hbind rfl (congrArg (fun r => [calR r 0, calR r 1, calR r 2]) e282) rfl ?_
         obtain ⟨t283, t284, e285⟩ := Dy.ex2 (vWithin (t279, t280))
         refine T.hbind rfl (congrArg (fun r => [ivU r 0, ivU r 1]) e285) rfl ?_
         refine T.hneed rfl (g282.2) ?_
         obtain ⟨t286, t287, t288, e289⟩ := Dy.ex3 (Dy.cDiv t281 (t247, t248) (t275, t276))
         have g289 := Dy.good_div (a := (t247, t248)) (b := (t275, t276)) ⟨g278.1.1, g278.1.2⟩ (err := t281)
         rw [e289] at g289
         refine T.hbind rfl (congrArg (fun r => [calR r 0, calR r 1, calR r 2]) e289) rfl ?_
         obtain ⟨t290, t291, e292⟩ := Dy.ex2 (vWithin (t286, t287))
         refine T.hbind rfl (congrArg (fun r => [ivU r 0, ivU r 1]) e292) rfl ?_
         refine T.hneed rfl (g289.2) ?_
         obtain ⟨t293, t294, t295, e296⟩ := Dy.ex3 (Dy.cDiv t288 (t251, t252) (t275, t276))
         have g296 := Dy.good_div (a := (t251, t252)) (b := (t275, t276)) ⟨g278.1.1, g278.1.2⟩ (err := t288)
         rw [e296] at g296
         refine T.hbind rfl (congrArg (fun r => [calR r 0, calR r 1, calR r 2]) e296) rfl ?_
         obtain ⟨t297, t298, e299⟩ := Dy.ex2 (vWithin (t293, t294))
         refine T.hbind (ρ' := [.f a, .f b, .f c, .b t0, .b t2, .b t5, .b t7, .b t10, .b t12, .f t15, .f t17, .b t19, .f t161, .b t163, .f t233, .b t235, .f t238, .b t240, .f t243, .f t244, .i t245, .f t247, .f t248, .i t249, .f t251, .f t252, .i t253, .f t255, .f t256, .i t257, .f t259, .f t260, .i t261, .f t263, .f t264, .i t265, .f t267, .f t268, .i t269, .f t271, .f t272, .i t273, .f t275, .f t276, .i t277, .f t279, .f t280, .i t281, .f t283, .f t284, .f t286, .f t287, .i t288, .f t290, .f t291, .f t293, .f t294, .i t295, .f t297, .f t298]) rfl (congrArg (fun r => [ivU r 0, ivU r 1]) e299) rfl ?_
         refine T.hneed rfl (g296.2) ?_
         refine T.hdone ?_
         have eM : unitM a b c 0 = (((t283, t284), (t290, t291), (t297, t298)), t295) := by
          unfold unitM
          refine (Dy.cs_num e246).trans ?_
          refine (Dy.cs_num e250).trans ?_
          refine (Dy.cs_num e254).trans ?_
          refine (Dy.cs_sqr e258).trans ?_
          refine (Dy.cs_sqr e262).trans ?_
          refine (Dy.cs_add e266).trans ?_
          refine (Dy.cs_sqr e270).trans ?_
          refine (Dy.cs_add e274).trans ?_
          refine (Dy.cs_sqrt e278).trans ?_
          refine (Dy.cs_div e282).trans ?_
          refine (Dy.cm_p e285).trans ?_
          refine (Dy.cs_div e289).trans ?_
          refine (Dy.cm_p e292).trans ?_
          refine (Dy.cs_div e296).trans ?_
          first | exact congrArg (fun r => (r, t295)) e299 | (refine (Dy.cm_p e299).trans ?_; rfl) | (rw [Dy.cm_pure]; simp only [Dy.iHull, e1, e3, c5, e6, e8, c10, e11, e13, c15, e16, e18, e20, c22, e162, e164, c166, e234, e236, c238, e239, e241, c243, e299])
         have e00 : (unitRR (a) (b) (c)) = (((t283, t284), (t290, t291), (t297, t298)), 0) := by simp only [unitRR, unitR, mostT, eM, e1, e3, c5, e6, e8, c10, e11, e13, c15, e16, e18, e20, c22, e162, e164, c166, e234, e236, c238, e239, e241, c243] <;> simp_all
         exact ⟨⟨⟨(congrArg (fun r => some (vecU r 0)) e00.symm), (congrArg (fun r => some (vecU r 1)) e00.symm), (congrArg (fun r => some (vecU r 2)) e00.symm), (congrArg (fun r => some (vecU r 3)) e00.symm), (congrArg (fun r => some (vecU r 4)) e00.symm), (congrArg (fun r => some (vecU r 5)) e00.symm), trivial⟩, ⟨rfl, (congrArg (fun r => some (vecU r 6)) e00.symm)⟩, trivial⟩, trivial, rfl⟩
def me12 : List (Nat × Ct) := (34, ctUnitRT) :: me11
theorem me12_ok : AllOk Tryz.prog me12 := ⟨ctUnitRT_ok, me11_ok⟩
theorem unitRR_eq {a b c : Nat} (wa : Dy.W a) (wb : Dy.W b) (wc : Dy.W c) : unitRR a b c = unitT a b c := by
 have hu : unitT a b c = if nR3 [.f a, .f b, .f c] = true then unitG a b c else (((0, 0), (0, 0), (0, 0)), 50) := rfl
 have hn : nR3 [.f a, .f b, .f c] = (Dy.right a && Dy.right b && Dy.right c) := rfl
 rw [hu, hn]
 unfold unitRR
 rw [rrT_right wa, rrT_right wb, rrT_right wc]
 cases ra : Dy.right a
 ·rfl
 ·cases rb : Dy.right b
  ·rfl
  ·cases rc : Dy.right c
   ·rfl
   ·exact unitR_eq wa wb wc ra rb rc
theorem unitRT_ct : CtOk Tryz.prog 34 ctUnitT := by
 refine CtOk.swap ctUnitRT_ok fun ρ us h1 hm hF _ i => ?_
 match ρ, hm with
 | u0 :: u1 :: u2 :: l, _ =>
  simp [evs, upto, E.ev] at h1
  subst h1
  simp [FactsL, Facts] at hF
  obtain ⟨⟨a1, rfl, w1⟩, ⟨a2, rfl, w2⟩, ⟨a3, rfl, w3⟩⟩ := hF
  exact congrArg (fun r => vecU r i) (unitRR_eq w1 w2 w3)
def mE0 : List (Nat × Ct) := (34, ctUnitT) :: me12
theorem mE0_ok : AllOk Tryz.prog mE0 := ⟨unitRT_ct, me12_ok⟩
end Go.Proofs.YtkhplflbcgjkcaaGreat
