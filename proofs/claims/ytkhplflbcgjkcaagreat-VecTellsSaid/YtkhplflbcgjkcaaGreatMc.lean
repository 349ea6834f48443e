/- A reckoning of programs by symbols: vectors (vec). -/
import Derived.Test.YtkhplflbcgjkcaaGreatMb
namespace Go.Proofs.YtkhplflbcgjkcaaGreat
open Go Go.RowKit
set_option linter.unusedSimpArgs false
set_option linter.unusedVariables false
def vWithin (a : Nat × Nat) : Nat × Nat := (iMeet a (13830554455654793216, 4607182418800017408)).1
def nR3 (us : List U) : Bool := Dy.right (gF us 0) && Dy.right (gF us 1) && Dy.right (gF us 2)
def most3 (a b c : Nat) : Nat := Dy.dmax (Dy.dmax (Dy.abs a) (Dy.abs b)) (Dy.abs c)
def vecU (r : ((Nat × Nat) × (Nat × Nat) × (Nat × Nat)) × Int) (i : Nat) : U := match i with
 | 0 => .f r.1.1.1
 | 1 => .f r.1.1.2
 | 2 => .f r.1.2.1.1
 | 3 => .f r.1.2.1.2
 | 4 => .f r.1.2.2.1
 | 5 => .f r.1.2.2.2
 | _ => .i r.2
def unitM (x y z : Nat) : Dy.Cm ((Nat × Nat) × (Nat × Nat) × (Nat × Nat)) := do
 let a ← Dy.mNum x
 let b ← Dy.mNum y
 let c ← Dy.mNum z
 let a2 ← Dy.mSqr a
 let b2 ← Dy.mSqr b
 let s ← Dy.mAdd a2 b2
 let c2 ← Dy.mSqr c
 let t ← Dy.mAdd s c2
 let n ← Dy.mSqrt t
 let p ← Dy.mDiv a n
 let p' ← pure (vWithin p)
 let q ← Dy.mDiv b n
 let q' ← pure (vWithin q)
 let r ← Dy.mDiv c n
 let r' ← pure (vWithin r)
 pure (p', q', r')
def unitG (a b c : Nat) : ((Nat × Nat) × (Nat × Nat) × (Nat × Nat)) × Int := if Dy.flt (most3 a b c) 4318952042648305664 = true then (((0, 0), (0, 0), (0, 0)), 50) else if Dy.fgt (most3 a b c) 4895412794951729152 = true then (((0, 0), (0, 0), (0, 0)), 50) else ((unitM a b c 0).1, 0)
attribute [local irreducible] iMeet
def mc0 : List (Nat × Ct) := mb0
theorem mc0_ok : AllOk Tryz.prog mc0 := mb0_ok
def ctMeet : Ct := ⟨4, [], [vp 0 1, vp 2 3], { binds := [⟨fun us i => meetU (iMeet (gF us 0, gF us 1) (gF us 2, gF us 3)) i, 3, upto 0 4⟩], needs := [⟨nIv, [.v 0, .v 1]⟩, ⟨nIv, [.v 2, .v 3]⟩], val := .tup [vp 4 5, vb 6], upd := [] }⟩
set_option maxRecDepth 100000 in
set_option maxHeartbeats 4000000 in
theorem ctMeet_ok : CtOk Tryz.prog 23 ctMeet := by
 refine CtOk.of_eval2 mc0_ok (dr_ok mc0_ok) Tryz.func23 rfl (by decide) [] 200 (by kernel_rfl) rfl (.bind ⟨fun us _ => gB Dy.dmax us, 1, [(.v 0), (.v 2)]⟩ (.need ⟨rN, [(.v 0), (.v 2)]⟩ (.bind ⟨fun us _ => gB Dy.dmin us, 1, [(.v 1), (.v 3)]⟩ (.need ⟨rN, [(.v 1), (.v 3)]⟩ (.bind ⟨fun us _ => cB Dy.fgt us, 1, [(.v 4), (.v 5)]⟩ (.ite (.v 6) (.done .ret ⟨[.tup [.agg [.fl (.l (.f 0)), .fl (.l (.f 0))], .bo (.l (.b false))]], [], 7, []⟩) (.done .ret ⟨[.tup [.agg [.fl (.v 4), .fl (.v 5)], .bo (.l (.b true))]], [], 7, []⟩))))))) (by kernel_rfl) (by kernel_rfl) (by kernel_rfl) (fun us hl hF hB hN => ?_)
 match us, hl with
 | [u0, u1, u2, u3], _ =>
  simp [FactsB, FactsL, Facts, ctMeet] at hF hB
  simp [NeedsAt, runB, evs, E.ev, upto, resl, List.range, List.range.loop, ctMeet] at hN
  obtain ⟨⟨⟨a1, rfl, w1⟩, ⟨a2, rfl, w2⟩⟩, ⟨b1, rfl, w3⟩, ⟨b2, rfl, w4⟩⟩ := hF
  simp [nIv, gF, U.F] at hN
  have r1 := Dy.ivR_of hN.1
  have r2 := Dy.ivR_of hN.2
  simp at r1 r2
  refine T.HH.h ?_
  refine T.hbind (xs := [.f (Dy.dmax a1 b1)]) rfl (rfl) rfl ?_
  refine T.hneed rfl (show (Dy.right a1 && Dy.right b1) = true from by simp [r1, r2]) ?_
  refine T.hbind (xs := [.f (Dy.dmin a2 b2)]) rfl (rfl) rfl ?_
  refine T.hneed rfl (show (Dy.right a2 && Dy.right b2) = true from by simp [r1, r2]) ?_
  refine T.hbind (xs := [.b (Dy.fgt (Dy.dmax a1 b1) (Dy.dmin a2 b2))]) rfl (rfl) rfl ?_
  refine T.hite (x := (Dy.fgt (Dy.dmax a1 b1) (Dy.dmin a2 b2))) rfl (fun c1 => ?_) (fun c1 => ?_)
  ·skip
   refine T.hdone ?_
   have e0 : iMeet (a1, a2) (b1, b2) = ((0, 0), false) := by unfold iMeet; rw [if_pos c1]
   exact ⟨⟨⟨(congrArg (fun r => some (meetU r 0)) e0.symm), (congrArg (fun r => some (meetU r 1)) e0.symm), trivial⟩, (congrArg (fun r => some (meetU r 2)) e0.symm), trivial⟩, trivial, rfl⟩
  ·skip
   refine T.hdone ?_
   have e0 : iMeet (a1, a2) (b1, b2) = ((Dy.dmax a1 b1, Dy.dmin a2 b2), true) := by unfold iMeet; rw [if_neg (by rw [c1]; decide)]
   exact ⟨⟨⟨(congrArg (fun r => some (meetU r 0)) e0.symm), (congrArg (fun r => some (meetU r 1)) e0.symm), trivial⟩, (congrArg (fun r => some (meetU r 2)) e0.symm), trivial⟩, trivial, rfl⟩
def mc1 : List (Nat × Ct) := (23, ctMeet) :: mc0
theorem mc1_ok : AllOk Tryz.prog mc1 := ⟨ctMeet_ok, mc0_ok⟩
def ctBothAdd : Ct := ⟨13, [[vi .i64 0]], [.agg [vf 1, vf 2, vf 3, vf 4, vf 5, vf 6], .agg [vf 7, vf 8, vf 9, vf 10, vf 11, vf 12], .fn 65 [.ptr 0 0] []], { binds := [⟨calF2 Dy.cAdd, 3, [(.v 0), (.v 1), (.v 2), (.v 7), (.v 8)]⟩, ⟨calF2 Dy.cAdd, 3, [(.v 15), (.v 3), (.v 4), (.v 9), (.v 10)]⟩, ⟨calF2 Dy.cAdd, 3, [(.v 18), (.v 5), (.v 6), (.v 11), (.v 12)]⟩], needs := [], val := .agg [.fl (.v 13), .fl (.v 14), .fl (.v 16), .fl (.v 17), .fl (.v 19), .fl (.v 20)], upd := [(0, [.it .i64 (.v 21)])] }⟩
theorem ctBothAdd_ok : CtOk Tryz.prog 108 ctBothAdd := CtOk.flat mc1_ok (dr_ok mc1_ok) Tryz.func108 rfl (by decide) [] 200 ⟨[.agg [.fl (.v 13), .fl (.v 14), .fl (.v 16), .fl (.v 17), .fl (.v 19), .fl (.v 20)]], [some ([.it .i64 (.v 21)])], 22, [0, 0, 0]⟩ (by kernel_rfl) rfl (by kernel_rfl) rfl (by kernel_rfl) (by kernel_rfl) (by kernel_rfl) (by kernel_rfl)
def mc2 : List (Nat × Ct) := (108, ctBothAdd) :: mc1
theorem mc2_ok : AllOk Tryz.prog mc2 := ⟨ctBothAdd_ok, mc1_ok⟩
def ctVAdd : Ct := ⟨13, [[vi .i64 0]], [.ptr 0 0, .agg [vf 1, vf 2, vf 3, vf 4, vf 5, vf 6], .agg [vf 7, vf 8, vf 9, vf 10, vf 11, vf 12]], { binds := [⟨calF2 Dy.cAdd, 3, [(.v 0), (.v 1), (.v 2), (.v 7), (.v 8)]⟩, ⟨calF2 Dy.cAdd, 3, [(.v 15), (.v 3), (.v 4), (.v 9), (.v 10)]⟩, ⟨calF2 Dy.cAdd, 3, [(.v 18), (.v 5), (.v 6), (.v 11), (.v 12)]⟩], needs := [], val := .agg [.fl (.v 13), .fl (.v 14), .fl (.v 16), .fl (.v 17), .fl (.v 19), .fl (.v 20)], upd := [(0, [.it .i64 (.v 21)])] }⟩
theorem ctVAdd_ok : CtOk Tryz.prog 94 ctVAdd := CtOk.flat mc2_ok (dr_ok mc2_ok) Tryz.func94 rfl (by decide) [] 200 ⟨[.agg [.fl (.v 13), .fl (.v 14), .fl (.v 16), .fl (.v 17), .fl (.v 19), .fl (.v 20)]], [some ([.it .i64 (.v 21)])], 22, [0]⟩ (by kernel_rfl) rfl (by kernel_rfl) rfl (by kernel_rfl) (by kernel_rfl) (by kernel_rfl) (by kernel_rfl)
def mc3 : List (Nat × Ct) := (94, ctVAdd) :: mc2
theorem mc3_ok : AllOk Tryz.prog mc3 := ⟨ctVAdd_ok, mc2_ok⟩
def ctBothSub : Ct := ⟨13, [[vi .i64 0]], [.agg [vf 1, vf 2, vf 3, vf 4, vf 5, vf 6], .agg [vf 7, vf 8, vf 9, vf 10, vf 11, vf 12], .fn 66 [.ptr 0 0] []], { binds := [⟨calF2 Dy.cSub, 3, [(.v 0), (.v 1), (.v 2), (.v 7), (.v 8)]⟩, ⟨calF2 Dy.cSub, 3, [(.v 15), (.v 3), (.v 4), (.v 9), (.v 10)]⟩, ⟨calF2 Dy.cSub, 3, [(.v 18), (.v 5), (.v 6), (.v 11), (.v 12)]⟩], needs := [], val := .agg [.fl (.v 13), .fl (.v 14), .fl (.v 16), .fl (.v 17), .fl (.v 19), .fl (.v 20)], upd := [(0, [.it .i64 (.v 21)])] }⟩
theorem ctBothSub_ok : CtOk Tryz.prog 108 ctBothSub := CtOk.flat mc3_ok (dr_ok mc3_ok) Tryz.func108 rfl (by decide) [] 200 ⟨[.agg [.fl (.v 13), .fl (.v 14), .fl (.v 16), .fl (.v 17), .fl (.v 19), .fl (.v 20)]], [some ([.it .i64 (.v 21)])], 22, [0, 0, 0]⟩ (by kernel_rfl) rfl (by kernel_rfl) rfl (by kernel_rfl) (by kernel_rfl) (by kernel_rfl) (by kernel_rfl)
def mc4 : List (Nat × Ct) := (108, ctBothSub) :: mc3
theorem mc4_ok : AllOk Tryz.prog mc4 := ⟨ctBothSub_ok, mc3_ok⟩
def ctVSub : Ct := ⟨13, [[vi .i64 0]], [.ptr 0 0, .agg [vf 1, vf 2, vf 3, vf 4, vf 5, vf 6], .agg [vf 7, vf 8, vf 9, vf 10, vf 11, vf 12]], { binds := [⟨calF2 Dy.cSub, 3, [(.v 0), (.v 1), (.v 2), (.v 7), (.v 8)]⟩, ⟨calF2 Dy.cSub, 3, [(.v 15), (.v 3), (.v 4), (.v 9), (.v 10)]⟩, ⟨calF2 Dy.cSub, 3, [(.v 18), (.v 5), (.v 6), (.v 11), (.v 12)]⟩], needs := [], val := .agg [.fl (.v 13), .fl (.v 14), .fl (.v 16), .fl (.v 17), .fl (.v 19), .fl (.v 20)], upd := [(0, [.it .i64 (.v 21)])] }⟩
theorem ctVSub_ok : CtOk Tryz.prog 45 ctVSub := CtOk.flat mc4_ok (dr_ok mc4_ok) Tryz.func45 rfl (by decide) [] 200 ⟨[.agg [.fl (.v 13), .fl (.v 14), .fl (.v 16), .fl (.v 17), .fl (.v 19), .fl (.v 20)]], [some ([.it .i64 (.v 21)])], 22, [0]⟩ (by kernel_rfl) rfl (by kernel_rfl) rfl (by kernel_rfl) (by kernel_rfl) (by kernel_rfl) (by kernel_rfl)
def mc5 : List (Nat × Ct) := (45, ctVSub) :: mc4
theorem mc5_ok : AllOk Tryz.prog mc5 := ⟨ctVSub_ok, mc4_ok⟩
def ctSumMul : Ct := ⟨13, [[vi .i64 0]], [.ptr 0 0, .agg [vf 1, vf 2, vf 3, vf 4, vf 5, vf 6], .agg [vf 7, vf 8, vf 9, vf 10, vf 11, vf 12], .fn 42 [.ptr 0 0] []], { binds := [⟨calF2 Dy.cMul, 3, [(.v 0), (.v 1), (.v 2), (.v 7), (.v 8)]⟩, ⟨calF2 Dy.cMul, 3, [(.v 15), (.v 3), (.v 4), (.v 9), (.v 10)]⟩, ⟨calF2 Dy.cAdd, 3, [(.v 18), (.v 13), (.v 14), (.v 16), (.v 17)]⟩, ⟨calF2 Dy.cMul, 3, [(.v 21), (.v 5), (.v 6), (.v 11), (.v 12)]⟩, ⟨calF2 Dy.cAdd, 3, [(.v 24), (.v 19), (.v 20), (.v 22), (.v 23)]⟩], needs := [], val := .agg [.fl (.v 25), .fl (.v 26)], upd := [(0, [.it .i64 (.v 27)])] }⟩
theorem ctSumMul_ok : CtOk Tryz.prog 107 ctSumMul := CtOk.flat mc5_ok (dr_ok mc5_ok) Tryz.func107 rfl (by decide) [] 200 ⟨[.agg [.fl (.v 25), .fl (.v 26)]], [some ([.it .i64 (.v 27)])], 28, [0, 0, 0, 0, 0]⟩ (by kernel_rfl) rfl (by kernel_rfl) rfl (by kernel_rfl) (by kernel_rfl) (by kernel_rfl) (by kernel_rfl)
def mc6 : List (Nat × Ct) := (107, ctSumMul) :: mc5
theorem mc6_ok : AllOk Tryz.prog mc6 := ⟨ctSumMul_ok, mc5_ok⟩
def ctVDot : Ct := ⟨13, [[vi .i64 0]], [.ptr 0 0, .agg [vf 1, vf 2, vf 3, vf 4, vf 5, vf 6], .agg [vf 7, vf 8, vf 9, vf 10, vf 11, vf 12]], { binds := [⟨calF2 Dy.cMul, 3, [(.v 0), (.v 1), (.v 2), (.v 7), (.v 8)]⟩, ⟨calF2 Dy.cMul, 3, [(.v 15), (.v 3), (.v 4), (.v 9), (.v 10)]⟩, ⟨calF2 Dy.cAdd, 3, [(.v 18), (.v 13), (.v 14), (.v 16), (.v 17)]⟩, ⟨calF2 Dy.cMul, 3, [(.v 21), (.v 5), (.v 6), (.v 11), (.v 12)]⟩, ⟨calF2 Dy.cAdd, 3, [(.v 24), (.v 19), (.v 20), (.v 22), (.v 23)]⟩], needs := [], val := .agg [.fl (.v 25), .fl (.v 26)], upd := [(0, [.it .i64 (.v 27)])] }⟩
theorem ctVDot_ok : CtOk Tryz.prog 44 ctVDot := CtOk.flat mc6_ok (dr_ok mc6_ok) Tryz.func44 rfl (by decide) [] 200 ⟨[.agg [.fl (.v 25), .fl (.v 26)]], [some ([.it .i64 (.v 27)])], 28, [0]⟩ (by kernel_rfl) rfl (by kernel_rfl) rfl (by kernel_rfl) (by kernel_rfl) (by kernel_rfl) (by kernel_rfl)
def mc7 : List (Nat × Ct) := (44, ctVDot) :: mc6
theorem mc7_ok : AllOk Tryz.prog mc7 := ⟨ctVDot_ok, mc6_ok⟩
def ctScale1 : Ct := ⟨5, [[.ptr 2 0], [vf 1, vf 2], [vi .i64 0]], [vp 3 4, .ptr 0 0, .ptr 1 0], { binds := [⟨calF2 Dy.cMul, 3, [(.v 0), (.v 1), (.v 2), (.v 3), (.v 4)]⟩], needs := [], val := .agg [.fl (.v 5), .fl (.v 6)], upd := [(2, [.it .i64 (.v 7)])] }⟩
theorem ctScale1_ok : CtOk Tryz.prog 109 ctScale1 := CtOk.flat mc7_ok (dr_ok mc7_ok) Tryz.func109 rfl (by decide) [] 200 ⟨[.agg [.fl (.v 5), .fl (.v 6)]], [some ([.ptr 2 0]), some ([.fl (.v 1), .fl (.v 2)]), some ([.it .i64 (.v 7)])], 8, [2]⟩ (by kernel_rfl) rfl (by kernel_rfl) rfl (by kernel_rfl) (by kernel_rfl) (by kernel_rfl) (by kernel_rfl)
def mc8 : List (Nat × Ct) := (109, ctScale1) :: mc7
theorem mc8_ok : AllOk Tryz.prog mc8 := ⟨ctScale1_ok, mc7_ok⟩
def ctEachS1 : Ct := ⟨7, [[.fn 109 [] [.ptr 1 0, .ptr 2 0]], [.ptr 3 0], [vf 1, vf 2], [vi .i64 0]], [vp 3 4, vp 5 6, .ptr 0 0], { binds := [⟨calF2 Dy.cMul, 3, [(.v 0), (.v 1), (.v 2), (.v 3), (.v 4)]⟩], needs := [], val := .agg [.fl (.v 7), .fl (.v 8)], upd := [(3, [.it .i64 (.v 9)])] }⟩
theorem ctEachS1_ok : CtOk Tryz.prog 146 ctEachS1 := CtOk.flat mc8_ok (dr_ok mc8_ok) Tryz.func146 rfl (by decide) [] 200 ⟨[.agg [.fl (.v 7), .fl (.v 8)]], [some ([.fn 109 [] [.ptr 1 0, .ptr 2 0]]), some ([.ptr 3 0]), some ([.fl (.v 1), .fl (.v 2)]), some ([.it .i64 (.v 9)])], 10, [3]⟩ (by kernel_rfl) rfl (by kernel_rfl) rfl (by kernel_rfl) (by kernel_rfl) (by kernel_rfl) (by kernel_rfl)
def mc9 : List (Nat × Ct) := (146, ctEachS1) :: mc8
theorem mc9_ok : AllOk Tryz.prog mc9 := ⟨ctEachS1_ok, mc8_ok⟩
def ctBothS : Ct := ⟨15, [[.fn 109 [] [.ptr 1 0, .ptr 2 0]], [.ptr 3 0], [vf 1, vf 2], [vi .i64 0]], [.agg [vf 3, vf 4, vf 5, vf 6, vf 7, vf 8], .agg [vf 9, vf 10, vf 11, vf 12, vf 13, vf 14], .fn 146 [] [.ptr 0 0]], { binds := [⟨calF2 Dy.cMul, 3, [(.v 0), (.v 1), (.v 2), (.v 3), (.v 4)]⟩, ⟨calF2 Dy.cMul, 3, [(.v 17), (.v 1), (.v 2), (.v 5), (.v 6)]⟩, ⟨calF2 Dy.cMul, 3, [(.v 20), (.v 1), (.v 2), (.v 7), (.v 8)]⟩], needs := [], val := .agg [.fl (.v 15), .fl (.v 16), .fl (.v 18), .fl (.v 19), .fl (.v 21), .fl (.v 22)], upd := [(3, [.it .i64 (.v 23)])] }⟩
theorem ctBothS_ok : CtOk Tryz.prog 108 ctBothS := CtOk.flat mc9_ok (dr_ok mc9_ok) Tryz.func108 rfl (by decide) [] 200 ⟨[.agg [.fl (.v 15), .fl (.v 16), .fl (.v 18), .fl (.v 19), .fl (.v 21), .fl (.v 22)]], [some ([.fn 109 [] [.ptr 1 0, .ptr 2 0]]), some ([.ptr 3 0]), some ([.fl (.v 1), .fl (.v 2)]), some ([.it .i64 (.v 23)])], 24, [3, 3, 3]⟩ (by kernel_rfl) rfl (by kernel_rfl) rfl (by kernel_rfl) (by kernel_rfl) (by kernel_rfl) (by kernel_rfl)
def mc10 : List (Nat × Ct) := (108, ctBothS) :: mc9
theorem mc10_ok : AllOk Tryz.prog mc10 := ⟨ctBothS_ok, mc9_ok⟩
def ctEachS : Ct := ⟨9, [[.ptr 2 0], [vf 1, vf 2], [vi .i64 0]], [.agg [vf 3, vf 4, vf 5, vf 6, vf 7, vf 8], .fn 109 [] [.ptr 0 0, .ptr 1 0]], { binds := [⟨calF2 Dy.cMul, 3, [(.v 0), (.v 1), (.v 2), (.v 3), (.v 4)]⟩, ⟨calF2 Dy.cMul, 3, [(.v 11), (.v 1), (.v 2), (.v 5), (.v 6)]⟩, ⟨calF2 Dy.cMul, 3, [(.v 14), (.v 1), (.v 2), (.v 7), (.v 8)]⟩], needs := [], val := .agg [.fl (.v 9), .fl (.v 10), .fl (.v 12), .fl (.v 13), .fl (.v 15), .fl (.v 16)], upd := [(2, [.it .i64 (.v 17)])] }⟩
theorem ctEachS_ok : CtOk Tryz.prog 89 ctEachS := CtOk.flat mc10_ok (dr_ok mc10_ok) Tryz.func89 rfl (by decide) [] 200 ⟨[.agg [.fl (.v 9), .fl (.v 10), .fl (.v 12), .fl (.v 13), .fl (.v 15), .fl (.v 16)]], [some ([.ptr 2 0]), some ([.fl (.v 1), .fl (.v 2)]), some ([.it .i64 (.v 17)])], 18, [2]⟩ (by kernel_rfl) rfl (by kernel_rfl) rfl (by kernel_rfl) (by kernel_rfl) (by kernel_rfl) (by kernel_rfl)
def mc11 : List (Nat × Ct) := (89, ctEachS) :: mc10
theorem mc11_ok : AllOk Tryz.prog mc11 := ⟨ctEachS_ok, mc10_ok⟩
def ctVScale : Ct := ⟨9, [[vi .i64 0]], [.ptr 0 0, vp 1 2, .agg [vf 3, vf 4, vf 5, vf 6, vf 7, vf 8]], { binds := [⟨calF2 Dy.cMul, 3, [(.v 0), (.v 1), (.v 2), (.v 3), (.v 4)]⟩, ⟨calF2 Dy.cMul, 3, [(.v 11), (.v 1), (.v 2), (.v 5), (.v 6)]⟩, ⟨calF2 Dy.cMul, 3, [(.v 14), (.v 1), (.v 2), (.v 7), (.v 8)]⟩], needs := [], val := .agg [.fl (.v 9), .fl (.v 10), .fl (.v 12), .fl (.v 13), .fl (.v 15), .fl (.v 16)], upd := [(0, [.it .i64 (.v 17)])] }⟩
theorem ctVScale_ok : CtOk Tryz.prog 46 ctVScale := CtOk.flat mc11_ok (dr_ok mc11_ok) Tryz.func46 rfl (by decide) [] 200 ⟨[.agg [.fl (.v 9), .fl (.v 10), .fl (.v 12), .fl (.v 13), .fl (.v 15), .fl (.v 16)]], [some ([.it .i64 (.v 17)])], 18, [0]⟩ (by kernel_rfl) rfl (by kernel_rfl) rfl (by kernel_rfl) (by kernel_rfl) (by kernel_rfl) (by kernel_rfl)
def mc12 : List (Nat × Ct) := (46, ctVScale) :: mc11
theorem mc12_ok : AllOk Tryz.prog mc12 := ⟨ctVScale_ok, mc11_ok⟩
def ctNorm1 : Ct := ⟨5, [[.ptr 1 0], [vi .i64 0]], [vp 1 2, vp 3 4, .ptr 0 0], { binds := [⟨calF1 Dy.cSqr, 3, [(.v 0), (.v 1), (.v 2)]⟩], needs := [], val := .agg [.fl (.v 5), .fl (.v 6)], upd := [(1, [.it .i64 (.v 7)])] }⟩
theorem ctNorm1_ok : CtOk Tryz.prog 145 ctNorm1 := CtOk.flat mc12_ok (dr_ok mc12_ok) Tryz.func145 rfl (by decide) [] 200 ⟨[.agg [.fl (.v 5), .fl (.v 6)]], [some ([.ptr 1 0]), some ([.it .i64 (.v 7)])], 8, [1]⟩ (by kernel_rfl) rfl (by kernel_rfl) rfl (by kernel_rfl) (by kernel_rfl) (by kernel_rfl) (by kernel_rfl)
def mc13 : List (Nat × Ct) := (145, ctNorm1) :: mc12
theorem mc13_ok : AllOk Tryz.prog mc13 := ⟨ctNorm1_ok, mc12_ok⟩
def ctSumN : Ct := ⟨13, [[vi .i64 0], [.ptr 0 0]], [.ptr 0 0, .agg [vf 1, vf 2, vf 3, vf 4, vf 5, vf 6], .agg [vf 7, vf 8, vf 9, vf 10, vf 11, vf 12], .fn 145 [] [.ptr 1 0]], { binds := [⟨calF1 Dy.cSqr, 3, [(.v 0), (.v 1), (.v 2)]⟩, ⟨calF1 Dy.cSqr, 3, [(.v 15), (.v 3), (.v 4)]⟩, ⟨calF2 Dy.cAdd, 3, [(.v 18), (.v 13), (.v 14), (.v 16), (.v 17)]⟩, ⟨calF1 Dy.cSqr, 3, [(.v 21), (.v 5), (.v 6)]⟩, ⟨calF2 Dy.cAdd, 3, [(.v 24), (.v 19), (.v 20), (.v 22), (.v 23)]⟩], needs := [], val := .agg [.fl (.v 25), .fl (.v 26)], upd := [(0, [.it .i64 (.v 27)])] }⟩
theorem ctSumN_ok : CtOk Tryz.prog 107 ctSumN := CtOk.flat mc13_ok (dr_ok mc13_ok) Tryz.func107 rfl (by decide) [] 200 ⟨[.agg [.fl (.v 25), .fl (.v 26)]], [some ([.it .i64 (.v 27)]), some ([.ptr 0 0])], 28, [0, 0, 0, 0, 0]⟩ (by kernel_rfl) rfl (by kernel_rfl) rfl (by kernel_rfl) (by kernel_rfl) (by kernel_rfl) (by kernel_rfl)
def mc14 : List (Nat × Ct) := (107, ctSumN) :: mc13
theorem mc14_ok : AllOk Tryz.prog mc14 := ⟨ctSumN_ok, mc13_ok⟩
def ctVNorm : Ct := ⟨7, [[vi .i64 0]], [.ptr 0 0, .agg [vf 1, vf 2, vf 3, vf 4, vf 5, vf 6]], { binds := [⟨calF1 Dy.cSqr, 3, [(.v 0), (.v 1), (.v 2)]⟩, ⟨calF1 Dy.cSqr, 3, [(.v 9), (.v 3), (.v 4)]⟩, ⟨calF2 Dy.cAdd, 3, [(.v 12), (.v 7), (.v 8), (.v 10), (.v 11)]⟩, ⟨calF1 Dy.cSqr, 3, [(.v 15), (.v 5), (.v 6)]⟩, ⟨calF2 Dy.cAdd, 3, [(.v 18), (.v 13), (.v 14), (.v 16), (.v 17)]⟩, ⟨calF1 Dy.cSqrt, 3, [(.v 21), (.v 19), (.v 20)]⟩], needs := [], val := .agg [.fl (.v 22), .fl (.v 23)], upd := [(0, [.it .i64 (.v 24)])] }⟩
theorem ctVNorm_ok : CtOk Tryz.prog 88 ctVNorm := CtOk.flat mc14_ok (dr_ok mc14_ok) Tryz.func88 rfl (by decide) [] 200 ⟨[.agg [.fl (.v 22), .fl (.v 23)]], [some ([.it .i64 (.v 24)])], 25, [0, 0]⟩ (by kernel_rfl) rfl (by kernel_rfl) rfl (by kernel_rfl) (by kernel_rfl) (by kernel_rfl) (by kernel_rfl)
def mc15 : List (Nat × Ct) := (88, ctVNorm) :: mc14
theorem mc15_ok : AllOk Tryz.prog mc15 := ⟨ctVNorm_ok, mc14_ok⟩
def ctAbs : Ct := ctP 1 [vf 0] (fun us _ => .f (Dy.abs (gF us 0))) 1 (vf 1) []
theorem ctAbs_ok : CtOk Tryz.prog 87 ctAbs := by
 refine ctP_ok (en Tryz.func87 rfl (by decide)) rfl rfl (fun us w vs hl hv hn => ?_) rfl
 match us, hl with
 | [u0], _ =>
  obtain ⟨x0, y0, hx0, hy0, rfl⟩ := denL_cons.1 hv
  obtain ⟨a0, e0, w0, rfl⟩ := den_fl hx0
  rw [denL_nil.1 hy0]
  simp [E.ev] at e0
  subst e0
  exact ⟨.float .f64 (Dy.abs a0), fl_den rfl (Dy.W_abs a0), (abs_any a0 w w0).mono fun e w2 ⟨h1, h2⟩ => ⟨h1, by subst h2; exact Below.refl _ _⟩⟩
def mc16 : List (Nat × Ct) := (87, ctAbs) :: mc15
theorem mc16_ok : AllOk Tryz.prog mc16 := ⟨ctAbs_ok, mc15_ok⟩
def ctWithin : Ct := ⟨2, [], [vp 0 1], { binds := [⟨fun us i => ivU (vWithin (gF us 0, gF us 1)) i, 2, upto 0 2⟩], needs := [⟨nIv, [.v 0, .v 1]⟩], val := vp 2 3, upd := [] }⟩
set_option maxRecDepth 100000 in
set_option maxHeartbeats 8000000 in
theorem ctWithin_ok : CtOk Tryz.prog 91 ctWithin := by
 refine CtOk.of_eval2 mc16_ok (dr_ok mc16_ok) Tryz.func91 rfl (by decide) [] 200 (by kernel_rfl) rfl (.bind ⟨fun us i => meetU (iMeet (gF us 0, gF us 1) (gF us 2, gF us 3)) i, 3, [(.v 0), (.v 1), (.l (.f 13830554455654793216)), (.l (.f 4607182418800017408))]⟩ (.need ⟨nIv, [(.v 0), (.v 1)]⟩ (.need ⟨nIv, [(.l (.f 13830554455654793216)), (.l (.f 4607182418800017408))]⟩ (.done .ret ⟨[.agg [.fl (.v 2), .fl (.v 3)]], [], 5, []⟩)))) (by kernel_rfl) (by kernel_rfl) (by kernel_rfl) (fun us hl hF hB hN => ?_)
 match us, hl with
 | [u0, u1], _ =>
  simp [FactsB, FactsL, Facts, ctWithin] at hF hB
  simp [NeedsAt, runB, evs, E.ev, upto, resl, List.range, List.range.loop, ctWithin] at hN
  obtain ⟨⟨a1, rfl, wa1⟩, ⟨a2, rfl, wa2⟩⟩ := hF
  simp [nIv, gF, U.F] at hN
  refine T.HH.h ?_
  obtain ⟨t0, t1, t2, e3⟩ := Dy.ex3 (iMeet (a1, a2) (13830554455654793216, 4607182418800017408))
  refine T.hbind rfl (congrArg (fun r => [meetU r 0, meetU r 1, meetU r 2]) e3) rfl ?_
  refine T.hneed rfl (hN) ?_
  refine T.hneed rfl ((show Dy.ivR (13830554455654793216, 4607182418800017408) = true from by decide +kernel)) ?_
  refine T.hdone ?_
  have e00 : vWithin (a1, a2) = (t0, t1) := by simp only [vWithin, e3] <;> simp_all
  exact ⟨⟨(congrArg (fun r => some (ivU r 0)) e00.symm), (congrArg (fun r => some (ivU r 1)) e00.symm), trivial⟩, trivial, rfl⟩
def mc17 : List (Nat × Ct) := (91, ctWithin) :: mc16
theorem mc17_ok : AllOk Tryz.prog mc17 := ⟨ctWithin_ok, mc16_ok⟩
def ctUnit1 : Ct := ⟨5, [[vi .i64 0], [vf 1, vf 2]], [vp 3 4, .ptr 0 0, .ptr 1 0], { binds := [⟨calF2 Dy.cDiv, 3, [(.v 0), (.v 3), (.v 4), (.v 1), (.v 2)]⟩, ⟨fun us i => ivU (vWithin (gF us 0, gF us 1)) i, 2, [(.v 5), (.v 6)]⟩], needs := [⟨nIv, [(.v 5), (.v 6)]⟩], val := .agg [.fl (.v 8), .fl (.v 9)], upd := [(0, [.it .i64 (.v 7)])] }⟩
theorem ctUnit1_ok : CtOk Tryz.prog 90 ctUnit1 := CtOk.flat mc17_ok (dr_ok mc17_ok) Tryz.func90 rfl (by decide) [] 200 ⟨[.agg [.fl (.v 8), .fl (.v 9)]], [some ([.it .i64 (.v 7)]), some ([.fl (.v 1), .fl (.v 2)])], 10, [0]⟩ (by kernel_rfl) rfl (by kernel_rfl) rfl (by kernel_rfl) (by kernel_rfl) (by kernel_rfl) (by kernel_rfl)
def mc18 : List (Nat × Ct) := (90, ctUnit1) :: mc17
theorem mc18_ok : AllOk Tryz.prog mc18 := ⟨ctUnit1_ok, mc17_ok⟩
def ctEachU1 : Ct := ⟨7, [[.fn 90 [] [.ptr 1 0, .ptr 2 0]], [vi .i64 0], [vf 1, vf 2]], [vp 3 4, vp 5 6, .ptr 0 0], { binds := [⟨calF2 Dy.cDiv, 3, [(.v 0), (.v 3), (.v 4), (.v 1), (.v 2)]⟩, ⟨fun us i => ivU (vWithin (gF us 0, gF us 1)) i, 2, [(.v 7), (.v 8)]⟩], needs := [⟨nIv, [(.v 7), (.v 8)]⟩], val := .agg [.fl (.v 10), .fl (.v 11)], upd := [(1, [.it .i64 (.v 9)])] }⟩
theorem ctEachU1_ok : CtOk Tryz.prog 146 ctEachU1 := CtOk.flat mc18_ok (dr_ok mc18_ok) Tryz.func146 rfl (by decide) [] 200 ⟨[.agg [.fl (.v 10), .fl (.v 11)]], [some ([.fn 90 [] [.ptr 1 0, .ptr 2 0]]), some ([.it .i64 (.v 9)]), some ([.fl (.v 1), .fl (.v 2)])], 12, [1]⟩ (by kernel_rfl) rfl (by kernel_rfl) rfl (by kernel_rfl) (by kernel_rfl) (by kernel_rfl) (by kernel_rfl)
def mc19 : List (Nat × Ct) := (146, ctEachU1) :: mc18
theorem mc19_ok : AllOk Tryz.prog mc19 := ⟨ctEachU1_ok, mc18_ok⟩
def ctBothU : Ct := ⟨15, [[.fn 90 [] [.ptr 1 0, .ptr 2 0]], [vi .i64 0], [vf 1, vf 2]], [.agg [vf 3, vf 4, vf 5, vf 6, vf 7, vf 8], .agg [vf 9, vf 10, vf 11, vf 12, vf 13, vf 14], .fn 146 [] [.ptr 0 0]], { binds := [⟨calF2 Dy.cDiv, 3, [(.v 0), (.v 3), (.v 4), (.v 1), (.v 2)]⟩, ⟨fun us i => ivU (vWithin (gF us 0, gF us 1)) i, 2, [(.v 15), (.v 16)]⟩, ⟨calF2 Dy.cDiv, 3, [(.v 17), (.v 5), (.v 6), (.v 1), (.v 2)]⟩, ⟨fun us i => ivU (vWithin (gF us 0, gF us 1)) i, 2, [(.v 20), (.v 21)]⟩, ⟨calF2 Dy.cDiv, 3, [(.v 22), (.v 7), (.v 8), (.v 1), (.v 2)]⟩, ⟨fun us i => ivU (vWithin (gF us 0, gF us 1)) i, 2, [(.v 25), (.v 26)]⟩], needs := [⟨nIv, [(.v 15), (.v 16)]⟩, ⟨nIv, [(.v 20), (.v 21)]⟩, ⟨nIv, [(.v 25), (.v 26)]⟩], val := .agg [.fl (.v 18), .fl (.v 19), .fl (.v 23), .fl (.v 24), .fl (.v 28), .fl (.v 29)], upd := [(1, [.it .i64 (.v 27)])] }⟩
theorem ctBothU_ok : CtOk Tryz.prog 108 ctBothU := CtOk.flat mc19_ok (dr_ok mc19_ok) Tryz.func108 rfl (by decide) [] 200 ⟨[.agg [.fl (.v 18), .fl (.v 19), .fl (.v 23), .fl (.v 24), .fl (.v 28), .fl (.v 29)]], [some ([.fn 90 [] [.ptr 1 0, .ptr 2 0]]), some ([.it .i64 (.v 27)]), some ([.fl (.v 1), .fl (.v 2)])], 30, [1, 1, 1]⟩ (by kernel_rfl) rfl (by kernel_rfl) rfl (by kernel_rfl) (by kernel_rfl) (by kernel_rfl) (by kernel_rfl)
def mc20 : List (Nat × Ct) := (108, ctBothU) :: mc19
theorem mc20_ok : AllOk Tryz.prog mc20 := ⟨ctBothU_ok, mc19_ok⟩
def ctEachU : Ct := ⟨9, [[vi .i64 0], [vf 1, vf 2]], [.agg [vf 3, vf 4, vf 5, vf 6, vf 7, vf 8], .fn 90 [] [.ptr 0 0, .ptr 1 0]], { binds := [⟨calF2 Dy.cDiv, 3, [(.v 0), (.v 3), (.v 4), (.v 1), (.v 2)]⟩, ⟨fun us i => ivU (vWithin (gF us 0, gF us 1)) i, 2, [(.v 9), (.v 10)]⟩, ⟨calF2 Dy.cDiv, 3, [(.v 11), (.v 5), (.v 6), (.v 1), (.v 2)]⟩, ⟨fun us i => ivU (vWithin (gF us 0, gF us 1)) i, 2, [(.v 14), (.v 15)]⟩, ⟨calF2 Dy.cDiv, 3, [(.v 16), (.v 7), (.v 8), (.v 1), (.v 2)]⟩, ⟨fun us i => ivU (vWithin (gF us 0, gF us 1)) i, 2, [(.v 19), (.v 20)]⟩], needs := [⟨nIv, [(.v 9), (.v 10)]⟩, ⟨nIv, [(.v 14), (.v 15)]⟩, ⟨nIv, [(.v 19), (.v 20)]⟩], val := .agg [.fl (.v 12), .fl (.v 13), .fl (.v 17), .fl (.v 18), .fl (.v 22), .fl (.v 23)], upd := [(0, [.it .i64 (.v 21)])] }⟩
theorem ctEachU_ok : CtOk Tryz.prog 89 ctEachU := CtOk.flat mc20_ok (dr_ok mc20_ok) Tryz.func89 rfl (by decide) [] 200 ⟨[.agg [.fl (.v 12), .fl (.v 13), .fl (.v 17), .fl (.v 18), .fl (.v 22), .fl (.v 23)]], [some ([.it .i64 (.v 21)]), some ([.fl (.v 1), .fl (.v 2)])], 24, [0]⟩ (by kernel_rfl) rfl (by kernel_rfl) rfl (by kernel_rfl) (by kernel_rfl) (by kernel_rfl) (by kernel_rfl)
def mc21 : List (Nat × Ct) := (89, ctEachU) :: mc20
theorem mc21_ok : AllOk Tryz.prog mc21 := ⟨ctEachU_ok, mc20_ok⟩
def ctUnit : Ct := ⟨3, [], [.agg [vf 0, vf 1, vf 2]], { binds := [⟨fun us i => vecU ((unitG (gF us 0) (gF us 1) (gF us 2))) i, 7, upto 0 3⟩], needs := [⟨nR3, [.v 0, .v 1, .v 2]⟩], val := .tup [.agg [vf 3, vf 4, vf 5, vf 6, vf 7, vf 8], vi .i64 9], upd := [] }⟩
set_option maxRecDepth 100000 in
set_option maxHeartbeats 8000000 in
theorem ctUnit_ok : CtOk Tryz.prog 33 ctUnit := by
 refine CtOk.of_eval2 mc21_ok (dr_ok mc21_ok) Tryz.func33 rfl (by decide) [] 200 (by kernel_rfl) rfl (.bind ⟨fun us _ => .f (Dy.abs (gF us 0)), 1, [(.v 0)]⟩ (.bind ⟨fun us _ => .f (Dy.abs (gF us 0)), 1, [(.v 1)]⟩ (.bind ⟨fun us _ => .f (Dy.abs (gF us 0)), 1, [(.v 2)]⟩ (.bind ⟨fun us _ => gB3 Dy.dmax us, 1, [(.v 3), (.v 4), (.v 5)]⟩ (.need ⟨rN3, [(.v 3), (.v 4), (.v 5)]⟩ (.bind ⟨fun us _ => .b (Dy.right (gF us 0)), 1, [(.v 0)]⟩ (.bind ⟨fun us _ => nB us, 1, [(.v 7)]⟩ (.ite (.v 8) (.done .ret ⟨[.tup [.agg [.fl (.l (.f 0)), .fl (.l (.f 0)), .fl (.l (.f 0)), .fl (.l (.f 0)), .fl (.l (.f 0)), .fl (.l (.f 0))], .it .i64 (.l (.i 50))]], [], 9, []⟩) (.bind ⟨fun us _ => .b (Dy.right (gF us 0)), 1, [(.v 1)]⟩ (.bind ⟨fun us _ => nB us, 1, [(.v 9)]⟩ (.ite (.v 10) (.done .ret ⟨[.tup [.agg [.fl (.l (.f 0)), .fl (.l (.f 0)), .fl (.l (.f 0)), .fl (.l (.f 0)), .fl (.l (.f 0)), .fl (.l (.f 0))], .it .i64 (.l (.i 50))]], [], 11, []⟩) (.bind ⟨fun us _ => .b (Dy.right (gF us 0)), 1, [(.v 2)]⟩ (.bind ⟨fun us _ => nB us, 1, [(.v 11)]⟩ (.ite (.v 12) (.done .ret ⟨[.tup [.agg [.fl (.l (.f 0)), .fl (.l (.f 0)), .fl (.l (.f 0)), .fl (.l (.f 0)), .fl (.l (.f 0)), .fl (.l (.f 0))], .it .i64 (.l (.i 50))]], [], 13, []⟩) (.bind ⟨fun us _ => cB Dy.flt us, 1, [(.v 6), (.l (.f 4318952042648305664))]⟩ (.ite (.v 13) (.done .ret ⟨[.tup [.agg [.fl (.l (.f 0)), .fl (.l (.f 0)), .fl (.l (.f 0)), .fl (.l (.f 0)), .fl (.l (.f 0)), .fl (.l (.f 0))], .it .i64 (.l (.i 50))]], [], 14, []⟩) (.bind ⟨fun us _ => cB Dy.fgt us, 1, [(.v 6), (.l (.f 4895412794951729152))]⟩ (.ite (.v 14) (.done .ret ⟨[.tup [.agg [.fl (.l (.f 0)), .fl (.l (.f 0)), .fl (.l (.f 0)), .fl (.l (.f 0)), .fl (.l (.f 0)), .fl (.l (.f 0))], .it .i64 (.l (.i 50))]], [], 15, []⟩) (.bind ⟨calF0 Dy.cNum, 3, [(.l (.i 0)), (.v 0)]⟩ (.bind ⟨calF0 Dy.cNum, 3, [(.v 17), (.v 1)]⟩ (.bind ⟨calF0 Dy.cNum, 3, [(.v 20), (.v 2)]⟩ (.bind ⟨calF1 Dy.cSqr, 3, [(.v 23), (.v 15), (.v 16)]⟩ (.bind ⟨calF1 Dy.cSqr, 3, [(.v 26), (.v 18), (.v 19)]⟩ (.bind ⟨calF2 Dy.cAdd, 3, [(.v 29), (.v 24), (.v 25), (.v 27), (.v 28)]⟩ (.bind ⟨calF1 Dy.cSqr, 3, [(.v 32), (.v 21), (.v 22)]⟩ (.bind ⟨calF2 Dy.cAdd, 3, [(.v 35), (.v 30), (.v 31), (.v 33), (.v 34)]⟩ (.bind ⟨calF1 Dy.cSqrt, 3, [(.v 38), (.v 36), (.v 37)]⟩ (.bind ⟨calF2 Dy.cDiv, 3, [(.v 41), (.v 15), (.v 16), (.v 39), (.v 40)]⟩ (.bind ⟨fun us i => ivU (vWithin (gF us 0, gF us 1)) i, 2, [(.v 42), (.v 43)]⟩ (.bind ⟨calF2 Dy.cDiv, 3, [(.v 44), (.v 18), (.v 19), (.v 39), (.v 40)]⟩ (.bind ⟨fun us i => ivU (vWithin (gF us 0, gF us 1)) i, 2, [(.v 47), (.v 48)]⟩ (.bind ⟨calF2 Dy.cDiv, 3, [(.v 49), (.v 21), (.v 22), (.v 39), (.v 40)]⟩ (.bind ⟨fun us i => ivU (vWithin (gF us 0, gF us 1)) i, 2, [(.v 52), (.v 53)]⟩ (.need ⟨nIv, [(.v 42), (.v 43)]⟩ (.need ⟨nIv, [(.v 47), (.v 48)]⟩ (.need ⟨nIv, [(.v 52), (.v 53)]⟩ (.done .ret ⟨[.tup [.agg [.fl (.v 45), .fl (.v 46), .fl (.v 50), .fl (.v 51), .fl (.v 55), .fl (.v 56)], .it .i64 (.l (.i 0))]], [], 57, []⟩))))))))))))))))))))))))))))))))))))) (by kernel_rfl) (by kernel_rfl) (by kernel_rfl) (fun us hl hF hB hN => ?_)
 match us, hl with
 | [u0, u1, u2], _ =>
  simp [FactsB, FactsL, Facts, ctUnit] at hF hB
  simp [NeedsAt, runB, evs, E.ev, upto, resl, List.range, List.range.loop, ctUnit] at hN
  obtain ⟨⟨a, rfl, wa⟩, ⟨b, rfl, wb⟩, ⟨c, rfl, wc⟩⟩ := hF
  simp only [nR3, gF, Bool.and_eq_true] at hN
  obtain ⟨⟨ra, rb⟩, rc⟩ := hN
  replace ra : Dy.right a = true := ra
  replace rb : Dy.right b = true := rb
  replace rc : Dy.right c = true := rc
  refine T.HH.h ?_
  obtain ⟨t0, e1⟩ : ∃ t0, ((Dy.abs (a))) = t0 := ⟨_, rfl⟩
  have ab1 : Dy.W t0 ∧ Dy.right t0 = true := by rw [← e1]; exact ⟨Dy.W_abs _, Dy.right_abs ra⟩
  refine T.hbind rfl (congrArg (fun r => [U.f r]) e1) rfl ?_
  obtain ⟨t2, e3⟩ : ∃ t2, ((Dy.abs (b))) = t2 := ⟨_, rfl⟩
  have ab3 : Dy.W t2 ∧ Dy.right t2 = true := by rw [← e3]; exact ⟨Dy.W_abs _, Dy.right_abs rb⟩
  refine T.hbind rfl (congrArg (fun r => [U.f r]) e3) rfl ?_
  obtain ⟨t4, e5⟩ : ∃ t4, ((Dy.abs (c))) = t4 := ⟨_, rfl⟩
  have ab5 : Dy.W t4 ∧ Dy.right t4 = true := by rw [← e5]; exact ⟨Dy.W_abs _, Dy.right_abs rc⟩
  refine T.hbind rfl (congrArg (fun r => [U.f r]) e5) rfl ?_
  obtain ⟨t6, e7⟩ : ∃ t6, (Dy.dmax (Dy.dmax t0 t2) t4) = t6 := ⟨_, rfl⟩
  refine T.hbind (ρ' := [.f a, .f b, .f c, .f t0, .f t2, .f t4, .f t6]) rfl (congrArg (fun r => [U.f r]) e7) rfl ?_
  refine T.hneed rfl (show (Dy.right t0 && Dy.right t2 && Dy.right t4) = true from by rw [ab1.2, ab3.2, ab5.2]; rfl) ?_
  obtain ⟨t8, e9⟩ : ∃ t8, ((Dy.right (a))) = t8 := ⟨_, rfl⟩
  refine T.hbind rfl (congrArg (fun r => [U.b r]) e9) rfl ?_
  obtain ⟨t10, e11⟩ : ∃ t10, (!t8) = t10 := ⟨_, rfl⟩
  refine T.hbind rfl (congrArg (fun r => [U.b r]) e11) rfl ?_
  refine T.hiteF (x := t10) rfl (e11.symm.trans (by rw [← e9, ra]; rfl)) ?_
  obtain ⟨t12, e13⟩ : ∃ t12, ((Dy.right (b))) = t12 := ⟨_, rfl⟩
  refine T.hbind rfl (congrArg (fun r => [U.b r]) e13) rfl ?_
  obtain ⟨t14, e15⟩ : ∃ t14, (!t12) = t14 := ⟨_, rfl⟩
  refine T.hbind rfl (congrArg (fun r => [U.b r]) e15) rfl ?_
  refine T.hiteF (x := t14) rfl (e15.symm.trans (by rw [← e13, rb]; rfl)) ?_
  obtain ⟨t16, e17⟩ : ∃ t16, ((Dy.right (c))) = t16 := ⟨_, rfl⟩
  refine T.hbind rfl (congrArg (fun r => [U.b r]) e17) rfl ?_
  obtain ⟨t18, e19⟩ : ∃ t18, (!t16) = t18 := ⟨_, rfl⟩
  refine T.hbind rfl (congrArg (fun r => [U.b r]) e19) rfl ?_
  refine T.hiteF (x := t18) rfl (e19.symm.trans (by rw [← e17, rc]; rfl)) ?_
  obtain ⟨t20, e21⟩ : ∃ t20, (Dy.flt t6 4318952042648305664) = t20 := ⟨_, rfl⟩
  refine T.hbind rfl (congrArg (fun r => [U.b r]) e21) rfl ?_
  refine T.hite (x := t20) ?_ ?_ ?_
  ·rfl
  ·intro c23
   refine T.hdone ?_
   have e00 : (unitG (a) (b) (c)) = (((0, 0), (0, 0), (0, 0)), 50) := by simp only [unitG, most3, e1, e3, e5, e7, e9, e11, e13, e15, e17, e19, e21, c23] <;> simp_all
   exact ⟨⟨⟨(congrArg (fun r => some (vecU r 0)) e00.symm), (congrArg (fun r => some (vecU r 1)) e00.symm), (congrArg (fun r => some (vecU r 2)) e00.symm), (congrArg (fun r => some (vecU r 3)) e00.symm), (congrArg (fun r => some (vecU r 4)) e00.symm), (congrArg (fun r => some (vecU r 5)) e00.symm), trivial⟩, ⟨rfl, (congrArg (fun r => some (vecU r 6)) e00.symm)⟩, trivial⟩, trivial, rfl⟩
  ·intro c23
   obtain ⟨t23, e24⟩ : ∃ t23, (Dy.fgt t6 4895412794951729152) = t23 := ⟨_, rfl⟩
   refine T.hbind (ρ' := [.f a, .f b, .f c, .f t0, .f t2, .f t4, .f t6, .b t8, .b t10, .b t12, .b t14, .b t16, .b t18, .b t20, .b t23]) rfl (congrArg (fun r => [U.b r]) e24) rfl ?_
   refine T.hite (x := t23) ?_ ?_ ?_
   ·rfl
   ·intro c26
    refine T.hdone ?_
    have e00 : (unitG (a) (b) (c)) = (((0, 0), (0, 0), (0, 0)), 50) := by simp only [unitG, most3, e1, e3, e5, e7, e9, e11, e13, e15, e17, e19, e21, c23, e24, c26] <;> simp_all
    exact ⟨⟨⟨(congrArg (fun r => some (vecU r 0)) e00.symm), (congrArg (fun r => some (vecU r 1)) e00.symm), (congrArg (fun r => some (vecU r 2)) e00.symm), (congrArg (fun r => some (vecU r 3)) e00.symm), (congrArg (fun r => some (vecU r 4)) e00.symm), (congrArg (fun r => some (vecU r 5)) e00.symm), trivial⟩, ⟨rfl, (congrArg (fun r => some (vecU r 6)) e00.symm)⟩, trivial⟩, trivial, rfl⟩
   ·intro c26
    obtain ⟨t26, t27, t28, e29⟩ := Dy.ex3 (Dy.cNum 0 a)
    refine T.hbind rfl (congrArg (fun r => [calR r 0, calR r 1, calR r 2]) e29) rfl ?_
    obtain ⟨t30, t31, t32, e33⟩ := Dy.ex3 (Dy.cNum t28 b)
    refine T.hbind rfl (congrArg (fun r => [calR r 0, calR r 1, calR r 2]) e33) rfl ?_
    obtain ⟨t34, t35, t36, e37⟩ := Dy.ex3 (Dy.cNum t32 c)
    refine T.hbind rfl (congrArg (fun r => [calR r 0, calR r 1, calR r 2]) e37) rfl ?_
    obtain ⟨t38, t39, t40, e41⟩ := Dy.ex3 (Dy.cSqr t36 (t26, t27))
    refine T.hbind rfl (congrArg (fun r => [calR r 0, calR r 1, calR r 2]) e41) rfl ?_
    obtain ⟨t42, t43, t44, e45⟩ := Dy.ex3 (Dy.cSqr t40 (t30, t31))
    refine T.hbind rfl (congrArg (fun r => [calR r 0, calR r 1, calR r 2]) e45) rfl ?_
    obtain ⟨t46, t47, t48, e49⟩ := Dy.ex3 (Dy.cAdd t44 (t38, t39) (t42, t43))
    refine T.hbind rfl (congrArg (fun r => [calR r 0, calR r 1, calR r 2]) e49) rfl ?_
    obtain ⟨t50, t51, t52, e53⟩ := Dy.ex3 (Dy.cSqr t48 (t34, t35))
    refine T.hbind rfl (congrArg (fun r => [calR r 0, calR r 1, calR r 2]) e53) rfl ?_
    obtain ⟨t54, t55, t56, e57⟩ := Dy.ex3 (Dy.cAdd t52 (t46, t47) (t50, t51))
    have g57 := Dy.good_add (a := (t46, t47)) (b := (t50, t51)) (err := t52)
    rw [e57] at g57
    refine T.hbind (ρ' := [.f a, .f b, .f c, .f t0, .f t2, .f t4, .f t6, .b t8, .b t10, .b t12, .b t14, .b t16, .b t18, .b t20, .b t23, .f t26, .f t27, .i t28, .f t30, .f t31, .i t32, .f t34, .f t35, .i t36, .f t38, .f t39, .i t40, .f t42, .f t43, .i t44, .f t46, .f t47, .i t48, .f t50, .f t51, .i t52, .f t54, .f t55, .i t56]) rfl (congrArg (fun r => [calR r 0, calR r 1, calR r 2]) e57) rfl ?_
    obtain ⟨t58, t59, t60, e61⟩ := Dy.ex3 (Dy.cSqrt t56 (t54, t55))
    have g61 := Dy.good_sqrt (a := (t54, t55)) ⟨g57.1.1, g57.1.2⟩ (err := t56)
    rw [e61] at g61
    refine T.hbind rfl (congrArg (fun r => [calR r 0, calR r 1, calR r 2]) e61) rfl ?_
    obtain ⟨t62, t63, t64, e65⟩ := Dy.ex3 (Dy.cDiv t60 (t26, t27) (t58, t59))
    have g65 := Dy.good_div (a := (t26, t27)) (b := (t58, t59)) ⟨g61.1.1, g61.1.2⟩ (err := t60)
    rw [e65] at g65
    refine T.hbind rfl (congrArg (fun r => [calR r 0, calR r 1, calR r 2]) e65) rfl ?_
    obtain ⟨t66, t67, e68⟩ := Dy.ex2 (vWithin (t62, t63))
    refine T.hbind rfl (congrArg (fun r => [ivU r 0, ivU r 1]) e68) rfl ?_
    obtain ⟨t69, t70, t71, e72⟩ := Dy.ex3 (Dy.cDiv t64 (t30, t31) (t58, t59))
    have g72 := Dy.good_div (a := (t30, t31)) (b := (t58, t59)) ⟨g61.1.1, g61.1.2⟩ (err := t64)
    rw [e72] at g72
    refine T.hbind rfl (congrArg (fun r => [calR r 0, calR r 1, calR r 2]) e72) rfl ?_
    obtain ⟨t73, t74, e75⟩ := Dy.ex2 (vWithin (t69, t70))
    refine T.hbind rfl (congrArg (fun r => [ivU r 0, ivU r 1]) e75) rfl ?_
    obtain ⟨t76, t77, t78, e79⟩ := Dy.ex3 (Dy.cDiv t71 (t34, t35) (t58, t59))
    have g79 := Dy.good_div (a := (t34, t35)) (b := (t58, t59)) ⟨g61.1.1, g61.1.2⟩ (err := t71)
    rw [e79] at g79
    refine T.hbind rfl (congrArg (fun r => [calR r 0, calR r 1, calR r 2]) e79) rfl ?_
    obtain ⟨t80, t81, e82⟩ := Dy.ex2 (vWithin (t76, t77))
    refine T.hbind rfl (congrArg (fun r => [ivU r 0, ivU r 1]) e82) rfl ?_
    refine T.hneed rfl (g65.2) ?_
    refine T.hneed rfl (g72.2) ?_
    refine T.hneed rfl (g79.2) ?_
    refine T.hdone ?_
    have eM : unitM a b c 0 = (((t66, t67), (t73, t74), (t80, t81)), t78) := by
     unfold unitM
     refine (Dy.cs_num e29).trans ?_
     refine (Dy.cs_num e33).trans ?_
     refine (Dy.cs_num e37).trans ?_
     refine (Dy.cs_sqr e41).trans ?_
     refine (Dy.cs_sqr e45).trans ?_
     refine (Dy.cs_add e49).trans ?_
     refine (Dy.cs_sqr e53).trans ?_
     refine (Dy.cs_add e57).trans ?_
     refine (Dy.cs_sqrt e61).trans ?_
     refine (Dy.cs_div e65).trans ?_
     refine (Dy.cm_p e68).trans ?_
     refine (Dy.cs_div e72).trans ?_
     refine (Dy.cm_p e75).trans ?_
     refine (Dy.cs_div e79).trans ?_
     first | exact congrArg (fun r => (r, t78)) e82 | (refine (Dy.cm_p e82).trans ?_; rfl) | (rw [Dy.cm_pure]; simp only [Dy.iHull, e1, e3, e5, e7, e9, e11, e13, e15, e17, e19, e21, c23, e24, c26, e82])
    have e00 : (unitG (a) (b) (c)) = (((t66, t67), (t73, t74), (t80, t81)), 0) := by simp only [unitG, most3, eM, e1, e3, e5, e7, e9, e11, e13, e15, e17, e19, e21, c23, e24, c26] <;> simp_all
    exact ⟨⟨⟨(congrArg (fun r => some (vecU r 0)) e00.symm), (congrArg (fun r => some (vecU r 1)) e00.symm), (congrArg (fun r => some (vecU r 2)) e00.symm), (congrArg (fun r => some (vecU r 3)) e00.symm), (congrArg (fun r => some (vecU r 4)) e00.symm), (congrArg (fun r => some (vecU r 5)) e00.symm), trivial⟩, ⟨rfl, (congrArg (fun r => some (vecU r 6)) e00.symm)⟩, trivial⟩, trivial, rfl⟩
def mc22 : List (Nat × Ct) := (33, ctUnit) :: mc21
theorem mc22_ok : AllOk Tryz.prog mc22 := ⟨ctUnit_ok, mc21_ok⟩
def ctEachN1 : Ct := ⟨5, [[.fn 72 [.ptr 1 0] []], [vi .i64 0]], [vp 1 2, vp 3 4, .ptr 0 0], { binds := [⟨calF1 Dy.cNeg, 3, [(.v 0), (.v 1), (.v 2)]⟩], needs := [], val := .agg [.fl (.v 5), .fl (.v 6)], upd := [(1, [.it .i64 (.v 7)])] }⟩
theorem ctEachN1_ok : CtOk Tryz.prog 146 ctEachN1 := CtOk.flat mc22_ok (dr_ok mc22_ok) Tryz.func146 rfl (by decide) [] 200 ⟨[.agg [.fl (.v 5), .fl (.v 6)]], [some ([.fn 72 [.ptr 1 0] []]), some ([.it .i64 (.v 7)])], 8, [1]⟩ (by kernel_rfl) rfl (by kernel_rfl) rfl (by kernel_rfl) (by kernel_rfl) (by kernel_rfl) (by kernel_rfl)
def mc23 : List (Nat × Ct) := (146, ctEachN1) :: mc22
theorem mc23_ok : AllOk Tryz.prog mc23 := ⟨ctEachN1_ok, mc22_ok⟩
def ctBothN : Ct := ⟨13, [[.fn 72 [.ptr 1 0] []], [vi .i64 0]], [.agg [vf 1, vf 2, vf 3, vf 4, vf 5, vf 6], .agg [vf 7, vf 8, vf 9, vf 10, vf 11, vf 12], .fn 146 [] [.ptr 0 0]], { binds := [⟨calF1 Dy.cNeg, 3, [(.v 0), (.v 1), (.v 2)]⟩, ⟨calF1 Dy.cNeg, 3, [(.v 15), (.v 3), (.v 4)]⟩, ⟨calF1 Dy.cNeg, 3, [(.v 18), (.v 5), (.v 6)]⟩], needs := [], val := .agg [.fl (.v 13), .fl (.v 14), .fl (.v 16), .fl (.v 17), .fl (.v 19), .fl (.v 20)], upd := [(1, [.it .i64 (.v 21)])] }⟩
theorem ctBothN_ok : CtOk Tryz.prog 108 ctBothN := CtOk.flat mc23_ok (dr_ok mc23_ok) Tryz.func108 rfl (by decide) [] 200 ⟨[.agg [.fl (.v 13), .fl (.v 14), .fl (.v 16), .fl (.v 17), .fl (.v 19), .fl (.v 20)]], [some ([.fn 72 [.ptr 1 0] []]), some ([.it .i64 (.v 21)])], 22, [1, 1, 1]⟩ (by kernel_rfl) rfl (by kernel_rfl) rfl (by kernel_rfl) (by kernel_rfl) (by kernel_rfl) (by kernel_rfl)
def mc24 : List (Nat × Ct) := (108, ctBothN) :: mc23
theorem mc24_ok : AllOk Tryz.prog mc24 := ⟨ctBothN_ok, mc23_ok⟩
def ctEachN : Ct := ⟨7, [[vi .i64 0]], [.agg [vf 1, vf 2, vf 3, vf 4, vf 5, vf 6], .fn 72 [.ptr 0 0] []], { binds := [⟨calF1 Dy.cNeg, 3, [(.v 0), (.v 1), (.v 2)]⟩, ⟨calF1 Dy.cNeg, 3, [(.v 9), (.v 3), (.v 4)]⟩, ⟨calF1 Dy.cNeg, 3, [(.v 12), (.v 5), (.v 6)]⟩], needs := [], val := .agg [.fl (.v 7), .fl (.v 8), .fl (.v 10), .fl (.v 11), .fl (.v 13), .fl (.v 14)], upd := [(0, [.it .i64 (.v 15)])] }⟩
theorem ctEachN_ok : CtOk Tryz.prog 89 ctEachN := CtOk.flat mc24_ok (dr_ok mc24_ok) Tryz.func89 rfl (by decide) [] 200 ⟨[.agg [.fl (.v 7), .fl (.v 8), .fl (.v 10), .fl (.v 11), .fl (.v 13), .fl (.v 14)]], [some ([.it .i64 (.v 15)])], 16, [0]⟩ (by kernel_rfl) rfl (by kernel_rfl) rfl (by kernel_rfl) (by kernel_rfl) (by kernel_rfl) (by kernel_rfl)
def mc25 : List (Nat × Ct) := (89, ctEachN) :: mc24
theorem mc25_ok : AllOk Tryz.prog mc25 := ⟨ctEachN_ok, mc24_ok⟩
def ctVNeg : Ct := ⟨7, [[vi .i64 0]], [.ptr 0 0, .agg [vf 1, vf 2, vf 3, vf 4, vf 5, vf 6]], { binds := [⟨calF1 Dy.cNeg, 3, [(.v 0), (.v 1), (.v 2)]⟩, ⟨calF1 Dy.cNeg, 3, [(.v 9), (.v 3), (.v 4)]⟩, ⟨calF1 Dy.cNeg, 3, [(.v 12), (.v 5), (.v 6)]⟩], needs := [], val := .agg [.fl (.v 7), .fl (.v 8), .fl (.v 10), .fl (.v 11), .fl (.v 13), .fl (.v 14)], upd := [(0, [.it .i64 (.v 15)])] }⟩
theorem ctVNeg_ok : CtOk Tryz.prog 95 ctVNeg := CtOk.flat mc25_ok (dr_ok mc25_ok) Tryz.func95 rfl (by decide) [] 200 ⟨[.agg [.fl (.v 7), .fl (.v 8), .fl (.v 10), .fl (.v 11), .fl (.v 13), .fl (.v 14)]], [some ([.it .i64 (.v 15)])], 16, [0]⟩ (by kernel_rfl) rfl (by kernel_rfl) rfl (by kernel_rfl) (by kernel_rfl) (by kernel_rfl) (by kernel_rfl)
def mc26 : List (Nat × Ct) := (95, ctVNeg) :: mc25
theorem mc26_ok : AllOk Tryz.prog mc26 := ⟨ctVNeg_ok, mc25_ok⟩
def ctCross1 : Ct := ⟨9, [[.ptr 1 0], [vi .i64 0]], [vp 1 2, vp 3 4, vp 5 6, vp 7 8, .ptr 0 0], { binds := [⟨calF2 Dy.cMul, 3, [(.v 0), (.v 1), (.v 2), (.v 3), (.v 4)]⟩, ⟨calF2 Dy.cMul, 3, [(.v 11), (.v 5), (.v 6), (.v 7), (.v 8)]⟩, ⟨calF2 Dy.cSub, 3, [(.v 14), (.v 9), (.v 10), (.v 12), (.v 13)]⟩], needs := [], val := .agg [.fl (.v 15), .fl (.v 16)], upd := [(1, [.it .i64 (.v 17)])] }⟩
theorem ctCross1_ok : CtOk Tryz.prog 147 ctCross1 := CtOk.flat mc26_ok (dr_ok mc26_ok) Tryz.func147 rfl (by decide) [] 200 ⟨[.agg [.fl (.v 15), .fl (.v 16)]], [some ([.ptr 1 0]), some ([.it .i64 (.v 17)])], 18, [1, 1, 1]⟩ (by kernel_rfl) rfl (by kernel_rfl) rfl (by kernel_rfl) (by kernel_rfl) (by kernel_rfl) (by kernel_rfl)
def mc27 : List (Nat × Ct) := (147, ctCross1) :: mc26
theorem mc27_ok : AllOk Tryz.prog mc27 := ⟨ctCross1_ok, mc26_ok⟩
def ctVCross : Ct := ⟨13, [[vi .i64 0]], [.ptr 0 0, .agg [vf 1, vf 2, vf 3, vf 4, vf 5, vf 6], .agg [vf 7, vf 8, vf 9, vf 10, vf 11, vf 12]], { binds := [⟨calF2 Dy.cMul, 3, [(.v 0), (.v 3), (.v 4), (.v 11), (.v 12)]⟩, ⟨calF2 Dy.cMul, 3, [(.v 15), (.v 5), (.v 6), (.v 9), (.v 10)]⟩, ⟨calF2 Dy.cSub, 3, [(.v 18), (.v 13), (.v 14), (.v 16), (.v 17)]⟩, ⟨calF2 Dy.cMul, 3, [(.v 21), (.v 5), (.v 6), (.v 7), (.v 8)]⟩, ⟨calF2 Dy.cMul, 3, [(.v 24), (.v 1), (.v 2), (.v 11), (.v 12)]⟩, ⟨calF2 Dy.cSub, 3, [(.v 27), (.v 22), (.v 23), (.v 25), (.v 26)]⟩, ⟨calF2 Dy.cMul, 3, [(.v 30), (.v 1), (.v 2), (.v 9), (.v 10)]⟩, ⟨calF2 Dy.cMul, 3, [(.v 33), (.v 3), (.v 4), (.v 7), (.v 8)]⟩, ⟨calF2 Dy.cSub, 3, [(.v 36), (.v 31), (.v 32), (.v 34), (.v 35)]⟩], needs := [], val := .agg [.fl (.v 19), .fl (.v 20), .fl (.v 28), .fl (.v 29), .fl (.v 37), .fl (.v 38)], upd := [(0, [.it .i64 (.v 39)])] }⟩
theorem ctVCross_ok : CtOk Tryz.prog 96 ctVCross := CtOk.flat mc27_ok (dr_ok mc27_ok) Tryz.func96 rfl (by decide) [] 200 ⟨[.agg [.fl (.v 19), .fl (.v 20), .fl (.v 28), .fl (.v 29), .fl (.v 37), .fl (.v 38)]], [some ([.it .i64 (.v 39)])], 40, [0, 0, 0]⟩ (by kernel_rfl) rfl (by kernel_rfl) rfl (by kernel_rfl) (by kernel_rfl) (by kernel_rfl) (by kernel_rfl)
def mc28 : List (Nat × Ct) := (96, ctVCross) :: mc27
theorem mc28_ok : AllOk Tryz.prog mc28 := ⟨ctVCross_ok, mc27_ok⟩
end Go.Proofs.YtkhplflbcgjkcaaGreat
