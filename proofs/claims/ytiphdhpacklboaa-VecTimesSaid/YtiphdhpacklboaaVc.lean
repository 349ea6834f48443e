/- A reckoning of programs by symbols: vectors (vec). -/
import Derived.Test.YtiphdhpacklboaaYq
namespace Go.Proofs.Ytiphdhpacklboaa
open Go Go.RowKit
set_option linter.unusedSimpArgs false
set_option linter.unusedVariables false

/-- What an interval has within -1 and 1. -/
def vWithin (a : Nat × Nat) : Nat × Nat := (iMeet a (13830554455654793216, 4607182418800017408)).1
def nR3 (us : List U) : Bool := Dy.right (gF us 0) && Dy.right (gF us 1) && Dy.right (gF us 2)
def most3 (a b c : Nat) : Nat := Dy.dmax (Dy.dmax (Dy.abs a) (Dy.abs b)) (Dy.abs c)
def vecU (r : ((Nat × Nat) × (Nat × Nat) × (Nat × Nat)) × Int) (i : Nat) : U := match i with
  | 0 => .f r.1.1.1
  | 1 => .f r.1.1.2
  | 2 => .f r.1.2.1.1
  | 3 => .f r.1.2.1.2
  | 4 => .f r.1.2.2.1
  | 5 => .f r.1.2.2.2
  | _ => .i r.2
/-- A triple's unit vector, by a calculator. -/
def unitM (x y z : Nat) : Dy.Cm ((Nat × Nat) × (Nat × Nat) × (Nat × Nat)) := do
  let a ← Dy.mNum x
  let b ← Dy.mNum y
  let c ← Dy.mNum z
  let a2 ← Dy.mSqr a
  let b2 ← Dy.mSqr b
  let s ← Dy.mAdd a2 b2
  let c2 ← Dy.mSqr c
  let t ← Dy.mAdd s c2
  let n ← Dy.mSqrt t
  let p ← Dy.mDiv a n
  let p' ← pure (vWithin p)
  let q ← Dy.mDiv b n
  let q' ← pure (vWithin q)
  let r ← Dy.mDiv c n
  let r' ← pure (vWithin r)
  pure (p', q', r')
/-- A triple's unit vector, with its error. -/
def unitG (a b c : Nat) : ((Nat × Nat) × (Nat × Nat) × (Nat × Nat)) × Int := if Dy.flt (most3 a b c) 4318952042648305664 = true then (((0, 0), (0, 0), (0, 0)), 50) else if Dy.fgt (most3 a b c) 4895412794951729152 = true then (((0, 0), (0, 0), (0, 0)), 50) else ((unitM a b c 0).1, 0)
theorem within_good {a : Nat × Nat} (w : Dy.WW a) (r : Dy.ivR a = true) : Dy.WW (vWithin a) := by
  unfold vWithin iMeet
  split
  · exact Dy.WW_zero
  · exact ⟨Dy.dmax_W w.1 (by unfold Dy.W; decide), Dy.dmin_W w.2 (by unfold Dy.W; decide)⟩
attribute [local irreducible] iMeet
def v0 : List (Nat × Ct) := q8
theorem v0_ok : AllOk Try.prog v0 := q8_ok
def ctBothAdd : Ct := ⟨13, [[vi .i64 0]], [.agg [vf 1, vf 2, vf 3, vf 4, vf 5, vf 6], .agg [vf 7, vf 8, vf 9, vf 10, vf 11, vf 12], .fn 39 [.ptr 0 0] []], { binds := [⟨calF2 Dy.cAdd, 3, [(.v 0), (.v 1), (.v 2), (.v 7), (.v 8)]⟩, ⟨calF2 Dy.cAdd, 3, [(.v 15), (.v 3), (.v 4), (.v 9), (.v 10)]⟩, ⟨calF2 Dy.cAdd, 3, [(.v 18), (.v 5), (.v 6), (.v 11), (.v 12)]⟩], needs := [], val := .agg [.fl (.v 13), .fl (.v 14), .fl (.v 16), .fl (.v 17), .fl (.v 19), .fl (.v 20)], upd := [(0, [.it .i64 (.v 21)])] }⟩
theorem ctBothAdd_ok : CtOk Try.prog 122 ctBothAdd := CtOk.flat v0_ok (dr_ok v0_ok) Try.func122 rfl (by decide) [] 200 ⟨[.agg [.fl (.v 13), .fl (.v 14), .fl (.v 16), .fl (.v 17), .fl (.v 19), .fl (.v 20)]], [some ([.it .i64 (.v 21)])], 22, [0, 0, 0]⟩ (by kernel_rfl) rfl (by kernel_rfl) rfl (by kernel_rfl) (by kernel_rfl) (by kernel_rfl) (by kernel_rfl)

def v1 : List (Nat × Ct) := (122, ctBothAdd) :: v0
theorem v1_ok : AllOk Try.prog v1 := ⟨ctBothAdd_ok, v0_ok⟩

def ctBothSub : Ct := ⟨13, [[vi .i64 0]], [.agg [vf 1, vf 2, vf 3, vf 4, vf 5, vf 6], .agg [vf 7, vf 8, vf 9, vf 10, vf 11, vf 12], .fn 47 [.ptr 0 0] []], { binds := [⟨calF2 Dy.cSub, 3, [(.v 0), (.v 1), (.v 2), (.v 7), (.v 8)]⟩, ⟨calF2 Dy.cSub, 3, [(.v 15), (.v 3), (.v 4), (.v 9), (.v 10)]⟩, ⟨calF2 Dy.cSub, 3, [(.v 18), (.v 5), (.v 6), (.v 11), (.v 12)]⟩], needs := [], val := .agg [.fl (.v 13), .fl (.v 14), .fl (.v 16), .fl (.v 17), .fl (.v 19), .fl (.v 20)], upd := [(0, [.it .i64 (.v 21)])] }⟩
theorem ctBothSub_ok : CtOk Try.prog 122 ctBothSub := CtOk.flat v1_ok (dr_ok v1_ok) Try.func122 rfl (by decide) [] 200 ⟨[.agg [.fl (.v 13), .fl (.v 14), .fl (.v 16), .fl (.v 17), .fl (.v 19), .fl (.v 20)]], [some ([.it .i64 (.v 21)])], 22, [0, 0, 0]⟩ (by kernel_rfl) rfl (by kernel_rfl) rfl (by kernel_rfl) (by kernel_rfl) (by kernel_rfl) (by kernel_rfl)

def v2 : List (Nat × Ct) := (122, ctBothSub) :: v1
theorem v2_ok : AllOk Try.prog v2 := ⟨ctBothSub_ok, v1_ok⟩

def ctVSub : Ct := ⟨13, [[vi .i64 0]], [.ptr 0 0, .agg [vf 1, vf 2, vf 3, vf 4, vf 5, vf 6], .agg [vf 7, vf 8, vf 9, vf 10, vf 11, vf 12]], { binds := [⟨calF2 Dy.cSub, 3, [(.v 0), (.v 1), (.v 2), (.v 7), (.v 8)]⟩, ⟨calF2 Dy.cSub, 3, [(.v 15), (.v 3), (.v 4), (.v 9), (.v 10)]⟩, ⟨calF2 Dy.cSub, 3, [(.v 18), (.v 5), (.v 6), (.v 11), (.v 12)]⟩], needs := [], val := .agg [.fl (.v 13), .fl (.v 14), .fl (.v 16), .fl (.v 17), .fl (.v 19), .fl (.v 20)], upd := [(0, [.it .i64 (.v 21)])] }⟩
theorem ctVSub_ok : CtOk Try.prog 71 ctVSub := CtOk.flat v2_ok (dr_ok v2_ok) Try.func71 rfl (by decide) [] 200 ⟨[.agg [.fl (.v 13), .fl (.v 14), .fl (.v 16), .fl (.v 17), .fl (.v 19), .fl (.v 20)]], [some ([.it .i64 (.v 21)])], 22, [0]⟩ (by kernel_rfl) rfl (by kernel_rfl) rfl (by kernel_rfl) (by kernel_rfl) (by kernel_rfl) (by kernel_rfl)

def v3 : List (Nat × Ct) := (71, ctVSub) :: v2
theorem v3_ok : AllOk Try.prog v3 := ⟨ctVSub_ok, v2_ok⟩

def ctSumMul : Ct := ⟨13, [[vi .i64 0]], [.ptr 0 0, .agg [vf 1, vf 2, vf 3, vf 4, vf 5, vf 6], .agg [vf 7, vf 8, vf 9, vf 10, vf 11, vf 12], .fn 41 [.ptr 0 0] []], { binds := [⟨calF2 Dy.cMul, 3, [(.v 0), (.v 1), (.v 2), (.v 7), (.v 8)]⟩, ⟨calF2 Dy.cMul, 3, [(.v 15), (.v 3), (.v 4), (.v 9), (.v 10)]⟩, ⟨calF2 Dy.cAdd, 3, [(.v 18), (.v 13), (.v 14), (.v 16), (.v 17)]⟩, ⟨calF2 Dy.cMul, 3, [(.v 21), (.v 5), (.v 6), (.v 11), (.v 12)]⟩, ⟨calF2 Dy.cAdd, 3, [(.v 24), (.v 19), (.v 20), (.v 22), (.v 23)]⟩], needs := [], val := .agg [.fl (.v 25), .fl (.v 26)], upd := [(0, [.it .i64 (.v 27)])] }⟩
theorem ctSumMul_ok : CtOk Try.prog 67 ctSumMul := CtOk.flat v3_ok (dr_ok v3_ok) Try.func67 rfl (by decide) [] 200 ⟨[.agg [.fl (.v 25), .fl (.v 26)]], [some ([.it .i64 (.v 27)])], 28, [0, 0, 0, 0, 0]⟩ (by kernel_rfl) rfl (by kernel_rfl) rfl (by kernel_rfl) (by kernel_rfl) (by kernel_rfl) (by kernel_rfl)

def v4 : List (Nat × Ct) := (67, ctSumMul) :: v3
theorem v4_ok : AllOk Try.prog v4 := ⟨ctSumMul_ok, v3_ok⟩

def ctVDot : Ct := ⟨13, [[vi .i64 0]], [.ptr 0 0, .agg [vf 1, vf 2, vf 3, vf 4, vf 5, vf 6], .agg [vf 7, vf 8, vf 9, vf 10, vf 11, vf 12]], { binds := [⟨calF2 Dy.cMul, 3, [(.v 0), (.v 1), (.v 2), (.v 7), (.v 8)]⟩, ⟨calF2 Dy.cMul, 3, [(.v 15), (.v 3), (.v 4), (.v 9), (.v 10)]⟩, ⟨calF2 Dy.cAdd, 3, [(.v 18), (.v 13), (.v 14), (.v 16), (.v 17)]⟩, ⟨calF2 Dy.cMul, 3, [(.v 21), (.v 5), (.v 6), (.v 11), (.v 12)]⟩, ⟨calF2 Dy.cAdd, 3, [(.v 24), (.v 19), (.v 20), (.v 22), (.v 23)]⟩], needs := [], val := .agg [.fl (.v 25), .fl (.v 26)], upd := [(0, [.it .i64 (.v 27)])] }⟩
theorem ctVDot_ok : CtOk Try.prog 63 ctVDot := CtOk.flat v4_ok (dr_ok v4_ok) Try.func63 rfl (by decide) [] 200 ⟨[.agg [.fl (.v 25), .fl (.v 26)]], [some ([.it .i64 (.v 27)])], 28, [0]⟩ (by kernel_rfl) rfl (by kernel_rfl) rfl (by kernel_rfl) (by kernel_rfl) (by kernel_rfl) (by kernel_rfl)

def v5 : List (Nat × Ct) := (63, ctVDot) :: v4
theorem v5_ok : AllOk Try.prog v5 := ⟨ctVDot_ok, v4_ok⟩

def ctScale1 : Ct := ⟨5, [[.ptr 2 0], [vf 1, vf 2], [vi .i64 0]], [vp 3 4, .ptr 0 0, .ptr 1 0], { binds := [⟨calF2 Dy.cMul, 3, [(.v 0), (.v 1), (.v 2), (.v 3), (.v 4)]⟩], needs := [], val := .agg [.fl (.v 5), .fl (.v 6)], upd := [(2, [.it .i64 (.v 7)])] }⟩
theorem ctScale1_ok : CtOk Try.prog 125 ctScale1 := CtOk.flat v5_ok (dr_ok v5_ok) Try.func125 rfl (by decide) [] 200 ⟨[.agg [.fl (.v 5), .fl (.v 6)]], [some ([.ptr 2 0]), some ([.fl (.v 1), .fl (.v 2)]), some ([.it .i64 (.v 7)])], 8, [2]⟩ (by kernel_rfl) rfl (by kernel_rfl) rfl (by kernel_rfl) (by kernel_rfl) (by kernel_rfl) (by kernel_rfl)

def v6 : List (Nat × Ct) := (125, ctScale1) :: v5
theorem v6_ok : AllOk Try.prog v6 := ⟨ctScale1_ok, v5_ok⟩

def ctEachS1 : Ct := ⟨7, [[.fn 125 [] [.ptr 1 0, .ptr 2 0]], [.ptr 3 0], [vf 1, vf 2], [vi .i64 0]], [vp 3 4, vp 5 6, .ptr 0 0], { binds := [⟨calF2 Dy.cMul, 3, [(.v 0), (.v 1), (.v 2), (.v 3), (.v 4)]⟩], needs := [], val := .agg [.fl (.v 7), .fl (.v 8)], upd := [(3, [.it .i64 (.v 9)])] }⟩
theorem ctEachS1_ok : CtOk Try.prog 123 ctEachS1 := CtOk.flat v6_ok (dr_ok v6_ok) Try.func123 rfl (by decide) [] 200 ⟨[.agg [.fl (.v 7), .fl (.v 8)]], [some ([.fn 125 [] [.ptr 1 0, .ptr 2 0]]), some ([.ptr 3 0]), some ([.fl (.v 1), .fl (.v 2)]), some ([.it .i64 (.v 9)])], 10, [3]⟩ (by kernel_rfl) rfl (by kernel_rfl) rfl (by kernel_rfl) (by kernel_rfl) (by kernel_rfl) (by kernel_rfl)

def v7 : List (Nat × Ct) := (123, ctEachS1) :: v6
theorem v7_ok : AllOk Try.prog v7 := ⟨ctEachS1_ok, v6_ok⟩

def ctBothS : Ct := ⟨15, [[.fn 125 [] [.ptr 1 0, .ptr 2 0]], [.ptr 3 0], [vf 1, vf 2], [vi .i64 0]], [.agg [vf 3, vf 4, vf 5, vf 6, vf 7, vf 8], .agg [vf 9, vf 10, vf 11, vf 12, vf 13, vf 14], .fn 123 [] [.ptr 0 0]], { binds := [⟨calF2 Dy.cMul, 3, [(.v 0), (.v 1), (.v 2), (.v 3), (.v 4)]⟩, ⟨calF2 Dy.cMul, 3, [(.v 17), (.v 1), (.v 2), (.v 5), (.v 6)]⟩, ⟨calF2 Dy.cMul, 3, [(.v 20), (.v 1), (.v 2), (.v 7), (.v 8)]⟩], needs := [], val := .agg [.fl (.v 15), .fl (.v 16), .fl (.v 18), .fl (.v 19), .fl (.v 21), .fl (.v 22)], upd := [(3, [.it .i64 (.v 23)])] }⟩
theorem ctBothS_ok : CtOk Try.prog 122 ctBothS := CtOk.flat v7_ok (dr_ok v7_ok) Try.func122 rfl (by decide) [] 200 ⟨[.agg [.fl (.v 15), .fl (.v 16), .fl (.v 18), .fl (.v 19), .fl (.v 21), .fl (.v 22)]], [some ([.fn 125 [] [.ptr 1 0, .ptr 2 0]]), some ([.ptr 3 0]), some ([.fl (.v 1), .fl (.v 2)]), some ([.it .i64 (.v 23)])], 24, [3, 3, 3]⟩ (by kernel_rfl) rfl (by kernel_rfl) rfl (by kernel_rfl) (by kernel_rfl) (by kernel_rfl) (by kernel_rfl)

def v8 : List (Nat × Ct) := (122, ctBothS) :: v7
theorem v8_ok : AllOk Try.prog v8 := ⟨ctBothS_ok, v7_ok⟩

def ctEachS : Ct := ⟨9, [[.ptr 2 0], [vf 1, vf 2], [vi .i64 0]], [.agg [vf 3, vf 4, vf 5, vf 6, vf 7, vf 8], .fn 125 [] [.ptr 0 0, .ptr 1 0]], { binds := [⟨calF2 Dy.cMul, 3, [(.v 0), (.v 1), (.v 2), (.v 3), (.v 4)]⟩, ⟨calF2 Dy.cMul, 3, [(.v 11), (.v 1), (.v 2), (.v 5), (.v 6)]⟩, ⟨calF2 Dy.cMul, 3, [(.v 14), (.v 1), (.v 2), (.v 7), (.v 8)]⟩], needs := [], val := .agg [.fl (.v 9), .fl (.v 10), .fl (.v 12), .fl (.v 13), .fl (.v 15), .fl (.v 16)], upd := [(2, [.it .i64 (.v 17)])] }⟩
theorem ctEachS_ok : CtOk Try.prog 59 ctEachS := CtOk.flat v8_ok (dr_ok v8_ok) Try.func59 rfl (by decide) [] 200 ⟨[.agg [.fl (.v 9), .fl (.v 10), .fl (.v 12), .fl (.v 13), .fl (.v 15), .fl (.v 16)]], [some ([.ptr 2 0]), some ([.fl (.v 1), .fl (.v 2)]), some ([.it .i64 (.v 17)])], 18, [2]⟩ (by kernel_rfl) rfl (by kernel_rfl) rfl (by kernel_rfl) (by kernel_rfl) (by kernel_rfl) (by kernel_rfl)

def v9 : List (Nat × Ct) := (59, ctEachS) :: v8
theorem v9_ok : AllOk Try.prog v9 := ⟨ctEachS_ok, v8_ok⟩

def ctVScale : Ct := ⟨9, [[vi .i64 0]], [.ptr 0 0, vp 1 2, .agg [vf 3, vf 4, vf 5, vf 6, vf 7, vf 8]], { binds := [⟨calF2 Dy.cMul, 3, [(.v 0), (.v 1), (.v 2), (.v 3), (.v 4)]⟩, ⟨calF2 Dy.cMul, 3, [(.v 11), (.v 1), (.v 2), (.v 5), (.v 6)]⟩, ⟨calF2 Dy.cMul, 3, [(.v 14), (.v 1), (.v 2), (.v 7), (.v 8)]⟩], needs := [], val := .agg [.fl (.v 9), .fl (.v 10), .fl (.v 12), .fl (.v 13), .fl (.v 15), .fl (.v 16)], upd := [(0, [.it .i64 (.v 17)])] }⟩
theorem ctVScale_ok : CtOk Try.prog 72 ctVScale := CtOk.flat v9_ok (dr_ok v9_ok) Try.func72 rfl (by decide) [] 200 ⟨[.agg [.fl (.v 9), .fl (.v 10), .fl (.v 12), .fl (.v 13), .fl (.v 15), .fl (.v 16)]], [some ([.it .i64 (.v 17)])], 18, [0]⟩ (by kernel_rfl) rfl (by kernel_rfl) rfl (by kernel_rfl) (by kernel_rfl) (by kernel_rfl) (by kernel_rfl)

def v10 : List (Nat × Ct) := (72, ctVScale) :: v9
theorem v10_ok : AllOk Try.prog v10 := ⟨ctVScale_ok, v9_ok⟩

def ctNorm1 : Ct := ⟨5, [[.ptr 1 0], [vi .i64 0]], [vp 1 2, vp 3 4, .ptr 0 0], { binds := [⟨calF1 Dy.cSqr, 3, [(.v 0), (.v 1), (.v 2)]⟩], needs := [], val := .agg [.fl (.v 5), .fl (.v 6)], upd := [(1, [.it .i64 (.v 7)])] }⟩
theorem ctNorm1_ok : CtOk Try.prog 68 ctNorm1 := CtOk.flat v10_ok (dr_ok v10_ok) Try.func68 rfl (by decide) [] 200 ⟨[.agg [.fl (.v 5), .fl (.v 6)]], [some ([.ptr 1 0]), some ([.it .i64 (.v 7)])], 8, [1]⟩ (by kernel_rfl) rfl (by kernel_rfl) rfl (by kernel_rfl) (by kernel_rfl) (by kernel_rfl) (by kernel_rfl)

def v11 : List (Nat × Ct) := (68, ctNorm1) :: v10
theorem v11_ok : AllOk Try.prog v11 := ⟨ctNorm1_ok, v10_ok⟩

def ctSumN : Ct := ⟨13, [[vi .i64 0], [.ptr 0 0]], [.ptr 0 0, .agg [vf 1, vf 2, vf 3, vf 4, vf 5, vf 6], .agg [vf 7, vf 8, vf 9, vf 10, vf 11, vf 12], .fn 68 [] [.ptr 1 0]], { binds := [⟨calF1 Dy.cSqr, 3, [(.v 0), (.v 1), (.v 2)]⟩, ⟨calF1 Dy.cSqr, 3, [(.v 15), (.v 3), (.v 4)]⟩, ⟨calF2 Dy.cAdd, 3, [(.v 18), (.v 13), (.v 14), (.v 16), (.v 17)]⟩, ⟨calF1 Dy.cSqr, 3, [(.v 21), (.v 5), (.v 6)]⟩, ⟨calF2 Dy.cAdd, 3, [(.v 24), (.v 19), (.v 20), (.v 22), (.v 23)]⟩], needs := [], val := .agg [.fl (.v 25), .fl (.v 26)], upd := [(0, [.it .i64 (.v 27)])] }⟩
theorem ctSumN_ok : CtOk Try.prog 67 ctSumN := CtOk.flat v11_ok (dr_ok v11_ok) Try.func67 rfl (by decide) [] 200 ⟨[.agg [.fl (.v 25), .fl (.v 26)]], [some ([.it .i64 (.v 27)]), some ([.ptr 0 0])], 28, [0, 0, 0, 0, 0]⟩ (by kernel_rfl) rfl (by kernel_rfl) rfl (by kernel_rfl) (by kernel_rfl) (by kernel_rfl) (by kernel_rfl)

def v12 : List (Nat × Ct) := (67, ctSumN) :: v11
theorem v12_ok : AllOk Try.prog v12 := ⟨ctSumN_ok, v11_ok⟩

def ctVNorm : Ct := ⟨7, [[vi .i64 0]], [.ptr 0 0, .agg [vf 1, vf 2, vf 3, vf 4, vf 5, vf 6]], { binds := [⟨calF1 Dy.cSqr, 3, [(.v 0), (.v 1), (.v 2)]⟩, ⟨calF1 Dy.cSqr, 3, [(.v 9), (.v 3), (.v 4)]⟩, ⟨calF2 Dy.cAdd, 3, [(.v 12), (.v 7), (.v 8), (.v 10), (.v 11)]⟩, ⟨calF1 Dy.cSqr, 3, [(.v 15), (.v 5), (.v 6)]⟩, ⟨calF2 Dy.cAdd, 3, [(.v 18), (.v 13), (.v 14), (.v 16), (.v 17)]⟩, ⟨calF1 Dy.cSqrt, 3, [(.v 21), (.v 19), (.v 20)]⟩], needs := [], val := .agg [.fl (.v 22), .fl (.v 23)], upd := [(0, [.it .i64 (.v 24)])] }⟩
theorem ctVNorm_ok : CtOk Try.prog 22 ctVNorm := CtOk.flat v12_ok (dr_ok v12_ok) Try.func22 rfl (by decide) [] 200 ⟨[.agg [.fl (.v 22), .fl (.v 23)]], [some ([.it .i64 (.v 24)])], 25, [0, 0]⟩ (by kernel_rfl) rfl (by kernel_rfl) rfl (by kernel_rfl) (by kernel_rfl) (by kernel_rfl) (by kernel_rfl)

def v13 : List (Nat × Ct) := (22, ctVNorm) :: v12
theorem v13_ok : AllOk Try.prog v13 := ⟨ctVNorm_ok, v12_ok⟩

def ctAbs : Ct := ctP 1 [vf 0] (fun us _ => .f (Dy.abs (gF us 0))) 1 (vf 1) []
theorem ctAbs_ok : CtOk Try.prog 20 ctAbs := by
  refine ctP_ok (en Try.func20 rfl (by decide)) rfl rfl (fun us w vs hl hv hn => ?_) rfl
  match us, hl with
  | [u0], _ =>
    obtain ⟨x0, y0, hx0, hy0, rfl⟩ := denL_cons.1 hv
    obtain ⟨a0, e0, w0, rfl⟩ := den_fl hx0
    rw [denL_nil.1 hy0]
    simp [E.ev] at e0
    subst e0
    exact ⟨.float .f64 (Dy.abs a0), fl_den rfl (Dy.W_abs a0), (abs_any a0 w w0).mono fun e w2 ⟨h1, h2⟩ => ⟨h1, by subst h2; exact Below.refl _ _⟩⟩

def v14 : List (Nat × Ct) := (20, ctAbs) :: v13
theorem v14_ok : AllOk Try.prog v14 := ⟨ctAbs_ok, v13_ok⟩

def ctWithin : Ct := ⟨2, [], [vp 0 1], { binds := [⟨fun us i => ivU (vWithin (gF us 0, gF us 1)) i, 2, upto 0 2⟩], needs := [⟨nIv, [.v 0, .v 1]⟩], val := vp 2 3, upd := [] }⟩
set_option maxRecDepth 100000 in
set_option maxHeartbeats 8000000 in
theorem ctWithin_ok : CtOk Try.prog 61 ctWithin := by
  refine CtOk.of_eval2 v14_ok (dr_ok v14_ok) Try.func61 rfl (by decide) [] 200 (by kernel_rfl) rfl (.bind ⟨fun us i => meetU (iMeet (gF us 0, gF us 1) (gF us 2, gF us 3)) i, 3, [(.v 0), (.v 1), (.l (.f 13830554455654793216)), (.l (.f 4607182418800017408))]⟩ (.need ⟨nIv, [(.v 0), (.v 1)]⟩ (.need ⟨nIv, [(.l (.f 13830554455654793216)), (.l (.f 4607182418800017408))]⟩ (.done .ret ⟨[.agg [.fl (.v 2), .fl (.v 3)]], [], 5, []⟩)))) (by kernel_rfl) (by kernel_rfl) (by kernel_rfl) (fun us hl hF hB hN => ?_)
  match us, hl with
  | [u0, u1], _ =>
    simp [FactsB, FactsL, Facts, ctWithin] at hF hB
    simp [NeedsAt, runB, evs, E.ev, upto, resl, List.range, List.range.loop, ctWithin] at hN
    obtain ⟨⟨a1, rfl, wa1⟩, ⟨a2, rfl, wa2⟩⟩ := hF
    simp [nIv, gF, U.F] at hN
    refine T.HH.h ?_
    obtain ⟨t0, t1, t2, e3⟩ : ∃ t0 t1 t2, (iMeet (a1, a2) (13830554455654793216, 4607182418800017408)) = ((t0, t1), t2) := Dy.ex3 _
    refine T.hbind (us := [.f a1, .f a2, .f 13830554455654793216, .f 4607182418800017408]) (xs := [.f t0, .f t1, .b t2]) (ρ' := [.f a1, .f a2, .f t0, .f t1, .b t2]) rfl (congrArg (fun r => [meetU r 0, meetU r 1, meetU r 2]) e3) rfl ?_
    refine T.hneed (us := [.f a1, .f a2]) rfl (hN) ?_
    refine T.hneed (us := [.f 13830554455654793216, .f 4607182418800017408]) rfl ((show Dy.ivR (13830554455654793216, 4607182418800017408) = true from by decide +kernel)) ?_
    refine T.hdone ?_
    have e00 : vWithin (a1, a2) = (t0, t1) := by simp only [vWithin, e3, reduceIte, Bool.false_eq_true, Bool.true_eq_false, Bool.true_and, Bool.false_and, Bool.and_true, Bool.and_false, Bool.true_or, Bool.false_or, Bool.or_true, Bool.or_false, Bool.not_true, Bool.not_false] <;> simp_all
    exact ⟨⟨(congrArg (fun r => some (ivU r 0)) e00.symm), (congrArg (fun r => some (ivU r 1)) e00.symm), trivial⟩, trivial, rfl⟩

def v15 : List (Nat × Ct) := (61, ctWithin) :: v14
theorem v15_ok : AllOk Try.prog v15 := ⟨ctWithin_ok, v14_ok⟩

def ctUnit1 : Ct := ⟨5, [[vi .i64 0], [vf 1, vf 2]], [vp 3 4, .ptr 0 0, .ptr 1 0], { binds := [⟨calF2 Dy.cDiv, 3, [(.v 0), (.v 3), (.v 4), (.v 1), (.v 2)]⟩, ⟨fun us i => ivU (vWithin (gF us 0, gF us 1)) i, 2, [(.v 5), (.v 6)]⟩], needs := [⟨nIv, [(.v 5), (.v 6)]⟩], val := .agg [.fl (.v 8), .fl (.v 9)], upd := [(0, [.it .i64 (.v 7)])] }⟩
theorem ctUnit1_ok : CtOk Try.prog 60 ctUnit1 := CtOk.flat v15_ok (dr_ok v15_ok) Try.func60 rfl (by decide) [] 200 ⟨[.agg [.fl (.v 8), .fl (.v 9)]], [some ([.it .i64 (.v 7)]), some ([.fl (.v 1), .fl (.v 2)])], 10, [0]⟩ (by kernel_rfl) rfl (by kernel_rfl) rfl (by kernel_rfl) (by kernel_rfl) (by kernel_rfl) (by kernel_rfl)

def v16 : List (Nat × Ct) := (60, ctUnit1) :: v15
theorem v16_ok : AllOk Try.prog v16 := ⟨ctUnit1_ok, v15_ok⟩

def ctEachU1 : Ct := ⟨7, [[.fn 60 [] [.ptr 1 0, .ptr 2 0]], [vi .i64 0], [vf 1, vf 2]], [vp 3 4, vp 5 6, .ptr 0 0], { binds := [⟨calF2 Dy.cDiv, 3, [(.v 0), (.v 3), (.v 4), (.v 1), (.v 2)]⟩, ⟨fun us i => ivU (vWithin (gF us 0, gF us 1)) i, 2, [(.v 7), (.v 8)]⟩], needs := [⟨nIv, [(.v 7), (.v 8)]⟩], val := .agg [.fl (.v 10), .fl (.v 11)], upd := [(1, [.it .i64 (.v 9)])] }⟩
theorem ctEachU1_ok : CtOk Try.prog 123 ctEachU1 := CtOk.flat v16_ok (dr_ok v16_ok) Try.func123 rfl (by decide) [] 200 ⟨[.agg [.fl (.v 10), .fl (.v 11)]], [some ([.fn 60 [] [.ptr 1 0, .ptr 2 0]]), some ([.it .i64 (.v 9)]), some ([.fl (.v 1), .fl (.v 2)])], 12, [1]⟩ (by kernel_rfl) rfl (by kernel_rfl) rfl (by kernel_rfl) (by kernel_rfl) (by kernel_rfl) (by kernel_rfl)

def v17 : List (Nat × Ct) := (123, ctEachU1) :: v16
theorem v17_ok : AllOk Try.prog v17 := ⟨ctEachU1_ok, v16_ok⟩

def ctBothU : Ct := ⟨15, [[.fn 60 [] [.ptr 1 0, .ptr 2 0]], [vi .i64 0], [vf 1, vf 2]], [.agg [vf 3, vf 4, vf 5, vf 6, vf 7, vf 8], .agg [vf 9, vf 10, vf 11, vf 12, vf 13, vf 14], .fn 123 [] [.ptr 0 0]], { binds := [⟨calF2 Dy.cDiv, 3, [(.v 0), (.v 3), (.v 4), (.v 1), (.v 2)]⟩, ⟨fun us i => ivU (vWithin (gF us 0, gF us 1)) i, 2, [(.v 15), (.v 16)]⟩, ⟨calF2 Dy.cDiv, 3, [(.v 17), (.v 5), (.v 6), (.v 1), (.v 2)]⟩, ⟨fun us i => ivU (vWithin (gF us 0, gF us 1)) i, 2, [(.v 20), (.v 21)]⟩, ⟨calF2 Dy.cDiv, 3, [(.v 22), (.v 7), (.v 8), (.v 1), (.v 2)]⟩, ⟨fun us i => ivU (vWithin (gF us 0, gF us 1)) i, 2, [(.v 25), (.v 26)]⟩], needs := [⟨nIv, [(.v 15), (.v 16)]⟩, ⟨nIv, [(.v 20), (.v 21)]⟩, ⟨nIv, [(.v 25), (.v 26)]⟩], val := .agg [.fl (.v 18), .fl (.v 19), .fl (.v 23), .fl (.v 24), .fl (.v 28), .fl (.v 29)], upd := [(1, [.it .i64 (.v 27)])] }⟩
theorem ctBothU_ok : CtOk Try.prog 122 ctBothU := CtOk.flat v17_ok (dr_ok v17_ok) Try.func122 rfl (by decide) [] 200 ⟨[.agg [.fl (.v 18), .fl (.v 19), .fl (.v 23), .fl (.v 24), .fl (.v 28), .fl (.v 29)]], [some ([.fn 60 [] [.ptr 1 0, .ptr 2 0]]), some ([.it .i64 (.v 27)]), some ([.fl (.v 1), .fl (.v 2)])], 30, [1, 1, 1]⟩ (by kernel_rfl) rfl (by kernel_rfl) rfl (by kernel_rfl) (by kernel_rfl) (by kernel_rfl) (by kernel_rfl)

def v18 : List (Nat × Ct) := (122, ctBothU) :: v17
theorem v18_ok : AllOk Try.prog v18 := ⟨ctBothU_ok, v17_ok⟩

def ctEachU : Ct := ⟨9, [[vi .i64 0], [vf 1, vf 2]], [.agg [vf 3, vf 4, vf 5, vf 6, vf 7, vf 8], .fn 60 [] [.ptr 0 0, .ptr 1 0]], { binds := [⟨calF2 Dy.cDiv, 3, [(.v 0), (.v 3), (.v 4), (.v 1), (.v 2)]⟩, ⟨fun us i => ivU (vWithin (gF us 0, gF us 1)) i, 2, [(.v 9), (.v 10)]⟩, ⟨calF2 Dy.cDiv, 3, [(.v 11), (.v 5), (.v 6), (.v 1), (.v 2)]⟩, ⟨fun us i => ivU (vWithin (gF us 0, gF us 1)) i, 2, [(.v 14), (.v 15)]⟩, ⟨calF2 Dy.cDiv, 3, [(.v 16), (.v 7), (.v 8), (.v 1), (.v 2)]⟩, ⟨fun us i => ivU (vWithin (gF us 0, gF us 1)) i, 2, [(.v 19), (.v 20)]⟩], needs := [⟨nIv, [(.v 9), (.v 10)]⟩, ⟨nIv, [(.v 14), (.v 15)]⟩, ⟨nIv, [(.v 19), (.v 20)]⟩], val := .agg [.fl (.v 12), .fl (.v 13), .fl (.v 17), .fl (.v 18), .fl (.v 22), .fl (.v 23)], upd := [(0, [.it .i64 (.v 21)])] }⟩
theorem ctEachU_ok : CtOk Try.prog 59 ctEachU := CtOk.flat v18_ok (dr_ok v18_ok) Try.func59 rfl (by decide) [] 200 ⟨[.agg [.fl (.v 12), .fl (.v 13), .fl (.v 17), .fl (.v 18), .fl (.v 22), .fl (.v 23)]], [some ([.it .i64 (.v 21)]), some ([.fl (.v 1), .fl (.v 2)])], 24, [0]⟩ (by kernel_rfl) rfl (by kernel_rfl) rfl (by kernel_rfl) (by kernel_rfl) (by kernel_rfl) (by kernel_rfl)

def v19 : List (Nat × Ct) := (59, ctEachU) :: v18
theorem v19_ok : AllOk Try.prog v19 := ⟨ctEachU_ok, v18_ok⟩

def ctUnit : Ct := ⟨3, [], [.agg [vf 0, vf 1, vf 2]], { binds := [⟨fun us i => vecU ((unitG (gF us 0) (gF us 1) (gF us 2))) i, 7, upto 0 3⟩], needs := [⟨nR3, [.v 0, .v 1, .v 2]⟩], val := .tup [.agg [vf 3, vf 4, vf 5, vf 6, vf 7, vf 8], vi .i64 9], upd := [] }⟩
set_option maxRecDepth 100000 in
set_option maxHeartbeats 8000000 in
theorem ctUnit_ok : CtOk Try.prog 15 ctUnit := by
  refine CtOk.of_eval2 v19_ok (dr_ok v19_ok) Try.func15 rfl (by decide) [] 200 (by kernel_rfl) rfl (.bind ⟨fun us _ => .f (Dy.abs (gF us 0)), 1, [(.v 0)]⟩ (.bind ⟨fun us _ => .f (Dy.abs (gF us 0)), 1, [(.v 1)]⟩ (.bind ⟨fun us _ => .f (Dy.abs (gF us 0)), 1, [(.v 2)]⟩ (.bind ⟨fun us _ => gB3 Dy.dmax us, 1, [(.v 3), (.v 4), (.v 5)]⟩ (.need ⟨rN3, [(.v 3), (.v 4), (.v 5)]⟩ (.bind ⟨fun us _ => .b (Dy.right (gF us 0)), 1, [(.v 0)]⟩ (.bind ⟨fun us _ => nB us, 1, [(.v 7)]⟩ (.ite (.v 8) (.done .ret ⟨[.tup [.agg [.fl (.l (.f 0)), .fl (.l (.f 0)), .fl (.l (.f 0)), .fl (.l (.f 0)), .fl (.l (.f 0)), .fl (.l (.f 0))], .it .i64 (.l (.i 50))]], [], 9, []⟩) (.bind ⟨fun us _ => .b (Dy.right (gF us 0)), 1, [(.v 1)]⟩ (.bind ⟨fun us _ => nB us, 1, [(.v 9)]⟩ (.ite (.v 10) (.done .ret ⟨[.tup [.agg [.fl (.l (.f 0)), .fl (.l (.f 0)), .fl (.l (.f 0)), .fl (.l (.f 0)), .fl (.l (.f 0)), .fl (.l (.f 0))], .it .i64 (.l (.i 50))]], [], 11, []⟩) (.bind ⟨fun us _ => .b (Dy.right (gF us 0)), 1, [(.v 2)]⟩ (.bind ⟨fun us _ => nB us, 1, [(.v 11)]⟩ (.ite (.v 12) (.done .ret ⟨[.tup [.agg [.fl (.l (.f 0)), .fl (.l (.f 0)), .fl (.l (.f 0)), .fl (.l (.f 0)), .fl (.l (.f 0)), .fl (.l (.f 0))], .it .i64 (.l (.i 50))]], [], 13, []⟩) (.bind ⟨fun us _ => cB Dy.flt us, 1, [(.v 6), (.l (.f 4318952042648305664))]⟩ (.ite (.v 13) (.done .ret ⟨[.tup [.agg [.fl (.l (.f 0)), .fl (.l (.f 0)), .fl (.l (.f 0)), .fl (.l (.f 0)), .fl (.l (.f 0)), .fl (.l (.f 0))], .it .i64 (.l (.i 50))]], [], 14, []⟩) (.bind ⟨fun us _ => cB Dy.fgt us, 1, [(.v 6), (.l (.f 4895412794951729152))]⟩ (.ite (.v 14) (.done .ret ⟨[.tup [.agg [.fl (.l (.f 0)), .fl (.l (.f 0)), .fl (.l (.f 0)), .fl (.l (.f 0)), .fl (.l (.f 0)), .fl (.l (.f 0))], .it .i64 (.l (.i 50))]], [], 15, []⟩) (.bind ⟨calF0 Dy.cNum, 3, [(.l (.i 0)), (.v 0)]⟩ (.bind ⟨calF0 Dy.cNum, 3, [(.v 17), (.v 1)]⟩ (.bind ⟨calF0 Dy.cNum, 3, [(.v 20), (.v 2)]⟩ (.bind ⟨calF1 Dy.cSqr, 3, [(.v 23), (.v 15), (.v 16)]⟩ (.bind ⟨calF1 Dy.cSqr, 3, [(.v 26), (.v 18), (.v 19)]⟩ (.bind ⟨calF2 Dy.cAdd, 3, [(.v 29), (.v 24), (.v 25), (.v 27), (.v 28)]⟩ (.bind ⟨calF1 Dy.cSqr, 3, [(.v 32), (.v 21), (.v 22)]⟩ (.bind ⟨calF2 Dy.cAdd, 3, [(.v 35), (.v 30), (.v 31), (.v 33), (.v 34)]⟩ (.bind ⟨calF1 Dy.cSqrt, 3, [(.v 38), (.v 36), (.v 37)]⟩ (.bind ⟨calF2 Dy.cDiv, 3, [(.v 41), (.v 15), (.v 16), (.v 39), (.v 40)]⟩ (.bind ⟨fun us i => ivU (vWithin (gF us 0, gF us 1)) i, 2, [(.v 42), (.v 43)]⟩ (.bind ⟨calF2 Dy.cDiv, 3, [(.v 44), (.v 18), (.v 19), (.v 39), (.v 40)]⟩ (.bind ⟨fun us i => ivU (vWithin (gF us 0, gF us 1)) i, 2, [(.v 47), (.v 48)]⟩ (.bind ⟨calF2 Dy.cDiv, 3, [(.v 49), (.v 21), (.v 22), (.v 39), (.v 40)]⟩ (.bind ⟨fun us i => ivU (vWithin (gF us 0, gF us 1)) i, 2, [(.v 52), (.v 53)]⟩ (.need ⟨nIv, [(.v 42), (.v 43)]⟩ (.need ⟨nIv, [(.v 47), (.v 48)]⟩ (.need ⟨nIv, [(.v 52), (.v 53)]⟩ (.done .ret ⟨[.tup [.agg [.fl (.v 45), .fl (.v 46), .fl (.v 50), .fl (.v 51), .fl (.v 55), .fl (.v 56)], .it .i64 (.l (.i 0))]], [], 57, []⟩))))))))))))))))))))))))))))))))))))) (by kernel_rfl) (by kernel_rfl) (by kernel_rfl) (fun us hl hF hB hN => ?_)
  match us, hl with
  | [u0, u1, u2], _ =>
    simp [FactsB, FactsL, Facts, ctUnit] at hF hB
    simp [NeedsAt, runB, evs, E.ev, upto, resl, List.range, List.range.loop, ctUnit] at hN
    obtain ⟨⟨a, rfl, wa⟩, ⟨b, rfl, wb⟩, ⟨c, rfl, wc⟩⟩ := hF
    simp only [nR3, gF, Bool.and_eq_true] at hN
    obtain ⟨⟨ra, rb⟩, rc⟩ := hN
    replace ra : Dy.right a = true := ra
    replace rb : Dy.right b = true := rb
    replace rc : Dy.right c = true := rc
    refine T.HH.h ?_
    obtain ⟨t0, e1⟩ : ∃ t0, ((Dy.abs (a))) = t0 := ⟨_, rfl⟩
    have ab1 : Dy.W t0 ∧ Dy.right t0 = true := by rw [← e1]; exact ⟨Dy.W_abs _, Dy.right_abs ra⟩
    refine T.hbind (us := [.f a]) (xs := [.f t0]) (ρ' := [.f a, .f b, .f c, .f t0]) rfl (congrArg (fun r => [U.f r]) e1) rfl ?_
    obtain ⟨t2, e3⟩ : ∃ t2, ((Dy.abs (b))) = t2 := ⟨_, rfl⟩
    have ab3 : Dy.W t2 ∧ Dy.right t2 = true := by rw [← e3]; exact ⟨Dy.W_abs _, Dy.right_abs rb⟩
    refine T.hbind (us := [.f b]) (xs := [.f t2]) (ρ' := [.f a, .f b, .f c, .f t0, .f t2]) rfl (congrArg (fun r => [U.f r]) e3) rfl ?_
    obtain ⟨t4, e5⟩ : ∃ t4, ((Dy.abs (c))) = t4 := ⟨_, rfl⟩
    have ab5 : Dy.W t4 ∧ Dy.right t4 = true := by rw [← e5]; exact ⟨Dy.W_abs _, Dy.right_abs rc⟩
    refine T.hbind (us := [.f c]) (xs := [.f t4]) (ρ' := [.f a, .f b, .f c, .f t0, .f t2, .f t4]) rfl (congrArg (fun r => [U.f r]) e5) rfl ?_
    obtain ⟨t6, e7⟩ : ∃ t6, (Dy.dmax (Dy.dmax t0 t2) t4) = t6 := ⟨_, rfl⟩
    refine T.hbind (us := [.f t0, .f t2, .f t4]) (xs := [.f t6]) (ρ' := [.f a, .f b, .f c, .f t0, .f t2, .f t4, .f t6]) rfl (congrArg (fun r => [U.f r]) e7) rfl ?_
    refine T.hneed (us := [.f t0, .f t2, .f t4]) rfl (show (Dy.right t0 && Dy.right t2 && Dy.right t4) = true from by rw [ab1.2, ab3.2, ab5.2]; rfl) ?_
    obtain ⟨t8, e9⟩ : ∃ t8, ((Dy.right (a))) = t8 := ⟨_, rfl⟩
    refine T.hbind (us := [.f a]) (xs := [.b t8]) (ρ' := [.f a, .f b, .f c, .f t0, .f t2, .f t4, .f t6, .b t8]) rfl (congrArg (fun r => [U.b r]) e9) rfl ?_
    obtain ⟨t10, e11⟩ : ∃ t10, (!t8) = t10 := ⟨_, rfl⟩
    refine T.hbind (us := [.b t8]) (xs := [.b t10]) (ρ' := [.f a, .f b, .f c, .f t0, .f t2, .f t4, .f t6, .b t8, .b t10]) rfl (congrArg (fun r => [U.b r]) e11) rfl ?_
    refine T.hiteF (x := t10) rfl (e11.symm.trans (by rw [← e9, ra]; rfl)) ?_
    obtain ⟨t12, e13⟩ : ∃ t12, ((Dy.right (b))) = t12 := ⟨_, rfl⟩
    refine T.hbind (us := [.f b]) (xs := [.b t12]) (ρ' := [.f a, .f b, .f c, .f t0, .f t2, .f t4, .f t6, .b t8, .b t10, .b t12]) rfl (congrArg (fun r => [U.b r]) e13) rfl ?_
    obtain ⟨t14, e15⟩ : ∃ t14, (!t12) = t14 := ⟨_, rfl⟩
    refine T.hbind (us := [.b t12]) (xs := [.b t14]) (ρ' := [.f a, .f b, .f c, .f t0, .f t2, .f t4, .f t6, .b t8, .b t10, .b t12, .b t14]) rfl (congrArg (fun r => [U.b r]) e15) rfl ?_
    refine T.hiteF (x := t14) rfl (e15.symm.trans (by rw [← e13, rb]; rfl)) ?_
    obtain ⟨t16, e17⟩ : ∃ t16, ((Dy.right (c))) = t16 := ⟨_, rfl⟩
    refine T.hbind (us := [.f c]) (xs := [.b t16]) (ρ' := [.f a, .f b, .f c, .f t0, .f t2, .f t4, .f t6, .b t8, .b t10, .b t12, .b t14, .b t16]) rfl (congrArg (fun r => [U.b r]) e17) rfl ?_
    obtain ⟨t18, e19⟩ : ∃ t18, (!t16) = t18 := ⟨_, rfl⟩
    refine T.hbind (us := [.b t16]) (xs := [.b t18]) (ρ' := [.f a, .f b, .f c, .f t0, .f t2, .f t4, .f t6, .b t8, .b t10, .b t12, .b t14, .b t16, .b t18]) rfl (congrArg (fun r => [U.b r]) e19) rfl ?_
    refine T.hiteF (x := t18) rfl (e19.symm.trans (by rw [← e17, rc]; rfl)) ?_
    obtain ⟨t20, e21⟩ : ∃ t20, (Dy.flt t6 4318952042648305664) = t20 := ⟨_, rfl⟩
    refine T.hbind (us := [.f t6, .f 4318952042648305664]) (xs := [.b t20]) (ρ' := [.f a, .f b, .f c, .f t0, .f t2, .f t4, .f t6, .b t8, .b t10, .b t12, .b t14, .b t16, .b t18, .b t20]) rfl (congrArg (fun r => [U.b r]) e21) rfl ?_
    refine T.hite (x := t20) ?_ ?_ ?_
    · rfl
    · intro c23
      refine T.hdone ?_
      have e00 : (unitG (a) (b) (c)) = (((0, 0), (0, 0), (0, 0)), 50) := by simp only [unitG, most3, e1, e3, e5, e7, e9, e11, e13, e15, e17, e19, e21, c23, reduceIte, Bool.false_eq_true, Bool.true_eq_false, Bool.true_and, Bool.false_and, Bool.and_true, Bool.and_false, Bool.true_or, Bool.false_or, Bool.or_true, Bool.or_false, Bool.not_true, Bool.not_false] <;> simp_all
      exact ⟨⟨⟨(congrArg (fun r => some (vecU r 0)) e00.symm), (congrArg (fun r => some (vecU r 1)) e00.symm), (congrArg (fun r => some (vecU r 2)) e00.symm), (congrArg (fun r => some (vecU r 3)) e00.symm), (congrArg (fun r => some (vecU r 4)) e00.symm), (congrArg (fun r => some (vecU r 5)) e00.symm), trivial⟩, ⟨rfl, (congrArg (fun r => some (vecU r 6)) e00.symm)⟩, trivial⟩, trivial, rfl⟩
    · intro c23
      obtain ⟨t23, e24⟩ : ∃ t23, (Dy.fgt t6 4895412794951729152) = t23 := ⟨_, rfl⟩
      refine T.hbind (us := [.f t6, .f 4895412794951729152]) (xs := [.b t23]) (ρ' := [.f a, .f b, .f c, .f t0, .f t2, .f t4, .f t6, .b t8, .b t10, .b t12, .b t14, .b t16, .b t18, .b t20, .b t23]) rfl (congrArg (fun r => [U.b r]) e24) rfl ?_
      refine T.hite (x := t23) ?_ ?_ ?_
      · rfl
      · intro c26
        refine T.hdone ?_
        have e00 : (unitG (a) (b) (c)) = (((0, 0), (0, 0), (0, 0)), 50) := by simp only [unitG, most3, e1, e3, e5, e7, e9, e11, e13, e15, e17, e19, e21, c23, e24, c26, reduceIte, Bool.false_eq_true, Bool.true_eq_false, Bool.true_and, Bool.false_and, Bool.and_true, Bool.and_false, Bool.true_or, Bool.false_or, Bool.or_true, Bool.or_false, Bool.not_true, Bool.not_false] <;> simp_all
        exact ⟨⟨⟨(congrArg (fun r => some (vecU r 0)) e00.symm), (congrArg (fun r => some (vecU r 1)) e00.symm), (congrArg (fun r => some (vecU r 2)) e00.symm), (congrArg (fun r => some (vecU r 3)) e00.symm), (congrArg (fun r => some (vecU r 4)) e00.symm), (congrArg (fun r => some (vecU r 5)) e00.symm), trivial⟩, ⟨rfl, (congrArg (fun r => some (vecU r 6)) e00.symm)⟩, trivial⟩, trivial, rfl⟩
      · intro c26
        obtain ⟨t26, t27, t28, e29⟩ : ∃ t26 t27 t28, (Dy.cNum 0 a) = ((t26, t27), t28) := Dy.ex3 _
        have g29 := Dy.good_num wa (err := 0)
        rw [e29] at g29
        refine T.hbind (us := [.i 0, .f a]) (xs := [.f t26, .f t27, .i t28]) (ρ' := [.f a, .f b, .f c, .f t0, .f t2, .f t4, .f t6, .b t8, .b t10, .b t12, .b t14, .b t16, .b t18, .b t20, .b t23, .f t26, .f t27, .i t28]) rfl (congrArg (fun r => [calR r 0, calR r 1, calR r 2]) e29) rfl ?_
        obtain ⟨t30, t31, t32, e33⟩ : ∃ t30 t31 t32, (Dy.cNum t28 b) = ((t30, t31), t32) := Dy.ex3 _
        have g33 := Dy.good_num wb (err := t28)
        rw [e33] at g33
        refine T.hbind (us := [.i t28, .f b]) (xs := [.f t30, .f t31, .i t32]) (ρ' := [.f a, .f b, .f c, .f t0, .f t2, .f t4, .f t6, .b t8, .b t10, .b t12, .b t14, .b t16, .b t18, .b t20, .b t23, .f t26, .f t27, .i t28, .f t30, .f t31, .i t32]) rfl (congrArg (fun r => [calR r 0, calR r 1, calR r 2]) e33) rfl ?_
        obtain ⟨t34, t35, t36, e37⟩ : ∃ t34 t35 t36, (Dy.cNum t32 c) = ((t34, t35), t36) := Dy.ex3 _
        have g37 := Dy.good_num wc (err := t32)
        rw [e37] at g37
        refine T.hbind (us := [.i t32, .f c]) (xs := [.f t34, .f t35, .i t36]) (ρ' := [.f a, .f b, .f c, .f t0, .f t2, .f t4, .f t6, .b t8, .b t10, .b t12, .b t14, .b t16, .b t18, .b t20, .b t23, .f t26, .f t27, .i t28, .f t30, .f t31, .i t32, .f t34, .f t35, .i t36]) rfl (congrArg (fun r => [calR r 0, calR r 1, calR r 2]) e37) rfl ?_
        obtain ⟨t38, t39, t40, e41⟩ : ∃ t38 t39 t40, (Dy.cSqr t36 (t26, t27)) = ((t38, t39), t40) := Dy.ex3 _
        have g41 := Dy.good_sqr (a := (t26, t27)) ⟨g29.1.1, g29.1.2⟩ (err := t36)
        rw [e41] at g41
        refine T.hbind (us := [.i t36, .f t26, .f t27]) (xs := [.f t38, .f t39, .i t40]) (ρ' := [.f a, .f b, .f c, .f t0, .f t2, .f t4, .f t6, .b t8, .b t10, .b t12, .b t14, .b t16, .b t18, .b t20, .b t23, .f t26, .f t27, .i t28, .f t30, .f t31, .i t32, .f t34, .f t35, .i t36, .f t38, .f t39, .i t40]) rfl (congrArg (fun r => [calR r 0, calR r 1, calR r 2]) e41) rfl ?_
        obtain ⟨t42, t43, t44, e45⟩ : ∃ t42 t43 t44, (Dy.cSqr t40 (t30, t31)) = ((t42, t43), t44) := Dy.ex3 _
        have g45 := Dy.good_sqr (a := (t30, t31)) ⟨g33.1.1, g33.1.2⟩ (err := t40)
        rw [e45] at g45
        refine T.hbind (us := [.i t40, .f t30, .f t31]) (xs := [.f t42, .f t43, .i t44]) (ρ' := [.f a, .f b, .f c, .f t0, .f t2, .f t4, .f t6, .b t8, .b t10, .b t12, .b t14, .b t16, .b t18, .b t20, .b t23, .f t26, .f t27, .i t28, .f t30, .f t31, .i t32, .f t34, .f t35, .i t36, .f t38, .f t39, .i t40, .f t42, .f t43, .i t44]) rfl (congrArg (fun r => [calR r 0, calR r 1, calR r 2]) e45) rfl ?_
        obtain ⟨t46, t47, t48, e49⟩ : ∃ t46 t47 t48, (Dy.cAdd t44 (t38, t39) (t42, t43)) = ((t46, t47), t48) := Dy.ex3 _
        have g49 := Dy.good_add (a := (t38, t39)) (b := (t42, t43)) (err := t44)
        rw [e49] at g49
        refine T.hbind (us := [.i t44, .f t38, .f t39, .f t42, .f t43]) (xs := [.f t46, .f t47, .i t48]) (ρ' := [.f a, .f b, .f c, .f t0, .f t2, .f t4, .f t6, .b t8, .b t10, .b t12, .b t14, .b t16, .b t18, .b t20, .b t23, .f t26, .f t27, .i t28, .f t30, .f t31, .i t32, .f t34, .f t35, .i t36, .f t38, .f t39, .i t40, .f t42, .f t43, .i t44, .f t46, .f t47, .i t48]) rfl (congrArg (fun r => [calR r 0, calR r 1, calR r 2]) e49) rfl ?_
        obtain ⟨t50, t51, t52, e53⟩ : ∃ t50 t51 t52, (Dy.cSqr t48 (t34, t35)) = ((t50, t51), t52) := Dy.ex3 _
        have g53 := Dy.good_sqr (a := (t34, t35)) ⟨g37.1.1, g37.1.2⟩ (err := t48)
        rw [e53] at g53
        refine T.hbind (us := [.i t48, .f t34, .f t35]) (xs := [.f t50, .f t51, .i t52]) (ρ' := [.f a, .f b, .f c, .f t0, .f t2, .f t4, .f t6, .b t8, .b t10, .b t12, .b t14, .b t16, .b t18, .b t20, .b t23, .f t26, .f t27, .i t28, .f t30, .f t31, .i t32, .f t34, .f t35, .i t36, .f t38, .f t39, .i t40, .f t42, .f t43, .i t44, .f t46, .f t47, .i t48, .f t50, .f t51, .i t52]) rfl (congrArg (fun r => [calR r 0, calR r 1, calR r 2]) e53) rfl ?_
        obtain ⟨t54, t55, t56, e57⟩ : ∃ t54 t55 t56, (Dy.cAdd t52 (t46, t47) (t50, t51)) = ((t54, t55), t56) := Dy.ex3 _
        have g57 := Dy.good_add (a := (t46, t47)) (b := (t50, t51)) (err := t52)
        rw [e57] at g57
        refine T.hbind (us := [.i t52, .f t46, .f t47, .f t50, .f t51]) (xs := [.f t54, .f t55, .i t56]) (ρ' := [.f a, .f b, .f c, .f t0, .f t2, .f t4, .f t6, .b t8, .b t10, .b t12, .b t14, .b t16, .b t18, .b t20, .b t23, .f t26, .f t27, .i t28, .f t30, .f t31, .i t32, .f t34, .f t35, .i t36, .f t38, .f t39, .i t40, .f t42, .f t43, .i t44, .f t46, .f t47, .i t48, .f t50, .f t51, .i t52, .f t54, .f t55, .i t56]) rfl (congrArg (fun r => [calR r 0, calR r 1, calR r 2]) e57) rfl ?_
        obtain ⟨t58, t59, t60, e61⟩ : ∃ t58 t59 t60, (Dy.cSqrt t56 (t54, t55)) = ((t58, t59), t60) := Dy.ex3 _
        have g61 := Dy.good_sqrt (a := (t54, t55)) ⟨g57.1.1, g57.1.2⟩ (err := t56)
        rw [e61] at g61
        refine T.hbind (us := [.i t56, .f t54, .f t55]) (xs := [.f t58, .f t59, .i t60]) (ρ' := [.f a, .f b, .f c, .f t0, .f t2, .f t4, .f t6, .b t8, .b t10, .b t12, .b t14, .b t16, .b t18, .b t20, .b t23, .f t26, .f t27, .i t28, .f t30, .f t31, .i t32, .f t34, .f t35, .i t36, .f t38, .f t39, .i t40, .f t42, .f t43, .i t44, .f t46, .f t47, .i t48, .f t50, .f t51, .i t52, .f t54, .f t55, .i t56, .f t58, .f t59, .i t60]) rfl (congrArg (fun r => [calR r 0, calR r 1, calR r 2]) e61) rfl ?_
        obtain ⟨t62, t63, t64, e65⟩ : ∃ t62 t63 t64, (Dy.cDiv t60 (t26, t27) (t58, t59)) = ((t62, t63), t64) := Dy.ex3 _
        have g65 := Dy.good_div (a := (t26, t27)) (b := (t58, t59)) ⟨g61.1.1, g61.1.2⟩ (err := t60)
        rw [e65] at g65
        refine T.hbind (us := [.i t60, .f t26, .f t27, .f t58, .f t59]) (xs := [.f t62, .f t63, .i t64]) (ρ' := [.f a, .f b, .f c, .f t0, .f t2, .f t4, .f t6, .b t8, .b t10, .b t12, .b t14, .b t16, .b t18, .b t20, .b t23, .f t26, .f t27, .i t28, .f t30, .f t31, .i t32, .f t34, .f t35, .i t36, .f t38, .f t39, .i t40, .f t42, .f t43, .i t44, .f t46, .f t47, .i t48, .f t50, .f t51, .i t52, .f t54, .f t55, .i t56, .f t58, .f t59, .i t60, .f t62, .f t63, .i t64]) rfl (congrArg (fun r => [calR r 0, calR r 1, calR r 2]) e65) rfl ?_
        obtain ⟨t66, t67, e68⟩ : ∃ t66 t67, (vWithin (t62, t63)) = (t66, t67) := Dy.ex2 _
        refine T.hbind (us := [.f t62, .f t63]) (xs := [.f t66, .f t67]) (ρ' := [.f a, .f b, .f c, .f t0, .f t2, .f t4, .f t6, .b t8, .b t10, .b t12, .b t14, .b t16, .b t18, .b t20, .b t23, .f t26, .f t27, .i t28, .f t30, .f t31, .i t32, .f t34, .f t35, .i t36, .f t38, .f t39, .i t40, .f t42, .f t43, .i t44, .f t46, .f t47, .i t48, .f t50, .f t51, .i t52, .f t54, .f t55, .i t56, .f t58, .f t59, .i t60, .f t62, .f t63, .i t64, .f t66, .f t67]) rfl (congrArg (fun r => [ivU r 0, ivU r 1]) e68) rfl ?_
        obtain ⟨t69, t70, t71, e72⟩ : ∃ t69 t70 t71, (Dy.cDiv t64 (t30, t31) (t58, t59)) = ((t69, t70), t71) := Dy.ex3 _
        have g72 := Dy.good_div (a := (t30, t31)) (b := (t58, t59)) ⟨g61.1.1, g61.1.2⟩ (err := t64)
        rw [e72] at g72
        refine T.hbind (us := [.i t64, .f t30, .f t31, .f t58, .f t59]) (xs := [.f t69, .f t70, .i t71]) (ρ' := [.f a, .f b, .f c, .f t0, .f t2, .f t4, .f t6, .b t8, .b t10, .b t12, .b t14, .b t16, .b t18, .b t20, .b t23, .f t26, .f t27, .i t28, .f t30, .f t31, .i t32, .f t34, .f t35, .i t36, .f t38, .f t39, .i t40, .f t42, .f t43, .i t44, .f t46, .f t47, .i t48, .f t50, .f t51, .i t52, .f t54, .f t55, .i t56, .f t58, .f t59, .i t60, .f t62, .f t63, .i t64, .f t66, .f t67, .f t69, .f t70, .i t71]) rfl (congrArg (fun r => [calR r 0, calR r 1, calR r 2]) e72) rfl ?_
        obtain ⟨t73, t74, e75⟩ : ∃ t73 t74, (vWithin (t69, t70)) = (t73, t74) := Dy.ex2 _
        refine T.hbind (us := [.f t69, .f t70]) (xs := [.f t73, .f t74]) (ρ' := [.f a, .f b, .f c, .f t0, .f t2, .f t4, .f t6, .b t8, .b t10, .b t12, .b t14, .b t16, .b t18, .b t20, .b t23, .f t26, .f t27, .i t28, .f t30, .f t31, .i t32, .f t34, .f t35, .i t36, .f t38, .f t39, .i t40, .f t42, .f t43, .i t44, .f t46, .f t47, .i t48, .f t50, .f t51, .i t52, .f t54, .f t55, .i t56, .f t58, .f t59, .i t60, .f t62, .f t63, .i t64, .f t66, .f t67, .f t69, .f t70, .i t71, .f t73, .f t74]) rfl (congrArg (fun r => [ivU r 0, ivU r 1]) e75) rfl ?_
        obtain ⟨t76, t77, t78, e79⟩ : ∃ t76 t77 t78, (Dy.cDiv t71 (t34, t35) (t58, t59)) = ((t76, t77), t78) := Dy.ex3 _
        have g79 := Dy.good_div (a := (t34, t35)) (b := (t58, t59)) ⟨g61.1.1, g61.1.2⟩ (err := t71)
        rw [e79] at g79
        refine T.hbind (us := [.i t71, .f t34, .f t35, .f t58, .f t59]) (xs := [.f t76, .f t77, .i t78]) (ρ' := [.f a, .f b, .f c, .f t0, .f t2, .f t4, .f t6, .b t8, .b t10, .b t12, .b t14, .b t16, .b t18, .b t20, .b t23, .f t26, .f t27, .i t28, .f t30, .f t31, .i t32, .f t34, .f t35, .i t36, .f t38, .f t39, .i t40, .f t42, .f t43, .i t44, .f t46, .f t47, .i t48, .f t50, .f t51, .i t52, .f t54, .f t55, .i t56, .f t58, .f t59, .i t60, .f t62, .f t63, .i t64, .f t66, .f t67, .f t69, .f t70, .i t71, .f t73, .f t74, .f t76, .f t77, .i t78]) rfl (congrArg (fun r => [calR r 0, calR r 1, calR r 2]) e79) rfl ?_
        obtain ⟨t80, t81, e82⟩ : ∃ t80 t81, (vWithin (t76, t77)) = (t80, t81) := Dy.ex2 _
        refine T.hbind (us := [.f t76, .f t77]) (xs := [.f t80, .f t81]) (ρ' := [.f a, .f b, .f c, .f t0, .f t2, .f t4, .f t6, .b t8, .b t10, .b t12, .b t14, .b t16, .b t18, .b t20, .b t23, .f t26, .f t27, .i t28, .f t30, .f t31, .i t32, .f t34, .f t35, .i t36, .f t38, .f t39, .i t40, .f t42, .f t43, .i t44, .f t46, .f t47, .i t48, .f t50, .f t51, .i t52, .f t54, .f t55, .i t56, .f t58, .f t59, .i t60, .f t62, .f t63, .i t64, .f t66, .f t67, .f t69, .f t70, .i t71, .f t73, .f t74, .f t76, .f t77, .i t78, .f t80, .f t81]) rfl (congrArg (fun r => [ivU r 0, ivU r 1]) e82) rfl ?_
        refine T.hneed (us := [.f t62, .f t63]) rfl (g65.2) ?_
        refine T.hneed (us := [.f t69, .f t70]) rfl (g72.2) ?_
        refine T.hneed (us := [.f t76, .f t77]) rfl (g79.2) ?_
        refine T.hdone ?_
        have eM : unitM a b c 0 = (((t66, t67), (t73, t74), (t80, t81)), t78) := by
          unfold unitM
          refine (Dy.cs_num e29).trans ?_
          refine (Dy.cs_num e33).trans ?_
          refine (Dy.cs_num e37).trans ?_
          refine (Dy.cs_sqr e41).trans ?_
          refine (Dy.cs_sqr e45).trans ?_
          refine (Dy.cs_add e49).trans ?_
          refine (Dy.cs_sqr e53).trans ?_
          refine (Dy.cs_add e57).trans ?_
          refine (Dy.cs_sqrt e61).trans ?_
          refine (Dy.cs_div e65).trans ?_
          refine (Dy.cm_p e68).trans ?_
          refine (Dy.cs_div e72).trans ?_
          refine (Dy.cm_p e75).trans ?_
          refine (Dy.cs_div e79).trans ?_
          first | exact congrArg (fun r => (r, t78)) e82 | (refine (Dy.cm_p e82).trans ?_; rfl) | (rw [Dy.cm_pure]; simp only [Dy.iHull, e1, e3, e5, e7, e9, e11, e13, e15, e17, e19, e21, c23, e24, c26, e82])
        have e00 : (unitG (a) (b) (c)) = (((t66, t67), (t73, t74), (t80, t81)), 0) := by simp only [unitG, most3, eM, e1, e3, e5, e7, e9, e11, e13, e15, e17, e19, e21, c23, e24, c26, reduceIte, Bool.false_eq_true, Bool.true_eq_false, Bool.true_and, Bool.false_and, Bool.and_true, Bool.and_false, Bool.true_or, Bool.false_or, Bool.or_true, Bool.or_false, Bool.not_true, Bool.not_false] <;> simp_all
        exact ⟨⟨⟨(congrArg (fun r => some (vecU r 0)) e00.symm), (congrArg (fun r => some (vecU r 1)) e00.symm), (congrArg (fun r => some (vecU r 2)) e00.symm), (congrArg (fun r => some (vecU r 3)) e00.symm), (congrArg (fun r => some (vecU r 4)) e00.symm), (congrArg (fun r => some (vecU r 5)) e00.symm), trivial⟩, ⟨rfl, (congrArg (fun r => some (vecU r 6)) e00.symm)⟩, trivial⟩, trivial, rfl⟩

def v20 : List (Nat × Ct) := (15, ctUnit) :: v19
theorem v20_ok : AllOk Try.prog v20 := ⟨ctUnit_ok, v19_ok⟩

def v21 : List (Nat × Ct) := v20
theorem v21_ok : AllOk Try.prog v21 := v20_ok
end Go.Proofs.Ytiphdhpacklboaa
