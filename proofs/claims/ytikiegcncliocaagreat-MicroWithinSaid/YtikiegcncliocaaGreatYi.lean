/- A reckoning of programs by symbols: more contracts of package ival. -/
import Derived.Test.YtikiegcncliocaaGreatYh
namespace Go.Proofs.YtikiegcncliocaaGreat
open Go Go.RowKit
set_option linter.unusedSimpArgs false
set_option linter.unusedVariables false

def t0 : List (Nat × Ct) := cts0
theorem t0_ok : AllOk Tryz.prog t0 := cts0_ok
def ctErr : Ct := ⟨1, [[vi .i64 0]], [.ptr 0 0], { binds := [], needs := [], val := .it .i64 (.v 0), upd := [] }⟩
theorem ctErr_ok : CtOk Tryz.prog 24 ctErr := CtOk.flat t0_ok (dr_ok t0_ok) Tryz.func24 rfl (by decide) [] 200 ⟨[.it .i64 (.v 0)], [some ([.it .i64 (.v 0)])], 1, []⟩ (by kernel_rfl) rfl (by kernel_rfl) rfl (by kernel_rfl) (by kernel_rfl) (by kernel_rfl) (by kernel_rfl)

def t1 : List (Nat × Ct) := (24, ctErr) :: t0
theorem t1_ok : AllOk Tryz.prog t1 := ⟨ctErr_ok, t0_ok⟩

def ctTurned : Ct := ⟨2, [], [vp 0 1], { binds := [⟨fun us _ => fB Ieee.double.sub us, 1, [(.l (.f 0)), (.v 1)]⟩, ⟨fun us _ => fB Ieee.double.sub us, 1, [(.l (.f 0)), (.v 0)]⟩], needs := [⟨fN Ieee.double.sub, [(.l (.f 0)), (.v 1)]⟩, ⟨fN Ieee.double.sub, [(.l (.f 0)), (.v 0)]⟩], val := .agg [.fl (.v 2), .fl (.v 3)], upd := [] }⟩
theorem ctTurned_ok : CtOk Tryz.prog 94 ctTurned := CtOk.flat t1_ok (dr_ok t1_ok) Tryz.func94 rfl (by decide) [] 200 ⟨[.agg [.fl (.v 2), .fl (.v 3)]], [], 4, []⟩ (by kernel_rfl) rfl (by kernel_rfl) rfl (by kernel_rfl) (by kernel_rfl) (by kernel_rfl) (by kernel_rfl)

def t2 : List (Nat × Ct) := (94, ctTurned) :: t1
theorem t2_ok : AllOk Tryz.prog t2 := ⟨ctTurned_ok, t1_ok⟩

def ctHull : Ct := ⟨4, [], [vp 0 1, vp 2 3], { binds := [⟨fun us _ => gB Dy.dmin us, 1, [(.v 0), (.v 2)]⟩, ⟨fun us _ => gB Dy.dmax us, 1, [(.v 1), (.v 3)]⟩], needs := [⟨rN, [(.v 0), (.v 2)]⟩, ⟨rN, [(.v 1), (.v 3)]⟩], val := .agg [.fl (.v 4), .fl (.v 5)], upd := [] }⟩
theorem ctHull_ok : CtOk Tryz.prog 75 ctHull := CtOk.flat t2_ok (dr_ok t2_ok) Tryz.func75 rfl (by decide) [] 200 ⟨[.agg [.fl (.v 4), .fl (.v 5)]], [], 6, []⟩ (by kernel_rfl) rfl (by kernel_rfl) rfl (by kernel_rfl) (by kernel_rfl) (by kernel_rfl) (by kernel_rfl)

def t3 : List (Nat × Ct) := (75, ctHull) :: t2
theorem t3_ok : AllOk Tryz.prog t3 := ⟨ctHull_ok, t2_ok⟩

def ctPi : Ct := ⟨0, [], [], { binds := [⟨fOp1 Dy.dNext, 2, [(.l (.f 4614256656552045848)), (.l (.b true))]⟩], needs := [], val := .agg [.fl (.l (.f 4614256656552045848)), .fl (.v 0)], upd := [] }⟩
theorem ctPi_ok : CtOk Tryz.prog 86 ctPi := CtOk.flat t3_ok (dr_ok t3_ok) Tryz.func86 rfl (by decide) [] 200 ⟨[.agg [.fl (.l (.f 4614256656552045848)), .fl (.v 0)]], [], 2, []⟩ (by kernel_rfl) rfl (by kernel_rfl) rfl (by kernel_rfl) (by kernel_rfl) (by kernel_rfl) (by kernel_rfl)

def t4 : List (Nat × Ct) := (86, ctPi) :: t3
theorem t4_ok : AllOk Tryz.prog t4 := ⟨ctPi_ok, t3_ok⟩

def t8 : List (Nat × Ct) := t4
theorem t8_ok : AllOk Tryz.prog t8 := t4_ok
end Go.Proofs.YtikiegcncliocaaGreat
