/- A reckoning of programs by symbols: the examples of burnishlaw07. -/
import Derived.Test.YtikiegcncliocaaYn
namespace Go.Proofs.Ytikiegcncliocaa
open Go Go.RowKit
set_option linter.unusedSimpArgs false
set_option linter.unusedVariables false

def lr0 : List (Nat × Ct) := n2
theorem lr0_ok : AllOk Try.prog lr0 := n2_ok
def ctPoint : Ct := ⟨1, [], [vf 0], { binds := [⟨fun us _ => fB Ieee.double.add us, 1, [(.v 0), (.l (.f 0))]⟩, ⟨fun us _ => fB Ieee.double.add us, 1, [(.v 0), (.l (.f 0))]⟩], needs := [⟨fN Ieee.double.add, [(.v 0), (.l (.f 0))]⟩, ⟨fN Ieee.double.add, [(.v 0), (.l (.f 0))]⟩], val := .agg [.fl (.v 1), .fl (.v 2)], upd := [] }⟩
theorem ctPoint_ok : CtOk Try.prog 75 ctPoint := CtOk.flat lr0_ok (dr_ok lr0_ok) Try.func75 rfl (by decide) [] 200 ⟨[.agg [.fl (.v 1), .fl (.v 2)]], [], 3, []⟩ (by kernel_rfl) rfl (by kernel_rfl) rfl (by kernel_rfl) (by kernel_rfl) (by kernel_rfl) (by kernel_rfl)

def lr1 : List (Nat × Ct) := (75, ctPoint) :: lr0
theorem lr1_ok : AllOk Try.prog lr1 := ⟨ctPoint_ok, lr0_ok⟩

def ctP7 : Ct := ⟨1, [], [vf 0], { binds := [⟨fun us _ => fB Ieee.double.add us, 1, [(.v 0), (.l (.f 0))]⟩, ⟨fun us _ => fB Ieee.double.add us, 1, [(.v 0), (.l (.f 0))]⟩], needs := [⟨fN Ieee.double.add, [(.v 0), (.l (.f 0))]⟩, ⟨fN Ieee.double.add, [(.v 0), (.l (.f 0))]⟩], val := .agg [.fl (.v 1), .fl (.v 2)], upd := [] }⟩
theorem ctP7_ok : CtOk Try.prog 21 ctP7 := CtOk.flat lr1_ok (dr_ok lr1_ok) Try.func21 rfl (by decide) [] 200 ⟨[.agg [.fl (.v 1), .fl (.v 2)]], [], 3, []⟩ (by kernel_rfl) rfl (by kernel_rfl) rfl (by kernel_rfl) (by kernel_rfl) (by kernel_rfl) (by kernel_rfl)

def lr2 : List (Nat × Ct) := (21, ctP7) :: lr1
theorem lr2_ok : AllOk Try.prog lr2 := ⟨ctP7_ok, lr1_ok⟩

def ctFrac : Ct := ⟨1, [], [vi .u32 0], { binds := [⟨fun us _ => nF us, 1, [(.v 0)]⟩, ⟨fun us _ => fB Ieee.double.div us, 1, [(.v 1), (.l (.f 4751297606873776128))]⟩], needs := [⟨nN, [(.v 0)]⟩, ⟨fN Ieee.double.div, [(.v 1), (.l (.f 4751297606873776128))]⟩], val := .fl (.v 2), upd := [] }⟩
theorem ctFrac_ok : CtOk Try.prog 22 ctFrac := CtOk.flat lr2_ok (dr_ok lr2_ok) Try.func22 rfl (by decide) [] 200 ⟨[.fl (.v 2)], [], 3, []⟩ (by kernel_rfl) rfl (by kernel_rfl) rfl (by kernel_rfl) (by kernel_rfl) (by kernel_rfl) (by kernel_rfl)

def lr3 : List (Nat × Ct) := (22, ctFrac) :: lr2
theorem lr3_ok : AllOk Try.prog lr3 := ⟨ctFrac_ok, lr2_ok⟩

def ctPiL : Ct := ⟨0, [], [], { val := .agg [.fl (.l (.f 4614256656552045848)), .fl (.l (.f 4614256656552045849))] }⟩
set_option maxRecDepth 100000 in
theorem ctPiL_ok : CtOk Try.prog 27 ctPiL := by
  refine CtOk.of_eval2 lr3_ok (dr_ok lr3_ok) Try.func27 rfl (by decide) [] 200 (by kernel_rfl) rfl (.bind ⟨fOp1 Dy.dNext, 2, [(.l (.f 4614256656552045848)), (.l (.b true))]⟩ (.done .ret ⟨[.agg [.fl (.l (.f 4614256656552045848)), .fl (.v 0)]], [], 2, []⟩)) (by kernel_rfl) (by kernel_rfl) (by kernel_rfl) (fun us hl hF hB hN => ?_)
  match us, hl with
  | [], _ =>
    refine T.HH.h ?_
    refine T.hbind (us := [.f 4614256656552045848, .b true]) (xs := [.f 4614256656552045849, .i 0]) (ρ' := [.f 4614256656552045849, .i 0]) rfl (congrArg (fun r : Nat × Int => [U.f r.1, U.i r.2]) (show Dy.dNext 4614256656552045848 true = (4614256656552045849, 0) from by decide +kernel)) rfl ?_
    exact T.hdone ⟨⟨rfl, rfl, trivial⟩, trivial, rfl⟩

def lr4 : List (Nat × Ct) := (27, ctPiL) :: lr3
theorem lr4_ok : AllOk Try.prog lr4 := ⟨ctPiL_ok, lr3_ok⟩

def ctAwake07 : Ct := ctTrue
theorem ctAwake07_ok : CtOk Try.prog 31 ctAwake07 := ctTrue_ok lr4_ok (dr_ok lr4_ok) Try.func31 rfl (by decide) 200 _ rfl (by kernel_rfl)

def lr5 : List (Nat × Ct) := (31, ctAwake07) :: lr4
theorem lr5_ok : AllOk Try.prog lr5 := ⟨ctAwake07_ok, lr4_ok⟩

end Go.Proofs.Ytikiegcncliocaa
