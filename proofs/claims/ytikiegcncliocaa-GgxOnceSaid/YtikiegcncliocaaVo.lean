/- A reckoning of programs by symbols: the examples of burnishlaw09. -/
import Derived.Test.YtikiegcncliocaaGa
namespace Go.Proofs.Ytikiegcncliocaa
open Go Go.RowKit
set_option linter.unusedSimpArgs false
set_option linter.unusedVariables false

def gl0 : List (Nat × Ct) := z21
theorem gl0_ok : AllOk Try.prog gl0 := z21_ok
def ctP09 : Ct := ⟨1, [], [vf 0], { binds := [⟨fun us _ => fB Ieee.double.add us, 1, [(.v 0), (.l (.f 0))]⟩, ⟨fun us _ => fB Ieee.double.add us, 1, [(.v 0), (.l (.f 0))]⟩], needs := [⟨fN Ieee.double.add, [(.v 0), (.l (.f 0))]⟩, ⟨fN Ieee.double.add, [(.v 0), (.l (.f 0))]⟩], val := .agg [.fl (.v 1), .fl (.v 2)], upd := [] }⟩
theorem ctP09_ok : CtOk Try.prog 50 ctP09 := CtOk.flat gl0_ok (dr_ok gl0_ok) Try.func50 rfl (by decide) [] 200 ⟨[.agg [.fl (.v 1), .fl (.v 2)]], [], 3, []⟩ (by kernel_rfl) rfl (by kernel_rfl) rfl (by kernel_rfl) (by kernel_rfl) (by kernel_rfl) (by kernel_rfl)

def gl1 : List (Nat × Ct) := (50, ctP09) :: gl0
theorem gl1_ok : AllOk Try.prog gl1 := ⟨ctP09_ok, gl0_ok⟩

def ctNear09T : T := .bind ⟨fun us _ => cB (fun a b => Dy.fgt a b || Dy.feq a b) us, 1, [(.v 0), (.v 2)]⟩ (.ite (.v 4) (.bind ⟨fun us _ => cB (fun a b => Dy.flt a b || Dy.feq a b) us, 1, [(.v 1), (.v 3)]⟩ (.ite (.v 5) (.bind ⟨fun us _ => cB (fun a b => Dy.flt a b || Dy.feq a b) us, 1, [(.v 0), (.v 1)]⟩ (.done .ret ⟨[.bo (.v 6)], [], 7, []⟩)) (.done .ret ⟨[.bo (.l (.b false))], [], 6, []⟩))) (.done .ret ⟨[.bo (.l (.b false))], [], 5, []⟩))
def ctNear09 : Ct := ctT 4 [vp 0 1, vf 2, vf 3] ctNear09T (vb 4) 1
theorem ctNear09_ok : CtOk Try.prog 115 ctNear09 := ctT_ok gl1_ok (dr_ok gl1_ok) Try.func115 rfl (by decide) 200 4 [vp 0 1, vf 2, vf 3] ctNear09T (vb 4) 1 (by kernel_rfl) (by kernel_rfl) (by kernel_rfl)

def gl2 : List (Nat × Ct) := (115, ctNear09) :: gl1
theorem gl2_ok : AllOk Try.prog gl2 := ⟨ctNear09_ok, gl1_ok⟩

def ctAwake09 : Ct := ctTrue
theorem ctAwake09_ok : CtOk Try.prog 54 ctAwake09 := ctTrue_ok gl2_ok (dr_ok gl2_ok) Try.func54 rfl (by decide) 200 _ rfl (by kernel_rfl)

def gl3 : List (Nat × Ct) := (54, ctAwake09) :: gl2
theorem gl3_ok : AllOk Try.prog gl3 := ⟨ctAwake09_ok, gl2_ok⟩

end Go.Proofs.Ytikiegcncliocaa
