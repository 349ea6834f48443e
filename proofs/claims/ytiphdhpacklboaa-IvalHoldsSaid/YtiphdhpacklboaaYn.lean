/- A reckoning of programs by symbols: burnishlaw02.awake. -/
import Derived.Test.YtiphdhpacklboaaYl
namespace Go.Proofs.Ytiphdhpacklboaa
open Go Go.RowKit
set_option linter.unusedSimpArgs false
set_option linter.unusedVariables false

def n0 : List (Nat × Ct) := m10
theorem n0_ok : AllOk Try.prog n0 := m10_ok
def ctIv2 : Ct := ⟨2, [], [vf 0, vf 1], { binds := [], needs := [], val := .agg [.fl (.v 0), .fl (.v 1)], upd := [] }⟩
theorem ctIv2_ok : CtOk Try.prog 40 ctIv2 := CtOk.flat n0_ok (dr_ok n0_ok) Try.func40 rfl (by decide) [] 200 ⟨[.agg [.fl (.v 0), .fl (.v 1)]], [], 2, []⟩ (by kernel_rfl) rfl (by kernel_rfl) rfl (by kernel_rfl) (by kernel_rfl) (by kernel_rfl) (by kernel_rfl)

def n1 : List (Nat × Ct) := (40, ctIv2) :: n0
theorem n1_ok : AllOk Try.prog n1 := ⟨ctIv2_ok, n0_ok⟩

def ctAwake02 : Ct := ctTrue
theorem ctAwake02_ok : CtOk Try.prog 9 ctAwake02 := ctTrue_ok n1_ok (dr_ok n1_ok) Try.func9 rfl (by decide) 200 _ rfl (by kernel_rfl)

def n2 : List (Nat × Ct) := (9, ctAwake02) :: n1
theorem n2_ok : AllOk Try.prog n2 := ⟨ctAwake02_ok, n1_ok⟩

end Go.Proofs.Ytiphdhpacklboaa
