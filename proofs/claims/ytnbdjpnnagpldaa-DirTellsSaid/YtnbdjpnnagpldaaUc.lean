/- The law DirTells: its join. -/
import Derived.Test.YtnbdjpnnagpldaaUb
namespace Go.Proofs.Ytnbdjpnnagpldaa
open Go Go.RowKit
theorem dirtells_ok (a b : Nat) (up : Bool) (w : World) (ha : Dy.W a) (hb : Dy.W b) : Calls Try.prog 3 #[.float .f64 a, .float .f64 b, .bool up] w fun e w' => e = .returned (.bool true) ∧ Below w.heap.size w w' :=
  dirtells a b up w ha hb rfl (by simp) (by simp) rfl (by simp) (by simp) rfl (by simp) (by simp) rfl (by simp) (by simp) rfl rfl rfl (rrT_right ha) (by simp) (by simp) (by simp) (by simp) (by simp)
end Go.Proofs.Ytnbdjpnnagpldaa
