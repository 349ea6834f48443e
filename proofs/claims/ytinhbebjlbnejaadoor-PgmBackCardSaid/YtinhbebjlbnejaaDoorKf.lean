/- Walks: bits.Div64, dir.Div, dir.Sqrt. -/
import Derived.Test.YtinhbebjlbnejaaDoorKc
import Derived.Test.YtinhbebjlbnejaaDoorKa
import Derived.LoopTactic
import Derived.Deep.LoopGhost
import Derived.Test.YtinhbebjlbnejaaDoorKe
/- Walks: math/bits.Div64, where the divisor's upper bit is set. -/
namespace Go.Proofs.YtinhbebjlbnejaaDoor
open Go.RowKit

theorem ret_quo {a b c : Int} (h : a = b) : Ending.returned (.tuple #[.int .u64 a, .int .u64 c]) = .returned (.tuple #[.int .u64 b, .int .u64 c]) := by rw [h]

/-- What holds at the head of a round: the guess and the rest; the guess is not below the digit. -/
def DivInv (y1 h qt : Nat) (a b : Value) : Prop := ∃ Q R : Int, a = .int .u64 Q ∧ b = .int .u64 R ∧ 0 ≤ Q ∧ 0 ≤ R ∧ Hid (Q.toNat * y1 + R.toNat = h) ∧ (qt : Int) ≤ Q ∧ Q ≤ 4294967297 ∧ R < 4294967296

end Go.Proofs.YtinhbebjlbnejaaDoor

/- Walks: dir.Div. -/
namespace Go.Proofs.YtinhbebjlbnejaaDoor
open Go.RowKit

theorem shlK {m k : Nat} (_h : m * 2 ^ k < 2 ^ 64) : IntKind.u64.wrap ((m : Int) * 2 ^ k) = ((m * 2 ^ k : Nat) : Int) := by
  rw [IntKind.wrap_u64]
  have : (m : Int) * 2 ^ k = ((m * 2 ^ k : Nat) : Int) := by simp
  rw [this]
  omega

end Go.Proofs.YtinhbebjlbnejaaDoor

/- Walks: dir.Sqrt. -/
namespace Go.Proofs.YtinhbebjlbnejaaDoor
open Go.RowKit

/-- What holds at the head of a round: the digits, and the wide number where it was. -/
def SqInv (H : Nat) (w0 : World) (N R : Nat) (p q : Int) (a b : Value) (w : World) : Prop :=
  ∃ X B : Nat, a = .int .u64 (X : Int) ∧ b = .int .u64 (B : Int) ∧ Hid (Dy.SqAt N R X B) ∧ Dy.W X ∧ Dy.W B ∧
    w.cell? ⟨H, 0, none⟩ = some (.int .u64 p) ∧ w.cell? ⟨H, 1, none⟩ = some (.int .u64 q) ∧ Hid (Below H w0 w) ∧ H < w.heap.size

/-- The comparison of the two wide numbers is the comparison of what they are. -/
theorem sq_more {M K p q N X : Nat} {g : Int} {up : Bool} {r : Nat × Int} (h : Dy.Wide M K N) (h2 : Dy.Wide p q (X * X)) (hr : Dy.rnd false X (decide (X * X ≠ N)) g up = r) :
    Dy.rnd false X (!((p : Int) == (M : Int)) || !((q : Int) == (K : Int))) g up = r := by
  rw [← hr]
  congr 1
  have e := Dy.wd_inj h2.hl h.hl (h := p) (h' := M)
  rw [h2.eq, h.eq] at e
  by_cases hc : X * X = N
  · obtain ⟨h1, h3⟩ := e.1 hc
    subst h1 h3
    simp [hc]
  · have hn : ¬ (p = M ∧ q = K) := fun h => hc (e.2 h)
    have e1 : decide (X * X ≠ N) = true := by simpa using hc
    rw [e1]
    by_cases h1 : p = M
    · have h3 : ¬ ((q : Int) = (K : Int)) := fun h => hn ⟨h1, by omega⟩
      simp [h3]
    · have h3 : ¬ ((p : Int) = (M : Int)) := by omega
      simp [h3]

end Go.Proofs.YtinhbebjlbnejaaDoor

/- Walks: dir.Sqrt, of every float64. -/
namespace Go.Proofs.YtinhbebjlbnejaaDoor
open Go.RowKit

end Go.Proofs.YtinhbebjlbnejaaDoor

