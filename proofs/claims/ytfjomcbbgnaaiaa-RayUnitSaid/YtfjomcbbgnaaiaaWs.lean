/- Walks: calls that make memory, one behind the other. -/
import Derived.Test.YtfjomcbbgnaaiaaWr
namespace Go.Proofs.Ytfjomcbbgnaaiaa
open Go.RowKit

theorem chain {P : Program} {f : FuncId} {args : Array Value} {r : Ending} {w0 w1 : World}
    (A : Hid (∀ w, Calls P f args w fun e w' => e = r ∧ Below w.heap.size w w')) (hB : Below w0.heap.size w0 w1) :
    Calls P f args w1 fun e w' => e = r ∧ Below w0.heap.size w0 w' :=
  (A.out w1).mono fun _ _ ⟨h1, h2⟩ => ⟨h1, hB.trans (h2.mono hB.size)⟩

theorem awakes : Hid (∀ w, Calls Try.prog 22 #[] w fun e w' => e = .returned (.bool true) ∧ Below w.heap.size w w') := hid awake_any
end Go.Proofs.Ytfjomcbbgnaaiaa
