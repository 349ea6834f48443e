/- Plain facts: a table of sizes: pi by 4. -/
import Derived.Test.YtpnjfinkhafglaaLd6
namespace Go.Proofs.Ytpnjfinkhafglaa
open Go Go.RowKit
def hitB (n : Nat) : Bool :=
  let g := Dy.fi (fastW n n)
  let p := (Ieee.double.mul 4605249457297304856 (Dy.fi (n * n))).getD 0
  let q := (Ieee.double.mul 4620693217682128896 (Dy.fi n)).getD 0
  okF (Ieee.double.mul 4605249457297304856 (Dy.fi (n * n))) && (okF (Ieee.double.sub g p) && (okF (Ieee.double.mul 4620693217682128896 (Dy.fi n)) && !(Dy.fgt (Dy.abs ((Ieee.double.sub g p).getD 0)) q)))
set_option maxRecDepth 100000 in
theorem hit_tab : ∀ n : Nat, n < 257 → 1 ≤ n → hitB n = true := by decide +kernel
end Go.Proofs.Ytpnjfinkhafglaa
