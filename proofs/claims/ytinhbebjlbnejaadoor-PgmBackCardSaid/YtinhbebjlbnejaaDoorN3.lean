/- Walks: package ival: ask, for roots, squares and what is known. Walks: package ival: a root, as an operation of two numbers. Walks: package ival: the closures of a calculator's Sqrt and Sqr. -/
import Derived.Test.YtinhbebjlbnejaaDoorN2
import Derived.LoopTactic
import Derived.LoopN
import Derived.Deep.RegionHeld3
/-! Walks: package ival: ask, for roots, squares and what is known. -/
namespace Go.Proofs.YtinhbebjlbnejaaDoor
open Go.RowKit

end Go.Proofs.YtinhbebjlbnejaaDoor
/-! Walks: package ival: a root, as an operation of two numbers. -/
namespace Go.Proofs.YtinhbebjlbnejaaDoor
open Go.RowKit

end Go.Proofs.YtinhbebjlbnejaaDoor
/-! Walks: package ival: the closures of a calculator's Sqrt and Sqr. -/
namespace Go.Proofs.YtinhbebjlbnejaaDoor
open Go.RowKit

/-- An interval in block s. -/
structure Ivl (s : Nat) (b : Nat × Nat) (w : World) : Prop where
  lt : s < w.heap.size
  s0 : w.cell? ⟨s, 0, none⟩ = some (.float .f64 b.1)
  s1 : w.cell? ⟨s, 1, none⟩ = some (.float .f64 b.2)
theorem Ivl.keep {s : Nat} {b : Nat × Nat} {w w' : World} (h : Ivl s b w) (hb : Below w.heap.size w w') : Ivl s b w' :=
  ⟨Nat.lt_of_lt_of_le h.lt hb.size, carry hb h.lt h.s0, carry hb h.lt h.s1⟩

end Go.Proofs.YtinhbebjlbnejaaDoor
