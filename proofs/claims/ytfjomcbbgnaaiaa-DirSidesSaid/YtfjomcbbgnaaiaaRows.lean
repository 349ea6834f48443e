/-
  No cell of these rows narrows 'for every input' (looked for: loops, veiled, ifaces, maps, wideKeys, modest, calm, conditions, laid).
  DERIVED. THE GIVEN ROWS OF THIS SEAT. 11 by the template 'for every input the law returns true; each argument reads behind the call as it read before'; 0 by the template 'total and deterministic' (their statements: YtfjomcbbgnaaiaaTotals.lean).
  GIVEN WITH THE SEED: the statements are not yours to turn. If you find one false, say at which input.
  Laid BY PROGRAM, IN A SANDBOX (cutbox-rows.mjs): the forced cells as the released guide's own fill.sh prints them over the translation 52464d16c6caf81a… (all of the seat's roots in one cut). By AI agents, Wed Nov 11 2026. No macro, syntax, notation, axiom, sorry.
-/
import Derived.Test.YtfjomcbbgnaaiaaChecked
import GoSem.Claim
import GoSem.ClaimJoined
import GoSem.ClaimMapViews
import Derived.JoinedTies
import Derived.KernelRfl
namespace Go.Proofs.Ytfjomcbbgnaaiaa
/- THE CELL 'sum', in the pinned program and in every row, IS THE sha256 OF THE DUMP (.gsa) THAT YtfjomcbbgnaaiaaProg.lean LOADS. Nothing in Lean hashes anything: it is a label: what it is worth is what the hold of that sum in a sandbox is worth. -/
noncomputable def Try.pinned : Pinned := { name := "ytfjomcbbgnaaiaa", sum := "52464d16c6caf81af820486431631fd077aeaa1b8689acac40874796badc3d54", checked := Try.checked }
namespace Rows
def none {H : Type} : Left H := { results := [], args := [] }

/-- 'burnishlaw25.RayUnit': WHATEVER THE INPUT: true; the input reads as it did. -/
def rayUnitSpec : ChangeSpec := { name := "rayUnit", fn := fun _ => fun
  | [d1, d2] => { results := [.lit (.bool true)], args := [d1, d2] }
  | _ => none }
def rayUnitRow : OpenClaim := { program := "ytfjomcbbgnaaiaa", sum := "52464d16c6caf81af820486431631fd077aeaa1b8689acac40874796badc3d54", func := "burnish/burnishlaw25.RayUnit", spec := "rayUnit", inPlace := ["math.Float64bits", "math.Float64frombits", "math/bits.Sub64", "math/bits.Add64"], apart := false }
def RayUnitSaid : Prop := rayUnitRow.holds Try.pinned (OpenSpec.ofChange rayUnitSpec)

/-- ITS FALSE NEIGHBOUR: 'it returns false'. Refute it at one input. -/
def rayUnitWrong : ChangeSpec := { name := "rayUnit", fn := fun _ => fun
  | [d1, d2] => { results := [.lit (.bool false)], args := [d1, d2] }
  | _ => none }
def RayUnitWrongFalsely : Prop := rayUnitRow.holds Try.pinned (OpenSpec.ofChange rayUnitWrong)

/-- 'burnishlaw25.RayTurned': WHATEVER THE INPUT: true; the input reads as it did. -/
def rayTurnedSpec : ChangeSpec := { name := "rayTurned", fn := fun _ => fun
  | [d1, d2, d3, d4] => { results := [.lit (.bool true)], args := [d1, d2, d3, d4] }
  | _ => none }
def rayTurnedRow : OpenClaim := { program := "ytfjomcbbgnaaiaa", sum := "52464d16c6caf81af820486431631fd077aeaa1b8689acac40874796badc3d54", func := "burnish/burnishlaw25.RayTurned", spec := "rayTurned", inPlace := ["math.Float64bits", "math.Float64frombits", "math/bits.Sub64", "math/bits.Add64"], apart := false }
def RayTurnedSaid : Prop := rayTurnedRow.holds Try.pinned (OpenSpec.ofChange rayTurnedSpec)

/-- ITS FALSE NEIGHBOUR: 'it returns false'. Refute it at one input. -/
def rayTurnedWrong : ChangeSpec := { name := "rayTurned", fn := fun _ => fun
  | [d1, d2, d3, d4] => { results := [.lit (.bool false)], args := [d1, d2, d3, d4] }
  | _ => none }
def RayTurnedWrongFalsely : Prop := rayTurnedRow.holds Try.pinned (OpenSpec.ofChange rayTurnedWrong)

/-- 'burnishlaw01.DirSums': WHATEVER THE INPUT: true; the input reads as it did. -/
def dirSumsSpec : ChangeSpec := { name := "dirSums", fn := fun _ => fun
  | [d1, d2] => { results := [.lit (.bool true)], args := [d1, d2] }
  | _ => none }
def dirSumsRow : OpenClaim := { program := "ytfjomcbbgnaaiaa", sum := "52464d16c6caf81af820486431631fd077aeaa1b8689acac40874796badc3d54", func := "burnish/burnishlaw01.DirSums", spec := "dirSums", inPlace := ["math.Float64bits", "math.Float64frombits", "math/bits.Add64", "math/bits.Sub64"], unfollowed := true, recurses := true, named := ["math/bits.divideError", "math/bits.overflowError"], apart := false }
def DirSumsSaid : Prop := dirSumsRow.holds Try.pinned (OpenSpec.ofChange dirSumsSpec)

/-- ITS FALSE NEIGHBOUR: 'it returns false'. Refute it at one input. -/
def dirSumsWrong : ChangeSpec := { name := "dirSums", fn := fun _ => fun
  | [d1, d2] => { results := [.lit (.bool false)], args := [d1, d2] }
  | _ => none }
def DirSumsWrongFalsely : Prop := dirSumsRow.holds Try.pinned (OpenSpec.ofChange dirSumsWrong)

/-- 'burnishlaw01.DirParts': WHATEVER THE INPUT: true; the input reads as it did. -/
def dirPartsSpec : ChangeSpec := { name := "dirParts", fn := fun _ => fun
  | [d1, d2] => { results := [.lit (.bool true)], args := [d1, d2] }
  | _ => none }
def dirPartsRow : OpenClaim := { program := "ytfjomcbbgnaaiaa", sum := "52464d16c6caf81af820486431631fd077aeaa1b8689acac40874796badc3d54", func := "burnish/burnishlaw01.DirParts", spec := "dirParts", inPlace := ["math.Float64bits", "math.Float64frombits", "math/bits.Add64", "math/bits.Sub64"], unfollowed := true, recurses := true, named := ["math/bits.divideError", "math/bits.overflowError"], apart := false }
def DirPartsSaid : Prop := dirPartsRow.holds Try.pinned (OpenSpec.ofChange dirPartsSpec)

/-- ITS FALSE NEIGHBOUR: 'it returns false'. Refute it at one input. -/
def dirPartsWrong : ChangeSpec := { name := "dirParts", fn := fun _ => fun
  | [d1, d2] => { results := [.lit (.bool false)], args := [d1, d2] }
  | _ => none }
def DirPartsWrongFalsely : Prop := dirPartsRow.holds Try.pinned (OpenSpec.ofChange dirPartsWrong)

/-- 'burnishlaw01.DirGrows': WHATEVER THE INPUT: true; the input reads as it did. -/
def dirGrowsSpec : ChangeSpec := { name := "dirGrows", fn := fun _ => fun
  | [d1, d2, d3, d4] => { results := [.lit (.bool true)], args := [d1, d2, d3, d4] }
  | _ => none }
def dirGrowsRow : OpenClaim := { program := "ytfjomcbbgnaaiaa", sum := "52464d16c6caf81af820486431631fd077aeaa1b8689acac40874796badc3d54", func := "burnish/burnishlaw01.DirGrows", spec := "dirGrows", inPlace := ["math.Float64bits", "math.Float64frombits", "math/bits.Add64", "math/bits.Sub64"], unfollowed := true, recurses := true, named := ["math/bits.divideError", "math/bits.overflowError"], apart := false }
def DirGrowsSaid : Prop := dirGrowsRow.holds Try.pinned (OpenSpec.ofChange dirGrowsSpec)

/-- ITS FALSE NEIGHBOUR: 'it returns false'. Refute it at one input. -/
def dirGrowsWrong : ChangeSpec := { name := "dirGrows", fn := fun _ => fun
  | [d1, d2, d3, d4] => { results := [.lit (.bool false)], args := [d1, d2, d3, d4] }
  | _ => none }
def DirGrowsWrongFalsely : Prop := dirGrowsRow.holds Try.pinned (OpenSpec.ofChange dirGrowsWrong)

/-- 'burnishlaw01.DirNext': WHATEVER THE INPUT: true; the input reads as it did. -/
def dirNextSpec : ChangeSpec := { name := "dirNext", fn := fun _ => fun
  | [d] => { results := [.lit (.bool true)], args := [d] }
  | _ => none }
def dirNextRow : OpenClaim := { program := "ytfjomcbbgnaaiaa", sum := "52464d16c6caf81af820486431631fd077aeaa1b8689acac40874796badc3d54", func := "burnish/burnishlaw01.DirNext", spec := "dirNext", inPlace := ["math.Float64bits", "math.Float64frombits", "math/bits.Add64", "math/bits.Sub64"], unfollowed := true, recurses := true, named := ["math/bits.divideError", "math/bits.overflowError"], apart := false }
def DirNextSaid : Prop := dirNextRow.holds Try.pinned (OpenSpec.ofChange dirNextSpec)

/-- ITS FALSE NEIGHBOUR: 'it returns false'. Refute it at one input. -/
def dirNextWrong : ChangeSpec := { name := "dirNext", fn := fun _ => fun
  | [d] => { results := [.lit (.bool false)], args := [d] }
  | _ => none }
def DirNextWrongFalsely : Prop := dirNextRow.holds Try.pinned (OpenSpec.ofChange dirNextWrong)

/-- 'burnishlaw25.RayNear': WHATEVER THE INPUT: true; the input reads as it did. -/
def rayNearSpec : ChangeSpec := { name := "rayNear", fn := fun _ => fun
  | [d] => { results := [.lit (.bool true)], args := [d] }
  | _ => none }
def rayNearRow : OpenClaim := { program := "ytfjomcbbgnaaiaa", sum := "52464d16c6caf81af820486431631fd077aeaa1b8689acac40874796badc3d54", func := "burnish/burnishlaw25.RayNear", spec := "rayNear", inPlace := ["math.Float64bits", "math.Float64frombits", "math/bits.Sub64", "math/bits.Add64"], apart := false }
def RayNearSaid : Prop := rayNearRow.holds Try.pinned (OpenSpec.ofChange rayNearSpec)

/-- ITS FALSE NEIGHBOUR: 'it returns false'. Refute it at one input. -/
def rayNearWrong : ChangeSpec := { name := "rayNear", fn := fun _ => fun
  | [d] => { results := [.lit (.bool false)], args := [d] }
  | _ => none }
def RayNearWrongFalsely : Prop := rayNearRow.holds Try.pinned (OpenSpec.ofChange rayNearWrong)

/-- 'burnishlaw01.DirSides': WHATEVER THE INPUT: true; the input reads as it did. -/
def dirSidesSpec : ChangeSpec := { name := "dirSides", fn := fun _ => fun
  | [d1, d2] => { results := [.lit (.bool true)], args := [d1, d2] }
  | _ => none }
def dirSidesRow : OpenClaim := { program := "ytfjomcbbgnaaiaa", sum := "52464d16c6caf81af820486431631fd077aeaa1b8689acac40874796badc3d54", func := "burnish/burnishlaw01.DirSides", spec := "dirSides", inPlace := ["math.Float64bits", "math.Float64frombits", "math/bits.Add64", "math/bits.Sub64", "math.sqrt"], unfollowed := true, recurses := true, named := ["math/bits.divideError", "math/bits.overflowError"], apart := false }
def DirSidesSaid : Prop := dirSidesRow.holds Try.pinned (OpenSpec.ofChange dirSidesSpec)

/-- ITS FALSE NEIGHBOUR: 'it returns false'. Refute it at one input. -/
def dirSidesWrong : ChangeSpec := { name := "dirSides", fn := fun _ => fun
  | [d1, d2] => { results := [.lit (.bool false)], args := [d1, d2] }
  | _ => none }
def DirSidesWrongFalsely : Prop := dirSidesRow.holds Try.pinned (OpenSpec.ofChange dirSidesWrong)

/-- 'burnishlaw25.RayEdge': WHATEVER THE INPUT: true; the input reads as it did. -/
def rayEdgeSpec : ChangeSpec := { name := "rayEdge", fn := fun _ => fun
  | [d1, d2, d3] => { results := [.lit (.bool true)], args := [d1, d2, d3] }
  | _ => none }
def rayEdgeRow : OpenClaim := { program := "ytfjomcbbgnaaiaa", sum := "52464d16c6caf81af820486431631fd077aeaa1b8689acac40874796badc3d54", func := "burnish/burnishlaw25.RayEdge", spec := "rayEdge", inPlace := ["math.Float64bits", "math.Float64frombits", "math/bits.Sub64", "math/bits.Add64"], named := ["math/bits.divideError", "math/bits.overflowError"], apart := false }
def RayEdgeSaid : Prop := rayEdgeRow.holds Try.pinned (OpenSpec.ofChange rayEdgeSpec)

/-- ITS FALSE NEIGHBOUR: 'it returns false'. Refute it at one input. -/
def rayEdgeWrong : ChangeSpec := { name := "rayEdge", fn := fun _ => fun
  | [d1, d2, d3] => { results := [.lit (.bool false)], args := [d1, d2, d3] }
  | _ => none }
def RayEdgeWrongFalsely : Prop := rayEdgeRow.holds Try.pinned (OpenSpec.ofChange rayEdgeWrong)

/-- 'burnishlaw25.RayTells': WHATEVER THE INPUT: true; the input reads as it did. -/
def rayTellsSpec : ChangeSpec := { name := "rayTells", fn := fun _ => fun
  | [d1, d2] => { results := [.lit (.bool true)], args := [d1, d2] }
  | _ => none }
def rayTellsRow : OpenClaim := { program := "ytfjomcbbgnaaiaa", sum := "52464d16c6caf81af820486431631fd077aeaa1b8689acac40874796badc3d54", func := "burnish/burnishlaw25.RayTells", spec := "rayTells", inPlace := ["math.Float64bits", "math.Float64frombits", "math/bits.Sub64", "math/bits.Add64", "math.FMA", "math.sqrt"], apart := false }
def RayTellsSaid : Prop := rayTellsRow.holds Try.pinned (OpenSpec.ofChange rayTellsSpec)

/-- ITS FALSE NEIGHBOUR: 'it returns false'. Refute it at one input. -/
def rayTellsWrong : ChangeSpec := { name := "rayTells", fn := fun _ => fun
  | [d1, d2] => { results := [.lit (.bool false)], args := [d1, d2] }
  | _ => none }
def RayTellsWrongFalsely : Prop := rayTellsRow.holds Try.pinned (OpenSpec.ofChange rayTellsWrong)

/-- 'burnishlaw01.DirTells': WHATEVER THE INPUT: true; the input reads as it did. -/
def dirTellsSpec : ChangeSpec := { name := "dirTells", fn := fun _ => fun
  | [d1, d2, d3] => { results := [.lit (.bool true)], args := [d1, d2, d3] }
  | _ => none }
def dirTellsRow : OpenClaim := { program := "ytfjomcbbgnaaiaa", sum := "52464d16c6caf81af820486431631fd077aeaa1b8689acac40874796badc3d54", func := "burnish/burnishlaw01.DirTells", spec := "dirTells", inPlace := ["math.Float64bits", "math.Float64frombits", "math/bits.Add64", "math/bits.Sub64", "math.FMA", "math.sqrt"], unfollowed := true, recurses := true, named := ["math/bits.divideError", "math/bits.overflowError"], apart := false }
def DirTellsSaid : Prop := dirTellsRow.holds Try.pinned (OpenSpec.ofChange dirTellsSpec)

/-- ITS FALSE NEIGHBOUR: 'it returns false'. Refute it at one input. -/
def dirTellsWrong : ChangeSpec := { name := "dirTells", fn := fun _ => fun
  | [d1, d2, d3] => { results := [.lit (.bool false)], args := [d1, d2, d3] }
  | _ => none }
def DirTellsWrongFalsely : Prop := dirTellsRow.holds Try.pinned (OpenSpec.ofChange dirTellsWrong)

/- THE SECOND FORM. 'bulk': how many values and letters a reading holds, each counted each time it is reached (what is shared counts as often as it is met; a slice's spare places count too). A statement '..UptoSaid' is the law's where the arguments, and the package variables that the reading takes, are together of bulk at most 1048576: NARROWER than '..Said'. Prove '..Said' where nothing that the law and all that it calls make is longer than what came in: it says more and counts as full. Else prove '..UptoSaid'. A law counts once. -/
mutual
def uptoBulk {H : Type} : DataW H → Nat
  | .lit (.string bytes) => bytes.length + 1
  | .lit _ => 1
  | .nil => 1
  | .ptr d => uptoBulk d + 1
  | .slice elems spare => uptoBulkAll elems + uptoBulkAll spare + 1
  | .agg parts => uptoBulkAll parts + 1
  | .iface _ d => uptoBulk d + 1
  | .map entries => uptoBulkEntries entries + 1
  | .held _ => 1
def uptoBulkAll {H : Type} : List (DataW H) → Nat
  | [] => 0
  | d :: r => uptoBulk d + uptoBulkAll r
def uptoBulkEntries {H : Type} : List (Lit × DataW H) → Nat
  | [] => 0
  | x :: r => uptoBulkEntry x + uptoBulkEntries r
def uptoBulkEntry {H : Type} : Lit × DataW H → Nat
  | (.string bytes, d) => bytes.length + uptoBulk d + 1
  | (_, d) => uptoBulk d + 1
 end
def uptoSmall : (H : Type) → List (DataW H) → Bool := fun _ ds => decide (uptoBulkAll ds ≤ 1048576)
def OpenSpec.upto (s : _root_.Go.ChangeSpec) : _root_.Go.OpenSpec := { _root_.Go.OpenSpec.ofChange s with cond := some uptoSmall }

/-- 'burnishlaw25.RayUnit', WHERE WHAT IT READS IS OF BULK AT MOST 1048576: true; the input reads as it did. -/
def rayUnitUptoRow : OpenClaim := { program := "ytfjomcbbgnaaiaa", sum := "52464d16c6caf81af820486431631fd077aeaa1b8689acac40874796badc3d54", func := "burnish/burnishlaw25.RayUnit", spec := "rayUnit", inPlace := ["math.Float64bits", "math.Float64frombits", "math/bits.Sub64", "math/bits.Add64"], apart := false, narrowed := true }
def RayUnitUptoSaid : Prop := rayUnitUptoRow.holds Try.pinned (OpenSpec.upto rayUnitSpec)

/-- 'burnishlaw25.RayTurned', WHERE WHAT IT READS IS OF BULK AT MOST 1048576: true; the input reads as it did. -/
def rayTurnedUptoRow : OpenClaim := { program := "ytfjomcbbgnaaiaa", sum := "52464d16c6caf81af820486431631fd077aeaa1b8689acac40874796badc3d54", func := "burnish/burnishlaw25.RayTurned", spec := "rayTurned", inPlace := ["math.Float64bits", "math.Float64frombits", "math/bits.Sub64", "math/bits.Add64"], apart := false, narrowed := true }
def RayTurnedUptoSaid : Prop := rayTurnedUptoRow.holds Try.pinned (OpenSpec.upto rayTurnedSpec)

/-- 'burnishlaw01.DirSums', WHERE WHAT IT READS IS OF BULK AT MOST 1048576: true; the input reads as it did. -/
def dirSumsUptoRow : OpenClaim := { program := "ytfjomcbbgnaaiaa", sum := "52464d16c6caf81af820486431631fd077aeaa1b8689acac40874796badc3d54", func := "burnish/burnishlaw01.DirSums", spec := "dirSums", inPlace := ["math.Float64bits", "math.Float64frombits", "math/bits.Add64", "math/bits.Sub64"], unfollowed := true, recurses := true, named := ["math/bits.divideError", "math/bits.overflowError"], apart := false, narrowed := true }
def DirSumsUptoSaid : Prop := dirSumsUptoRow.holds Try.pinned (OpenSpec.upto dirSumsSpec)

/-- 'burnishlaw01.DirParts', WHERE WHAT IT READS IS OF BULK AT MOST 1048576: true; the input reads as it did. -/
def dirPartsUptoRow : OpenClaim := { program := "ytfjomcbbgnaaiaa", sum := "52464d16c6caf81af820486431631fd077aeaa1b8689acac40874796badc3d54", func := "burnish/burnishlaw01.DirParts", spec := "dirParts", inPlace := ["math.Float64bits", "math.Float64frombits", "math/bits.Add64", "math/bits.Sub64"], unfollowed := true, recurses := true, named := ["math/bits.divideError", "math/bits.overflowError"], apart := false, narrowed := true }
def DirPartsUptoSaid : Prop := dirPartsUptoRow.holds Try.pinned (OpenSpec.upto dirPartsSpec)

/-- 'burnishlaw01.DirGrows', WHERE WHAT IT READS IS OF BULK AT MOST 1048576: true; the input reads as it did. -/
def dirGrowsUptoRow : OpenClaim := { program := "ytfjomcbbgnaaiaa", sum := "52464d16c6caf81af820486431631fd077aeaa1b8689acac40874796badc3d54", func := "burnish/burnishlaw01.DirGrows", spec := "dirGrows", inPlace := ["math.Float64bits", "math.Float64frombits", "math/bits.Add64", "math/bits.Sub64"], unfollowed := true, recurses := true, named := ["math/bits.divideError", "math/bits.overflowError"], apart := false, narrowed := true }
def DirGrowsUptoSaid : Prop := dirGrowsUptoRow.holds Try.pinned (OpenSpec.upto dirGrowsSpec)

/-- 'burnishlaw01.DirNext', WHERE WHAT IT READS IS OF BULK AT MOST 1048576: true; the input reads as it did. -/
def dirNextUptoRow : OpenClaim := { program := "ytfjomcbbgnaaiaa", sum := "52464d16c6caf81af820486431631fd077aeaa1b8689acac40874796badc3d54", func := "burnish/burnishlaw01.DirNext", spec := "dirNext", inPlace := ["math.Float64bits", "math.Float64frombits", "math/bits.Add64", "math/bits.Sub64"], unfollowed := true, recurses := true, named := ["math/bits.divideError", "math/bits.overflowError"], apart := false, narrowed := true }
def DirNextUptoSaid : Prop := dirNextUptoRow.holds Try.pinned (OpenSpec.upto dirNextSpec)

/-- 'burnishlaw25.RayNear', WHERE WHAT IT READS IS OF BULK AT MOST 1048576: true; the input reads as it did. -/
def rayNearUptoRow : OpenClaim := { program := "ytfjomcbbgnaaiaa", sum := "52464d16c6caf81af820486431631fd077aeaa1b8689acac40874796badc3d54", func := "burnish/burnishlaw25.RayNear", spec := "rayNear", inPlace := ["math.Float64bits", "math.Float64frombits", "math/bits.Sub64", "math/bits.Add64"], apart := false, narrowed := true }
def RayNearUptoSaid : Prop := rayNearUptoRow.holds Try.pinned (OpenSpec.upto rayNearSpec)

/-- 'burnishlaw01.DirSides', WHERE WHAT IT READS IS OF BULK AT MOST 1048576: true; the input reads as it did. -/
def dirSidesUptoRow : OpenClaim := { program := "ytfjomcbbgnaaiaa", sum := "52464d16c6caf81af820486431631fd077aeaa1b8689acac40874796badc3d54", func := "burnish/burnishlaw01.DirSides", spec := "dirSides", inPlace := ["math.Float64bits", "math.Float64frombits", "math/bits.Add64", "math/bits.Sub64", "math.sqrt"], unfollowed := true, recurses := true, named := ["math/bits.divideError", "math/bits.overflowError"], apart := false, narrowed := true }
def DirSidesUptoSaid : Prop := dirSidesUptoRow.holds Try.pinned (OpenSpec.upto dirSidesSpec)

/-- 'burnishlaw25.RayEdge', WHERE WHAT IT READS IS OF BULK AT MOST 1048576: true; the input reads as it did. -/
def rayEdgeUptoRow : OpenClaim := { program := "ytfjomcbbgnaaiaa", sum := "52464d16c6caf81af820486431631fd077aeaa1b8689acac40874796badc3d54", func := "burnish/burnishlaw25.RayEdge", spec := "rayEdge", inPlace := ["math.Float64bits", "math.Float64frombits", "math/bits.Sub64", "math/bits.Add64"], named := ["math/bits.divideError", "math/bits.overflowError"], apart := false, narrowed := true }
def RayEdgeUptoSaid : Prop := rayEdgeUptoRow.holds Try.pinned (OpenSpec.upto rayEdgeSpec)

/-- 'burnishlaw25.RayTells', WHERE WHAT IT READS IS OF BULK AT MOST 1048576: true; the input reads as it did. -/
def rayTellsUptoRow : OpenClaim := { program := "ytfjomcbbgnaaiaa", sum := "52464d16c6caf81af820486431631fd077aeaa1b8689acac40874796badc3d54", func := "burnish/burnishlaw25.RayTells", spec := "rayTells", inPlace := ["math.Float64bits", "math.Float64frombits", "math/bits.Sub64", "math/bits.Add64", "math.FMA", "math.sqrt"], apart := false, narrowed := true }
def RayTellsUptoSaid : Prop := rayTellsUptoRow.holds Try.pinned (OpenSpec.upto rayTellsSpec)

/-- 'burnishlaw01.DirTells', WHERE WHAT IT READS IS OF BULK AT MOST 1048576: true; the input reads as it did. -/
def dirTellsUptoRow : OpenClaim := { program := "ytfjomcbbgnaaiaa", sum := "52464d16c6caf81af820486431631fd077aeaa1b8689acac40874796badc3d54", func := "burnish/burnishlaw01.DirTells", spec := "dirTells", inPlace := ["math.Float64bits", "math.Float64frombits", "math/bits.Add64", "math/bits.Sub64", "math.FMA", "math.sqrt"], unfollowed := true, recurses := true, named := ["math/bits.divideError", "math/bits.overflowError"], apart := false, narrowed := true }
def DirTellsUptoSaid : Prop := dirTellsUptoRow.holds Try.pinned (OpenSpec.upto dirTellsSpec)

end Rows
end Go.Proofs.Ytfjomcbbgnaaiaa
