/-
  No cell of these rows narrows 'for every input' (looked for: loops, veiled, ifaces, maps, wideKeys, modest, calm, conditions, laid).
  DERIVED. THE GIVEN ROWS OF THIS SEAT. 5 by the template 'for every input the law returns true; each argument reads behind the call as it read before'; 0 by the template 'total and deterministic' (their statements: YtiphdhpacklboaaTotals.lean).
  GIVEN WITH THE SEED: the statements are not yours to turn. If you find one false, say at which input.
  Laid BY PROGRAM, IN A SANDBOX (cutbox-rows.mjs): the forced cells as the released guide's own fill.sh prints them over the translation a79a7e4dbda8bc08… (all of the seat's roots in one cut). By AI agents, Wed Nov 11 2026. No macro, syntax, notation, axiom, sorry.
-/
import Derived.Test.YtiphdhpacklboaaChecked
import GoSem.Claim
import GoSem.ClaimJoined
import GoSem.ClaimMapViews
import Derived.JoinedTies
import Derived.KernelRfl
namespace Go.Proofs.Ytiphdhpacklboaa
/- THE CELL 'sum', in the pinned program and in every row, IS THE sha256 OF THE DUMP (.gsa) THAT YtiphdhpacklboaaProg.lean LOADS. Nothing in Lean hashes anything: it is a label: what it is worth is what the hold of that sum in a sandbox is worth. -/
noncomputable def Try.pinned : Pinned := { name := "ytiphdhpacklboaa", sum := "a79a7e4dbda8bc08c15c9527b2bc2947c4d5da2a0193973fd30130cf17f74678", checked := Try.checked }
namespace Rows
def none {H : Type} : Left H := { results := [], args := [] }

/-- 'burnishlaw02.IvalHolds': WHATEVER THE INPUT: true; the input reads as it did. -/
def ivalHoldsSpec : ChangeSpec := { name := "ivalHolds", fn := fun _ => fun
  | [d1, d2, d3] => { results := [.lit (.bool true)], args := [d1, d2, d3] }
  | _ => none }
def ivalHoldsRow : OpenClaim := { program := "ytiphdhpacklboaa", sum := "a79a7e4dbda8bc08c15c9527b2bc2947c4d5da2a0193973fd30130cf17f74678", func := "burnish/burnishlaw02.IvalHolds", spec := "ivalHolds", inPlace := ["math.Float64bits", "math.Float64frombits", "math/bits.Add64", "math/bits.Sub64"], unfollowed := true, recurses := true, named := ["math/bits.divideError", "math/bits.overflowError"], apart := false }
def IvalHoldsSaid : Prop := ivalHoldsRow.holds Try.pinned (OpenSpec.ofChange ivalHoldsSpec)

/-- ITS FALSE NEIGHBOUR: 'it returns false'. Refute it at one input. -/
def ivalHoldsWrong : ChangeSpec := { name := "ivalHolds", fn := fun _ => fun
  | [d1, d2, d3] => { results := [.lit (.bool false)], args := [d1, d2, d3] }
  | _ => none }
def IvalHoldsWrongFalsely : Prop := ivalHoldsRow.holds Try.pinned (OpenSpec.ofChange ivalHoldsWrong)

/-- 'burnishlaw05.VecTimes': WHATEVER THE INPUT: true; the input reads as it did. -/
def vecTimesSpec : ChangeSpec := { name := "vecTimes", fn := fun _ => fun
  | [d1, d2] => { results := [.lit (.bool true)], args := [d1, d2] }
  | _ => none }
def vecTimesRow : OpenClaim := { program := "ytiphdhpacklboaa", sum := "a79a7e4dbda8bc08c15c9527b2bc2947c4d5da2a0193973fd30130cf17f74678", func := "burnish/burnishlaw05.VecTimes", spec := "vecTimes", inPlace := ["math.Float64bits", "math.Float64frombits", "math/bits.Add64", "math/bits.Sub64"], unfollowed := true, recurses := true, named := ["math/bits.divideError", "math/bits.overflowError"], apart := false }
def VecTimesSaid : Prop := vecTimesRow.holds Try.pinned (OpenSpec.ofChange vecTimesSpec)

/-- ITS FALSE NEIGHBOUR: 'it returns false'. Refute it at one input. -/
def vecTimesWrong : ChangeSpec := { name := "vecTimes", fn := fun _ => fun
  | [d1, d2] => { results := [.lit (.bool false)], args := [d1, d2] }
  | _ => none }
def VecTimesWrongFalsely : Prop := vecTimesRow.holds Try.pinned (OpenSpec.ofChange vecTimesWrong)

/-- 'burnishlaw05.VecUnit': WHATEVER THE INPUT: true; the input reads as it did. -/
def vecUnitSpec : ChangeSpec := { name := "vecUnit", fn := fun _ => fun
  | [d] => { results := [.lit (.bool true)], args := [d] }
  | _ => none }
def vecUnitRow : OpenClaim := { program := "ytiphdhpacklboaa", sum := "a79a7e4dbda8bc08c15c9527b2bc2947c4d5da2a0193973fd30130cf17f74678", func := "burnish/burnishlaw05.VecUnit", spec := "vecUnit", inPlace := ["math.Float64bits", "math.Float64frombits", "math/bits.Add64", "math/bits.Sub64"], unfollowed := true, recurses := true, named := ["math/bits.divideError", "math/bits.overflowError"], apart := false }
def VecUnitSaid : Prop := vecUnitRow.holds Try.pinned (OpenSpec.ofChange vecUnitSpec)

/-- ITS FALSE NEIGHBOUR: 'it returns false'. Refute it at one input. -/
def vecUnitWrong : ChangeSpec := { name := "vecUnit", fn := fun _ => fun
  | [d] => { results := [.lit (.bool false)], args := [d] }
  | _ => none }
def VecUnitWrongFalsely : Prop := vecUnitRow.holds Try.pinned (OpenSpec.ofChange vecUnitWrong)

/-- 'burnishlaw14.MirrorStraight': WHATEVER THE INPUT: true; the input reads as it did. -/
def mirrorStraightSpec : ChangeSpec := { name := "mirrorStraight", fn := fun _ => fun
  | [d] => { results := [.lit (.bool true)], args := [d] }
  | _ => none }
def mirrorStraightRow : OpenClaim := { program := "ytiphdhpacklboaa", sum := "a79a7e4dbda8bc08c15c9527b2bc2947c4d5da2a0193973fd30130cf17f74678", func := "burnish/burnishlaw14.MirrorStraight", spec := "mirrorStraight", inPlace := ["math.Float64bits", "math.Float64frombits", "math/bits.Add64", "math/bits.Sub64"], unfollowed := true, recurses := true, named := ["math/bits.divideError", "math/bits.overflowError"], apart := false }
def MirrorStraightSaid : Prop := mirrorStraightRow.holds Try.pinned (OpenSpec.ofChange mirrorStraightSpec)

/-- ITS FALSE NEIGHBOUR: 'it returns false'. Refute it at one input. -/
def mirrorStraightWrong : ChangeSpec := { name := "mirrorStraight", fn := fun _ => fun
  | [d] => { results := [.lit (.bool false)], args := [d] }
  | _ => none }
def MirrorStraightWrongFalsely : Prop := mirrorStraightRow.holds Try.pinned (OpenSpec.ofChange mirrorStraightWrong)

/-- 'burnishlaw25.RayTells': WHATEVER THE INPUT: true; the input reads as it did. -/
def rayTellsSpec : ChangeSpec := { name := "rayTells", fn := fun _ => fun
  | [d1, d2] => { results := [.lit (.bool true)], args := [d1, d2] }
  | _ => none }
def rayTellsRow : OpenClaim := { program := "ytiphdhpacklboaa", sum := "a79a7e4dbda8bc08c15c9527b2bc2947c4d5da2a0193973fd30130cf17f74678", func := "burnish/burnishlaw25.RayTells", spec := "rayTells", inPlace := ["math.Float64bits", "math.Float64frombits", "math/bits.Sub64", "math/bits.Add64", "math.FMA", "math.sqrt"], apart := false }
def RayTellsSaid : Prop := rayTellsRow.holds Try.pinned (OpenSpec.ofChange rayTellsSpec)

/-- ITS FALSE NEIGHBOUR: 'it returns false'. Refute it at one input. -/
def rayTellsWrong : ChangeSpec := { name := "rayTells", fn := fun _ => fun
  | [d1, d2] => { results := [.lit (.bool false)], args := [d1, d2] }
  | _ => none }
def RayTellsWrongFalsely : Prop := rayTellsRow.holds Try.pinned (OpenSpec.ofChange rayTellsWrong)

/- THE SECOND FORM. 'bulk': how many values and letters a reading holds, each counted each time it is reached (what is shared counts as often as it is met; a slice's spare places count too). A statement '..UptoSaid' is the law's where the arguments, and the package variables that the reading takes, are together of bulk at most 1048576: NARROWER than '..Said'. Prove '..Said' where nothing that the law and all that it calls make is longer than what came in: it says more and counts as full. Else prove '..UptoSaid'. A law counts once. -/
mutual
def uptoBulk {H : Type} : DataW H → Nat
  | .lit (.string bytes) => bytes.length + 1
  | .lit _ => 1
  | .nil => 1
  | .ptr d => uptoBulk d + 1
  | .slice elems spare => uptoBulkAll elems + uptoBulkAll spare + 1
  | .agg parts => uptoBulkAll parts + 1
  | .iface _ d => uptoBulk d + 1
  | .map entries => uptoBulkEntries entries + 1
  | .held _ => 1
def uptoBulkAll {H : Type} : List (DataW H) → Nat
  | [] => 0
  | d :: r => uptoBulk d + uptoBulkAll r
def uptoBulkEntries {H : Type} : List (Lit × DataW H) → Nat
  | [] => 0
  | x :: r => uptoBulkEntry x + uptoBulkEntries r
def uptoBulkEntry {H : Type} : Lit × DataW H → Nat
  | (.string bytes, d) => bytes.length + uptoBulk d + 1
  | (_, d) => uptoBulk d + 1
 end
def uptoSmall : (H : Type) → List (DataW H) → Bool := fun _ ds => decide (uptoBulkAll ds ≤ 1048576)
def OpenSpec.upto (s : _root_.Go.ChangeSpec) : _root_.Go.OpenSpec := { _root_.Go.OpenSpec.ofChange s with cond := some uptoSmall }

/-- 'burnishlaw02.IvalHolds', WHERE WHAT IT READS IS OF BULK AT MOST 1048576: true; the input reads as it did. -/
def ivalHoldsUptoRow : OpenClaim := { program := "ytiphdhpacklboaa", sum := "a79a7e4dbda8bc08c15c9527b2bc2947c4d5da2a0193973fd30130cf17f74678", func := "burnish/burnishlaw02.IvalHolds", spec := "ivalHolds", inPlace := ["math.Float64bits", "math.Float64frombits", "math/bits.Add64", "math/bits.Sub64"], unfollowed := true, recurses := true, named := ["math/bits.divideError", "math/bits.overflowError"], apart := false, narrowed := true }
def IvalHoldsUptoSaid : Prop := ivalHoldsUptoRow.holds Try.pinned (OpenSpec.upto ivalHoldsSpec)

/-- 'burnishlaw05.VecTimes', WHERE WHAT IT READS IS OF BULK AT MOST 1048576: true; the input reads as it did. -/
def vecTimesUptoRow : OpenClaim := { program := "ytiphdhpacklboaa", sum := "a79a7e4dbda8bc08c15c9527b2bc2947c4d5da2a0193973fd30130cf17f74678", func := "burnish/burnishlaw05.VecTimes", spec := "vecTimes", inPlace := ["math.Float64bits", "math.Float64frombits", "math/bits.Add64", "math/bits.Sub64"], unfollowed := true, recurses := true, named := ["math/bits.divideError", "math/bits.overflowError"], apart := false, narrowed := true }
def VecTimesUptoSaid : Prop := vecTimesUptoRow.holds Try.pinned (OpenSpec.upto vecTimesSpec)

/-- 'burnishlaw05.VecUnit', WHERE WHAT IT READS IS OF BULK AT MOST 1048576: true; the input reads as it did. -/
def vecUnitUptoRow : OpenClaim := { program := "ytiphdhpacklboaa", sum := "a79a7e4dbda8bc08c15c9527b2bc2947c4d5da2a0193973fd30130cf17f74678", func := "burnish/burnishlaw05.VecUnit", spec := "vecUnit", inPlace := ["math.Float64bits", "math.Float64frombits", "math/bits.Add64", "math/bits.Sub64"], unfollowed := true, recurses := true, named := ["math/bits.divideError", "math/bits.overflowError"], apart := false, narrowed := true }
def VecUnitUptoSaid : Prop := vecUnitUptoRow.holds Try.pinned (OpenSpec.upto vecUnitSpec)

/-- 'burnishlaw14.MirrorStraight', WHERE WHAT IT READS IS OF BULK AT MOST 1048576: true; the input reads as it did. -/
def mirrorStraightUptoRow : OpenClaim := { program := "ytiphdhpacklboaa", sum := "a79a7e4dbda8bc08c15c9527b2bc2947c4d5da2a0193973fd30130cf17f74678", func := "burnish/burnishlaw14.MirrorStraight", spec := "mirrorStraight", inPlace := ["math.Float64bits", "math.Float64frombits", "math/bits.Add64", "math/bits.Sub64"], unfollowed := true, recurses := true, named := ["math/bits.divideError", "math/bits.overflowError"], apart := false, narrowed := true }
def MirrorStraightUptoSaid : Prop := mirrorStraightUptoRow.holds Try.pinned (OpenSpec.upto mirrorStraightSpec)

/-- 'burnishlaw25.RayTells', WHERE WHAT IT READS IS OF BULK AT MOST 1048576: true; the input reads as it did. -/
def rayTellsUptoRow : OpenClaim := { program := "ytiphdhpacklboaa", sum := "a79a7e4dbda8bc08c15c9527b2bc2947c4d5da2a0193973fd30130cf17f74678", func := "burnish/burnishlaw25.RayTells", spec := "rayTells", inPlace := ["math.Float64bits", "math.Float64frombits", "math/bits.Sub64", "math/bits.Add64", "math.FMA", "math.sqrt"], apart := false, narrowed := true }
def RayTellsUptoSaid : Prop := rayTellsUptoRow.holds Try.pinned (OpenSpec.upto rayTellsSpec)

end Rows
end Go.Proofs.Ytiphdhpacklboaa
