/-
  No cell of these rows narrows 'for every input' (looked for: loops, veiled, ifaces, maps, wideKeys, modest, calm, conditions, laid).
  DERIVED. THE GIVEN ROWS OF THIS SEAT. 11 by the template 'for every input the law returns true; each argument reads behind the call as it read before'; 0 by the template 'total and deterministic' (their statements: YtikiegcncliocaaTotals.lean).
  GIVEN WITH THE SEED: the statements are not yours to turn. If you find one false, say at which input.
  Laid BY PROGRAM, IN A SANDBOX (cutbox-rows.mjs): the forced cells as the released guide's own fill.sh prints them over the translation 1235b65525bd008d… (all of the seat's roots in one cut). By AI agents, Wed Nov 11 2026. No macro, syntax, notation, axiom, sorry.
-/
import Derived.Test.YtikiegcncliocaaChecked
import GoSem.Claim
import GoSem.ClaimJoined
import GoSem.ClaimMapViews
import Derived.JoinedTies
import Derived.KernelRfl
namespace Go.Proofs.Ytikiegcncliocaa
/- THE CELL 'sum', in the pinned program and in every row, IS THE sha256 OF THE DUMP (.gsa) THAT YtikiegcncliocaaProg.lean LOADS. Nothing in Lean hashes anything: it is a label: what it is worth is what the hold of that sum in a sandbox is worth. -/
noncomputable def Try.pinned : Pinned := { name := "ytikiegcncliocaa", sum := "1235b65525bd008da173d230032ae340c9b71662e34c61341122a4ba9824bd20", checked := Try.checked }
namespace Rows
def none {H : Type} : Left H := { results := [], args := [] }

/-- 'burnishlaw02.IvalMeets': WHATEVER THE INPUT: true; the input reads as it did. -/
def ivalMeetsSpec : ChangeSpec := { name := "ivalMeets", fn := fun _ => fun
  | [d1, d2, d3] => { results := [.lit (.bool true)], args := [d1, d2, d3] }
  | _ => none }
def ivalMeetsRow : OpenClaim := { program := "ytikiegcncliocaa", sum := "1235b65525bd008da173d230032ae340c9b71662e34c61341122a4ba9824bd20", func := "burnish/burnishlaw02.IvalMeets", spec := "ivalMeets", inPlace := ["math.Float64bits", "math.Float64frombits", "math/bits.Add64", "math/bits.Sub64"], unfollowed := true, recurses := true, named := ["math/bits.divideError", "math/bits.overflowError"], apart := false }
def IvalMeetsSaid : Prop := ivalMeetsRow.holds Try.pinned (OpenSpec.ofChange ivalMeetsSpec)

/-- ITS FALSE NEIGHBOUR: 'it returns false'. Refute it at one input. -/
def ivalMeetsWrong : ChangeSpec := { name := "ivalMeets", fn := fun _ => fun
  | [d1, d2, d3] => { results := [.lit (.bool false)], args := [d1, d2, d3] }
  | _ => none }
def IvalMeetsWrongFalsely : Prop := ivalMeetsRow.holds Try.pinned (OpenSpec.ofChange ivalMeetsWrong)

/-- 'burnishlaw07.LambertRings': WHATEVER THE INPUT: true; the input reads as it did. -/
def lambertRingsSpec : ChangeSpec := { name := "lambertRings", fn := fun _ => fun
  | [d1, d2, d3] => { results := [.lit (.bool true)], args := [d1, d2, d3] }
  | _ => none }
def lambertRingsRow : OpenClaim := { program := "ytikiegcncliocaa", sum := "1235b65525bd008da173d230032ae340c9b71662e34c61341122a4ba9824bd20", func := "burnish/burnishlaw07.LambertRings", spec := "lambertRings", inPlace := ["math.Float64bits", "math.Float64frombits", "math/bits.Add64", "math/bits.Sub64"], unfollowed := true, recurses := true, named := ["math/bits.divideError", "math/bits.overflowError"], apart := false }
def LambertRingsSaid : Prop := lambertRingsRow.holds Try.pinned (OpenSpec.ofChange lambertRingsSpec)

/-- ITS FALSE NEIGHBOUR: 'it returns false'. Refute it at one input. -/
def lambertRingsWrong : ChangeSpec := { name := "lambertRings", fn := fun _ => fun
  | [d1, d2, d3] => { results := [.lit (.bool false)], args := [d1, d2, d3] }
  | _ => none }
def LambertRingsWrongFalsely : Prop := lambertRingsRow.holds Try.pinned (OpenSpec.ofChange lambertRingsWrong)

/-- 'burnishlaw02.IvalHolds': WHATEVER THE INPUT: true; the input reads as it did. -/
def ivalHoldsSpec : ChangeSpec := { name := "ivalHolds", fn := fun _ => fun
  | [d1, d2, d3] => { results := [.lit (.bool true)], args := [d1, d2, d3] }
  | _ => none }
def ivalHoldsRow : OpenClaim := { program := "ytikiegcncliocaa", sum := "1235b65525bd008da173d230032ae340c9b71662e34c61341122a4ba9824bd20", func := "burnish/burnishlaw02.IvalHolds", spec := "ivalHolds", inPlace := ["math.Float64bits", "math.Float64frombits", "math/bits.Add64", "math/bits.Sub64"], unfollowed := true, recurses := true, named := ["math/bits.divideError", "math/bits.overflowError"], apart := false }
def IvalHoldsSaid : Prop := ivalHoldsRow.holds Try.pinned (OpenSpec.ofChange ivalHoldsSpec)

/-- ITS FALSE NEIGHBOUR: 'it returns false'. Refute it at one input. -/
def ivalHoldsWrong : ChangeSpec := { name := "ivalHolds", fn := fun _ => fun
  | [d1, d2, d3] => { results := [.lit (.bool false)], args := [d1, d2, d3] }
  | _ => none }
def IvalHoldsWrongFalsely : Prop := ivalHoldsRow.holds Try.pinned (OpenSpec.ofChange ivalHoldsWrong)

/-- 'burnishlaw02.IvalStays': WHATEVER THE INPUT: true; the input reads as it did. -/
def ivalStaysSpec : ChangeSpec := { name := "ivalStays", fn := fun _ => fun
  | [d] => { results := [.lit (.bool true)], args := [d] }
  | _ => none }
def ivalStaysRow : OpenClaim := { program := "ytikiegcncliocaa", sum := "1235b65525bd008da173d230032ae340c9b71662e34c61341122a4ba9824bd20", func := "burnish/burnishlaw02.IvalStays", spec := "ivalStays", inPlace := ["math.Float64bits", "math.Float64frombits", "math/bits.Add64", "math/bits.Sub64"], unfollowed := true, recurses := true, named := ["math/bits.divideError", "math/bits.overflowError"], apart := false }
def IvalStaysSaid : Prop := ivalStaysRow.holds Try.pinned (OpenSpec.ofChange ivalStaysSpec)

/-- ITS FALSE NEIGHBOUR: 'it returns false'. Refute it at one input. -/
def ivalStaysWrong : ChangeSpec := { name := "ivalStays", fn := fun _ => fun
  | [d] => { results := [.lit (.bool false)], args := [d] }
  | _ => none }
def IvalStaysWrongFalsely : Prop := ivalStaysRow.holds Try.pinned (OpenSpec.ofChange ivalStaysWrong)

/-- 'burnishlaw05.VecCross': WHATEVER THE INPUT: true; the input reads as it did. -/
def vecCrossSpec : ChangeSpec := { name := "vecCross", fn := fun _ => fun
  | [d1, d2] => { results := [.lit (.bool true)], args := [d1, d2] }
  | _ => none }
def vecCrossRow : OpenClaim := { program := "ytikiegcncliocaa", sum := "1235b65525bd008da173d230032ae340c9b71662e34c61341122a4ba9824bd20", func := "burnish/burnishlaw05.VecCross", spec := "vecCross", inPlace := ["math.Float64bits", "math.Float64frombits", "math/bits.Add64", "math/bits.Sub64"], unfollowed := true, recurses := true, named := ["math/bits.divideError", "math/bits.overflowError"], apart := false }
def VecCrossSaid : Prop := vecCrossRow.holds Try.pinned (OpenSpec.ofChange vecCrossSpec)

/-- ITS FALSE NEIGHBOUR: 'it returns false'. Refute it at one input. -/
def vecCrossWrong : ChangeSpec := { name := "vecCross", fn := fun _ => fun
  | [d1, d2] => { results := [.lit (.bool false)], args := [d1, d2] }
  | _ => none }
def VecCrossWrongFalsely : Prop := vecCrossRow.holds Try.pinned (OpenSpec.ofChange vecCrossWrong)

/-- 'burnishlaw05.VecUnit': WHATEVER THE INPUT: true; the input reads as it did. -/
def vecUnitSpec : ChangeSpec := { name := "vecUnit", fn := fun _ => fun
  | [d] => { results := [.lit (.bool true)], args := [d] }
  | _ => none }
def vecUnitRow : OpenClaim := { program := "ytikiegcncliocaa", sum := "1235b65525bd008da173d230032ae340c9b71662e34c61341122a4ba9824bd20", func := "burnish/burnishlaw05.VecUnit", spec := "vecUnit", inPlace := ["math.Float64bits", "math.Float64frombits", "math/bits.Add64", "math/bits.Sub64"], unfollowed := true, recurses := true, named := ["math/bits.divideError", "math/bits.overflowError"], apart := false }
def VecUnitSaid : Prop := vecUnitRow.holds Try.pinned (OpenSpec.ofChange vecUnitSpec)

/-- ITS FALSE NEIGHBOUR: 'it returns false'. Refute it at one input. -/
def vecUnitWrong : ChangeSpec := { name := "vecUnit", fn := fun _ => fun
  | [d] => { results := [.lit (.bool false)], args := [d] }
  | _ => none }
def VecUnitWrongFalsely : Prop := vecUnitRow.holds Try.pinned (OpenSpec.ofChange vecUnitWrong)

/-- 'burnishlaw05.VecHolds': WHATEVER THE INPUT: true; the input reads as it did. -/
def vecHoldsSpec : ChangeSpec := { name := "vecHolds", fn := fun _ => fun
  | [d1, d2, d3, d4] => { results := [.lit (.bool true)], args := [d1, d2, d3, d4] }
  | _ => none }
def vecHoldsRow : OpenClaim := { program := "ytikiegcncliocaa", sum := "1235b65525bd008da173d230032ae340c9b71662e34c61341122a4ba9824bd20", func := "burnish/burnishlaw05.VecHolds", spec := "vecHolds", inPlace := ["math.Float64bits", "math.Float64frombits", "math/bits.Add64", "math/bits.Sub64"], unfollowed := true, recurses := true, named := ["math/bits.divideError", "math/bits.overflowError"], apart := false }
def VecHoldsSaid : Prop := vecHoldsRow.holds Try.pinned (OpenSpec.ofChange vecHoldsSpec)

/-- ITS FALSE NEIGHBOUR: 'it returns false'. Refute it at one input. -/
def vecHoldsWrong : ChangeSpec := { name := "vecHolds", fn := fun _ => fun
  | [d1, d2, d3, d4] => { results := [.lit (.bool false)], args := [d1, d2, d3, d4] }
  | _ => none }
def VecHoldsWrongFalsely : Prop := vecHoldsRow.holds Try.pinned (OpenSpec.ofChange vecHoldsWrong)

/-- 'burnishlaw09.GgxOnce': WHATEVER THE INPUT: true; the input reads as it did. -/
def ggxOnceSpec : ChangeSpec := { name := "ggxOnce", fn := fun _ => fun
  | [d1, d2, d3] => { results := [.lit (.bool true)], args := [d1, d2, d3] }
  | _ => none }
def ggxOnceRow : OpenClaim := { program := "ytikiegcncliocaa", sum := "1235b65525bd008da173d230032ae340c9b71662e34c61341122a4ba9824bd20", func := "burnish/burnishlaw09.GgxOnce", spec := "ggxOnce", inPlace := ["math.Float64bits", "math.Float64frombits", "math/bits.Add64", "math/bits.Sub64"], unfollowed := true, recurses := true, named := ["math/bits.divideError", "math/bits.overflowError"], apart := false }
def GgxOnceSaid : Prop := ggxOnceRow.holds Try.pinned (OpenSpec.ofChange ggxOnceSpec)

/-- ITS FALSE NEIGHBOUR: 'it returns false'. Refute it at one input. -/
def ggxOnceWrong : ChangeSpec := { name := "ggxOnce", fn := fun _ => fun
  | [d1, d2, d3] => { results := [.lit (.bool false)], args := [d1, d2, d3] }
  | _ => none }
def GgxOnceWrongFalsely : Prop := ggxOnceRow.holds Try.pinned (OpenSpec.ofChange ggxOnceWrong)

/-- 'burnishlaw14.MirrorStraight': WHATEVER THE INPUT: true; the input reads as it did. -/
def mirrorStraightSpec : ChangeSpec := { name := "mirrorStraight", fn := fun _ => fun
  | [d] => { results := [.lit (.bool true)], args := [d] }
  | _ => none }
def mirrorStraightRow : OpenClaim := { program := "ytikiegcncliocaa", sum := "1235b65525bd008da173d230032ae340c9b71662e34c61341122a4ba9824bd20", func := "burnish/burnishlaw14.MirrorStraight", spec := "mirrorStraight", inPlace := ["math.Float64bits", "math.Float64frombits", "math/bits.Add64", "math/bits.Sub64"], unfollowed := true, recurses := true, named := ["math/bits.divideError", "math/bits.overflowError"], apart := false }
def MirrorStraightSaid : Prop := mirrorStraightRow.holds Try.pinned (OpenSpec.ofChange mirrorStraightSpec)

/-- ITS FALSE NEIGHBOUR: 'it returns false'. Refute it at one input. -/
def mirrorStraightWrong : ChangeSpec := { name := "mirrorStraight", fn := fun _ => fun
  | [d] => { results := [.lit (.bool false)], args := [d] }
  | _ => none }
def MirrorStraightWrongFalsely : Prop := mirrorStraightRow.holds Try.pinned (OpenSpec.ofChange mirrorStraightWrong)

/-- 'burnishlaw10.MicroBack': WHATEVER THE INPUT: true; the input reads as it did. -/
def microBackSpec : ChangeSpec := { name := "microBack", fn := fun _ => fun
  | [d1, d2] => { results := [.lit (.bool true)], args := [d1, d2] }
  | _ => none }
def microBackRow : OpenClaim := { program := "ytikiegcncliocaa", sum := "1235b65525bd008da173d230032ae340c9b71662e34c61341122a4ba9824bd20", func := "burnish/burnishlaw10.MicroBack", spec := "microBack", inPlace := ["math.Float64bits", "math.Float64frombits", "math/bits.Add64", "math/bits.Sub64"], unfollowed := true, recurses := true, named := ["math/bits.divideError", "math/bits.overflowError"], apart := false }
def MicroBackSaid : Prop := microBackRow.holds Try.pinned (OpenSpec.ofChange microBackSpec)

/-- ITS FALSE NEIGHBOUR: 'it returns false'. Refute it at one input. -/
def microBackWrong : ChangeSpec := { name := "microBack", fn := fun _ => fun
  | [d1, d2] => { results := [.lit (.bool false)], args := [d1, d2] }
  | _ => none }
def MicroBackWrongFalsely : Prop := microBackRow.holds Try.pinned (OpenSpec.ofChange microBackWrong)

/-- 'burnishlaw10.MicroShare': WHATEVER THE INPUT: true; the input reads as it did. -/
def microShareSpec : ChangeSpec := { name := "microShare", fn := fun _ => fun
  | [d1, d2] => { results := [.lit (.bool true)], args := [d1, d2] }
  | _ => none }
def microShareRow : OpenClaim := { program := "ytikiegcncliocaa", sum := "1235b65525bd008da173d230032ae340c9b71662e34c61341122a4ba9824bd20", func := "burnish/burnishlaw10.MicroShare", spec := "microShare", inPlace := ["math.Float64bits", "math.Float64frombits", "math/bits.Add64", "math/bits.Sub64"], unfollowed := true, recurses := true, named := ["math/bits.divideError", "math/bits.overflowError"], apart := false }
def MicroShareSaid : Prop := microShareRow.holds Try.pinned (OpenSpec.ofChange microShareSpec)

/-- ITS FALSE NEIGHBOUR: 'it returns false'. Refute it at one input. -/
def microShareWrong : ChangeSpec := { name := "microShare", fn := fun _ => fun
  | [d1, d2] => { results := [.lit (.bool false)], args := [d1, d2] }
  | _ => none }
def MicroShareWrongFalsely : Prop := microShareRow.holds Try.pinned (OpenSpec.ofChange microShareWrong)

/- THE SECOND FORM. 'bulk': how many values and letters a reading holds, each counted each time it is reached (what is shared counts as often as it is met; a slice's spare places count too). A statement '..UptoSaid' is the law's where the arguments, and the package variables that the reading takes, are together of bulk at most 1048576: NARROWER than '..Said'. Prove '..Said' where nothing that the law and all that it calls make is longer than what came in: it says more and counts as full. Else prove '..UptoSaid'. A law counts once. -/
mutual
def uptoBulk {H : Type} : DataW H → Nat
  | .lit (.string bytes) => bytes.length + 1
  | .lit _ => 1
  | .nil => 1
  | .ptr d => uptoBulk d + 1
  | .slice elems spare => uptoBulkAll elems + uptoBulkAll spare + 1
  | .agg parts => uptoBulkAll parts + 1
  | .iface _ d => uptoBulk d + 1
  | .map entries => uptoBulkEntries entries + 1
  | .held _ => 1
def uptoBulkAll {H : Type} : List (DataW H) → Nat
  | [] => 0
  | d :: r => uptoBulk d + uptoBulkAll r
def uptoBulkEntries {H : Type} : List (Lit × DataW H) → Nat
  | [] => 0
  | x :: r => uptoBulkEntry x + uptoBulkEntries r
def uptoBulkEntry {H : Type} : Lit × DataW H → Nat
  | (.string bytes, d) => bytes.length + uptoBulk d + 1
  | (_, d) => uptoBulk d + 1
 end
def uptoSmall : (H : Type) → List (DataW H) → Bool := fun _ ds => decide (uptoBulkAll ds ≤ 1048576)
def OpenSpec.upto (s : _root_.Go.ChangeSpec) : _root_.Go.OpenSpec := { _root_.Go.OpenSpec.ofChange s with cond := some uptoSmall }

/-- 'burnishlaw02.IvalMeets', WHERE WHAT IT READS IS OF BULK AT MOST 1048576: true; the input reads as it did. -/
def ivalMeetsUptoRow : OpenClaim := { program := "ytikiegcncliocaa", sum := "1235b65525bd008da173d230032ae340c9b71662e34c61341122a4ba9824bd20", func := "burnish/burnishlaw02.IvalMeets", spec := "ivalMeets", inPlace := ["math.Float64bits", "math.Float64frombits", "math/bits.Add64", "math/bits.Sub64"], unfollowed := true, recurses := true, named := ["math/bits.divideError", "math/bits.overflowError"], apart := false, narrowed := true }
def IvalMeetsUptoSaid : Prop := ivalMeetsUptoRow.holds Try.pinned (OpenSpec.upto ivalMeetsSpec)

/-- 'burnishlaw07.LambertRings', WHERE WHAT IT READS IS OF BULK AT MOST 1048576: true; the input reads as it did. -/
def lambertRingsUptoRow : OpenClaim := { program := "ytikiegcncliocaa", sum := "1235b65525bd008da173d230032ae340c9b71662e34c61341122a4ba9824bd20", func := "burnish/burnishlaw07.LambertRings", spec := "lambertRings", inPlace := ["math.Float64bits", "math.Float64frombits", "math/bits.Add64", "math/bits.Sub64"], unfollowed := true, recurses := true, named := ["math/bits.divideError", "math/bits.overflowError"], apart := false, narrowed := true }
def LambertRingsUptoSaid : Prop := lambertRingsUptoRow.holds Try.pinned (OpenSpec.upto lambertRingsSpec)

/-- 'burnishlaw02.IvalHolds', WHERE WHAT IT READS IS OF BULK AT MOST 1048576: true; the input reads as it did. -/
def ivalHoldsUptoRow : OpenClaim := { program := "ytikiegcncliocaa", sum := "1235b65525bd008da173d230032ae340c9b71662e34c61341122a4ba9824bd20", func := "burnish/burnishlaw02.IvalHolds", spec := "ivalHolds", inPlace := ["math.Float64bits", "math.Float64frombits", "math/bits.Add64", "math/bits.Sub64"], unfollowed := true, recurses := true, named := ["math/bits.divideError", "math/bits.overflowError"], apart := false, narrowed := true }
def IvalHoldsUptoSaid : Prop := ivalHoldsUptoRow.holds Try.pinned (OpenSpec.upto ivalHoldsSpec)

/-- 'burnishlaw02.IvalStays', WHERE WHAT IT READS IS OF BULK AT MOST 1048576: true; the input reads as it did. -/
def ivalStaysUptoRow : OpenClaim := { program := "ytikiegcncliocaa", sum := "1235b65525bd008da173d230032ae340c9b71662e34c61341122a4ba9824bd20", func := "burnish/burnishlaw02.IvalStays", spec := "ivalStays", inPlace := ["math.Float64bits", "math.Float64frombits", "math/bits.Add64", "math/bits.Sub64"], unfollowed := true, recurses := true, named := ["math/bits.divideError", "math/bits.overflowError"], apart := false, narrowed := true }
def IvalStaysUptoSaid : Prop := ivalStaysUptoRow.holds Try.pinned (OpenSpec.upto ivalStaysSpec)

/-- 'burnishlaw05.VecCross', WHERE WHAT IT READS IS OF BULK AT MOST 1048576: true; the input reads as it did. -/
def vecCrossUptoRow : OpenClaim := { program := "ytikiegcncliocaa", sum := "1235b65525bd008da173d230032ae340c9b71662e34c61341122a4ba9824bd20", func := "burnish/burnishlaw05.VecCross", spec := "vecCross", inPlace := ["math.Float64bits", "math.Float64frombits", "math/bits.Add64", "math/bits.Sub64"], unfollowed := true, recurses := true, named := ["math/bits.divideError", "math/bits.overflowError"], apart := false, narrowed := true }
def VecCrossUptoSaid : Prop := vecCrossUptoRow.holds Try.pinned (OpenSpec.upto vecCrossSpec)

/-- 'burnishlaw05.VecUnit', WHERE WHAT IT READS IS OF BULK AT MOST 1048576: true; the input reads as it did. -/
def vecUnitUptoRow : OpenClaim := { program := "ytikiegcncliocaa", sum := "1235b65525bd008da173d230032ae340c9b71662e34c61341122a4ba9824bd20", func := "burnish/burnishlaw05.VecUnit", spec := "vecUnit", inPlace := ["math.Float64bits", "math.Float64frombits", "math/bits.Add64", "math/bits.Sub64"], unfollowed := true, recurses := true, named := ["math/bits.divideError", "math/bits.overflowError"], apart := false, narrowed := true }
def VecUnitUptoSaid : Prop := vecUnitUptoRow.holds Try.pinned (OpenSpec.upto vecUnitSpec)

/-- 'burnishlaw05.VecHolds', WHERE WHAT IT READS IS OF BULK AT MOST 1048576: true; the input reads as it did. -/
def vecHoldsUptoRow : OpenClaim := { program := "ytikiegcncliocaa", sum := "1235b65525bd008da173d230032ae340c9b71662e34c61341122a4ba9824bd20", func := "burnish/burnishlaw05.VecHolds", spec := "vecHolds", inPlace := ["math.Float64bits", "math.Float64frombits", "math/bits.Add64", "math/bits.Sub64"], unfollowed := true, recurses := true, named := ["math/bits.divideError", "math/bits.overflowError"], apart := false, narrowed := true }
def VecHoldsUptoSaid : Prop := vecHoldsUptoRow.holds Try.pinned (OpenSpec.upto vecHoldsSpec)

/-- 'burnishlaw09.GgxOnce', WHERE WHAT IT READS IS OF BULK AT MOST 1048576: true; the input reads as it did. -/
def ggxOnceUptoRow : OpenClaim := { program := "ytikiegcncliocaa", sum := "1235b65525bd008da173d230032ae340c9b71662e34c61341122a4ba9824bd20", func := "burnish/burnishlaw09.GgxOnce", spec := "ggxOnce", inPlace := ["math.Float64bits", "math.Float64frombits", "math/bits.Add64", "math/bits.Sub64"], unfollowed := true, recurses := true, named := ["math/bits.divideError", "math/bits.overflowError"], apart := false, narrowed := true }
def GgxOnceUptoSaid : Prop := ggxOnceUptoRow.holds Try.pinned (OpenSpec.upto ggxOnceSpec)

/-- 'burnishlaw14.MirrorStraight', WHERE WHAT IT READS IS OF BULK AT MOST 1048576: true; the input reads as it did. -/
def mirrorStraightUptoRow : OpenClaim := { program := "ytikiegcncliocaa", sum := "1235b65525bd008da173d230032ae340c9b71662e34c61341122a4ba9824bd20", func := "burnish/burnishlaw14.MirrorStraight", spec := "mirrorStraight", inPlace := ["math.Float64bits", "math.Float64frombits", "math/bits.Add64", "math/bits.Sub64"], unfollowed := true, recurses := true, named := ["math/bits.divideError", "math/bits.overflowError"], apart := false, narrowed := true }
def MirrorStraightUptoSaid : Prop := mirrorStraightUptoRow.holds Try.pinned (OpenSpec.upto mirrorStraightSpec)

/-- 'burnishlaw10.MicroBack', WHERE WHAT IT READS IS OF BULK AT MOST 1048576: true; the input reads as it did. -/
def microBackUptoRow : OpenClaim := { program := "ytikiegcncliocaa", sum := "1235b65525bd008da173d230032ae340c9b71662e34c61341122a4ba9824bd20", func := "burnish/burnishlaw10.MicroBack", spec := "microBack", inPlace := ["math.Float64bits", "math.Float64frombits", "math/bits.Add64", "math/bits.Sub64"], unfollowed := true, recurses := true, named := ["math/bits.divideError", "math/bits.overflowError"], apart := false, narrowed := true }
def MicroBackUptoSaid : Prop := microBackUptoRow.holds Try.pinned (OpenSpec.upto microBackSpec)

/-- 'burnishlaw10.MicroShare', WHERE WHAT IT READS IS OF BULK AT MOST 1048576: true; the input reads as it did. -/
def microShareUptoRow : OpenClaim := { program := "ytikiegcncliocaa", sum := "1235b65525bd008da173d230032ae340c9b71662e34c61341122a4ba9824bd20", func := "burnish/burnishlaw10.MicroShare", spec := "microShare", inPlace := ["math.Float64bits", "math.Float64frombits", "math/bits.Add64", "math/bits.Sub64"], unfollowed := true, recurses := true, named := ["math/bits.divideError", "math/bits.overflowError"], apart := false, narrowed := true }
def MicroShareUptoSaid : Prop := microShareUptoRow.holds Try.pinned (OpenSpec.upto microShareSpec)

end Rows
end Go.Proofs.Ytikiegcncliocaa
