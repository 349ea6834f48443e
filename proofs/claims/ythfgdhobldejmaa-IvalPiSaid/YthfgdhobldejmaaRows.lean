/-
  No cell of these rows narrows 'for every input' (looked for: loops, veiled, ifaces, maps, wideKeys, modest, calm, conditions, laid).
  DERIVED. THE GIVEN ROWS OF THIS SEAT. 8 by the template 'for every input the law returns true; each argument reads behind the call as it read before'; 0 by the template 'total and deterministic' (their statements: YthfgdhobldejmaaTotals.lean).
  GIVEN WITH THE SEED: the statements are not yours to turn. If you find one false, say at which input.
  Laid BY PROGRAM, IN A SANDBOX (cutbox-rows.mjs): the forced cells as the released guide's own fill.sh prints them over the translation 5380dab65ec16821… (all of the seat's roots in one cut). By AI agents, Wed Nov 11 2026. No macro, syntax, notation, axiom, sorry.
-/
import Derived.Test.YthfgdhobldejmaaChecked
import GoSem.Claim
import GoSem.ClaimJoined
import GoSem.ClaimMapViews
import Derived.JoinedTies
import Derived.KernelRfl
namespace Go.Proofs.Ythfgdhobldejmaa
/- THE CELL 'sum', in the pinned program and in every row, IS THE sha256 OF THE DUMP (.gsa) THAT YthfgdhobldejmaaProg.lean LOADS. Nothing in Lean hashes anything: it is a label: what it is worth is what the hold of that sum in a sandbox is worth. -/
noncomputable def Try.pinned : Pinned := { name := "ythfgdhobldejmaa", sum := "5380dab65ec168218dcf2cb3bf363112d1e10852807223acb461473f955590e4", checked := Try.checked }
namespace Rows
def none {H : Type} : Left H := { results := [], args := [] }

/-- 'burnishlaw07.LambertFalls': WHATEVER THE INPUT: true; the input reads as it did. -/
def lambertFallsSpec : ChangeSpec := { name := "lambertFalls", fn := fun _ => fun
  | [d1, d2] => { results := [.lit (.bool true)], args := [d1, d2] }
  | _ => none }
def lambertFallsRow : OpenClaim := { program := "ythfgdhobldejmaa", sum := "5380dab65ec168218dcf2cb3bf363112d1e10852807223acb461473f955590e4", func := "burnish/burnishlaw07.LambertFalls", spec := "lambertFalls", inPlace := ["math.Float64bits", "math.Float64frombits", "math/bits.Add64", "math/bits.Sub64"], unfollowed := true, recurses := true, named := ["math/bits.divideError", "math/bits.overflowError"], apart := false }
def LambertFallsSaid : Prop := lambertFallsRow.holds Try.pinned (OpenSpec.ofChange lambertFallsSpec)

/-- ITS FALSE NEIGHBOUR: 'it returns false'. Refute it at one input. -/
def lambertFallsWrong : ChangeSpec := { name := "lambertFalls", fn := fun _ => fun
  | [d1, d2] => { results := [.lit (.bool false)], args := [d1, d2] }
  | _ => none }
def LambertFallsWrongFalsely : Prop := lambertFallsRow.holds Try.pinned (OpenSpec.ofChange lambertFallsWrong)

/-- 'burnishlaw02.IvalMeets': WHATEVER THE INPUT: true; the input reads as it did. -/
def ivalMeetsSpec : ChangeSpec := { name := "ivalMeets", fn := fun _ => fun
  | [d1, d2, d3] => { results := [.lit (.bool true)], args := [d1, d2, d3] }
  | _ => none }
def ivalMeetsRow : OpenClaim := { program := "ythfgdhobldejmaa", sum := "5380dab65ec168218dcf2cb3bf363112d1e10852807223acb461473f955590e4", func := "burnish/burnishlaw02.IvalMeets", spec := "ivalMeets", inPlace := ["math.Float64bits", "math.Float64frombits", "math/bits.Add64", "math/bits.Sub64"], unfollowed := true, recurses := true, named := ["math/bits.divideError", "math/bits.overflowError"], apart := false }
def IvalMeetsSaid : Prop := ivalMeetsRow.holds Try.pinned (OpenSpec.ofChange ivalMeetsSpec)

/-- ITS FALSE NEIGHBOUR: 'it returns false'. Refute it at one input. -/
def ivalMeetsWrong : ChangeSpec := { name := "ivalMeets", fn := fun _ => fun
  | [d1, d2, d3] => { results := [.lit (.bool false)], args := [d1, d2, d3] }
  | _ => none }
def IvalMeetsWrongFalsely : Prop := ivalMeetsRow.holds Try.pinned (OpenSpec.ofChange ivalMeetsWrong)

/-- 'burnishlaw07.LambertRings': WHATEVER THE INPUT: true; the input reads as it did. -/
def lambertRingsSpec : ChangeSpec := { name := "lambertRings", fn := fun _ => fun
  | [d1, d2, d3] => { results := [.lit (.bool true)], args := [d1, d2, d3] }
  | _ => none }
def lambertRingsRow : OpenClaim := { program := "ythfgdhobldejmaa", sum := "5380dab65ec168218dcf2cb3bf363112d1e10852807223acb461473f955590e4", func := "burnish/burnishlaw07.LambertRings", spec := "lambertRings", inPlace := ["math.Float64bits", "math.Float64frombits", "math/bits.Add64", "math/bits.Sub64"], unfollowed := true, recurses := true, named := ["math/bits.divideError", "math/bits.overflowError"], apart := false }
def LambertRingsSaid : Prop := lambertRingsRow.holds Try.pinned (OpenSpec.ofChange lambertRingsSpec)

/-- ITS FALSE NEIGHBOUR: 'it returns false'. Refute it at one input. -/
def lambertRingsWrong : ChangeSpec := { name := "lambertRings", fn := fun _ => fun
  | [d1, d2, d3] => { results := [.lit (.bool false)], args := [d1, d2, d3] }
  | _ => none }
def LambertRingsWrongFalsely : Prop := lambertRingsRow.holds Try.pinned (OpenSpec.ofChange lambertRingsWrong)

/-- 'burnishlaw07.LambertParts': WHATEVER THE INPUT: true; the input reads as it did. -/
def lambertPartsSpec : ChangeSpec := { name := "lambertParts", fn := fun _ => fun
  | [d1, d2] => { results := [.lit (.bool true)], args := [d1, d2] }
  | _ => none }
def lambertPartsRow : OpenClaim := { program := "ythfgdhobldejmaa", sum := "5380dab65ec168218dcf2cb3bf363112d1e10852807223acb461473f955590e4", func := "burnish/burnishlaw07.LambertParts", spec := "lambertParts", inPlace := ["math.Float64bits", "math.Float64frombits", "math/bits.Add64", "math/bits.Sub64"], unfollowed := true, recurses := true, named := ["math/bits.divideError", "math/bits.overflowError"], apart := false }
def LambertPartsSaid : Prop := lambertPartsRow.holds Try.pinned (OpenSpec.ofChange lambertPartsSpec)

/-- ITS FALSE NEIGHBOUR: 'it returns false'. Refute it at one input. -/
def lambertPartsWrong : ChangeSpec := { name := "lambertParts", fn := fun _ => fun
  | [d1, d2] => { results := [.lit (.bool false)], args := [d1, d2] }
  | _ => none }
def LambertPartsWrongFalsely : Prop := lambertPartsRow.holds Try.pinned (OpenSpec.ofChange lambertPartsWrong)

/-- 'burnishlaw02.IvalPi': WHATEVER THE INPUT: true; the input reads as it did. -/
def ivalPiSpec : ChangeSpec := { name := "ivalPi", fn := fun _ => fun
  | [d] => { results := [.lit (.bool true)], args := [d] }
  | _ => none }
def ivalPiRow : OpenClaim := { program := "ythfgdhobldejmaa", sum := "5380dab65ec168218dcf2cb3bf363112d1e10852807223acb461473f955590e4", func := "burnish/burnishlaw02.IvalPi", spec := "ivalPi", inPlace := ["math.Float64bits", "math.Float64frombits", "math/bits.Add64", "math/bits.Sub64"], unfollowed := true, recurses := true, named := ["math/bits.divideError", "math/bits.overflowError"], apart := false }
def IvalPiSaid : Prop := ivalPiRow.holds Try.pinned (OpenSpec.ofChange ivalPiSpec)

/-- ITS FALSE NEIGHBOUR: 'it returns false'. Refute it at one input. -/
def ivalPiWrong : ChangeSpec := { name := "ivalPi", fn := fun _ => fun
  | [d] => { results := [.lit (.bool false)], args := [d] }
  | _ => none }
def IvalPiWrongFalsely : Prop := ivalPiRow.holds Try.pinned (OpenSpec.ofChange ivalPiWrong)

/-- 'burnishlaw02.IvalHolds': WHATEVER THE INPUT: true; the input reads as it did. -/
def ivalHoldsSpec : ChangeSpec := { name := "ivalHolds", fn := fun _ => fun
  | [d1, d2, d3] => { results := [.lit (.bool true)], args := [d1, d2, d3] }
  | _ => none }
def ivalHoldsRow : OpenClaim := { program := "ythfgdhobldejmaa", sum := "5380dab65ec168218dcf2cb3bf363112d1e10852807223acb461473f955590e4", func := "burnish/burnishlaw02.IvalHolds", spec := "ivalHolds", inPlace := ["math.Float64bits", "math.Float64frombits", "math/bits.Add64", "math/bits.Sub64"], unfollowed := true, recurses := true, named := ["math/bits.divideError", "math/bits.overflowError"], apart := false }
def IvalHoldsSaid : Prop := ivalHoldsRow.holds Try.pinned (OpenSpec.ofChange ivalHoldsSpec)

/-- ITS FALSE NEIGHBOUR: 'it returns false'. Refute it at one input. -/
def ivalHoldsWrong : ChangeSpec := { name := "ivalHolds", fn := fun _ => fun
  | [d1, d2, d3] => { results := [.lit (.bool false)], args := [d1, d2, d3] }
  | _ => none }
def IvalHoldsWrongFalsely : Prop := ivalHoldsRow.holds Try.pinned (OpenSpec.ofChange ivalHoldsWrong)

/-- 'burnishlaw02.IvalLess': WHATEVER THE INPUT: true; the input reads as it did. -/
def ivalLessSpec : ChangeSpec := { name := "ivalLess", fn := fun _ => fun
  | [d1, d2, d3, d4, d5] => { results := [.lit (.bool true)], args := [d1, d2, d3, d4, d5] }
  | _ => none }
def ivalLessRow : OpenClaim := { program := "ythfgdhobldejmaa", sum := "5380dab65ec168218dcf2cb3bf363112d1e10852807223acb461473f955590e4", func := "burnish/burnishlaw02.IvalLess", spec := "ivalLess", inPlace := ["math.Float64bits", "math.Float64frombits", "math/bits.Add64", "math/bits.Sub64"], unfollowed := true, recurses := true, named := ["math/bits.divideError", "math/bits.overflowError"], apart := false }
def IvalLessSaid : Prop := ivalLessRow.holds Try.pinned (OpenSpec.ofChange ivalLessSpec)

/-- ITS FALSE NEIGHBOUR: 'it returns false'. Refute it at one input. -/
def ivalLessWrong : ChangeSpec := { name := "ivalLess", fn := fun _ => fun
  | [d1, d2, d3, d4, d5] => { results := [.lit (.bool false)], args := [d1, d2, d3, d4, d5] }
  | _ => none }
def IvalLessWrongFalsely : Prop := ivalLessRow.holds Try.pinned (OpenSpec.ofChange ivalLessWrong)

/-- 'burnishlaw02.IvalStays': WHATEVER THE INPUT: true; the input reads as it did. -/
def ivalStaysSpec : ChangeSpec := { name := "ivalStays", fn := fun _ => fun
  | [d] => { results := [.lit (.bool true)], args := [d] }
  | _ => none }
def ivalStaysRow : OpenClaim := { program := "ythfgdhobldejmaa", sum := "5380dab65ec168218dcf2cb3bf363112d1e10852807223acb461473f955590e4", func := "burnish/burnishlaw02.IvalStays", spec := "ivalStays", inPlace := ["math.Float64bits", "math.Float64frombits", "math/bits.Add64", "math/bits.Sub64"], unfollowed := true, recurses := true, named := ["math/bits.divideError", "math/bits.overflowError"], apart := false }
def IvalStaysSaid : Prop := ivalStaysRow.holds Try.pinned (OpenSpec.ofChange ivalStaysSpec)

/-- ITS FALSE NEIGHBOUR: 'it returns false'. Refute it at one input. -/
def ivalStaysWrong : ChangeSpec := { name := "ivalStays", fn := fun _ => fun
  | [d] => { results := [.lit (.bool false)], args := [d] }
  | _ => none }
def IvalStaysWrongFalsely : Prop := ivalStaysRow.holds Try.pinned (OpenSpec.ofChange ivalStaysWrong)

/- THE SECOND FORM. 'bulk': how many values and letters a reading holds, each counted each time it is reached (what is shared counts as often as it is met; a slice's spare places count too). A statement '..UptoSaid' is the law's where the arguments, and the package variables that the reading takes, are together of bulk at most 1048576: NARROWER than '..Said'. Prove '..Said' where nothing that the law and all that it calls make is longer than what came in: it says more and counts as full. Else prove '..UptoSaid'. A law counts once. -/
mutual
def uptoBulk {H : Type} : DataW H → Nat
  | .lit (.string bytes) => bytes.length + 1
  | .lit _ => 1
  | .nil => 1
  | .ptr d => uptoBulk d + 1
  | .slice elems spare => uptoBulkAll elems + uptoBulkAll spare + 1
  | .agg parts => uptoBulkAll parts + 1
  | .iface _ d => uptoBulk d + 1
  | .map entries => uptoBulkEntries entries + 1
  | .held _ => 1
def uptoBulkAll {H : Type} : List (DataW H) → Nat
  | [] => 0
  | d :: r => uptoBulk d + uptoBulkAll r
def uptoBulkEntries {H : Type} : List (Lit × DataW H) → Nat
  | [] => 0
  | x :: r => uptoBulkEntry x + uptoBulkEntries r
def uptoBulkEntry {H : Type} : Lit × DataW H → Nat
  | (.string bytes, d) => bytes.length + uptoBulk d + 1
  | (_, d) => uptoBulk d + 1
 end
def uptoSmall : (H : Type) → List (DataW H) → Bool := fun _ ds => decide (uptoBulkAll ds ≤ 1048576)
def OpenSpec.upto (s : _root_.Go.ChangeSpec) : _root_.Go.OpenSpec := { _root_.Go.OpenSpec.ofChange s with cond := some uptoSmall }

/-- 'burnishlaw07.LambertFalls', WHERE WHAT IT READS IS OF BULK AT MOST 1048576: true; the input reads as it did. -/
def lambertFallsUptoRow : OpenClaim := { program := "ythfgdhobldejmaa", sum := "5380dab65ec168218dcf2cb3bf363112d1e10852807223acb461473f955590e4", func := "burnish/burnishlaw07.LambertFalls", spec := "lambertFalls", inPlace := ["math.Float64bits", "math.Float64frombits", "math/bits.Add64", "math/bits.Sub64"], unfollowed := true, recurses := true, named := ["math/bits.divideError", "math/bits.overflowError"], apart := false, narrowed := true }
def LambertFallsUptoSaid : Prop := lambertFallsUptoRow.holds Try.pinned (OpenSpec.upto lambertFallsSpec)

/-- 'burnishlaw02.IvalMeets', WHERE WHAT IT READS IS OF BULK AT MOST 1048576: true; the input reads as it did. -/
def ivalMeetsUptoRow : OpenClaim := { program := "ythfgdhobldejmaa", sum := "5380dab65ec168218dcf2cb3bf363112d1e10852807223acb461473f955590e4", func := "burnish/burnishlaw02.IvalMeets", spec := "ivalMeets", inPlace := ["math.Float64bits", "math.Float64frombits", "math/bits.Add64", "math/bits.Sub64"], unfollowed := true, recurses := true, named := ["math/bits.divideError", "math/bits.overflowError"], apart := false, narrowed := true }
def IvalMeetsUptoSaid : Prop := ivalMeetsUptoRow.holds Try.pinned (OpenSpec.upto ivalMeetsSpec)

/-- 'burnishlaw07.LambertRings', WHERE WHAT IT READS IS OF BULK AT MOST 1048576: true; the input reads as it did. -/
def lambertRingsUptoRow : OpenClaim := { program := "ythfgdhobldejmaa", sum := "5380dab65ec168218dcf2cb3bf363112d1e10852807223acb461473f955590e4", func := "burnish/burnishlaw07.LambertRings", spec := "lambertRings", inPlace := ["math.Float64bits", "math.Float64frombits", "math/bits.Add64", "math/bits.Sub64"], unfollowed := true, recurses := true, named := ["math/bits.divideError", "math/bits.overflowError"], apart := false, narrowed := true }
def LambertRingsUptoSaid : Prop := lambertRingsUptoRow.holds Try.pinned (OpenSpec.upto lambertRingsSpec)

/-- 'burnishlaw07.LambertParts', WHERE WHAT IT READS IS OF BULK AT MOST 1048576: true; the input reads as it did. -/
def lambertPartsUptoRow : OpenClaim := { program := "ythfgdhobldejmaa", sum := "5380dab65ec168218dcf2cb3bf363112d1e10852807223acb461473f955590e4", func := "burnish/burnishlaw07.LambertParts", spec := "lambertParts", inPlace := ["math.Float64bits", "math.Float64frombits", "math/bits.Add64", "math/bits.Sub64"], unfollowed := true, recurses := true, named := ["math/bits.divideError", "math/bits.overflowError"], apart := false, narrowed := true }
def LambertPartsUptoSaid : Prop := lambertPartsUptoRow.holds Try.pinned (OpenSpec.upto lambertPartsSpec)

/-- 'burnishlaw02.IvalPi', WHERE WHAT IT READS IS OF BULK AT MOST 1048576: true; the input reads as it did. -/
def ivalPiUptoRow : OpenClaim := { program := "ythfgdhobldejmaa", sum := "5380dab65ec168218dcf2cb3bf363112d1e10852807223acb461473f955590e4", func := "burnish/burnishlaw02.IvalPi", spec := "ivalPi", inPlace := ["math.Float64bits", "math.Float64frombits", "math/bits.Add64", "math/bits.Sub64"], unfollowed := true, recurses := true, named := ["math/bits.divideError", "math/bits.overflowError"], apart := false, narrowed := true }
def IvalPiUptoSaid : Prop := ivalPiUptoRow.holds Try.pinned (OpenSpec.upto ivalPiSpec)

/-- 'burnishlaw02.IvalHolds', WHERE WHAT IT READS IS OF BULK AT MOST 1048576: true; the input reads as it did. -/
def ivalHoldsUptoRow : OpenClaim := { program := "ythfgdhobldejmaa", sum := "5380dab65ec168218dcf2cb3bf363112d1e10852807223acb461473f955590e4", func := "burnish/burnishlaw02.IvalHolds", spec := "ivalHolds", inPlace := ["math.Float64bits", "math.Float64frombits", "math/bits.Add64", "math/bits.Sub64"], unfollowed := true, recurses := true, named := ["math/bits.divideError", "math/bits.overflowError"], apart := false, narrowed := true }
def IvalHoldsUptoSaid : Prop := ivalHoldsUptoRow.holds Try.pinned (OpenSpec.upto ivalHoldsSpec)

/-- 'burnishlaw02.IvalLess', WHERE WHAT IT READS IS OF BULK AT MOST 1048576: true; the input reads as it did. -/
def ivalLessUptoRow : OpenClaim := { program := "ythfgdhobldejmaa", sum := "5380dab65ec168218dcf2cb3bf363112d1e10852807223acb461473f955590e4", func := "burnish/burnishlaw02.IvalLess", spec := "ivalLess", inPlace := ["math.Float64bits", "math.Float64frombits", "math/bits.Add64", "math/bits.Sub64"], unfollowed := true, recurses := true, named := ["math/bits.divideError", "math/bits.overflowError"], apart := false, narrowed := true }
def IvalLessUptoSaid : Prop := ivalLessUptoRow.holds Try.pinned (OpenSpec.upto ivalLessSpec)

/-- 'burnishlaw02.IvalStays', WHERE WHAT IT READS IS OF BULK AT MOST 1048576: true; the input reads as it did. -/
def ivalStaysUptoRow : OpenClaim := { program := "ythfgdhobldejmaa", sum := "5380dab65ec168218dcf2cb3bf363112d1e10852807223acb461473f955590e4", func := "burnish/burnishlaw02.IvalStays", spec := "ivalStays", inPlace := ["math.Float64bits", "math.Float64frombits", "math/bits.Add64", "math/bits.Sub64"], unfollowed := true, recurses := true, named := ["math/bits.divideError", "math/bits.overflowError"], apart := false, narrowed := true }
def IvalStaysUptoSaid : Prop := ivalStaysUptoRow.holds Try.pinned (OpenSpec.upto ivalStaysSpec)

end Rows
end Go.Proofs.Ythfgdhobldejmaa
