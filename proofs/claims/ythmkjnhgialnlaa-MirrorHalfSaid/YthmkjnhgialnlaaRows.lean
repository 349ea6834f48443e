/-
  No cell of these rows narrows 'for every input' (looked for: loops, veiled, ifaces, maps, wideKeys, modest, calm, conditions, laid).
  DERIVED. THE GIVEN ROWS OF THIS SEAT. 11 by the template 'for every input the law returns true; each argument reads behind the call as it read before'; 0 by the template 'total and deterministic' (their statements: YthmkjnhgialnlaaTotals.lean).
  GIVEN WITH THE SEED: the statements are not yours to turn. If you find one false, say at which input.
  Laid BY PROGRAM, IN A SANDBOX (cutbox-rows.mjs): the forced cells as the released guide's own fill.sh prints them over the translation 308a073c00bcbf4f… (all of the seat's roots in one cut). By AI agents, Wed Nov 11 2026. No macro, syntax, notation, axiom, sorry.
-/
import Derived.Test.YthmkjnhgialnlaaChecked
import GoSem.Claim
import GoSem.ClaimJoined
import GoSem.ClaimMapViews
import Derived.JoinedTies
import Derived.KernelRfl
namespace Go.Proofs.Ythmkjnhgialnlaa
/- THE CELL 'sum', in the pinned program and in every row, IS THE sha256 OF THE DUMP (.gsa) THAT YthmkjnhgialnlaaProg.lean LOADS. Nothing in Lean hashes anything: it is a label: what it is worth is what the hold of that sum in a sandbox is worth. -/
noncomputable def Try.pinned : Pinned := { name := "ythmkjnhgialnlaa", sum := "308a073c00bcbf4f84d28c5e57117d18e907d8c197964ee1f00146ef0c8758c6", checked := Try.checked }
namespace Rows
def none {H : Type} : Left H := { results := [], args := [] }

/-- 'burnishlaw08.OrenRises': WHATEVER THE INPUT: true; the input reads as it did. -/
def orenRisesSpec : ChangeSpec := { name := "orenRises", fn := fun _ => fun
  | [d] => { results := [.lit (.bool true)], args := [d] }
  | _ => none }
def orenRisesRow : OpenClaim := { program := "ythmkjnhgialnlaa", sum := "308a073c00bcbf4f84d28c5e57117d18e907d8c197964ee1f00146ef0c8758c6", func := "burnish/burnishlaw08.OrenRises", spec := "orenRises", inPlace := ["math.Float64bits", "math.Float64frombits", "math/bits.Add64", "math/bits.Sub64"], unfollowed := true, recurses := true, named := ["math/bits.divideError", "math/bits.overflowError"], apart := false }
def OrenRisesSaid : Prop := orenRisesRow.holds Try.pinned (OpenSpec.ofChange orenRisesSpec)

/-- ITS FALSE NEIGHBOUR: 'it returns false'. Refute it at one input. -/
def orenRisesWrong : ChangeSpec := { name := "orenRises", fn := fun _ => fun
  | [d] => { results := [.lit (.bool false)], args := [d] }
  | _ => none }
def OrenRisesWrongFalsely : Prop := orenRisesRow.holds Try.pinned (OpenSpec.ofChange orenRisesWrong)

/-- 'burnishlaw08.OrenPair': WHATEVER THE INPUT: true; the input reads as it did. -/
def orenPairSpec : ChangeSpec := { name := "orenPair", fn := fun _ => fun
  | [d] => { results := [.lit (.bool true)], args := [d] }
  | _ => none }
def orenPairRow : OpenClaim := { program := "ythmkjnhgialnlaa", sum := "308a073c00bcbf4f84d28c5e57117d18e907d8c197964ee1f00146ef0c8758c6", func := "burnish/burnishlaw08.OrenPair", spec := "orenPair", inPlace := ["math.Float64bits", "math.Float64frombits", "math/bits.Add64", "math/bits.Sub64"], unfollowed := true, recurses := true, named := ["math/bits.divideError", "math/bits.overflowError"], apart := false }
def OrenPairSaid : Prop := orenPairRow.holds Try.pinned (OpenSpec.ofChange orenPairSpec)

/-- ITS FALSE NEIGHBOUR: 'it returns false'. Refute it at one input. -/
def orenPairWrong : ChangeSpec := { name := "orenPair", fn := fun _ => fun
  | [d] => { results := [.lit (.bool false)], args := [d] }
  | _ => none }
def OrenPairWrongFalsely : Prop := orenPairRow.holds Try.pinned (OpenSpec.ofChange orenPairWrong)

/-- 'burnishlaw06.FresnelSnell': WHATEVER THE INPUT: true; the input reads as it did. -/
def fresnelSnellSpec : ChangeSpec := { name := "fresnelSnell", fn := fun _ => fun
  | [d1, d2] => { results := [.lit (.bool true)], args := [d1, d2] }
  | _ => none }
def fresnelSnellRow : OpenClaim := { program := "ythmkjnhgialnlaa", sum := "308a073c00bcbf4f84d28c5e57117d18e907d8c197964ee1f00146ef0c8758c6", func := "burnish/burnishlaw06.FresnelSnell", spec := "fresnelSnell", inPlace := ["math.Float64bits", "math.Float64frombits", "math/bits.Add64", "math/bits.Sub64"], unfollowed := true, recurses := true, named := ["math/bits.divideError", "math/bits.overflowError"], apart := false }
def FresnelSnellSaid : Prop := fresnelSnellRow.holds Try.pinned (OpenSpec.ofChange fresnelSnellSpec)

/-- ITS FALSE NEIGHBOUR: 'it returns false'. Refute it at one input. -/
def fresnelSnellWrong : ChangeSpec := { name := "fresnelSnell", fn := fun _ => fun
  | [d1, d2] => { results := [.lit (.bool false)], args := [d1, d2] }
  | _ => none }
def FresnelSnellWrongFalsely : Prop := fresnelSnellRow.holds Try.pinned (OpenSpec.ofChange fresnelSnellWrong)

/-- 'burnishlaw06.FresnelNormal': WHATEVER THE INPUT: true; the input reads as it did. -/
def fresnelNormalSpec : ChangeSpec := { name := "fresnelNormal", fn := fun _ => fun
  | [d1, d2, d3] => { results := [.lit (.bool true)], args := [d1, d2, d3] }
  | _ => none }
def fresnelNormalRow : OpenClaim := { program := "ythmkjnhgialnlaa", sum := "308a073c00bcbf4f84d28c5e57117d18e907d8c197964ee1f00146ef0c8758c6", func := "burnish/burnishlaw06.FresnelNormal", spec := "fresnelNormal", inPlace := ["math.Float64bits", "math.Float64frombits", "math/bits.Add64", "math/bits.Sub64"], unfollowed := true, recurses := true, named := ["math/bits.divideError", "math/bits.overflowError"], apart := false }
def FresnelNormalSaid : Prop := fresnelNormalRow.holds Try.pinned (OpenSpec.ofChange fresnelNormalSpec)

/-- ITS FALSE NEIGHBOUR: 'it returns false'. Refute it at one input. -/
def fresnelNormalWrong : ChangeSpec := { name := "fresnelNormal", fn := fun _ => fun
  | [d1, d2, d3] => { results := [.lit (.bool false)], args := [d1, d2, d3] }
  | _ => none }
def FresnelNormalWrongFalsely : Prop := fresnelNormalRow.holds Try.pinned (OpenSpec.ofChange fresnelNormalWrong)

/-- 'burnishlaw06.FresnelComplex': WHATEVER THE INPUT: true; the input reads as it did. -/
def fresnelComplexSpec : ChangeSpec := { name := "fresnelComplex", fn := fun _ => fun
  | [d1, d2, d3] => { results := [.lit (.bool true)], args := [d1, d2, d3] }
  | _ => none }
def fresnelComplexRow : OpenClaim := { program := "ythmkjnhgialnlaa", sum := "308a073c00bcbf4f84d28c5e57117d18e907d8c197964ee1f00146ef0c8758c6", func := "burnish/burnishlaw06.FresnelComplex", spec := "fresnelComplex", inPlace := ["math.Float64bits", "math.Float64frombits", "math/bits.Add64", "math/bits.Sub64"], unfollowed := true, recurses := true, named := ["math/bits.divideError", "math/bits.overflowError"], apart := false }
def FresnelComplexSaid : Prop := fresnelComplexRow.holds Try.pinned (OpenSpec.ofChange fresnelComplexSpec)

/-- ITS FALSE NEIGHBOUR: 'it returns false'. Refute it at one input. -/
def fresnelComplexWrong : ChangeSpec := { name := "fresnelComplex", fn := fun _ => fun
  | [d1, d2, d3] => { results := [.lit (.bool false)], args := [d1, d2, d3] }
  | _ => none }
def FresnelComplexWrongFalsely : Prop := fresnelComplexRow.holds Try.pinned (OpenSpec.ofChange fresnelComplexWrong)

/-- 'burnishlaw08.OrenBack': WHATEVER THE INPUT: true; the input reads as it did. -/
def orenBackSpec : ChangeSpec := { name := "orenBack", fn := fun _ => fun
  | [d] => { results := [.lit (.bool true)], args := [d] }
  | _ => none }
def orenBackRow : OpenClaim := { program := "ythmkjnhgialnlaa", sum := "308a073c00bcbf4f84d28c5e57117d18e907d8c197964ee1f00146ef0c8758c6", func := "burnish/burnishlaw08.OrenBack", spec := "orenBack", inPlace := ["math.Float64bits", "math.Float64frombits", "math/bits.Add64", "math/bits.Sub64"], unfollowed := true, recurses := true, named := ["math/bits.divideError", "math/bits.overflowError"], apart := false }
def OrenBackSaid : Prop := orenBackRow.holds Try.pinned (OpenSpec.ofChange orenBackSpec)

/-- ITS FALSE NEIGHBOUR: 'it returns false'. Refute it at one input. -/
def orenBackWrong : ChangeSpec := { name := "orenBack", fn := fun _ => fun
  | [d] => { results := [.lit (.bool false)], args := [d] }
  | _ => none }
def OrenBackWrongFalsely : Prop := orenBackRow.holds Try.pinned (OpenSpec.ofChange orenBackWrong)

/-- 'burnishlaw09.GgxFlat': WHATEVER THE INPUT: true; the input reads as it did. -/
def ggxFlatSpec : ChangeSpec := { name := "ggxFlat", fn := fun _ => fun
  | [d1, d2] => { results := [.lit (.bool true)], args := [d1, d2] }
  | _ => none }
def ggxFlatRow : OpenClaim := { program := "ythmkjnhgialnlaa", sum := "308a073c00bcbf4f84d28c5e57117d18e907d8c197964ee1f00146ef0c8758c6", func := "burnish/burnishlaw09.GgxFlat", spec := "ggxFlat", inPlace := ["math.Float64bits", "math.Float64frombits", "math/bits.Add64", "math/bits.Sub64"], unfollowed := true, recurses := true, named := ["math/bits.divideError", "math/bits.overflowError"], apart := false }
def GgxFlatSaid : Prop := ggxFlatRow.holds Try.pinned (OpenSpec.ofChange ggxFlatSpec)

/-- ITS FALSE NEIGHBOUR: 'it returns false'. Refute it at one input. -/
def ggxFlatWrong : ChangeSpec := { name := "ggxFlat", fn := fun _ => fun
  | [d1, d2] => { results := [.lit (.bool false)], args := [d1, d2] }
  | _ => none }
def GgxFlatWrongFalsely : Prop := ggxFlatRow.holds Try.pinned (OpenSpec.ofChange ggxFlatWrong)

/-- 'burnishlaw09.GgxHides': WHATEVER THE INPUT: true; the input reads as it did. -/
def ggxHidesSpec : ChangeSpec := { name := "ggxHides", fn := fun _ => fun
  | [d1, d2, d3] => { results := [.lit (.bool true)], args := [d1, d2, d3] }
  | _ => none }
def ggxHidesRow : OpenClaim := { program := "ythmkjnhgialnlaa", sum := "308a073c00bcbf4f84d28c5e57117d18e907d8c197964ee1f00146ef0c8758c6", func := "burnish/burnishlaw09.GgxHides", spec := "ggxHides", inPlace := ["math.Float64bits", "math.Float64frombits", "math/bits.Add64", "math/bits.Sub64"], unfollowed := true, recurses := true, named := ["math/bits.divideError", "math/bits.overflowError"], apart := false }
def GgxHidesSaid : Prop := ggxHidesRow.holds Try.pinned (OpenSpec.ofChange ggxHidesSpec)

/-- ITS FALSE NEIGHBOUR: 'it returns false'. Refute it at one input. -/
def ggxHidesWrong : ChangeSpec := { name := "ggxHides", fn := fun _ => fun
  | [d1, d2, d3] => { results := [.lit (.bool false)], args := [d1, d2, d3] }
  | _ => none }
def GgxHidesWrongFalsely : Prop := ggxHidesRow.holds Try.pinned (OpenSpec.ofChange ggxHidesWrong)

/-- 'burnishlaw14.MirrorBack': WHATEVER THE INPUT: true; the input reads as it did. -/
def mirrorBackSpec : ChangeSpec := { name := "mirrorBack", fn := fun _ => fun
  | [d] => { results := [.lit (.bool true)], args := [d] }
  | _ => none }
def mirrorBackRow : OpenClaim := { program := "ythmkjnhgialnlaa", sum := "308a073c00bcbf4f84d28c5e57117d18e907d8c197964ee1f00146ef0c8758c6", func := "burnish/burnishlaw14.MirrorBack", spec := "mirrorBack", inPlace := ["math.Float64bits", "math.Float64frombits", "math/bits.Add64", "math/bits.Sub64"], unfollowed := true, recurses := true, named := ["math/bits.divideError", "math/bits.overflowError"], apart := false }
def MirrorBackSaid : Prop := mirrorBackRow.holds Try.pinned (OpenSpec.ofChange mirrorBackSpec)

/-- ITS FALSE NEIGHBOUR: 'it returns false'. Refute it at one input. -/
def mirrorBackWrong : ChangeSpec := { name := "mirrorBack", fn := fun _ => fun
  | [d] => { results := [.lit (.bool false)], args := [d] }
  | _ => none }
def MirrorBackWrongFalsely : Prop := mirrorBackRow.holds Try.pinned (OpenSpec.ofChange mirrorBackWrong)

/-- 'burnishlaw14.MirrorWithin': WHATEVER THE INPUT: true; the input reads as it did. -/
def mirrorWithinSpec : ChangeSpec := { name := "mirrorWithin", fn := fun _ => fun
  | [d1, d2, d3, d4] => { results := [.lit (.bool true)], args := [d1, d2, d3, d4] }
  | _ => none }
def mirrorWithinRow : OpenClaim := { program := "ythmkjnhgialnlaa", sum := "308a073c00bcbf4f84d28c5e57117d18e907d8c197964ee1f00146ef0c8758c6", func := "burnish/burnishlaw14.MirrorWithin", spec := "mirrorWithin", inPlace := ["math.Float64bits", "math.Float64frombits", "math/bits.Add64", "math/bits.Sub64"], unfollowed := true, recurses := true, named := ["math/bits.divideError", "math/bits.overflowError"], apart := false }
def MirrorWithinSaid : Prop := mirrorWithinRow.holds Try.pinned (OpenSpec.ofChange mirrorWithinSpec)

/-- ITS FALSE NEIGHBOUR: 'it returns false'. Refute it at one input. -/
def mirrorWithinWrong : ChangeSpec := { name := "mirrorWithin", fn := fun _ => fun
  | [d1, d2, d3, d4] => { results := [.lit (.bool false)], args := [d1, d2, d3, d4] }
  | _ => none }
def MirrorWithinWrongFalsely : Prop := mirrorWithinRow.holds Try.pinned (OpenSpec.ofChange mirrorWithinWrong)

/-- 'burnishlaw14.MirrorHalf': WHATEVER THE INPUT: true; the input reads as it did. -/
def mirrorHalfSpec : ChangeSpec := { name := "mirrorHalf", fn := fun _ => fun
  | [d] => { results := [.lit (.bool true)], args := [d] }
  | _ => none }
def mirrorHalfRow : OpenClaim := { program := "ythmkjnhgialnlaa", sum := "308a073c00bcbf4f84d28c5e57117d18e907d8c197964ee1f00146ef0c8758c6", func := "burnish/burnishlaw14.MirrorHalf", spec := "mirrorHalf", inPlace := ["math.Float64bits", "math.Float64frombits", "math/bits.Add64", "math/bits.Sub64"], unfollowed := true, recurses := true, named := ["math/bits.divideError", "math/bits.overflowError"], apart := false }
def MirrorHalfSaid : Prop := mirrorHalfRow.holds Try.pinned (OpenSpec.ofChange mirrorHalfSpec)

/-- ITS FALSE NEIGHBOUR: 'it returns false'. Refute it at one input. -/
def mirrorHalfWrong : ChangeSpec := { name := "mirrorHalf", fn := fun _ => fun
  | [d] => { results := [.lit (.bool false)], args := [d] }
  | _ => none }
def MirrorHalfWrongFalsely : Prop := mirrorHalfRow.holds Try.pinned (OpenSpec.ofChange mirrorHalfWrong)

/- THE SECOND FORM. 'bulk': how many values and letters a reading holds, each counted each time it is reached (what is shared counts as often as it is met; a slice's spare places count too). A statement '..UptoSaid' is the law's where the arguments, and the package variables that the reading takes, are together of bulk at most 1048576: NARROWER than '..Said'. Prove '..Said' where nothing that the law and all that it calls make is longer than what came in: it says more and counts as full. Else prove '..UptoSaid'. A law counts once. -/
mutual
def uptoBulk {H : Type} : DataW H → Nat
  | .lit (.string bytes) => bytes.length + 1
  | .lit _ => 1
  | .nil => 1
  | .ptr d => uptoBulk d + 1
  | .slice elems spare => uptoBulkAll elems + uptoBulkAll spare + 1
  | .agg parts => uptoBulkAll parts + 1
  | .iface _ d => uptoBulk d + 1
  | .map entries => uptoBulkEntries entries + 1
  | .held _ => 1
def uptoBulkAll {H : Type} : List (DataW H) → Nat
  | [] => 0
  | d :: r => uptoBulk d + uptoBulkAll r
def uptoBulkEntries {H : Type} : List (Lit × DataW H) → Nat
  | [] => 0
  | x :: r => uptoBulkEntry x + uptoBulkEntries r
def uptoBulkEntry {H : Type} : Lit × DataW H → Nat
  | (.string bytes, d) => bytes.length + uptoBulk d + 1
  | (_, d) => uptoBulk d + 1
 end
def uptoSmall : (H : Type) → List (DataW H) → Bool := fun _ ds => decide (uptoBulkAll ds ≤ 1048576)
def OpenSpec.upto (s : _root_.Go.ChangeSpec) : _root_.Go.OpenSpec := { _root_.Go.OpenSpec.ofChange s with cond := some uptoSmall }

/-- 'burnishlaw08.OrenRises', WHERE WHAT IT READS IS OF BULK AT MOST 1048576: true; the input reads as it did. -/
def orenRisesUptoRow : OpenClaim := { program := "ythmkjnhgialnlaa", sum := "308a073c00bcbf4f84d28c5e57117d18e907d8c197964ee1f00146ef0c8758c6", func := "burnish/burnishlaw08.OrenRises", spec := "orenRises", inPlace := ["math.Float64bits", "math.Float64frombits", "math/bits.Add64", "math/bits.Sub64"], unfollowed := true, recurses := true, named := ["math/bits.divideError", "math/bits.overflowError"], apart := false, narrowed := true }
def OrenRisesUptoSaid : Prop := orenRisesUptoRow.holds Try.pinned (OpenSpec.upto orenRisesSpec)

/-- 'burnishlaw08.OrenPair', WHERE WHAT IT READS IS OF BULK AT MOST 1048576: true; the input reads as it did. -/
def orenPairUptoRow : OpenClaim := { program := "ythmkjnhgialnlaa", sum := "308a073c00bcbf4f84d28c5e57117d18e907d8c197964ee1f00146ef0c8758c6", func := "burnish/burnishlaw08.OrenPair", spec := "orenPair", inPlace := ["math.Float64bits", "math.Float64frombits", "math/bits.Add64", "math/bits.Sub64"], unfollowed := true, recurses := true, named := ["math/bits.divideError", "math/bits.overflowError"], apart := false, narrowed := true }
def OrenPairUptoSaid : Prop := orenPairUptoRow.holds Try.pinned (OpenSpec.upto orenPairSpec)

/-- 'burnishlaw06.FresnelSnell', WHERE WHAT IT READS IS OF BULK AT MOST 1048576: true; the input reads as it did. -/
def fresnelSnellUptoRow : OpenClaim := { program := "ythmkjnhgialnlaa", sum := "308a073c00bcbf4f84d28c5e57117d18e907d8c197964ee1f00146ef0c8758c6", func := "burnish/burnishlaw06.FresnelSnell", spec := "fresnelSnell", inPlace := ["math.Float64bits", "math.Float64frombits", "math/bits.Add64", "math/bits.Sub64"], unfollowed := true, recurses := true, named := ["math/bits.divideError", "math/bits.overflowError"], apart := false, narrowed := true }
def FresnelSnellUptoSaid : Prop := fresnelSnellUptoRow.holds Try.pinned (OpenSpec.upto fresnelSnellSpec)

/-- 'burnishlaw06.FresnelNormal', WHERE WHAT IT READS IS OF BULK AT MOST 1048576: true; the input reads as it did. -/
def fresnelNormalUptoRow : OpenClaim := { program := "ythmkjnhgialnlaa", sum := "308a073c00bcbf4f84d28c5e57117d18e907d8c197964ee1f00146ef0c8758c6", func := "burnish/burnishlaw06.FresnelNormal", spec := "fresnelNormal", inPlace := ["math.Float64bits", "math.Float64frombits", "math/bits.Add64", "math/bits.Sub64"], unfollowed := true, recurses := true, named := ["math/bits.divideError", "math/bits.overflowError"], apart := false, narrowed := true }
def FresnelNormalUptoSaid : Prop := fresnelNormalUptoRow.holds Try.pinned (OpenSpec.upto fresnelNormalSpec)

/-- 'burnishlaw06.FresnelComplex', WHERE WHAT IT READS IS OF BULK AT MOST 1048576: true; the input reads as it did. -/
def fresnelComplexUptoRow : OpenClaim := { program := "ythmkjnhgialnlaa", sum := "308a073c00bcbf4f84d28c5e57117d18e907d8c197964ee1f00146ef0c8758c6", func := "burnish/burnishlaw06.FresnelComplex", spec := "fresnelComplex", inPlace := ["math.Float64bits", "math.Float64frombits", "math/bits.Add64", "math/bits.Sub64"], unfollowed := true, recurses := true, named := ["math/bits.divideError", "math/bits.overflowError"], apart := false, narrowed := true }
def FresnelComplexUptoSaid : Prop := fresnelComplexUptoRow.holds Try.pinned (OpenSpec.upto fresnelComplexSpec)

/-- 'burnishlaw08.OrenBack', WHERE WHAT IT READS IS OF BULK AT MOST 1048576: true; the input reads as it did. -/
def orenBackUptoRow : OpenClaim := { program := "ythmkjnhgialnlaa", sum := "308a073c00bcbf4f84d28c5e57117d18e907d8c197964ee1f00146ef0c8758c6", func := "burnish/burnishlaw08.OrenBack", spec := "orenBack", inPlace := ["math.Float64bits", "math.Float64frombits", "math/bits.Add64", "math/bits.Sub64"], unfollowed := true, recurses := true, named := ["math/bits.divideError", "math/bits.overflowError"], apart := false, narrowed := true }
def OrenBackUptoSaid : Prop := orenBackUptoRow.holds Try.pinned (OpenSpec.upto orenBackSpec)

/-- 'burnishlaw09.GgxFlat', WHERE WHAT IT READS IS OF BULK AT MOST 1048576: true; the input reads as it did. -/
def ggxFlatUptoRow : OpenClaim := { program := "ythmkjnhgialnlaa", sum := "308a073c00bcbf4f84d28c5e57117d18e907d8c197964ee1f00146ef0c8758c6", func := "burnish/burnishlaw09.GgxFlat", spec := "ggxFlat", inPlace := ["math.Float64bits", "math.Float64frombits", "math/bits.Add64", "math/bits.Sub64"], unfollowed := true, recurses := true, named := ["math/bits.divideError", "math/bits.overflowError"], apart := false, narrowed := true }
def GgxFlatUptoSaid : Prop := ggxFlatUptoRow.holds Try.pinned (OpenSpec.upto ggxFlatSpec)

/-- 'burnishlaw09.GgxHides', WHERE WHAT IT READS IS OF BULK AT MOST 1048576: true; the input reads as it did. -/
def ggxHidesUptoRow : OpenClaim := { program := "ythmkjnhgialnlaa", sum := "308a073c00bcbf4f84d28c5e57117d18e907d8c197964ee1f00146ef0c8758c6", func := "burnish/burnishlaw09.GgxHides", spec := "ggxHides", inPlace := ["math.Float64bits", "math.Float64frombits", "math/bits.Add64", "math/bits.Sub64"], unfollowed := true, recurses := true, named := ["math/bits.divideError", "math/bits.overflowError"], apart := false, narrowed := true }
def GgxHidesUptoSaid : Prop := ggxHidesUptoRow.holds Try.pinned (OpenSpec.upto ggxHidesSpec)

/-- 'burnishlaw14.MirrorBack', WHERE WHAT IT READS IS OF BULK AT MOST 1048576: true; the input reads as it did. -/
def mirrorBackUptoRow : OpenClaim := { program := "ythmkjnhgialnlaa", sum := "308a073c00bcbf4f84d28c5e57117d18e907d8c197964ee1f00146ef0c8758c6", func := "burnish/burnishlaw14.MirrorBack", spec := "mirrorBack", inPlace := ["math.Float64bits", "math.Float64frombits", "math/bits.Add64", "math/bits.Sub64"], unfollowed := true, recurses := true, named := ["math/bits.divideError", "math/bits.overflowError"], apart := false, narrowed := true }
def MirrorBackUptoSaid : Prop := mirrorBackUptoRow.holds Try.pinned (OpenSpec.upto mirrorBackSpec)

/-- 'burnishlaw14.MirrorWithin', WHERE WHAT IT READS IS OF BULK AT MOST 1048576: true; the input reads as it did. -/
def mirrorWithinUptoRow : OpenClaim := { program := "ythmkjnhgialnlaa", sum := "308a073c00bcbf4f84d28c5e57117d18e907d8c197964ee1f00146ef0c8758c6", func := "burnish/burnishlaw14.MirrorWithin", spec := "mirrorWithin", inPlace := ["math.Float64bits", "math.Float64frombits", "math/bits.Add64", "math/bits.Sub64"], unfollowed := true, recurses := true, named := ["math/bits.divideError", "math/bits.overflowError"], apart := false, narrowed := true }
def MirrorWithinUptoSaid : Prop := mirrorWithinUptoRow.holds Try.pinned (OpenSpec.upto mirrorWithinSpec)

/-- 'burnishlaw14.MirrorHalf', WHERE WHAT IT READS IS OF BULK AT MOST 1048576: true; the input reads as it did. -/
def mirrorHalfUptoRow : OpenClaim := { program := "ythmkjnhgialnlaa", sum := "308a073c00bcbf4f84d28c5e57117d18e907d8c197964ee1f00146ef0c8758c6", func := "burnish/burnishlaw14.MirrorHalf", spec := "mirrorHalf", inPlace := ["math.Float64bits", "math.Float64frombits", "math/bits.Add64", "math/bits.Sub64"], unfollowed := true, recurses := true, named := ["math/bits.divideError", "math/bits.overflowError"], apart := false, narrowed := true }
def MirrorHalfUptoSaid : Prop := mirrorHalfUptoRow.holds Try.pinned (OpenSpec.upto mirrorHalfSpec)

end Rows
end Go.Proofs.Ythmkjnhgialnlaa
