/-
  No cell of these rows narrows 'for every input' (looked for: loops, veiled, ifaces, maps, wideKeys, modest, calm, conditions, laid).
  DERIVED. THE GIVEN ROWS OF THIS SEAT. 4 by the template 'for every input the law returns true; each argument reads behind the call as it read before'; 0 by the template 'total and deterministic' (their statements: YtpnjfinkhafglaaTotals.lean).
  GIVEN WITH THE SEED: the statements are not yours to turn. If you find one false, say at which input.
  Laid BY PROGRAM, IN A SANDBOX (cutbox-rows.mjs): the forced cells as the released guide's own fill.sh prints them over the translation 10f501628c8ec41a… (all of the seat's roots in one cut). By AI agents, Wed Nov 11 2026. No macro, syntax, notation, axiom, sorry.
-/
import Derived.Test.YtpnjfinkhafglaaChecked
import GoSem.Claim
import GoSem.ClaimJoined
import GoSem.ClaimMapViews
import Derived.JoinedTies
import Derived.KernelRfl
namespace Go.Proofs.Ytpnjfinkhafglaa
/- THE CELL 'sum', in the pinned program and in every row, IS THE sha256 OF THE DUMP (.gsa) THAT YtpnjfinkhafglaaProg.lean LOADS. Nothing in Lean hashes anything: it is a label: what it is worth is what the hold of that sum in a sandbox is worth. -/
noncomputable def Try.pinned : Pinned := { name := "ytpnjfinkhafglaa", sum := "10f501628c8ec41a5a06ef9488b02dc36977381b597c554918097f164ac12e40", checked := Try.checked }
namespace Rows
def none {H : Type} : Left H := { results := [], args := [] }

/-- 'burnishlaw26.CameraMirror': WHATEVER THE INPUT: true; the input reads as it did. -/
def cameraMirrorSpec : ChangeSpec := { name := "cameraMirror", fn := fun _ => fun
  | [d1, d2, d3] => { results := [.lit (.bool true)], args := [d1, d2, d3] }
  | _ => none }
def cameraMirrorRow : OpenClaim := { program := "ytpnjfinkhafglaa", sum := "10f501628c8ec41a5a06ef9488b02dc36977381b597c554918097f164ac12e40", func := "burnish/burnishlaw26.CameraMirror", spec := "cameraMirror", inPlace := ["math.Float64bits", "math.Float64frombits", "math/bits.Sub64", "math/bits.Add64"], unfollowed := true, recurses := true, named := ["math/bits.divideError", "math/bits.overflowError"], apart := false }
def CameraMirrorSaid : Prop := cameraMirrorRow.holds Try.pinned (OpenSpec.ofChange cameraMirrorSpec)

/-- ITS FALSE NEIGHBOUR: 'it returns false'. Refute it at one input. -/
def cameraMirrorWrong : ChangeSpec := { name := "cameraMirror", fn := fun _ => fun
  | [d1, d2, d3] => { results := [.lit (.bool false)], args := [d1, d2, d3] }
  | _ => none }
def CameraMirrorWrongFalsely : Prop := cameraMirrorRow.holds Try.pinned (OpenSpec.ofChange cameraMirrorWrong)

/-- 'burnishlaw26.CameraRises': WHATEVER THE INPUT: true; the input reads as it did. -/
def cameraRisesSpec : ChangeSpec := { name := "cameraRises", fn := fun _ => fun
  | [d1, d2, d3] => { results := [.lit (.bool true)], args := [d1, d2, d3] }
  | _ => none }
def cameraRisesRow : OpenClaim := { program := "ytpnjfinkhafglaa", sum := "10f501628c8ec41a5a06ef9488b02dc36977381b597c554918097f164ac12e40", func := "burnish/burnishlaw26.CameraRises", spec := "cameraRises", inPlace := ["math.Float64bits", "math.Float64frombits", "math/bits.Sub64", "math/bits.Add64"], unfollowed := true, recurses := true, named := ["math/bits.divideError", "math/bits.overflowError"], apart := false }
def CameraRisesSaid : Prop := cameraRisesRow.holds Try.pinned (OpenSpec.ofChange cameraRisesSpec)

/-- ITS FALSE NEIGHBOUR: 'it returns false'. Refute it at one input. -/
def cameraRisesWrong : ChangeSpec := { name := "cameraRises", fn := fun _ => fun
  | [d1, d2, d3] => { results := [.lit (.bool false)], args := [d1, d2, d3] }
  | _ => none }
def CameraRisesWrongFalsely : Prop := cameraRisesRow.holds Try.pinned (OpenSpec.ofChange cameraRisesWrong)

/-- 'burnishlaw26.CameraHits': WHATEVER THE INPUT: true; the input reads as it did. -/
def cameraHitsSpec : ChangeSpec := { name := "cameraHits", fn := fun _ => fun
  | [d] => { results := [.lit (.bool true)], args := [d] }
  | _ => none }
def cameraHitsRow : OpenClaim := { program := "ytpnjfinkhafglaa", sum := "10f501628c8ec41a5a06ef9488b02dc36977381b597c554918097f164ac12e40", func := "burnish/burnishlaw26.CameraHits", spec := "cameraHits", inPlace := ["math.Float64bits", "math.Float64frombits", "math/bits.Sub64", "math/bits.Add64"], unfollowed := true, recurses := true, named := ["math/bits.divideError", "math/bits.overflowError"], apart := false }
def CameraHitsSaid : Prop := cameraHitsRow.holds Try.pinned (OpenSpec.ofChange cameraHitsSpec)

/-- ITS FALSE NEIGHBOUR: 'it returns false'. Refute it at one input. -/
def cameraHitsWrong : ChangeSpec := { name := "cameraHits", fn := fun _ => fun
  | [d] => { results := [.lit (.bool false)], args := [d] }
  | _ => none }
def CameraHitsWrongFalsely : Prop := cameraHitsRow.holds Try.pinned (OpenSpec.ofChange cameraHitsWrong)

/-- 'burnishlaw26.CameraWrong': WHATEVER THE INPUT: true; the input reads as it did. -/
def cameraWrongSpec : ChangeSpec := { name := "cameraWrong", fn := fun _ => fun
  | [d1, d2, d3] => { results := [.lit (.bool true)], args := [d1, d2, d3] }
  | _ => none }
def cameraWrongRow : OpenClaim := { program := "ytpnjfinkhafglaa", sum := "10f501628c8ec41a5a06ef9488b02dc36977381b597c554918097f164ac12e40", func := "burnish/burnishlaw26.CameraWrong", spec := "cameraWrong", inPlace := ["math.Float64bits", "math.Float64frombits", "math/bits.Sub64", "math/bits.Add64"], unfollowed := true, recurses := true, named := ["math/bits.divideError", "math/bits.overflowError"], apart := false }
def CameraWrongSaid : Prop := cameraWrongRow.holds Try.pinned (OpenSpec.ofChange cameraWrongSpec)

/-- ITS FALSE NEIGHBOUR: 'it returns false'. Refute it at one input. -/
def cameraWrongWrong : ChangeSpec := { name := "cameraWrong", fn := fun _ => fun
  | [d1, d2, d3] => { results := [.lit (.bool false)], args := [d1, d2, d3] }
  | _ => none }
def CameraWrongWrongFalsely : Prop := cameraWrongRow.holds Try.pinned (OpenSpec.ofChange cameraWrongWrong)

/- THE SECOND FORM. 'bulk': how many values and letters a reading holds, each counted each time it is reached (what is shared counts as often as it is met; a slice's spare places count too). A statement '..UptoSaid' is the law's where the arguments, and the package variables that the reading takes, are together of bulk at most 1048576: NARROWER than '..Said'. Prove '..Said' where nothing that the law and all that it calls make is longer than what came in: it says more and counts as full. Else prove '..UptoSaid'. A law counts once. -/
mutual
def uptoBulk {H : Type} : DataW H → Nat
  | .lit (.string bytes) => bytes.length + 1
  | .lit _ => 1
  | .nil => 1
  | .ptr d => uptoBulk d + 1
  | .slice elems spare => uptoBulkAll elems + uptoBulkAll spare + 1
  | .agg parts => uptoBulkAll parts + 1
  | .iface _ d => uptoBulk d + 1
  | .map entries => uptoBulkEntries entries + 1
  | .held _ => 1
def uptoBulkAll {H : Type} : List (DataW H) → Nat
  | [] => 0
  | d :: r => uptoBulk d + uptoBulkAll r
def uptoBulkEntries {H : Type} : List (Lit × DataW H) → Nat
  | [] => 0
  | x :: r => uptoBulkEntry x + uptoBulkEntries r
def uptoBulkEntry {H : Type} : Lit × DataW H → Nat
  | (.string bytes, d) => bytes.length + uptoBulk d + 1
  | (_, d) => uptoBulk d + 1
 end
def uptoSmall : (H : Type) → List (DataW H) → Bool := fun _ ds => decide (uptoBulkAll ds ≤ 1048576)
def OpenSpec.upto (s : _root_.Go.ChangeSpec) : _root_.Go.OpenSpec := { _root_.Go.OpenSpec.ofChange s with cond := some uptoSmall }

/-- 'burnishlaw26.CameraMirror', WHERE WHAT IT READS IS OF BULK AT MOST 1048576: true; the input reads as it did. -/
def cameraMirrorUptoRow : OpenClaim := { program := "ytpnjfinkhafglaa", sum := "10f501628c8ec41a5a06ef9488b02dc36977381b597c554918097f164ac12e40", func := "burnish/burnishlaw26.CameraMirror", spec := "cameraMirror", inPlace := ["math.Float64bits", "math.Float64frombits", "math/bits.Sub64", "math/bits.Add64"], unfollowed := true, recurses := true, named := ["math/bits.divideError", "math/bits.overflowError"], apart := false, narrowed := true }
def CameraMirrorUptoSaid : Prop := cameraMirrorUptoRow.holds Try.pinned (OpenSpec.upto cameraMirrorSpec)

/-- 'burnishlaw26.CameraRises', WHERE WHAT IT READS IS OF BULK AT MOST 1048576: true; the input reads as it did. -/
def cameraRisesUptoRow : OpenClaim := { program := "ytpnjfinkhafglaa", sum := "10f501628c8ec41a5a06ef9488b02dc36977381b597c554918097f164ac12e40", func := "burnish/burnishlaw26.CameraRises", spec := "cameraRises", inPlace := ["math.Float64bits", "math.Float64frombits", "math/bits.Sub64", "math/bits.Add64"], unfollowed := true, recurses := true, named := ["math/bits.divideError", "math/bits.overflowError"], apart := false, narrowed := true }
def CameraRisesUptoSaid : Prop := cameraRisesUptoRow.holds Try.pinned (OpenSpec.upto cameraRisesSpec)

/-- 'burnishlaw26.CameraHits', WHERE WHAT IT READS IS OF BULK AT MOST 1048576: true; the input reads as it did. -/
def cameraHitsUptoRow : OpenClaim := { program := "ytpnjfinkhafglaa", sum := "10f501628c8ec41a5a06ef9488b02dc36977381b597c554918097f164ac12e40", func := "burnish/burnishlaw26.CameraHits", spec := "cameraHits", inPlace := ["math.Float64bits", "math.Float64frombits", "math/bits.Sub64", "math/bits.Add64"], unfollowed := true, recurses := true, named := ["math/bits.divideError", "math/bits.overflowError"], apart := false, narrowed := true }
def CameraHitsUptoSaid : Prop := cameraHitsUptoRow.holds Try.pinned (OpenSpec.upto cameraHitsSpec)

/-- 'burnishlaw26.CameraWrong', WHERE WHAT IT READS IS OF BULK AT MOST 1048576: true; the input reads as it did. -/
def cameraWrongUptoRow : OpenClaim := { program := "ytpnjfinkhafglaa", sum := "10f501628c8ec41a5a06ef9488b02dc36977381b597c554918097f164ac12e40", func := "burnish/burnishlaw26.CameraWrong", spec := "cameraWrong", inPlace := ["math.Float64bits", "math.Float64frombits", "math/bits.Sub64", "math/bits.Add64"], unfollowed := true, recurses := true, named := ["math/bits.divideError", "math/bits.overflowError"], apart := false, narrowed := true }
def CameraWrongUptoSaid : Prop := cameraWrongUptoRow.holds Try.pinned (OpenSpec.upto cameraWrongSpec)

end Rows
end Go.Proofs.Ytpnjfinkhafglaa
