/-
  No cell of these rows narrows 'for every input' (looked for: loops, veiled, ifaces, maps, wideKeys, modest, calm, conditions, laid).
  DERIVED. THE GIVEN ROWS OF THIS SEAT. 3 by the template 'for every input the law returns true; each argument reads behind the call as it read before'; 0 by the template 'total and deterministic' (their statements: YtkhplflbcgjkcaaGreatTotals.lean).
  GIVEN WITH THE SEED: the statements are not yours to turn. If you find one false, say at which input.
  Laid BY PROGRAM, IN A SANDBOX (cutbox-rows.mjs): the forced cells as the released guide's own fill.sh prints them over the translation 83b9315f29551d2f… (all of the seat's roots in one cut). By AI agents, Wed Nov 11 2026. No macro, syntax, notation, axiom, sorry.
-/
import Derived.Test.YtkhplflbcgjkcaaGreatChecked
import GoSem.Claim
import GoSem.ClaimJoined
import GoSem.ClaimMapViews
import Derived.JoinedTies
import Derived.KernelRfl
namespace Go.Proofs.YtkhplflbcgjkcaaGreat
/- THE CELL 'sum', in the pinned program and in every row, IS THE sha256 OF THE DUMP (.gsa) THAT YtkhplflbcgjkcaaGreatProg.lean LOADS. Nothing in Lean hashes anything: it is a label: what it is worth is what the hold of that sum in a sandbox is worth. -/
noncomputable def Tryz.pinned : Pinned := { name := "ytkhplflbcgjkcaagreat", sum := "83b9315f29551d2f9442a5729c990ec8830eae6790fb356d2413845b15c5a1af", checked := Tryz.checked }
namespace Rows
def none {H : Type} : Left H := { results := [], args := [] }

/-- 'burnishlaw14.MirrorTells': WHATEVER THE INPUT: true; the input reads as it did. -/
def mirrorTellsSpec : ChangeSpec := { name := "mirrorTells", fn := fun _ => fun
  | [d1, d2, d3, d4, d5] => { results := [.lit (.bool true)], args := [d1, d2, d3, d4, d5] }
  | _ => none }
def mirrorTellsRow : OpenClaim := { program := "ytkhplflbcgjkcaagreat", sum := "83b9315f29551d2f9442a5729c990ec8830eae6790fb356d2413845b15c5a1af", func := "burnish/burnishlaw14.MirrorTells", spec := "mirrorTells", inPlace := ["math.Float64bits", "math.Float64frombits", "math/bits.Add64", "math/bits.Sub64", "math.FMA", "math.sqrt"], unfollowed := true, recurses := true, named := ["math/bits.divideError", "math/bits.overflowError"], apart := false }
def MirrorTellsSaid : Prop := mirrorTellsRow.holds Tryz.pinned (OpenSpec.ofChange mirrorTellsSpec)

/-- ITS FALSE NEIGHBOUR: 'it returns false'. Refute it at one input. -/
def mirrorTellsWrong : ChangeSpec := { name := "mirrorTells", fn := fun _ => fun
  | [d1, d2, d3, d4, d5] => { results := [.lit (.bool false)], args := [d1, d2, d3, d4, d5] }
  | _ => none }
def MirrorTellsWrongFalsely : Prop := mirrorTellsRow.holds Tryz.pinned (OpenSpec.ofChange mirrorTellsWrong)

/-- 'burnishlaw02.IvalTells': WHATEVER THE INPUT: true; the input reads as it did. -/
def ivalTellsSpec : ChangeSpec := { name := "ivalTells", fn := fun _ => fun
  | [d1, d2, d3, d4] => { results := [.lit (.bool true)], args := [d1, d2, d3, d4] }
  | _ => none }
def ivalTellsRow : OpenClaim := { program := "ytkhplflbcgjkcaagreat", sum := "83b9315f29551d2f9442a5729c990ec8830eae6790fb356d2413845b15c5a1af", func := "burnish/burnishlaw02.IvalTells", spec := "ivalTells", inPlace := ["math.Float64bits", "math.Float64frombits", "math/bits.Add64", "math/bits.Sub64", "math.FMA", "math.sqrt"], unfollowed := true, recurses := true, named := ["math/bits.divideError", "math/bits.overflowError"], apart := false }
def IvalTellsSaid : Prop := ivalTellsRow.holds Tryz.pinned (OpenSpec.ofChange ivalTellsSpec)

/-- ITS FALSE NEIGHBOUR: 'it returns false'. Refute it at one input. -/
def ivalTellsWrong : ChangeSpec := { name := "ivalTells", fn := fun _ => fun
  | [d1, d2, d3, d4] => { results := [.lit (.bool false)], args := [d1, d2, d3, d4] }
  | _ => none }
def IvalTellsWrongFalsely : Prop := ivalTellsRow.holds Tryz.pinned (OpenSpec.ofChange ivalTellsWrong)

/-- 'burnishlaw05.VecTells': WHATEVER THE INPUT: true; the input reads as it did. -/
def vecTellsSpec : ChangeSpec := { name := "vecTells", fn := fun _ => fun
  | [d1, d2, d3, d4] => { results := [.lit (.bool true)], args := [d1, d2, d3, d4] }
  | _ => none }
def vecTellsRow : OpenClaim := { program := "ytkhplflbcgjkcaagreat", sum := "83b9315f29551d2f9442a5729c990ec8830eae6790fb356d2413845b15c5a1af", func := "burnish/burnishlaw05.VecTells", spec := "vecTells", inPlace := ["math.Float64bits", "math.Float64frombits", "math/bits.Add64", "math/bits.Sub64", "math.FMA", "math.sqrt"], unfollowed := true, recurses := true, named := ["math/bits.divideError", "math/bits.overflowError"], apart := false }
def VecTellsSaid : Prop := vecTellsRow.holds Tryz.pinned (OpenSpec.ofChange vecTellsSpec)

/-- ITS FALSE NEIGHBOUR: 'it returns false'. Refute it at one input. -/
def vecTellsWrong : ChangeSpec := { name := "vecTells", fn := fun _ => fun
  | [d1, d2, d3, d4] => { results := [.lit (.bool false)], args := [d1, d2, d3, d4] }
  | _ => none }
def VecTellsWrongFalsely : Prop := vecTellsRow.holds Tryz.pinned (OpenSpec.ofChange vecTellsWrong)

/- THE SECOND FORM. 'bulk': how many values and letters a reading holds, each counted each time it is reached (what is shared counts as often as it is met; a slice's spare places count too). A statement '..UptoSaid' is the law's where the arguments, and the package variables that the reading takes, are together of bulk at most 1048576: NARROWER than '..Said'. Prove '..Said' where nothing that the law and all that it calls make is longer than what came in: it says more and counts as full. Else prove '..UptoSaid'. A law counts once. -/
mutual
def uptoBulk {H : Type} : DataW H → Nat
  | .lit (.string bytes) => bytes.length + 1
  | .lit _ => 1
  | .nil => 1
  | .ptr d => uptoBulk d + 1
  | .slice elems spare => uptoBulkAll elems + uptoBulkAll spare + 1
  | .agg parts => uptoBulkAll parts + 1
  | .iface _ d => uptoBulk d + 1
  | .map entries => uptoBulkEntries entries + 1
  | .held _ => 1
def uptoBulkAll {H : Type} : List (DataW H) → Nat
  | [] => 0
  | d :: r => uptoBulk d + uptoBulkAll r
def uptoBulkEntries {H : Type} : List (Lit × DataW H) → Nat
  | [] => 0
  | x :: r => uptoBulkEntry x + uptoBulkEntries r
def uptoBulkEntry {H : Type} : Lit × DataW H → Nat
  | (.string bytes, d) => bytes.length + uptoBulk d + 1
  | (_, d) => uptoBulk d + 1
 end
def uptoSmall : (H : Type) → List (DataW H) → Bool := fun _ ds => decide (uptoBulkAll ds ≤ 1048576)
def OpenSpec.upto (s : _root_.Go.ChangeSpec) : _root_.Go.OpenSpec := { _root_.Go.OpenSpec.ofChange s with cond := some uptoSmall }

/-- 'burnishlaw14.MirrorTells', WHERE WHAT IT READS IS OF BULK AT MOST 1048576: true; the input reads as it did. -/
def mirrorTellsUptoRow : OpenClaim := { program := "ytkhplflbcgjkcaagreat", sum := "83b9315f29551d2f9442a5729c990ec8830eae6790fb356d2413845b15c5a1af", func := "burnish/burnishlaw14.MirrorTells", spec := "mirrorTells", inPlace := ["math.Float64bits", "math.Float64frombits", "math/bits.Add64", "math/bits.Sub64", "math.FMA", "math.sqrt"], unfollowed := true, recurses := true, named := ["math/bits.divideError", "math/bits.overflowError"], apart := false, narrowed := true }
def MirrorTellsUptoSaid : Prop := mirrorTellsUptoRow.holds Tryz.pinned (OpenSpec.upto mirrorTellsSpec)

/-- 'burnishlaw02.IvalTells', WHERE WHAT IT READS IS OF BULK AT MOST 1048576: true; the input reads as it did. -/
def ivalTellsUptoRow : OpenClaim := { program := "ytkhplflbcgjkcaagreat", sum := "83b9315f29551d2f9442a5729c990ec8830eae6790fb356d2413845b15c5a1af", func := "burnish/burnishlaw02.IvalTells", spec := "ivalTells", inPlace := ["math.Float64bits", "math.Float64frombits", "math/bits.Add64", "math/bits.Sub64", "math.FMA", "math.sqrt"], unfollowed := true, recurses := true, named := ["math/bits.divideError", "math/bits.overflowError"], apart := false, narrowed := true }
def IvalTellsUptoSaid : Prop := ivalTellsUptoRow.holds Tryz.pinned (OpenSpec.upto ivalTellsSpec)

/-- 'burnishlaw05.VecTells', WHERE WHAT IT READS IS OF BULK AT MOST 1048576: true; the input reads as it did. -/
def vecTellsUptoRow : OpenClaim := { program := "ytkhplflbcgjkcaagreat", sum := "83b9315f29551d2f9442a5729c990ec8830eae6790fb356d2413845b15c5a1af", func := "burnish/burnishlaw05.VecTells", spec := "vecTells", inPlace := ["math.Float64bits", "math.Float64frombits", "math/bits.Add64", "math/bits.Sub64", "math.FMA", "math.sqrt"], unfollowed := true, recurses := true, named := ["math/bits.divideError", "math/bits.overflowError"], apart := false, narrowed := true }
def VecTellsUptoSaid : Prop := vecTellsUptoRow.holds Tryz.pinned (OpenSpec.upto vecTellsSpec)

end Rows
end Go.Proofs.YtkhplflbcgjkcaaGreat
