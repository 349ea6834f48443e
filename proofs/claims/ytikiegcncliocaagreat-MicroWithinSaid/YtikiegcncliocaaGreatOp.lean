/- Arguments: arrays of four whole numbers, intervals: opened and shut. -/
import Derived.Test.YtikiegcncliocaaGreatProg
import Derived.WalkKit
import Derived.ProofKit
import Derived.OpenShut
import Derived.Laws.Cover2
import Derived.Lib.SmallJoins
import Derived.Laws.IdiomArrays
namespace Go.Proofs.YtikiegcncliocaaGreat
open Go.ChangeShapes Go.WideShapes Go.ChangeAt Go.RowKit Go.Joins

section
variable {H : Type} {enc : TypeId × Value → H} {P : Program} {w : World} {base : Nat} {sp : Nat → Bool} {held : Bool}

theorem open_u4 {r : Reach} {b0 : Nat} {t e : TypeId} {v : Value} {d : DataW H} {ps : List MemPlace} (ht : P.underlying t = some (.array 4 e)) (he : P.underlying e = some (.int .u32)) (hce : P.cellsOf e = 1) (hct : P.cellsOf t = 4)
    (hval : Value.okWide P w r b0 t v) (hd : DataW.Trod enc P w base sp held t v d ps) :
    ∃ a b c f : Int, v = .agg #[.int .u32 a, .int .u32 b, .int .u32 c, .int .u32 f] ∧ d = .agg [.lit (.int .u32 a), .lit (.int .u32 b), .lit (.int .u32 c), .lit (.int .u32 f)] ∧ ps = [] ∧ (Lit.int .u32 a).wf = true ∧ (Lit.int .u32 b).wf = true ∧ (Lit.int .u32 c).wf = true ∧ (Lit.int .u32 f).wf = true := by
  simp only [Value.okWide, ht] at hval
  obtain ⟨cs, rfl, hsz, _⟩ := hval
  obtain ⟨c0, c1, c2, c3, rfl⟩ := array4 (hsz.trans hct)
  obtain ⟨fuel, hf⟩ := hd
  obtain ⟨y0, y1, y2, y3, n, hx, h0, h1, h2, h3⟩ := trod_array4 (c0 := c0) (c1 := c1) (c2 := c2) (c3 := c3) ht hce (by simpa [Value.cells] using hf)
  obtain ⟨a, e0, rfl, w0⟩ := DataW.trod_int he h0
  obtain ⟨b, e1, rfl, w1⟩ := DataW.trod_int he h1
  obtain ⟨c, e2, rfl, w2⟩ := DataW.trod_int he h2
  obtain ⟨f, e3, rfl, w3⟩ := DataW.trod_int he h3
  simp only [Prod.mk.injEq] at hx
  simp at e0 e1 e2 e3
  subst e0 e1 e2 e3
  exact ⟨a, b, c, f, rfl, by simpa using hx.1, by simpa using hx.2, w0, w1, w2, w3⟩

end
end Go.Proofs.YtikiegcncliocaaGreat
