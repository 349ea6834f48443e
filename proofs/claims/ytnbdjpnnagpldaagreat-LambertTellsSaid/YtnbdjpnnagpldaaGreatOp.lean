/- Arguments: arrays of four whole numbers, intervals: opened and shut. -/
import Derived.Test.YtnbdjpnnagpldaaGreatProg
import Derived.WalkKit
import Derived.ProofKit
import Derived.OpenShut
import Derived.Laws.Cover2
import Derived.Lib.SmallJoins
import Derived.Laws.IdiomArrays
namespace Go.Proofs.YtnbdjpnnagpldaaGreat
open Go.ChangeShapes Go.WideShapes Go.ChangeAt Go.RowKit Go.Joins

section
variable {H : Type} {enc : TypeId × Value → H} {P : Program} {w : World} {base : Nat} {sp : Nat → Bool} {held : Bool}

theorem open_u4 {r : Reach} {b0 : Nat} {t e : TypeId} {v : Value} {d : DataW H} {ps : List MemPlace} (ht : P.underlying t = some (.array 4 e)) (he : P.underlying e = some (.int .u32)) (hce : P.cellsOf e = 1) (hct : P.cellsOf t = 4)
    (hval : Value.okWide P w r b0 t v) (hd : DataW.Trod enc P w base sp held t v d ps) :
    ∃ a b c f : Int, v = .agg #[.int .u32 a, .int .u32 b, .int .u32 c, .int .u32 f] ∧ d = .agg [.lit (.int .u32 a), .lit (.int .u32 b), .lit (.int .u32 c), .lit (.int .u32 f)] ∧ ps = [] ∧ (Lit.int .u32 a).wf = true ∧ (Lit.int .u32 b).wf = true ∧ (Lit.int .u32 c).wf = true ∧ (Lit.int .u32 f).wf = true := by
  simp only [Value.okWide, ht] at hval
  obtain ⟨cs, rfl, hsz, _⟩ := hval
  obtain ⟨c0, c1, c2, c3, rfl⟩ := array4 (hsz.trans hct)
  obtain ⟨fuel, hf⟩ := hd
  obtain ⟨y0, y1, y2, y3, n, hx, h0, h1, h2, h3⟩ := trod_array4 (c0 := c0) (c1 := c1) (c2 := c2) (c3 := c3) ht hce (by simpa [Value.cells] using hf)
  obtain ⟨a, e0, rfl, w0⟩ := DataW.trod_int he h0
  obtain ⟨b, e1, rfl, w1⟩ := DataW.trod_int he h1
  obtain ⟨c, e2, rfl, w2⟩ := DataW.trod_int he h2
  obtain ⟨f, e3, rfl, w3⟩ := DataW.trod_int he h3
  simp only [Prod.mk.injEq] at hx
  simp at e0 e1 e2 e3
  subst e0 e1 e2 e3
  exact ⟨a, b, c, f, rfl, by simpa using hx.1, by simpa using hx.2, w0, w1, w2, w3⟩

theorem trod_float_at {t : TypeId} {k : FloatKind} {n : Nat} {v : Value} {y : DataW H × List MemPlace} (ht : P.underlying t = some (.float k)) (h : DataW.trod enc P w base sp held n t [v] = some y) :
    ∃ b, v = .float k b ∧ y = (.lit (.float k b), []) ∧ (Lit.float k b).wf = true := by
  cases n with
  | zero => simp [DataW.trod] at h
  | succ n =>
    unfold DataW.trod at h
    rw [ht] at h
    cases v <;> simp at h
    rename_i k' b
    obtain ⟨⟨rfl, hw⟩, rfl⟩ := h
    exact ⟨b, rfl, rfl, hw⟩

theorem open_iv {r : Reach} {b0 : Nat} {t e : TypeId} {f0 f1 : Field} {v : Value} {d : DataW H} {ps : List MemPlace} (hs : P.underlying t = some (.struct #[f0, f1])) (hone : Go.Deep.oneCellFields P #[f0, f1] = true) (hC : P.cellsOf t = 2)
    (he : P.underlying e = some (.float .f64)) (h0 : f0.type = e) (h1 : f1.type = e) (hval : Value.okWide P w r b0 t v) (hd : DataW.Trod enc P w base sp held t v d ps) :
    ∃ a b : Nat, v = .agg #[.float .f64 a, .float .f64 b] ∧ d = .agg [.lit (.float .f64 a), .lit (.float .f64 b)] ∧ ps = [] ∧ (Lit.float .f64 a).wf = true ∧ (Lit.float .f64 b).wf = true := by
  obtain ⟨c0, c1, y0, y1, m, rfl, rfl, rfl, hy0, hy1⟩ := open_agg2 hs hone hC hval hd
  rw [h0] at hy0
  rw [h1] at hy1
  obtain ⟨a, rfl, rfl, w0⟩ := trod_float_at he hy0
  obtain ⟨b, rfl, rfl, w1⟩ := trod_float_at he hy1
  exact ⟨a, b, rfl, rfl, rfl, w0, w1⟩
end
end Go.Proofs.YtnbdjpnnagpldaaGreat
