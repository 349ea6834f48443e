/- Arguments: arrays of four whole numbers, intervals: opened and shut. Arguments: triples of float64 opened. Arguments: arrays of six uint16, vectors of intervals opened. -/
import Derived.Test.YtkhplflbcgjkcaaGreatProg
import Derived.WalkKit
import Derived.ProofKit
import Derived.OpenShut
import Derived.Laws.Cover2
import Derived.Lib.SmallJoins
import Derived.Laws.IdiomArrays
/-! Arguments: arrays of four whole numbers, intervals: opened and shut. -/
namespace Go.Proofs.YtkhplflbcgjkcaaGreat
open Go.ChangeShapes Go.WideShapes Go.ChangeAt Go.RowKit Go.Joins
section
variable {H : Type} {enc : TypeId × Value → H} {P : Program} {w : World} {base : Nat} {sp : Nat → Bool} {held : Bool}
theorem trod_float_at {t : TypeId} {k : FloatKind} {n : Nat} {v : Value} {y : DataW H × List MemPlace} (ht : P.underlying t = some (.float k)) (h : DataW.trod enc P w base sp held n t [v] = some y) :
  ∃ b, v = .float k b ∧ y = (.lit (.float k b), []) ∧ (Lit.float k b).wf = true := by
 cases n with
 | zero => simp [DataW.trod] at h
 | succ n =>
  unfold DataW.trod at h
  rw [ht] at h
  cases v <;> simp at h
  rename_i k' b
  obtain ⟨⟨rfl, hw⟩, rfl⟩ := h
  exact ⟨b, rfl, rfl, hw⟩
theorem open_iv {r : Reach} {b0 : Nat} {t e : TypeId} {f0 f1 : Field} {v : Value} {d : DataW H} {ps : List MemPlace} (hs : P.underlying t = some (.struct #[f0, f1])) (hone : Go.Deep.oneCellFields P #[f0, f1] = true) (hC : P.cellsOf t = 2)
  (he : P.underlying e = some (.float .f64)) (h0 : f0.type = e) (h1 : f1.type = e) (hval : Value.okWide P w r b0 t v) (hd : DataW.Trod enc P w base sp held t v d ps) :
  ∃ a b : Nat, v = .agg #[.float .f64 a, .float .f64 b] ∧ d = .agg [.lit (.float .f64 a), .lit (.float .f64 b)] ∧ ps = [] ∧ (Lit.float .f64 a).wf = true ∧ (Lit.float .f64 b).wf = true := by
 obtain ⟨c0, c1, y0, y1, m, rfl, rfl, rfl, hy0, hy1⟩ := open_agg2 hs hone hC hval hd
 rw [h0] at hy0
 rw [h1] at hy1
 obtain ⟨a, rfl, rfl, w0⟩ := trod_float_at he hy0
 obtain ⟨b, rfl, rfl, w1⟩ := trod_float_at he hy1
 exact ⟨a, b, rfl, rfl, rfl, w0, w1⟩
theorem iv_at {t e : TypeId} {g0 g1 : Field} {n : Nat} {c0 c1 : Value} {y : DataW H × List MemPlace} (hs : P.underlying t = some (.struct #[g0, g1])) (h0 : g0.type = e) (h1 : g1.type = e) (o0 : g0.offset = 0) (o1 : g1.offset = 1) (ce : P.cellsOf e = 1) (he : P.underlying e = some (.float .f64))
  (h : DataW.trod enc P w base sp held n t [c0, c1] = some y) : ∃ a b : Nat, c0 = .float .f64 a ∧ c1 = .float .f64 b ∧ y = (.agg [.lit (.float .f64 a), .lit (.float .f64 b)], []) ∧ (Lit.float .f64 a).wf = true ∧ (Lit.float .f64 b).wf = true := by
 obtain ⟨y0, y1, m, rfl, _, k0, k1⟩ := trod_struct2 hs h
 rw [h0, o0, ce] at k0
 rw [h1, o1, ce] at k1
 obtain ⟨a, rfl, rfl, w0⟩ := trod_float_at he (v := c0) (by simpa using k0)
 obtain ⟨b, rfl, rfl, w1⟩ := trod_float_at he (v := c1) (by simpa using k1)
 exact ⟨a, b, rfl, rfl, rfl, w0, w1⟩
end
end Go.Proofs.YtkhplflbcgjkcaaGreat
/-! Arguments: triples of float64 opened. -/
namespace Go.Proofs.YtkhplflbcgjkcaaGreat
open Go.ChangeShapes Go.WideShapes Go.ChangeAt Go.RowKit Go.Joins
section
variable {H : Type} {enc : TypeId × Value → H} {P : Program} {w : World} {base : Nat} {sp : Nat → Bool} {held : Bool}
theorem open_f3 {r : Reach} {b0 : Nat} {t e : TypeId} {f0 f1 f2 : Field} {v : Value} {d : DataW H} {ps : List MemPlace} (hs : P.underlying t = some (.struct #[f0, f1, f2])) (hone : Go.Deep.oneCellFields P #[f0, f1, f2] = true) (hC : P.cellsOf t = 3)
  (he : P.underlying e = some (.float .f64)) (h0 : f0.type = e) (h1 : f1.type = e) (h2 : f2.type = e) (hval : Value.okWide P w r b0 t v) (hd : DataW.Trod enc P w base sp held t v d ps) :
  ∃ a b c : Nat, v = .agg #[.float .f64 a, .float .f64 b, .float .f64 c] ∧ d = .agg [.lit (.float .f64 a), .lit (.float .f64 b), .lit (.float .f64 c)] ∧ ps = [] ∧ (Lit.float .f64 a).wf = true ∧ (Lit.float .f64 b).wf = true ∧ (Lit.float .f64 c).wf = true := by
 obtain ⟨c0, c1, c2, y0, y1, y2, m, rfl, rfl, rfl, hy0, hy1, hy2⟩ := open_agg3 hs hone hC hval hd
 rw [h0] at hy0
 rw [h1] at hy1
 rw [h2] at hy2
 obtain ⟨a, rfl, rfl, w0⟩ := trod_float_at he hy0
 obtain ⟨b, rfl, rfl, w1⟩ := trod_float_at he hy1
 obtain ⟨c, rfl, rfl, w2⟩ := trod_float_at he hy2
 exact ⟨a, b, c, rfl, rfl, rfl, w0, w1, w2⟩
end
end Go.Proofs.YtkhplflbcgjkcaaGreat
/-! Arguments: arrays of six uint16, vectors of intervals opened. -/
namespace Go.Proofs.YtkhplflbcgjkcaaGreat
open Go.ChangeShapes Go.WideShapes Go.ChangeAt Go.RowKit Go.Joins
section
variable {H : Type} {enc : TypeId × Value → H} {P : Program} {w : World} {base : Nat} {sp : Nat → Bool} {held : Bool}
theorem arrayH6 {α : Type} {cs : Array α} (h : cs.size = 6) : ∃ c0 c1 c2 c3 c4 c5, cs = #[c0, c1, c2, c3, c4, c5] := by
 obtain ⟨l⟩ := cs
 match l, h with
 | [c0, c1, c2, c3, c4, c5], _ => exact ⟨c0, c1, c2, c3, c4, c5, rfl⟩
theorem open_vec {r : Reach} {b0 : Nat} {t i e : TypeId} {f0 f1 f2 g0 g1 : Field} {v : Value} {d : DataW H} {ps : List MemPlace} (hs : P.underlying t = some (.struct #[f0, f1, f2])) (hC : P.cellsOf t = 6) (h0 : f0.type = i) (o0 : f0.offset = 0)
  (h1 : f1.type = i) (o1 : f1.offset = 2) (h2 : f2.type = i) (o2 : f2.offset = 4) (ci : P.cellsOf i = 2) (hi : P.underlying i = some (.struct #[g0, g1])) (k0 : g0.type = e) (k1 : g1.type = e) (p0 : g0.offset = 0) (p1 : g1.offset = 1) (ce : P.cellsOf e = 1) (he : P.underlying e = some (.float .f64))
  (hval : Value.okWide P w r b0 t v) (hd : DataW.Trod enc P w base sp held t v d ps) :
  ∃ (a b c f g h : Nat), v = .agg #[.float .f64 a, .float .f64 b, .float .f64 c, .float .f64 f, .float .f64 g, .float .f64 h] ∧ d = .agg [.agg [.lit (.float .f64 a), .lit (.float .f64 b)], .agg [.lit (.float .f64 c), .lit (.float .f64 f)], .agg [.lit (.float .f64 g), .lit (.float .f64 h)]] ∧ ps = [] ∧
   (Lit.float .f64 a).wf = true ∧ (Lit.float .f64 b).wf = true ∧ (Lit.float .f64 c).wf = true ∧ (Lit.float .f64 f).wf = true ∧ (Lit.float .f64 g).wf = true ∧ (Lit.float .f64 h).wf = true := by
 obtain ⟨cs, rfl, hsz⟩ := okWide_struct hs hval
 obtain ⟨c0, c1, c2, c3, c4, c5, rfl⟩ := arrayH6 (hsz.trans hC)
 obtain ⟨fuel, hf⟩ := hd
 obtain ⟨y0, y1, y2, n, hx, _, q0, q1, q2⟩ := Go.Deep.trod_struct3 hs hf
 rw [h0, o0, ci] at q0
 rw [h1, o1, ci] at q1
 rw [h2, o2, ci] at q2
 obtain ⟨a, b, rfl, rfl, rfl, z0, z1⟩ := iv_at hi k0 k1 p0 p1 ce he (c0 := c0) (c1 := c1) (by simpa [Value.cells] using q0)
 obtain ⟨c, f, rfl, rfl, rfl, z2, z3⟩ := iv_at hi k0 k1 p0 p1 ce he (c0 := c2) (c1 := c3) (by simpa [Value.cells] using q1)
 obtain ⟨g, h, rfl, rfl, rfl, z4, z5⟩ := iv_at hi k0 k1 p0 p1 ce he (c0 := c4) (c1 := c5) (by simpa [Value.cells] using q2)
 simp only [Prod.mk.injEq] at hx
 exact ⟨a, b, c, f, g, h, rfl, by simpa using hx.1, by simpa using hx.2, z0, z1, z2, z3, z4, z5⟩
end
end Go.Proofs.YtkhplflbcgjkcaaGreat
