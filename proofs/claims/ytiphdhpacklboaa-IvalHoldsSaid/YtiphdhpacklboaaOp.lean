/- Arguments: arrays of four whole numbers, intervals: opened and shut. -/
import Derived.Test.YtiphdhpacklboaaProg
import Derived.WalkKit
import Derived.ProofKit
import Derived.OpenShut
import Derived.Laws.Cover2
import Derived.Lib.SmallJoins
import Derived.Laws.IdiomArrays
namespace Go.Proofs.Ytiphdhpacklboaa
open Go.ChangeShapes Go.WideShapes Go.ChangeAt Go.RowKit Go.Joins

section
variable {H : Type} {enc : TypeId × Value → H} {P : Program} {w : World} {base : Nat} {sp : Nat → Bool} {held : Bool}

theorem open_u4 {r : Reach} {b0 : Nat} {t e : TypeId} {v : Value} {d : DataW H} {ps : List MemPlace} (ht : P.underlying t = some (.array 4 e)) (he : P.underlying e = some (.int .u32)) (hce : P.cellsOf e = 1) (hct : P.cellsOf t = 4)
    (hval : Value.okWide P w r b0 t v) (hd : DataW.Trod enc P w base sp held t v d ps) :
    ∃ a b c f : Int, v = .agg #[.int .u32 a, .int .u32 b, .int .u32 c, .int .u32 f] ∧ d = .agg [.lit (.int .u32 a), .lit (.int .u32 b), .lit (.int .u32 c), .lit (.int .u32 f)] ∧ ps = [] ∧ (Lit.int .u32 a).wf = true ∧ (Lit.int .u32 b).wf = true ∧ (Lit.int .u32 c).wf = true ∧ (Lit.int .u32 f).wf = true := by
  simp only [Value.okWide, ht] at hval
  obtain ⟨cs, rfl, hsz, _⟩ := hval
  obtain ⟨c0, c1, c2, c3, rfl⟩ := array4 (hsz.trans hct)
  obtain ⟨fuel, hf⟩ := hd
  obtain ⟨y0, y1, y2, y3, n, hx, h0, h1, h2, h3⟩ := trod_array4 (c0 := c0) (c1 := c1) (c2 := c2) (c3 := c3) ht hce (by simpa [Value.cells] using hf)
  obtain ⟨a, e0, rfl, w0⟩ := DataW.trod_int he h0
  obtain ⟨b, e1, rfl, w1⟩ := DataW.trod_int he h1
  obtain ⟨c, e2, rfl, w2⟩ := DataW.trod_int he h2
  obtain ⟨f, e3, rfl, w3⟩ := DataW.trod_int he h3
  simp only [Prod.mk.injEq] at hx
  simp at e0 e1 e2 e3
  subst e0 e1 e2 e3
  exact ⟨a, b, c, f, rfl, by simpa using hx.1, by simpa using hx.2, w0, w1, w2, w3⟩

theorem trod_float_at {t : TypeId} {k : FloatKind} {n : Nat} {v : Value} {y : DataW H × List MemPlace} (ht : P.underlying t = some (.float k)) (h : DataW.trod enc P w base sp held n t [v] = some y) :
    ∃ b, v = .float k b ∧ y = (.lit (.float k b), []) ∧ (Lit.float k b).wf = true := by
  cases n with
  | zero => simp [DataW.trod] at h
  | succ n =>
    unfold DataW.trod at h
    rw [ht] at h
    cases v <;> simp at h
    rename_i k' b
    obtain ⟨⟨rfl, hw⟩, rfl⟩ := h
    exact ⟨b, rfl, rfl, hw⟩

theorem open_iv {r : Reach} {b0 : Nat} {t e : TypeId} {f0 f1 : Field} {v : Value} {d : DataW H} {ps : List MemPlace} (hs : P.underlying t = some (.struct #[f0, f1])) (hone : Go.Deep.oneCellFields P #[f0, f1] = true) (hC : P.cellsOf t = 2)
    (he : P.underlying e = some (.float .f64)) (h0 : f0.type = e) (h1 : f1.type = e) (hval : Value.okWide P w r b0 t v) (hd : DataW.Trod enc P w base sp held t v d ps) :
    ∃ a b : Nat, v = .agg #[.float .f64 a, .float .f64 b] ∧ d = .agg [.lit (.float .f64 a), .lit (.float .f64 b)] ∧ ps = [] ∧ (Lit.float .f64 a).wf = true ∧ (Lit.float .f64 b).wf = true := by
  obtain ⟨c0, c1, y0, y1, m, rfl, rfl, rfl, hy0, hy1⟩ := open_agg2 hs hone hC hval hd
  rw [h0] at hy0
  rw [h1] at hy1
  obtain ⟨a, rfl, rfl, w0⟩ := trod_float_at he hy0
  obtain ⟨b, rfl, rfl, w1⟩ := trod_float_at he hy1
  exact ⟨a, b, rfl, rfl, rfl, w0, w1⟩
theorem array5 {α : Type} {cs : Array α} (h : cs.size = 5) : ∃ c0 c1 c2 c3 c4, cs = #[c0, c1, c2, c3, c4] := by
  obtain ⟨l⟩ := cs
  match l, h with
  | [c0, c1, c2, c3, c4], _ => exact ⟨c0, c1, c2, c3, c4, rfl⟩
theorem iv_at {t e : TypeId} {g0 g1 : Field} {n : Nat} {c0 c1 : Value} {y : DataW H × List MemPlace} (hs : P.underlying t = some (.struct #[g0, g1])) (h0 : g0.type = e) (h1 : g1.type = e) (o0 : g0.offset = 0) (o1 : g1.offset = 1) (ce : P.cellsOf e = 1) (he : P.underlying e = some (.float .f64))
    (h : DataW.trod enc P w base sp held n t [c0, c1] = some y) : ∃ a b : Nat, c0 = .float .f64 a ∧ c1 = .float .f64 b ∧ y = (.agg [.lit (.float .f64 a), .lit (.float .f64 b)], []) ∧ (Lit.float .f64 a).wf = true ∧ (Lit.float .f64 b).wf = true := by
  obtain ⟨y0, y1, m, rfl, _, k0, k1⟩ := trod_struct2 hs h
  rw [h0, o0, ce] at k0
  rw [h1, o1, ce] at k1
  obtain ⟨a, rfl, rfl, w0⟩ := trod_float_at he (v := c0) (by simpa using k0)
  obtain ⟨b, rfl, rfl, w1⟩ := trod_float_at he (v := c1) (by simpa using k1)
  exact ⟨a, b, rfl, rfl, rfl, w0, w1⟩
/-- An op: its number, two intervals. -/
theorem open_op {r : Reach} {b0 : Nat} {t u i e : TypeId} {f0 f1 f2 g0 g1 : Field} {v : Value} {d : DataW H} {ps : List MemPlace} (hs : P.underlying t = some (.struct #[f0, f1, f2])) (hC : P.cellsOf t = 5) (h0 : f0.type = u) (o0 : f0.offset = 0) (cu : P.cellsOf u = 1) (hu : P.underlying u = some (.int .u8))
    (h1 : f1.type = i) (o1 : f1.offset = 1) (h2 : f2.type = i) (o2 : f2.offset = 3) (ci : P.cellsOf i = 2) (hi : P.underlying i = some (.struct #[g0, g1])) (k0 : g0.type = e) (k1 : g1.type = e) (p0 : g0.offset = 0) (p1 : g1.offset = 1) (ce : P.cellsOf e = 1) (he : P.underlying e = some (.float .f64))
    (hval : Value.okWide P w r b0 t v) (hd : DataW.Trod enc P w base sp held t v d ps) :
    ∃ (k : Int) (a b c f : Nat), v = .agg #[.int .u8 k, .float .f64 a, .float .f64 b, .float .f64 c, .float .f64 f] ∧ d = .agg [.lit (.int .u8 k), .agg [.lit (.float .f64 a), .lit (.float .f64 b)], .agg [.lit (.float .f64 c), .lit (.float .f64 f)]] ∧ ps = [] ∧
      (Lit.int .u8 k).wf = true ∧ (Lit.float .f64 a).wf = true ∧ (Lit.float .f64 b).wf = true ∧ (Lit.float .f64 c).wf = true ∧ (Lit.float .f64 f).wf = true := by
  obtain ⟨cs, rfl, hsz⟩ := okWide_struct hs hval
  obtain ⟨c0, c1, c2, c3, c4, rfl⟩ := array5 (hsz.trans hC)
  obtain ⟨fuel, hf⟩ := hd
  obtain ⟨y0, y1, y2, n, hx, _, q0, q1, q2⟩ := Go.Deep.trod_struct3 hs hf
  rw [h0, o0, cu] at q0
  rw [h1, o1, ci] at q1
  rw [h2, o2, ci] at q2
  obtain ⟨k, e0, rfl, z0⟩ := DataW.trod_int hu q0
  obtain ⟨a, b, rfl, rfl, rfl, z1, z2⟩ := iv_at hi k0 k1 p0 p1 ce he (c0 := c1) (c1 := c2) (by simpa [Value.cells] using q1)
  obtain ⟨c, f, rfl, rfl, rfl, z3, z4⟩ := iv_at hi k0 k1 p0 p1 ce he (c0 := c3) (c1 := c4) (by simpa [Value.cells] using q2)
  simp only [Prod.mk.injEq] at hx
  simp [Value.cells] at e0
  subst e0
  exact ⟨k, a, b, c, f, rfl, by simpa using hx.1, by simpa using hx.2, z0, z1, z2, z3, z4⟩
end
end Go.Proofs.Ytiphdhpacklboaa
