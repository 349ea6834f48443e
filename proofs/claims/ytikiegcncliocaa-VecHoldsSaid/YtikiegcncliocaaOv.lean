/- Arguments: arrays of six uint16, vectors of intervals opened. -/
import Derived.Test.YtikiegcncliocaaOp
namespace Go.Proofs.Ytikiegcncliocaa
open Go.ChangeShapes Go.WideShapes Go.ChangeAt Go.RowKit Go.Joins

section
variable {H : Type} {enc : TypeId × Value → H} {P : Program} {w : World} {base : Nat} {sp : Nat → Bool} {held : Bool}
theorem arrayH6 {α : Type} {cs : Array α} (h : cs.size = 6) : ∃ c0 c1 c2 c3 c4 c5, cs = #[c0, c1, c2, c3, c4, c5] := by
  obtain ⟨l⟩ := cs
  match l, h with
  | [c0, c1, c2, c3, c4, c5], _ => exact ⟨c0, c1, c2, c3, c4, c5, rfl⟩
theorem trod_arrayH6 {t e : TypeId} {fuel : Nat} {c0 c1 c2 c3 c4 c5 : Value} {x : DataW H × List MemPlace} (ht : P.underlying t = some (.array 6 e)) (hce : P.cellsOf e = 1)
    (h : DataW.trod enc P w base sp held fuel t [c0, c1, c2, c3, c4, c5] = some x) :
    ∃ y0 y1 y2 y3 y4 y5 n, x = (.agg [y0.1, y1.1, y2.1, y3.1, y4.1, y5.1], y0.2 ++ (y1.2 ++ (y2.2 ++ (y3.2 ++ (y4.2 ++ y5.2))))) ∧ DataW.trod enc P w base sp held n e [c0] = some y0 ∧ DataW.trod enc P w base sp held n e [c1] = some y1 ∧ DataW.trod enc P w base sp held n e [c2] = some y2 ∧ DataW.trod enc P w base sp held n e [c3] = some y3 ∧ DataW.trod enc P w base sp held n e [c4] = some y4 ∧ DataW.trod enc P w base sp held n e [c5] = some y5 := by
  cases fuel with
  | zero => simp [DataW.trod] at h
  | succ n =>
    unfold DataW.trod at h
    rw [ht] at h
    have r : List.range 6 = [0, 1, 2, 3, 4, 5] := rfl
    simp [r, hce] at h
    obtain ⟨_, h⟩ := h
    cases h0 : DataW.trod enc P w base sp held n e [c0] with
    | none => simp [h0] at h
    | some y0 =>
      cases h1 : DataW.trod enc P w base sp held n e [c1] with
      | none => simp [h0, h1] at h
      | some y1 =>
        cases h2 : DataW.trod enc P w base sp held n e [c2] with
        | none => simp [h0, h1, h2] at h
        | some y2 =>
          cases h3 : DataW.trod enc P w base sp held n e [c3] with
          | none => simp [h0, h1, h2, h3] at h
          | some y3 =>
            cases h4 : DataW.trod enc P w base sp held n e [c4] with
            | none => simp [h0, h1, h2, h3, h4] at h
            | some y4 =>
              cases h5 : DataW.trod enc P w base sp held n e [c5] with
              | none => simp [h0, h1, h2, h3, h4, h5] at h
              | some y5 =>
                simp [h0, h1, h2, h3, h4, h5] at h
                exact ⟨y0, y1, y2, y3, y4, y5, n, h.symm, h0, h1, h2, h3, h4, h5⟩
theorem open_h6 {r : Reach} {b0 : Nat} {t e : TypeId} {v : Value} {d : DataW H} {ps : List MemPlace} (ht : P.underlying t = some (.array 6 e)) (he : P.underlying e = some (.int .u16)) (hce : P.cellsOf e = 1) (hct : P.cellsOf t = 6)
    (hval : Value.okWide P w r b0 t v) (hd : DataW.Trod enc P w base sp held t v d ps) :
    ∃ a0 a1 a2 a3 a4 a5 : Int, v = .agg #[.int .u16 a0, .int .u16 a1, .int .u16 a2, .int .u16 a3, .int .u16 a4, .int .u16 a5] ∧ d = .agg [.lit (.int .u16 a0), .lit (.int .u16 a1), .lit (.int .u16 a2), .lit (.int .u16 a3), .lit (.int .u16 a4), .lit (.int .u16 a5)] ∧ ps = [] ∧ (Lit.int .u16 a0).wf = true ∧ (Lit.int .u16 a1).wf = true ∧ (Lit.int .u16 a2).wf = true ∧ (Lit.int .u16 a3).wf = true ∧ (Lit.int .u16 a4).wf = true ∧ (Lit.int .u16 a5).wf = true := by
  simp only [Value.okWide, ht] at hval
  obtain ⟨cs, rfl, hsz, _⟩ := hval
  obtain ⟨c0, c1, c2, c3, c4, c5, rfl⟩ := arrayH6 (hsz.trans hct)
  obtain ⟨fuel, hf⟩ := hd
  obtain ⟨y0, y1, y2, y3, y4, y5, n, hx, h0, h1, h2, h3, h4, h5⟩ := trod_arrayH6 (c0 := c0) (c1 := c1) (c2 := c2) (c3 := c3) (c4 := c4) (c5 := c5) ht hce (by simpa [Value.cells] using hf)
  obtain ⟨a0, e0, rfl, w0⟩ := DataW.trod_int he h0
  obtain ⟨a1, e1, rfl, w1⟩ := DataW.trod_int he h1
  obtain ⟨a2, e2, rfl, w2⟩ := DataW.trod_int he h2
  obtain ⟨a3, e3, rfl, w3⟩ := DataW.trod_int he h3
  obtain ⟨a4, e4, rfl, w4⟩ := DataW.trod_int he h4
  obtain ⟨a5, e5, rfl, w5⟩ := DataW.trod_int he h5
  simp only [Prod.mk.injEq] at hx
  simp at e0 e1 e2 e3 e4 e5
  subst e0 e1 e2 e3 e4 e5
  exact ⟨a0, a1, a2, a3, a4, a5, rfl, by simpa using hx.1, by simpa using hx.2, w0, w1, w2, w3, w4, w5⟩
theorem open_vec {r : Reach} {b0 : Nat} {t i e : TypeId} {f0 f1 f2 g0 g1 : Field} {v : Value} {d : DataW H} {ps : List MemPlace} (hs : P.underlying t = some (.struct #[f0, f1, f2])) (hC : P.cellsOf t = 6) (h0 : f0.type = i) (o0 : f0.offset = 0)
    (h1 : f1.type = i) (o1 : f1.offset = 2) (h2 : f2.type = i) (o2 : f2.offset = 4) (ci : P.cellsOf i = 2) (hi : P.underlying i = some (.struct #[g0, g1])) (k0 : g0.type = e) (k1 : g1.type = e) (p0 : g0.offset = 0) (p1 : g1.offset = 1) (ce : P.cellsOf e = 1) (he : P.underlying e = some (.float .f64))
    (hval : Value.okWide P w r b0 t v) (hd : DataW.Trod enc P w base sp held t v d ps) :
    ∃ (a b c f g h : Nat), v = .agg #[.float .f64 a, .float .f64 b, .float .f64 c, .float .f64 f, .float .f64 g, .float .f64 h] ∧ d = .agg [.agg [.lit (.float .f64 a), .lit (.float .f64 b)], .agg [.lit (.float .f64 c), .lit (.float .f64 f)], .agg [.lit (.float .f64 g), .lit (.float .f64 h)]] ∧ ps = [] ∧
      (Lit.float .f64 a).wf = true ∧ (Lit.float .f64 b).wf = true ∧ (Lit.float .f64 c).wf = true ∧ (Lit.float .f64 f).wf = true ∧ (Lit.float .f64 g).wf = true ∧ (Lit.float .f64 h).wf = true := by
  obtain ⟨cs, rfl, hsz⟩ := okWide_struct hs hval
  obtain ⟨c0, c1, c2, c3, c4, c5, rfl⟩ := arrayH6 (hsz.trans hC)
  obtain ⟨fuel, hf⟩ := hd
  obtain ⟨y0, y1, y2, n, hx, _, q0, q1, q2⟩ := Go.Deep.trod_struct3 hs hf
  rw [h0, o0, ci] at q0
  rw [h1, o1, ci] at q1
  rw [h2, o2, ci] at q2
  obtain ⟨a, b, rfl, rfl, rfl, z0, z1⟩ := iv_at hi k0 k1 p0 p1 ce he (c0 := c0) (c1 := c1) (by simpa [Value.cells] using q0)
  obtain ⟨c, f, rfl, rfl, rfl, z2, z3⟩ := iv_at hi k0 k1 p0 p1 ce he (c0 := c2) (c1 := c3) (by simpa [Value.cells] using q1)
  obtain ⟨g, h, rfl, rfl, rfl, z4, z5⟩ := iv_at hi k0 k1 p0 p1 ce he (c0 := c4) (c1 := c5) (by simpa [Value.cells] using q2)
  simp only [Prod.mk.injEq] at hx
  exact ⟨a, b, c, f, g, h, rfl, by simpa using hx.1, by simpa using hx.2, z0, z1, z2, z3, z4, z5⟩
end
end Go.Proofs.Ytikiegcncliocaa
