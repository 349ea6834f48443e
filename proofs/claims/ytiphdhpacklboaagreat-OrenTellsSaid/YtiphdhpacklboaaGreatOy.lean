/- Arguments: an ask of five intervals opened. -/
import Derived.Test.YtiphdhpacklboaaGreatOq
import Derived.Deep.Strs
namespace Go.Proofs.YtiphdhpacklboaaGreat
open Go.ChangeShapes Go.WideShapes Go.ChangeAt Go.RowKit Go.Joins
section
variable {H : Type} {enc : TypeId × Value → H} {P : Program} {w : World} {base : Nat} {sp : Nat → Bool} {held : Bool}
theorem trod_struct5 {t : TypeId} {f0 f1 f2 f3 f4 : Field} {fuel : Nat} {cs : List Value} {x : DataW H × List MemPlace} (ht : P.underlying t = some (.struct #[f0, f1, f2, f3, f4])) (h : DataW.trod enc P w base sp held fuel t cs = some x) :
  ∃ y0 y1 y2 y3 y4 n, x = (.agg [y0.1, y1.1, y2.1, y3.1, y4.1], y0.2 ++ (y1.2 ++ (y2.2 ++ (y3.2 ++ y4.2)))) ∧ DataW.trod enc P w base sp held n f0.type ((cs.drop f0.offset).take (P.cellsOf f0.type)) = some y0 ∧
   DataW.trod enc P w base sp held n f1.type ((cs.drop f1.offset).take (P.cellsOf f1.type)) = some y1 ∧ DataW.trod enc P w base sp held n f2.type ((cs.drop f2.offset).take (P.cellsOf f2.type)) = some y2 ∧
   DataW.trod enc P w base sp held n f3.type ((cs.drop f3.offset).take (P.cellsOf f3.type)) = some y3 ∧ DataW.trod enc P w base sp held n f4.type ((cs.drop f4.offset).take (P.cellsOf f4.type)) = some y4 := by
 obtain ⟨xs, n, _, rfl, hl, hlen, hf⟩ := DataW.trod_struct ht h
 match xs, hlen with
 | [y0, y1, y2, y3, y4], _ => exact ⟨y0, y1, y2, y3, y4, n, by simp, by simpa using hf 0 f0 rfl, by simpa using hf 1 f1 rfl, by simpa using hf 2 f2 rfl, by simpa using hf 3 f3 rfl, by simpa using hf 4 f4 rfl⟩
theorem open_ask {r : Reach} {b0 : Nat} {t i e : TypeId} {f0 f1 f2 f3 f4 g0 g1 : Field} {v : Value} {d : DataW H} {ps : List MemPlace} (hs : P.underlying t = some (.struct #[f0, f1, f2, f3, f4])) (hC : P.cellsOf t = 10) (h0 : f0.type = i) (o0 : f0.offset = 0) (h1 : f1.type = i) (o1 : f1.offset = 2) (h2 : f2.type = i) (o2 : f2.offset = 4) (h3 : f3.type = i) (o3 : f3.offset = 6) (h4 : f4.type = i) (o4 : f4.offset = 8) (ci : P.cellsOf i = 2) (hi : P.underlying i = some (.struct #[g0, g1])) (k0 : g0.type = e) (k1 : g1.type = e) (p0 : g0.offset = 0) (p1 : g1.offset = 1) (ce : P.cellsOf e = 1) (he : P.underlying e = some (.float .f64))
  (hval : Value.okWide P w r b0 t v) (hd : DataW.Trod enc P w base sp held t v d ps) :
  ∃ (a0 a1 a2 a3 a4 a5 a6 a7 a8 a9 : Nat), v = .agg #[.float .f64 a0, .float .f64 a1, .float .f64 a2, .float .f64 a3, .float .f64 a4, .float .f64 a5, .float .f64 a6, .float .f64 a7, .float .f64 a8, .float .f64 a9] ∧ d = .agg [.agg [.lit (.float .f64 a0), .lit (.float .f64 a1)], .agg [.lit (.float .f64 a2), .lit (.float .f64 a3)], .agg [.lit (.float .f64 a4), .lit (.float .f64 a5)], .agg [.lit (.float .f64 a6), .lit (.float .f64 a7)], .agg [.lit (.float .f64 a8), .lit (.float .f64 a9)]] ∧ ps = [] ∧
   (Lit.float .f64 a0).wf = true ∧ (Lit.float .f64 a1).wf = true ∧ (Lit.float .f64 a2).wf = true ∧ (Lit.float .f64 a3).wf = true ∧ (Lit.float .f64 a4).wf = true ∧ (Lit.float .f64 a5).wf = true ∧ (Lit.float .f64 a6).wf = true ∧ (Lit.float .f64 a7).wf = true ∧ (Lit.float .f64 a8).wf = true ∧ (Lit.float .f64 a9).wf = true := by
 obtain ⟨cs, rfl, hsz⟩ := okWide_struct hs hval
 obtain ⟨c0, c1, c2, c3, c4, c5, c6, c7, c8, c9, rfl⟩ := arrayU10 (hsz.trans hC)
 obtain ⟨fuel, hf⟩ := hd
 obtain ⟨y0, y1, y2, y3, y4, n, hx, q0, q1, q2, q3, q4⟩ := trod_struct5 hs hf
 rw [h0, o0, ci] at q0
 rw [h1, o1, ci] at q1
 rw [h2, o2, ci] at q2
 rw [h3, o3, ci] at q3
 rw [h4, o4, ci] at q4
 obtain ⟨a0, a1, rfl, rfl, rfl, z0, z1⟩ := iv_at hi k0 k1 p0 p1 ce he (c0 := c0) (c1 := c1) (by simpa [Value.cells] using q0)
 obtain ⟨a2, a3, rfl, rfl, rfl, z2, z3⟩ := iv_at hi k0 k1 p0 p1 ce he (c0 := c2) (c1 := c3) (by simpa [Value.cells] using q1)
 obtain ⟨a4, a5, rfl, rfl, rfl, z4, z5⟩ := iv_at hi k0 k1 p0 p1 ce he (c0 := c4) (c1 := c5) (by simpa [Value.cells] using q2)
 obtain ⟨a6, a7, rfl, rfl, rfl, z6, z7⟩ := iv_at hi k0 k1 p0 p1 ce he (c0 := c6) (c1 := c7) (by simpa [Value.cells] using q3)
 obtain ⟨a8, a9, rfl, rfl, rfl, z8, z9⟩ := iv_at hi k0 k1 p0 p1 ce he (c0 := c8) (c1 := c9) (by simpa [Value.cells] using q4)
 simp only [Prod.mk.injEq] at hx
 exact ⟨a0, a1, a2, a3, a4, a5, a6, a7, a8, a9, rfl, by simpa using hx.1, by simpa using hx.2, z0, z1, z2, z3, z4, z5, z6, z7, z8, z9⟩
end
end Go.Proofs.YtiphdhpacklboaaGreat
