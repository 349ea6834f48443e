/- Arguments: triples of float64 opened. -/
import Derived.Test.YtiphdhpacklboaaOp
namespace Go.Proofs.Ytiphdhpacklboaa
open Go.ChangeShapes Go.WideShapes Go.ChangeAt Go.RowKit Go.Joins

section
variable {H : Type} {enc : TypeId × Value → H} {P : Program} {w : World} {base : Nat} {sp : Nat → Bool} {held : Bool}

theorem open_f3 {r : Reach} {b0 : Nat} {t e : TypeId} {f0 f1 f2 : Field} {v : Value} {d : DataW H} {ps : List MemPlace} (hs : P.underlying t = some (.struct #[f0, f1, f2])) (hone : Go.Deep.oneCellFields P #[f0, f1, f2] = true) (hC : P.cellsOf t = 3)
    (he : P.underlying e = some (.float .f64)) (h0 : f0.type = e) (h1 : f1.type = e) (h2 : f2.type = e) (hval : Value.okWide P w r b0 t v) (hd : DataW.Trod enc P w base sp held t v d ps) :
    ∃ a b c : Nat, v = .agg #[.float .f64 a, .float .f64 b, .float .f64 c] ∧ d = .agg [.lit (.float .f64 a), .lit (.float .f64 b), .lit (.float .f64 c)] ∧ ps = [] ∧ (Lit.float .f64 a).wf = true ∧ (Lit.float .f64 b).wf = true ∧ (Lit.float .f64 c).wf = true := by
  obtain ⟨c0, c1, c2, y0, y1, y2, m, rfl, rfl, rfl, hy0, hy1, hy2⟩ := open_agg3 hs hone hC hval hd
  rw [h0] at hy0
  rw [h1] at hy1
  rw [h2] at hy2
  obtain ⟨a, rfl, rfl, w0⟩ := trod_float_at he hy0
  obtain ⟨b, rfl, rfl, w1⟩ := trod_float_at he hy1
  obtain ⟨c, rfl, rfl, w2⟩ := trod_float_at he hy2
  exact ⟨a, b, c, rfl, rfl, rfl, w0, w1, w2⟩
end
end Go.Proofs.Ytiphdhpacklboaa
