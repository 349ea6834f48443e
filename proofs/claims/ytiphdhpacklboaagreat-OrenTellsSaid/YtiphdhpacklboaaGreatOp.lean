/- Arguments: arrays of four whole numbers, intervals: opened and shut. -/
import Derived.Test.YtiphdhpacklboaaGreatProg
import Derived.WalkKit
import Derived.ProofKit
import Derived.OpenShut
import Derived.Laws.Cover2
import Derived.Lib.SmallJoins
import Derived.Laws.IdiomArrays
namespace Go.Proofs.YtiphdhpacklboaaGreat
open Go.ChangeShapes Go.WideShapes Go.ChangeAt Go.RowKit Go.Joins
section
variable {H : Type} {enc : TypeId × Value → H} {P : Program} {w : World} {base : Nat} {sp : Nat → Bool} {held : Bool}
theorem trod_float_at {t : TypeId} {k : FloatKind} {n : Nat} {v : Value} {y : DataW H × List MemPlace} (ht : P.underlying t = some (.float k)) (h : DataW.trod enc P w base sp held n t [v] = some y) :
  ∃ b, v = .float k b ∧ y = (.lit (.float k b), []) ∧ (Lit.float k b).wf = true := by
 cases n with
 | zero => simp [DataW.trod] at h
 | succ n =>
  unfold DataW.trod at h
  rw [ht] at h
  cases v <;> simp at h
  rename_i k' b
  obtain ⟨⟨rfl, hw⟩, rfl⟩ := h
  exact ⟨b, rfl, rfl, hw⟩
theorem iv_at {t e : TypeId} {g0 g1 : Field} {n : Nat} {c0 c1 : Value} {y : DataW H × List MemPlace} (hs : P.underlying t = some (.struct #[g0, g1])) (h0 : g0.type = e) (h1 : g1.type = e) (o0 : g0.offset = 0) (o1 : g1.offset = 1) (ce : P.cellsOf e = 1) (he : P.underlying e = some (.float .f64))
  (h : DataW.trod enc P w base sp held n t [c0, c1] = some y) : ∃ a b : Nat, c0 = .float .f64 a ∧ c1 = .float .f64 b ∧ y = (.agg [.lit (.float .f64 a), .lit (.float .f64 b)], []) ∧ (Lit.float .f64 a).wf = true ∧ (Lit.float .f64 b).wf = true := by
 obtain ⟨y0, y1, m, rfl, _, k0, k1⟩ := trod_struct2 hs h
 rw [h0, o0, ce] at k0
 rw [h1, o1, ce] at k1
 obtain ⟨a, rfl, rfl, w0⟩ := trod_float_at he (v := c0) (by simpa using k0)
 obtain ⟨b, rfl, rfl, w1⟩ := trod_float_at he (v := c1) (by simpa using k1)
 exact ⟨a, b, rfl, rfl, rfl, w0, w1⟩
end
end Go.Proofs.YtiphdhpacklboaaGreat
