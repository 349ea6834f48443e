/- Arguments: arrays of six, eight, ten whole numbers opened. -/
import Derived.Test.YtiphdhpacklboaaGreatOp
namespace Go.Proofs.YtiphdhpacklboaaGreat
open Go.ChangeShapes Go.WideShapes Go.ChangeAt Go.RowKit Go.Joins
section
variable {H : Type} {enc : TypeId × Value → H} {P : Program} {w : World} {base : Nat} {sp : Nat → Bool} {held : Bool}
theorem arrayU10 {α : Type} {cs : Array α} (h : cs.size = 10) : ∃ c0 c1 c2 c3 c4 c5 c6 c7 c8 c9, cs = #[c0, c1, c2, c3, c4, c5, c6, c7, c8, c9] := by
 obtain ⟨l⟩ := cs
 match l, h with
 | [c0, c1, c2, c3, c4, c5, c6, c7, c8, c9], _ => exact ⟨c0, c1, c2, c3, c4, c5, c6, c7, c8, c9, rfl⟩
theorem trod_arrayU10 {t e : TypeId} {fuel : Nat} {c0 c1 c2 c3 c4 c5 c6 c7 c8 c9 : Value} {x : DataW H × List MemPlace} (ht : P.underlying t = some (.array 10 e)) (hce : P.cellsOf e = 1)
  (h : DataW.trod enc P w base sp held fuel t [c0, c1, c2, c3, c4, c5, c6, c7, c8, c9] = some x) :
  ∃ y0 y1 y2 y3 y4 y5 y6 y7 y8 y9 n, x = (.agg [y0.1, y1.1, y2.1, y3.1, y4.1, y5.1, y6.1, y7.1, y8.1, y9.1], y0.2 ++ (y1.2 ++ (y2.2 ++ (y3.2 ++ (y4.2 ++ (y5.2 ++ (y6.2 ++ (y7.2 ++ (y8.2 ++ y9.2))))))))) ∧ DataW.trod enc P w base sp held n e [c0] = some y0 ∧ DataW.trod enc P w base sp held n e [c1] = some y1 ∧ DataW.trod enc P w base sp held n e [c2] = some y2 ∧ DataW.trod enc P w base sp held n e [c3] = some y3 ∧ DataW.trod enc P w base sp held n e [c4] = some y4 ∧ DataW.trod enc P w base sp held n e [c5] = some y5 ∧ DataW.trod enc P w base sp held n e [c6] = some y6 ∧ DataW.trod enc P w base sp held n e [c7] = some y7 ∧ DataW.trod enc P w base sp held n e [c8] = some y8 ∧ DataW.trod enc P w base sp held n e [c9] = some y9 := by
 cases fuel with
 | zero => simp [DataW.trod] at h
 | succ n =>
  unfold DataW.trod at h
  rw [ht] at h
  have r : List.range 10 = [0, 1, 2, 3, 4, 5, 6, 7, 8, 9] := rfl
  simp [r, hce] at h
  obtain ⟨_, h⟩ := h
  cases h0 : DataW.trod enc P w base sp held n e [c0] with
  | none => simp [h0] at h
  | some y0 =>
   cases h1 : DataW.trod enc P w base sp held n e [c1] with
   | none => simp [h0, h1] at h
   | some y1 =>
    cases h2 : DataW.trod enc P w base sp held n e [c2] with
    | none => simp [h0, h1, h2] at h
    | some y2 =>
     cases h3 : DataW.trod enc P w base sp held n e [c3] with
     | none => simp [h0, h1, h2, h3] at h
     | some y3 =>
      cases h4 : DataW.trod enc P w base sp held n e [c4] with
      | none => simp [h0, h1, h2, h3, h4] at h
      | some y4 =>
       cases h5 : DataW.trod enc P w base sp held n e [c5] with
       | none => simp [h0, h1, h2, h3, h4, h5] at h
       | some y5 =>
        cases h6 : DataW.trod enc P w base sp held n e [c6] with
        | none => simp [h0, h1, h2, h3, h4, h5, h6] at h
        | some y6 =>
         cases h7 : DataW.trod enc P w base sp held n e [c7] with
         | none => simp [h0, h1, h2, h3, h4, h5, h6, h7] at h
         | some y7 =>
          cases h8 : DataW.trod enc P w base sp held n e [c8] with
          | none => simp [h0, h1, h2, h3, h4, h5, h6, h7, h8] at h
          | some y8 =>
           cases h9 : DataW.trod enc P w base sp held n e [c9] with
           | none => simp [h0, h1, h2, h3, h4, h5, h6, h7, h8, h9] at h
           | some y9 =>
            simp [h0, h1, h2, h3, h4, h5, h6, h7, h8, h9] at h
            exact ⟨y0, y1, y2, y3, y4, y5, y6, y7, y8, y9, n, h.symm, h0, h1, h2, h3, h4, h5, h6, h7, h8, h9⟩
theorem open_u10 {r : Reach} {b0 : Nat} {t e : TypeId} {v : Value} {d : DataW H} {ps : List MemPlace} (ht : P.underlying t = some (.array 10 e)) (he : P.underlying e = some (.int .u32)) (hce : P.cellsOf e = 1) (hct : P.cellsOf t = 10)
  (hval : Value.okWide P w r b0 t v) (hd : DataW.Trod enc P w base sp held t v d ps) :
  ∃ a0 a1 a2 a3 a4 a5 a6 a7 a8 a9 : Int, v = .agg #[.int .u32 a0, .int .u32 a1, .int .u32 a2, .int .u32 a3, .int .u32 a4, .int .u32 a5, .int .u32 a6, .int .u32 a7, .int .u32 a8, .int .u32 a9] ∧ d = .agg [.lit (.int .u32 a0), .lit (.int .u32 a1), .lit (.int .u32 a2), .lit (.int .u32 a3), .lit (.int .u32 a4), .lit (.int .u32 a5), .lit (.int .u32 a6), .lit (.int .u32 a7), .lit (.int .u32 a8), .lit (.int .u32 a9)] ∧ ps = [] ∧ (Lit.int .u32 a0).wf = true ∧ (Lit.int .u32 a1).wf = true ∧ (Lit.int .u32 a2).wf = true ∧ (Lit.int .u32 a3).wf = true ∧ (Lit.int .u32 a4).wf = true ∧ (Lit.int .u32 a5).wf = true ∧ (Lit.int .u32 a6).wf = true ∧ (Lit.int .u32 a7).wf = true ∧ (Lit.int .u32 a8).wf = true ∧ (Lit.int .u32 a9).wf = true := by
 simp only [Value.okWide, ht] at hval
 obtain ⟨cs, rfl, hsz, _⟩ := hval
 obtain ⟨c0, c1, c2, c3, c4, c5, c6, c7, c8, c9, rfl⟩ := arrayU10 (hsz.trans hct)
 obtain ⟨fuel, hf⟩ := hd
 obtain ⟨y0, y1, y2, y3, y4, y5, y6, y7, y8, y9, n, hx, h0, h1, h2, h3, h4, h5, h6, h7, h8, h9⟩ := trod_arrayU10 (c0 := c0) (c1 := c1) (c2 := c2) (c3 := c3) (c4 := c4) (c5 := c5) (c6 := c6) (c7 := c7) (c8 := c8) (c9 := c9) ht hce (by simpa [Value.cells] using hf)
 obtain ⟨a0, e0, rfl, w0⟩ := DataW.trod_int he h0
 obtain ⟨a1, e1, rfl, w1⟩ := DataW.trod_int he h1
 obtain ⟨a2, e2, rfl, w2⟩ := DataW.trod_int he h2
 obtain ⟨a3, e3, rfl, w3⟩ := DataW.trod_int he h3
 obtain ⟨a4, e4, rfl, w4⟩ := DataW.trod_int he h4
 obtain ⟨a5, e5, rfl, w5⟩ := DataW.trod_int he h5
 obtain ⟨a6, e6, rfl, w6⟩ := DataW.trod_int he h6
 obtain ⟨a7, e7, rfl, w7⟩ := DataW.trod_int he h7
 obtain ⟨a8, e8, rfl, w8⟩ := DataW.trod_int he h8
 obtain ⟨a9, e9, rfl, w9⟩ := DataW.trod_int he h9
 simp only [Prod.mk.injEq] at hx
 simp at e0 e1 e2 e3 e4 e5 e6 e7 e8 e9
 subst e0 e1 e2 e3 e4 e5 e6 e7 e8 e9
 exact ⟨a0, a1, a2, a3, a4, a5, a6, a7, a8, a9, rfl, by simpa using hx.1, by simpa using hx.2, w0, w1, w2, w3, w4, w5, w6, w7, w8, w9⟩
end
end Go.Proofs.YtiphdhpacklboaaGreat
