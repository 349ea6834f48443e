/- Walks: burnishlaw28.Same, Made. -/
import Derived.Test.YtinhbebjlbnejaaDoorFm
import Derived.Laws.BytesString
import Derived.Laws.OwnMore
namespace Go.Proofs.YtinhbebjlbnejaaDoor
open Go Go.RowKit
open Go.Lib (hid)
set_option linter.unusedSimpArgs false
set_option linter.unusedVariables false

theorem conv_any (w : World) (ao : Option Addr) (n c : Nat) (l : List UInt8) (hn : l.length = n) (hb : Byt w ao l) :
    (convert 22 9 (.slice ao n c)).run Tryd.prog w = .ok (.string ⟨l.toArray⟩) w := by
  rcases hb with rfl | ⟨b, o, rfl, _, hc⟩
  · simp only [List.length_nil] at hn
    subst hn
    rw [run_convert_bytes_string w _ _ _ _ 0 c Tryd.underlying22 Tryd.underlying5 Tryd.underlying9]
    cases ao <;> simp [Conv.bytesToString, loadCells]
    all_goals rfl
  · exact conv_bytes w b o n c l hn hc
theorem own_byt {w : World} {B n : Nat} {v : Value} {l : List UInt8} (h : w.ownsRow B 5 1 v n (Lib.byteCells l)) (hn : n = l.length) : ∃ ao c, v = .slice ao l.length c ∧ l.length ≤ c ∧ Byt w ao l := by
  subst hn
  have h0 := h
  rcases h.2 with ⟨rfl, hz⟩ | ⟨g, cap, cur, rfl, hb, hg, h3⟩
  · exact ⟨none, 0, by rw [hz], by omega, .inl (List.length_eq_zero_iff.1 hz)⟩
  · refine ⟨_, cap, rfl, h3.1, .inr ⟨g, 0, rfl, (Array.getElem?_eq_some_iff.1 hg).1, fun i x hi => ?_⟩⟩
    have hil : i < l.length := (List.getElem?_eq_some_iff.1 hi).1
    rw [Nat.zero_add, h0.cellAt i (by omega)]
    unfold Lib.byteCells
    rw [List.getElem?_map, hi]
    rfl

theorem str_eq (l l' : List UInt8) : ((⟨l.toArray⟩ : ByteArray).toList == (⟨l'.toArray⟩ : ByteArray).toList) = decide (l = l') := by
  rw [ByteArray.toList_eq, ByteArray.toList_eq]
  show (l == l') = _
  by_cases h : l = l'
  · subst h; simp
  · rw [decide_eq_false h, beq_eq_false_iff_ne]; exact h

set_option maxRecDepth 100000 in
set_option maxHeartbeats 4000000 in
theorem same_any (W H W' H' : Int) (ao ao' : Option Addr) (n n' c c' : Nat) (l l' : List UInt8) (w : World) (hn : l.length = n) (hn' : l'.length = n') (hb : Byt w ao l) (hb' : Byt w ao' l') :
    Calls Tryd.prog 13 #[.agg #[.int .i64 W, .int .i64 H, .slice ao n c], .agg #[.int .i64 W', .int .i64 H', .slice ao' n' c']] w fun e w' =>
      e = .returned (.bool (decide (W = W' ∧ H = H' ∧ l = l'))) ∧ Below w.heap.size w w' := by
  have h1 : ∀ X, Below w.heap.size w X → (convert 22 9 (.slice ao n c)).run Tryd.prog X = .ok (.string ⟨l.toArray⟩) X := fun X hX => conv_any X ao n c l hn (hb.below hX)
  have h2 : ∀ X, Below w.heap.size w X → (convert 22 9 (.slice ao' n' c')).run Tryd.prog X = .ok (.string ⟨l'.toArray⟩) X := fun X hX => conv_any X ao' n' c' l' hn' (hb'.below hX)
  have hB : Below w.heap.size w ((w.alloc (.cells #[.int .i64 W, .int .i64 H, .slice ao n c] 25)).alloc (.cells #[.int .i64 W', .int .i64 H', .slice ao' n' c'] 25)) := ((Below.refl _ _).alloc (Nat.le_refl _) _).alloc (by simp) _
  replace h1 := h1 _ hB
  replace h2 := h2 _ hB
  clear hb hb' hn hn'
  obtain ⟨S, hS⟩ : ∃ S : ByteArray, S = ⟨l.toArray⟩ := ⟨_, rfl⟩
  obtain ⟨S', hS'⟩ : ∃ S : ByteArray, S = ⟨l'.toArray⟩ := ⟨_, rfl⟩
  have hst : (S.toList == S'.toList) = decide (l = l') := by rw [hS, hS']; exact str_eq l l'
  rw [← hS] at h1
  rw [← hS'] at h2
  replace hS := hid hS
  replace hS' := hid hS'
  by_cases e1 : W = W'
  · subst e1
    by_cases e2 : H = H'
    · subst e2
      go_enter Tryd.func13, Tryd.ntmps13
      go_wp2
      go_ret
      exact ⟨by simp [hst], hB⟩
    · have hH : (H == H') = false := by simpa using e2
      go_enter Tryd.func13, Tryd.ntmps13
      go_wp2
      go_ret
      exact ⟨by simp [e2], hB⟩
  · have hW : (W == W') = false := by simpa using e1
    go_enter Tryd.func13, Tryd.ntmps13
    go_wp2
    go_ret
    exact ⟨by simp [e1], hB⟩
end Go.Proofs.YtinhbebjlbnejaaDoor
