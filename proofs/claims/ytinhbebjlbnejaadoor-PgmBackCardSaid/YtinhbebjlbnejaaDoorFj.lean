/- append onto the bytes of a converted string: its row bears a mark behind its last cell. -/
import Derived.Test.YtinhbebjlbnejaaDoorFf
import Derived.Lib.ConvBytes
import Derived.Lib.FrozenHead2
namespace Go.Proofs.YtinhbebjlbnejaaDoor
open Go Go.RowKit
open Go.Lib (hid)
set_option linter.unusedVariables false
set_option linter.unusedSimpArgs false

/-- Cells that are stored into a row whose mark lies behind it. -/
theorem storeCells_mark (P : Program) (g o : Nat) (t : TypeId) (fz : Nat × Nat) : ∀ (vs : List Value) (i : Nat) (cur : Array Value) (w : World), w.heap[g]? = some (.cells cur t fz) → cur.size ≤ fz.1 → o + i + vs.length ≤ cur.size → (∀ v ∈ vs, v.oneCell' = true) →
    (storeCells ⟨g, o, none⟩ vs i).run P w = .ok () (w.setRow g (cur.toList.take (o + i) ++ vs ++ cur.toList.drop (o + i + vs.length)).toArray) := by
  intro vs
  induction vs with
  | nil =>
    intro i cur w hg _ _ _
    simp only [storeCells, List.append_nil, List.length_nil, Nat.add_zero, List.take_append_drop, Array.toArray_toList]
    rw [setRow_self w g cur t fz hg]
    rfl
  | cons v rest IH =>
    intro i cur w hg hm hl h1
    have hi : o + i < cur.size := by simp at hl; omega
    have hadd : (⟨g, o, none⟩ : Addr).add i = ⟨g, o + i, none⟩ := by unfold Addr.add; split <;> simp_all
    have hcell : w.cell? ⟨g, o + i, none⟩ = some cur[o + i] := by simp [World.cell?, hg, hi]
    have hfro : w.frozen? ⟨g, o + i, none⟩ = false := by
      obtain ⟨lo, hi'⟩ := fz
      simp only [World.frozen?, hg, Bool.and_eq_false_iff, decide_eq_false_iff_not]
      left
      simp only at hm
      omega
    have hst : (store ((⟨g, o, none⟩ : Addr).add i) v).run P w = .ok () (w.setRow g (cur.setIfInBounds (o + i) v)) := by
      rw [hadd, run_store P w _ v _ (h1 v (by simp)), hcell]
      simp [hfro, setCell_eq_setRow w g (o + i) cur t fz v hg]
    have ih := IH (i + 1) (cur.setIfInBounds (o + i) v) (w.setRow g (cur.setIfInBounds (o + i) v)) (setRow_heap w g cur _ t _ hg) (by simpa using hm) (by simp at hl ⊢; omega) (fun x hx => h1 x (by simp [hx]))
    simp only [storeCells, Sem.run_bind, hst, Result.andThen_ok, ih, setRow_setRow]
    congr 3
    have e := list_seg_step cur.toList (o + i) v rest (by simp at hl ⊢; omega)
    simpa [Array.toList_setIfInBounds, Nat.add_assoc] using e

/-- Bytes that a slice holds, from a block on; all of them may be written. -/
structure Own (w : World) (base : Nat) (v : Value) (l : List UInt8) : Prop where
  ex : ∃ g cap, v = .slice (some ⟨g, 0, none⟩) l.length cap ∧ l.length ≤ cap ∧ base ≤ g ∧ g < w.heap.size ∧ (∀ i x, l[i]? = some x → w.cell? ⟨g, i, none⟩ = some (.int .u8 (x.toNat : Int))) ∧ ∀ i, i < l.length → w.frozen? ⟨g, i, none⟩ = false

theorem Own.byt {w : World} {base : Nat} {v : Value} {l : List UInt8} (h : Own w base v l) : ∃ ao c, v = .slice ao l.length c ∧ l.length ≤ c ∧ Byt w ao l := by
  obtain ⟨g, cap, rfl, hc, _, hw, hcell, _⟩ := h.ex
  exact ⟨_, cap, rfl, hc, .inr ⟨g, 0, rfl, hw, fun i x hi => by rw [Nat.zero_add]; exact hcell i x hi⟩⟩

theorem add0 (g j : Nat) : (⟨g, 0, none⟩ : Addr).add j = ⟨g, j, none⟩ := by unfold Addr.add; split <;> simp_all

/-- append of bytes onto a converted string's row. -/
theorem append_mark (w : World) (i : TypeInfo) (hi : Tryd.prog.info? 5 = some i) (hz0 : i.zero = some (.int .u8 0)) (hz1 : i.size = 1) (hz2 : i.bytes = 1) (ty : TypeId)
    (g cap : Nat) (cur : Array Value) (fz : Nat × Nat) (hg : w.heap[g]? = some (.cells cur 5 fz)) (hcs : cur.size = cap) (hfz : cap ≤ fz.1) (xs : List UInt8) (hx : cur.toList.take xs.length = Lib.byteCells xs) (hxc : xs.length ≤ cap)
    (b o m c : Nat) (ys : List UInt8) (hy : ys.length = m) (hys : ∀ j x, ys[j]? = some x → w.cell? ⟨b, o + j, none⟩ = some (.int .u8 (x.toNat : Int))) (hbig : xs.length + m ≤ 140737488355328) :
    ∃ v w', (Builtin.append_ #[22, 22] ty #[.slice (some ⟨g, 0, none⟩) xs.length cap, .slice (some ⟨b, o, none⟩) m c]).run Tryd.prog w = .ok v w' ∧ Own w' g v (xs ++ ys) ∧ w.grownBy w' (some g) := by
  have hl : (Lib.byteCells ys).length = m * i.size := by rw [Lib.byteCells_length, hz1, hy, Nat.mul_one]
  have hnews : ∀ j u, (Lib.byteCells ys)[j]? = some u → w.cell? ((⟨b, o, none⟩ : Addr).add j) = some u := by
    intro j u hu
    obtain ⟨x, hx, rfl⟩ := byteCells_at hu
    rw [Addr.add_lit]
    exact hys j x hx
  have h1 : ∀ u ∈ Lib.byteCells ys, u.oneCell' = true := fun u hu => byteCells_one hu
  have hglt : g < w.heap.size := (Array.getElem?_eq_some_iff.1 hg).1
  have hlen : (Lib.byteCells (xs ++ ys)).length = xs.length + m := by rw [Lib.byteCells_length, List.length_append, hy]
  have hat : ∀ (j : Nat) (x : UInt8), (xs ++ ys)[j]? = some x → (Lib.byteCells (xs ++ ys))[j]? = some (Value.int .u8 (x.toNat : Int)) := by
    intro j x hj
    unfold Lib.byteCells
    rw [List.getElem?_map, hj]; rfl
  by_cases hroom : xs.length + m ≤ cap
  · have hf := run_firstCells_some (P := Tryd.prog) w i.size m ⟨b, o, none⟩ m c _ hl hnews
    have hst := storeCells_mark Tryd.prog g xs.length 5 fz (Lib.byteCells ys) 0 cur w hg (by omega) (by rw [Lib.byteCells_length]; omega) h1
    simp only [Nat.add_zero, List.append_assoc] at hst
    rw [hz1] at hf
    refine ⟨Value.slice (some ⟨g, 0, none⟩) (xs.length + m) cap, w.setRow g (cur.toList.take xs.length ++ Lib.byteCells ys ++ cur.toList.drop (xs.length + (Lib.byteCells ys).length)).toArray, by simp [Builtin.append_, run_underlying Tryd.underlying22, sizeOf, typeInfo, hi, Builtin.lenOf, hroom, hf, hz1, Addr.add_lit, hst], ?_, ⟨rfl, rfl, rfl, by simp, fun k _ hk => setRow_other w g k _ (fun e => hk (by rw [e]))⟩⟩
    have hrow := setRow_heap w g cur (cur.toList.take xs.length ++ Lib.byteCells ys ++ cur.toList.drop (xs.length + (Lib.byteCells ys).length)).toArray 5 fz hg
    refine ⟨g, cap, by rw [List.length_append, hy], by rw [List.length_append]; omega, Nat.le_refl _, by simpa using hglt, fun j x hj => ?_, fun j hj => ?_⟩
    · have hjl : j < (Lib.byteCells (xs ++ ys)).length := by
        have := (List.getElem?_eq_some_iff.1 hj).1
        rw [Lib.byteCells_length]; exact this
      rw [Lib.cell_of_heap hrow, hx, ← Lib.byteCells_append, List.getElem?_toArray, List.getElem?_append_left hjl]
      exact hat j x hj
    · rw [List.length_append] at hj
      unfold World.frozen?
      simp only [hrow, Bool.and_eq_false_iff, decide_eq_false_iff_not]
      left
      omega
  · have holds : ∀ j u, (Lib.byteCells xs)[j]? = some u → w.cell? ((⟨g, 0, none⟩ : Addr).add j) = some u := by
      intro j u hu
      rw [add0, Lib.cell_of_heap hg, ← Array.getElem?_toList]
      rw [← hx, List.getElem?_take] at hu
      split at hu
      · exact hu
      · cases hu
    have hr := run_append_grow (P := Tryd.prog) w 22 ty 5 i (.int .u8 0) Tryd.underlying22 hi hz0 ⟨g, 0, none⟩ xs.length cap _ (by rw [Lib.byteCells_length, hz1, Nat.mul_one]) holds ⟨b, o, none⟩ m c _ hl hnews (by omega) (by omega) (growslice_fits (by omega) (by rw [hz2]; omega))
    have hge := grownCap_ge w (xs.length + m) cap 5
    have hrow := heap_alloc_new w.drew (.cells ((Lib.byteCells xs).toArray ++ (Lib.byteCells ys).toArray ++ Builtin.zeroCells (Value.int .u8 0).cells (grownCap w (xs.length + m) cap 5 - (xs.length + m))) 5)
    refine ⟨_, _, hr, ⟨w.heap.size, _, by rw [List.length_append, hy], by rw [List.length_append, hy]; exact hge, Nat.le_of_lt hglt, by simp, fun j x hj => ?_, fun j hj => ?_⟩, ⟨rfl, rfl, rfl, by simp, fun k hk _ => heap_alloc_old w.drew _ hk⟩⟩
    · have hjl : j < (Lib.byteCells (xs ++ ys)).length := by
        have := (List.getElem?_eq_some_iff.1 hj).1
        rw [Lib.byteCells_length]; exact this
      rw [show w.heap.size = w.drew.heap.size from rfl, Lib.cell_of_heap hrow, ← Array.getElem?_toList]
      simp only [Array.toList_append]
      rw [← Lib.byteCells_append, List.getElem?_append_left hjl]
      exact hat j x hj
    · rw [show w.heap.size = w.drew.heap.size from rfl]
      exact Lib.frozen_of_heap hrow j
end Go.Proofs.YtinhbebjlbnejaaDoor
