/- Walks: burnishlaw28.PgmBack. -/
import Derived.Test.YtinhbebjlbnejaaDoorFr
namespace Go.Proofs.YtinhbebjlbnejaaDoor
open Go Go.RowKit
open Go.Lib (hid)
set_option linter.unusedSimpArgs false
set_option linter.unusedVariables false

/-- A picture's block, its levels. -/
structure PicN (b : Nat) (x y : Int) (ao : Option Addr) (n c : Nat) (l : List UInt8) (w : World) : Prop where
  blk : w.heap[b]? = some (picC (.int .i64 x) (.int .i64 y) (.slice ao n c))
  len : l.length = n
  le : n ≤ c
  byt : Byt w ao l
theorem PicN.below {b x y ao n c l A B} (h : PicN b x y ao n c l A) (hb : Below A.heap.size A B) : PicN b x y ao n c l B := ⟨box_keep h.blk hb, h.len, h.le, h.byt.below hb⟩
theorem PicN.k0 {b x y ao n c l A} (h : PicN b x y ao n c l A) : A.cell? ⟨b, 0, none⟩ = some (.int .i64 x) := by rw [Lib.cell_of_heap h.blk]; rfl
theorem PicN.k1 {b x y ao n c l A} (h : PicN b x y ao n c l A) : A.cell? ⟨b, 1, none⟩ = some (.int .i64 y) := by rw [Lib.cell_of_heap h.blk]; rfl
theorem PicN.k2 {b x y ao n c l A} (h : PicN b x y ao n c l A) : A.cell? ⟨b, 2, none⟩ = some (.slice ao n c) := by rw [Lib.cell_of_heap h.blk]; rfl
theorem PicN.f {b x y ao n c l A} (h : PicN b x y ao n c l A) (i : Nat) : A.frozen? ⟨b, i, none⟩ = false := Lib.frozen_of_heap h.blk i
theorem picN_new {w : World} {x y : Int} {ao : Option Addr} {n c : Nat} {l : List UInt8} (hn : l.length = n) (hc : n ≤ c) (hb : Byt w ao l) : PicN w.heap.size x y ao n c l (w.alloc (.cells #[.int .i64 x, .int .i64 y, .slice ao n c] 25)) :=
  ⟨World.alloc_heap_new w _, hn, hc, hb.below (alloc_b w _)⟩
/-- A store into a picture's block. -/
theorem byt_set {A : World} {ao : Option Addr} {l : List UInt8} {b : Nat} {x y : Int} {p : Option Addr} {m d : Nat} (h : Byt A ao l) (hb : A.heap[b]? = some (picC (.int .i64 x) (.int .i64 y) (.slice p m d))) (i : Nat) (v : Value) : Byt (A.setCell ⟨b, i, none⟩ v) ao l := by
  rcases h with h | ⟨bb, o, rfl, hw, hc⟩
  · exact .inl h
  · refine .inr ⟨bb, o, rfl, by simpa using hw, fun j u hj => ?_⟩
    have hne : bb ≠ b := by
      rintro rfl
      have := hc j u hj
      rw [Lib.cell_of_heap hb] at this
      generalize o + j = k at this
      match k, this with
      | 0, this => cases this
      | 1, this => cases this
      | 2, this => cases this
      | k + 3, this => cases this
    rw [cell_other _ _ _ _ hne]
    exact hc j u hj
abbrev set3 (A : World) (b : Nat) (x y z : Value) : World := ((A.setCell ⟨b, 0, none⟩ x).setCell ⟨b, 1, none⟩ y).setCell ⟨b, 2, none⟩ z
theorem set3_at {A : World} {b : Nat} {x y z x' y' z' : Value} (h : A.heap[b]? = some (picC x y z)) : (set3 A b x' y' z').heap[b]? = some (picC x' y' z') := by
  simp [set3, World.setCell, Array.getElem?_modify, h]
theorem set3_far {A : World} {b k : Nat} {x y z : Value} (h : k ≠ b) : (set3 A b x y z).heap[k]? = A.heap[k]? := by
  unfold set3
  rw [Below.heap_setCell _ _ _ _ (fun e => h e), Below.heap_setCell _ _ _ _ (fun e => h e), Below.heap_setCell _ _ _ _ (fun e => h e)]
theorem set3_below {w A : World} {b : Nat} {x y z : Value} (h : Below w.heap.size w A) (hb : w.heap.size ≤ b) : Below w.heap.size w (set3 A b x y z) :=
  ((h.setCell (p := ⟨b, 0, none⟩) hb _).setCell (p := ⟨b, 1, none⟩) hb _).setCell (p := ⟨b, 2, none⟩) hb _
theorem set3_byt {A : World} {ao : Option Addr} {l : List UInt8} {b : Nat} {x y x' y' : Int} {p p' : Option Addr} {m d m' d' : Nat} (h : Byt A ao l) (hb : A.heap[b]? = some (picC (.int .i64 x) (.int .i64 y) (.slice p m d))) :
    Byt (set3 A b (.int .i64 x') (.int .i64 y') (.slice p' m' d')) ao l := by
  refine byt_set (byt_set (byt_set h hb 0 _) (x := x') (y := y) (p := p) (m := m) (d := d) ?_ 1 _) (x := x') (y := y') (p := p) (m := m) (d := d) ?_ 2 _
  · simp [World.setCell, Array.getElem?_modify, hb]
  · simp [World.setCell, Array.getElem?_modify, hb]
theorem PicN.set {b x y ao n c l A k x' y' x2 y2 p m d p' m' d'} (h : PicN b x y ao n c l A) (hk : A.heap[k]? = some (picC (.int .i64 x2) (.int .i64 y2) (.slice p m d))) (hne : b ≠ k) : PicN b x y ao n c l (set3 A k (.int .i64 x') (.int .i64 y') (.slice p' m' d')) :=
  ⟨(set3_far hne).trans h.blk, h.len, h.le, set3_byt h.byt hk⟩
theorem PicN.put {b x y ao n c l A x' y' ao' n' c' l'} (h : PicN b x y ao n c l A) (hn : l'.length = n') (hc : n' ≤ c') (hb : Byt A ao' l') : PicN b x' y' ao' n' c' l' (set3 A b (.int .i64 x') (.int .i64 y') (.slice ao' n' c')) :=
  ⟨set3_at h.blk, hn, hc, set3_byt hb h.blk⟩

/-- A string's bytes. -/
theorem str_bytes (W : World) (S : ByteArray) (L : List UInt8) (hS : S = ⟨L.toArray⟩) : ∃ n c W', (convert 9 22 (.string S)).run Tryd.prog W = .ok (.slice (some ⟨W.heap.size, 0, none⟩) n c) W' ∧ L.length = n ∧ n ≤ c ∧ Byt W' (some ⟨W.heap.size, 0, none⟩) L ∧ Below W.heap.size W W' := by
  subst hS
  have hsz : (⟨L.toArray⟩ : ByteArray).size = L.length := by simp [ByteArray.size]
  refine ⟨_, _, _, Lib.run_convert_string_bytes W _ _ _ ⟨L.toArray⟩ Tryd.underlying9 Tryd.underlying22 Tryd.underlying5, hsz.symm, ?_, ?_, below_bytes W _ _⟩
  · rw [hsz]; exact grownCap_ge W L.length 0 5
  · have hg := Lib.bytesWorld_at_new W 5 ⟨L.toArray⟩
    refine .inr ⟨W.heap.size, 0, rfl, (Array.getElem?_eq_some_iff.1 hg).1, fun i x hi => ?_⟩
    have hil : i < L.length := (List.getElem?_eq_some_iff.1 hi).1
    rw [Lib.cell_of_heap hg, Nat.zero_add, ← Array.getElem?_toList]
    have e : (Lib.bytesCells W 5 ⟨L.toArray⟩).toList[i]? = (Lib.byteCells L)[i]? := by
      have htk : (Lib.bytesCells W 5 ⟨L.toArray⟩).toList.take L.length = Lib.byteCells L := by
        unfold Lib.bytesCells Lib.byteCells
        simp
      rw [← htk, List.getElem?_take, if_pos hil]
    rw [e]
    unfold Lib.byteCells
    rw [List.getElem?_map, hi]
    rfl

theorem bytes_le (p : Pg.Pic) (h : p.right = true) : (Pg.bytes p).length ≤ 70000 ∧ (Pg.plain p).length ≤ 300000 := by
  obtain ⟨W, H, g⟩ := p
  simp only [Pg.Pic.right, Bool.and_eq_true, decide_eq_true_eq] at h
  obtain ⟨⟨h1, h2⟩, h3⟩ := h
  have s1 := Pg.side_le h1
  have s2 := Pg.side_le h2
  have := Nat.mul_le_mul s1.2 s2.2
  constructor
  · have := head_len 53 W H (by omega) (by omega)
    unfold Pg.bytes
    rw [List.length_append]
    simp only at *
    omega
  · have hH : 0 < H := by omega
    rw [← txt_all W H hH g]
    have := txt_le W H s2.2 s1.2 s1.1 g h3 (rowN H hH H)
    rw [rowN_len] at this
    have : H * 1025 ≤ 256 * 1025 := Nat.mul_le_mul_right _ s2.2
    omega
theorem right_nat' {p : Pg.Pic} (h : p.right = true) : rightB (p.w : Int) (p.h : Int) p.grey.length = true := by
  unfold Pg.Pic.right at h
  simp only [Bool.and_eq_true, decide_eq_true_eq] at h
  have s1 := Pg.side_le h.1.1
  have s2 := Pg.side_le h.1.2
  unfold rightB
  simp only [Bool.and_eq_true, decide_eq_true_eq]
  have h3 := h.2
  refine ⟨⟨⟨by omega, by omega⟩, ⟨by omega, by omega⟩⟩, ?_⟩
  rw [h3, Int.natCast_mul]
end Go.Proofs.YtinhbebjlbnejaaDoor
