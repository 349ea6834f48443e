/- Walks: burnishlaw28.Made. -/
import Derived.Test.YtinhbebjlbnejaaDoorFn
namespace Go.Proofs.YtinhbebjlbnejaaDoor
open Go Go.RowKit
open Go.Lib (hid)
set_option linter.unusedSimpArgs false
set_option linter.unusedVariables false

namespace Pg
/-- A side, out of a number. -/
def sideN (w : UInt8) : Nat := 1 + w.toNat % 24
/-- A level, round and round. -/
def lev (g : List UInt8) (i : Nat) : UInt8 := if 0 < g.length then g.getD (i % g.length) 0 else 0
/-- The levels of a picture that is made. -/
def made (g : List UInt8) (n : Nat) : List UInt8 := (List.range n).map (lev g)
def madeP (w h : UInt8) (g : List UInt8) : Pic := ⟨sideN w, sideN h, made g (sideN w * sideN h)⟩
theorem made_succ (g : List UInt8) (k : Nat) : made g (k + 1) = made g k ++ [lev g k] := by simp [made, List.range_succ]
theorem made_len (g : List UInt8) (k : Nat) : (made g k).length = k := by simp [made]
theorem sideN_le (w : UInt8) : 1 ≤ sideN w ∧ sideN w ≤ 24 := by unfold sideN; omega
theorem madeP_right (w h : UInt8) (g : List UInt8) : (madeP w h g).right = true := by
  have h1 := sideN_le w
  have h2 := sideN_le h
  unfold madeP Pic.right side
  rw [made_len]
  simp
  omega
end Pg

abbrev picC (x y z : Value) : Obj := .cells #[x, y, z] 25 (0, 0)
/-- While a picture is made. -/
structure MV (w0 : World) (W H : Nat) (g : List UInt8) (k : Nat) (v : Value) (w : World) : Prop where
  q : w.heap[w0.heap.size + 1]? = some (picC (.int .i64 (W : Int)) (.int .i64 (H : Int)) v)
  r : w.heap[w0.heap.size]? = some (picC (.int .i64 0) (.int .i64 0) (.slice none 0 0))
  own : w.ownsRow (w0.heap.size + 2) 5 1 v k (Lib.byteCells (Pg.made g k))
  bel : Below w0.heap.size w0 w

theorem MV.c0 {w0 W H g k v w} (h : MV w0 W H g k v w) : w.cell? ⟨w0.heap.size + 1, 0, none⟩ = some (.int .i64 (W : Int)) := by rw [Lib.cell_of_heap h.q]; rfl
theorem MV.c1 {w0 W H g k v w} (h : MV w0 W H g k v w) : w.cell? ⟨w0.heap.size + 1, 1, none⟩ = some (.int .i64 (H : Int)) := by rw [Lib.cell_of_heap h.q]; rfl
theorem MV.c2 {w0 W H g k v w} (h : MV w0 W H g k v w) : w.cell? ⟨w0.heap.size + 1, 2, none⟩ = some v := by rw [Lib.cell_of_heap h.q]; rfl
theorem MV.f {w0 W H g k v w} (h : MV w0 W H g k v w) (i : Nat) : w.frozen? ⟨w0.heap.size + 1, i, none⟩ = false := Lib.frozen_of_heap h.q i
theorem MV.lt {w0 W H g k v w} (h : MV w0 W H g k v w) : w0.heap.size + 1 < w.heap.size := (Array.getElem?_eq_some_iff.1 h.q).1

theorem MV.next {w0 W H g k v w' w6 o gv' d} (h : MV w0 W H g k v w') (hgrow : (w'.alloc o).grownBy w6 v.ownBlock) (h6 : w6.ownsRow (w0.heap.size + 2) 5 1 gv' (k + 1) (Lib.byteCells (Pg.made g k) ++ [.int .u8 ((d : UInt8).toNat : Int)])) (hd : d = Pg.lev g k) :
    MV w0 W H g (k + 1) gv' (w6.setCell ⟨w0.heap.size + 1, 2, none⟩ gv') := by
  have hlt := h.lt
  have e1 : w6.heap[w0.heap.size + 1]? = some (picC (.int .i64 (W : Int)) (.int .i64 (H : Int)) v) :=
    ((hgrow.block _ (by simp; omega) (own_far h.own (by omega))).trans (Below.heap_alloc _ _ _ (by omega))).trans h.q
  have e2 : w6.heap[w0.heap.size]? = some (picC (.int .i64 0) (.int .i64 0) (.slice none 0 0)) :=
    ((hgrow.block _ (by simp; omega) (own_far h.own (by omega))).trans (Below.heap_alloc _ _ _ (by omega))).trans h.r
  refine ⟨?_, ?_, ?_, ?_⟩
  · simp [World.setCell, Array.getElem?_modify, e1, picC]
  · rw [Below.heap_setCell _ _ _ _ (by simp)]; exact e2
  · have e3 : Lib.byteCells (Pg.made g k) ++ [Value.int .u8 (d.toNat : Int)] = Lib.byteCells (Pg.made g (k + 1)) := by
      rw [Pg.made_succ, Lib.byteCells_append, hd]; rfl
    rw [e3] at h6
    exact own_older h6 (grown_set _ _ _ _) (by omega)
  · refine (((h.bel.alloc (by omega) o).grown hgrow (by simp; omega) (fun b hb => ?_)).setCell (p := ⟨w0.heap.size + 1, 2, none⟩) (by simp) _)
    rcases Nat.lt_or_ge b w0.heap.size with hx | hx
    · exact absurd hb.symm (own_far h.own (by omega))
    · exact hx

set_option maxRecDepth 100000 in
set_option maxHeartbeats 4000000 in
theorem made_any (a b : UInt8) (ao : Option Addr) (n c : Nat) (g : List UInt8) (w : World) (hn : g.length = n) (hbig : n ≤ 9223372036854775807) (hb : Byt w ao g) :
    Calls Tryd.prog 9 #[.int .u8 (a.toNat : Int), .int .u8 (b.toNat : Int), .slice ao n c] w fun e w' => ∃ v, e = .returned (.agg #[.int .i64 (Pg.sideN a : Int), .int .i64 (Pg.sideN b : Int), v]) ∧
      w'.ownsRow w.heap.size 5 1 v (Pg.sideN a * Pg.sideN b) (Lib.byteCells (Pg.made g (Pg.sideN a * Pg.sideN b))) ∧ Below w.heap.size w w' := by
  have hb' := hid hb
  clear hb
  have lA := Pg.sideN_le a
  have lB := Pg.sideN_le b
  have eA : (1 + (a.toNat : Int) % 24) = ((Pg.sideN a : Nat) : Int) := by unfold Pg.sideN; omega
  have eB : (1 + (b.toNat : Int) % 24) = ((Pg.sideN b : Nat) : Int) := by unfold Pg.sideN; omega
  generalize Pg.sideN a = W at *
  generalize Pg.sideN b = H at *
  obtain ⟨N, hN⟩ : ∃ N, W * H = N := ⟨_, rfl⟩
  have lN : W * H ≤ 576 := Nat.mul_le_mul lA.2 lB.2
  rw [hN] at lN ⊢
  replace hN := hid hN
  replace eA := hid eA
  replace eB := hid eB
  go_enter Tryd.func9, Tryd.ntmps9
  go_wp2_with fail
  simp only [eA.out, eB.out]
  clear eA eB
  have eN : wrap64 ((W : Int) * (H : Int)) = (N : Int) := by rw [← Int.natCast_mul, hN.out]; unfold wrap64; omega
  simp only [eN]
  clear eN
  have hM0 : MV w W H g 0 (.slice none 0 0) ((w.alloc (.cells #[.int .i64 0, .int .i64 0, .slice none 0 0] 25)).alloc (.cells #[.int .i64 (W : Int), .int .i64 (H : Int), .slice none 0 0] 25)) :=
    ⟨by have := World.alloc_heap_new (w.alloc (.cells #[.int .i64 0, .int .i64 0, .slice none 0 0] 25)) (.cells #[.int .i64 (W : Int), .int .i64 (H : Int), .slice none 0 0] 25); rwa [World.size_alloc] at this,
      (Below.heap_alloc _ _ _ (by simp)).trans (World.alloc_heap_new w _), ⟨rfl, .inl ⟨rfl, rfl⟩⟩, ((Below.refl _ _).alloc (Nat.le_refl _) _).alloc (by simp) _⟩
  go_loopw [23] (fun i wr => ∃ k v, k ≤ N ∧ i = .int .i64 (k : Int) ∧ MV w W H g k v wr) (fun i _ => N - (intOf i).toNat)
  case atStart => exact ⟨0, _, Nat.zero_le _, rfl, hM0⟩
  case round =>
    clear hM0
    obtain ⟨k, v, hk, rfl, hM⟩ := hrel
    have c0 := hM.c0
    have c1 := hM.c1
    have c2 := hM.c2
    have f2 := hM.f 2
    obtain ⟨ao', cc, rfl⟩ := own_form hM.own
    by_cases hlt : k < N
    · obtain ⟨i0, hi0, hz0, hz1, hz2⟩ := info_parts u8_info
      have hw1 := hM.lt
      replace hM := hid hM
      by_cases hg : 0 < g.length
      · obtain ⟨bb, oo, rfl, hbb⟩ : ∃ bb oo, ao = some ⟨bb, oo, none⟩ ∧ Hid (bb < w.heap.size ∧ ∀ i c, g[i]? = some c → w.cell? ⟨bb, oo + i, none⟩ = some (.int .u8 (c.toNat : Int))) := by
          rcases hb'.out with h | ⟨bb, oo, h, h2, h3⟩
          · rw [h] at hg; simp at hg
          · exact ⟨bb, oo, h, hid ⟨h2, h3⟩⟩
        have hn0 : 0 < n := by omega
        have hn1 : ¬ n = 0 := by omega
        have hml : k % n < n := Nat.mod_lt _ hn0
        have hmod : (k : Int).tmod (n : Int) = ((k % n : Nat) : Int) := by rw [Int.tmod_eq_emod_of_nonneg (by omega), Int.natCast_emod]
        have hlv : Pg.lev g k = g.getD (k % n) 0 := by unfold Pg.lev; rw [if_pos hg, hn]
        obtain ⟨d, hd⟩ : ∃ d, d = Pg.lev g k := ⟨_, rfl⟩
        have cg : wr.cell? ⟨bb, oo + k % n, none⟩ = some (.int .u8 (d.toNat : Int)) := by
          have e : g[k % n]? = some d := by rw [hd, hlv, List.getD, List.getElem?_eq_getElem (by omega)]; rfl
          exact (hM.out.bel.cell (p := ⟨bb, oo + k % n, none⟩) hbb.out.1).trans (hbb.out.2 _ _ e)
        replace hd := hid hd
        generalize k % n = m at *
        clear hlv
        replace hn := hid hn
        have hheld := held_alloc (R := w.heap.size) (o := .cells #[.int .u8 (d.toNat : Int)] 5) (w := wr) ⟨c2, f2⟩
        have c9 := hheld.1
        have f9 := hheld.2
        have hown := hid (own_drew hM.out.own)
        go_wp2_with fail
        go_region_law
          (first
            | ((refine step_append_lies _ (by rfl) _ _ _ (by rfl) (w.heap.size + 2) 5 i0 _ 1 1 Tryd.underlying22 hi0 hz0 hz1 hz2 rfl (by omega) (.slice ao' k cc) k (Lib.byteCells (Pg.made g k)) (by rfl) (hown.out.alloc _) ⟨wr.drew.heap.size, 0, none⟩ 1 1 [.int .u8 (d.toNat : Int)] (by rfl) (by rfl) (World.news_of_block (cs := #[.int .u8 (d.toNat : Int)]) (t := 5) (fr := (0, 0)) (heap_alloc_new wr.drew _)) (by simp [Value.oneCell']) (by omega) (by unfold maxLen; omega) (by omega) (by simp; omega) (wr.drew.heap.size + 1) (by simp) ?_; intro gg cap w6 hown6 hgrow hat hlt6; obtain ⟨c8, f8⟩ := held_app (R := w.heap.size) (w := wr.drew) (o := .cells #[.int .u8 (d.toNat : Int)] 5) hgrow ⟨c2, f2⟩ hown.out)))
        all_goals
          go_wp2_with fail
          refine ⟨⟨k + 1, _, hlt, rfl, MV.next (w' := wr.drew) (o := .cells #[.int .u8 (d.toNat : Int)] 5) ⟨hM.out.q, hM.out.r, hM.out.own, hM.out.bel.drew⟩ hgrow hown6 hd.out⟩, ?_⟩
          simp only [intOf]
          omega
      · have hl0 : Pg.lev g k = 0 := by unfold Pg.lev; rw [if_neg hg]
        have hn0 : n = 0 := by omega
        subst hn0
        have hheld := held_alloc (R := w.heap.size) (o := .cells #[.int .u8 0] 5) (w := wr) ⟨c2, f2⟩
        have c9 := hheld.1
        have f9 := hheld.2
        have hown := hid hM.out.own
        go_wp2_with (at_builtin; refine wpList_append_own _ (by rfl) _ _ _ (by rfl) (w.heap.size + 2) 5 i0 _ 1 1 Tryd.underlying22 hi0 hz0 hz1 hz2 rfl (by omega) (.slice ao' k cc) k (Lib.byteCells (Pg.made g k)) (by rfl) (hown.out.alloc _) ⟨wr.heap.size, 0, none⟩ 1 1 [.int .u8 0] (by rfl) (by rfl) (World.news_of_block (cs := #[.int .u8 0]) (t := 5) (fr := (0, 0)) (heap_alloc_new wr _)) (by simp [Value.oneCell']) (by unfold maxLen; omega) (by omega) (by simp; omega) ?_; intro v' w6 hown6 hgrow hnil; obtain ⟨ao6, cc6, rfl⟩ := own_form hown6; clear hnil; obtain ⟨c8, f8⟩ := held_app (R := w.heap.size) hgrow ⟨c2, f2⟩ hown.out)
        all_goals
          refine ⟨⟨k + 1, _, hlt, rfl, MV.next (d := 0) hM.out hgrow hown6 hl0.symm⟩, ?_⟩
          simp only [intOf]
          omega
    · obtain rfl : k = N := by omega
      have r0 : wr.cell? ⟨w.heap.size, 0, none⟩ = some (.int .i64 0) := by rw [Lib.cell_of_heap hM.r]; rfl
      have r1 : wr.cell? ⟨w.heap.size, 1, none⟩ = some (.int .i64 0) := by rw [Lib.cell_of_heap hM.r]; rfl
      have r2 : wr.cell? ⟨w.heap.size, 2, none⟩ = some (.slice none 0 0) := by rw [Lib.cell_of_heap hM.r]; rfl
      have g0 := Lib.frozen_of_heap hM.r 0
      have g1 := Lib.frozen_of_heap hM.r 1
      have g2 := Lib.frozen_of_heap hM.r 2
      replace hM := hid hM
      go_wp2_with fail
      refine bodyPost_ret (v := .agg #[.int .i64 (W : Int), .int .i64 (H : Int), .slice ao' k cc]) (by simp [results, Tryd.results9, go_sem, r0, r1, r2]) rfl ⟨_, rfl, ?_, ?_⟩
      · have hx : w.heap.size < w.heap.size + 2 := by omega
        exact own_le (own_older (own_older (own_older hM.out.own (grown_set _ w.heap.size 0 (.int .i64 (W : Int))) hx) (grown_set _ w.heap.size 1 (.int .i64 (H : Int))) hx) (grown_set _ w.heap.size 2 (.slice ao' k cc)) hx) (Nat.le_of_lt hx)
      · exact ((hM.out.bel.setCell (p := ⟨_, 0, none⟩) (Nat.le_refl _) _).setCell (p := ⟨_, 1, none⟩) (Nat.le_refl _) _).setCell (p := ⟨_, 2, none⟩) (Nat.le_refl _) _
end Go.Proofs.YtinhbebjlbnejaaDoor
