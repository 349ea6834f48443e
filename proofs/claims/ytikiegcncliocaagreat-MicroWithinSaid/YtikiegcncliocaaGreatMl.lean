/- micro's look: the iterator over parts. -/
import Derived.RangeFuncNested
import Derived.RangeFuncBound
import Derived.RangeFuncCalls
import Derived.RangeFuncLeaves
import Derived.Shelf.Abstract
import Derived.WalkKit
import Derived.OwnWalkIn
import Derived.TacticsInMore
import Derived.LoopNIn
import Derived.LoopIn
import Derived.Test.YtikiegcncliocaaGreatYk
namespace Go.Proofs.YtikiegcncliocaaGreat
open Go Go.RowKit Go.Shelf
attribute [local go_sem] Oper.semAt_some
set_option linter.unusedSimpArgs false
set_option linter.unusedVariables false

/-- What a round keeps: blocks of cells below n, and from m on. -/
def Kept (n m : Nat) (A B : World) : Prop := A.heap.size ≤ B.heap.size ∧ ∀ (r : Nat) (o : Obj), (r < n ∨ m ≤ r) → A.heap[r]? = some o → o.isCells = true → B.heap[r]? = some o
theorem Kept.refl (n m : Nat) (A : World) : Kept n m A A := ⟨Nat.le_refl _, fun _ _ _ h _ => h⟩
theorem Kept.trans {n m : Nat} {A B C : World} (h : Kept n m A B) (k : Kept n m B C) : Kept n m A C := ⟨Nat.le_trans h.1 k.1, fun r o hr ho hc => k.2 r o hr (h.2 r o hr ho hc) hc⟩
theorem Kept.cell {n m : Nat} {A B : World} (h : Kept n m A B) {r i : Nat} {v : Value} (hr : r < n ∨ m ≤ r) (hc : A.cell? ⟨r, i, none⟩ = some v) : B.cell? ⟨r, i, none⟩ = some v := by
  obtain ⟨o, ho, hk⟩ := cells_of_cell hc
  have e : B.heap[r]? = A.heap[r]? := (h.2 r o hr ho hk).trans ho.symm
  exact (World.cell?_of_block e).trans hc
theorem Kept.grown {n m : Nat} {A B : World} {row : Option Nat} (hg : A.grownBy B row) (hrow : ∀ r, row = some r → (n ≤ r ∧ r < m) ∨ ∃ o : Obj, A.heap[r]? = some o ∧ o.isCells = false) : Kept n m A B := by
  refine ⟨hg.size, fun r o hr ho hc => ?_⟩
  refine (hg.block r (Array.getElem?_eq_some_iff.1 ho).1 ?_).trans ho
  intro e
  rcases hrow r e.symm with h | ⟨o', ho', hn⟩
  · omega
  · rw [ho] at ho'; cases ho'; rw [hc] at hn; cases hn
theorem Kept.alloc (n m : Nat) (A : World) (o : Obj) : Kept n m A (A.alloc o) := Kept.grown (World.grownBy_alloc A o none) (fun _ e => by cases e)
theorem Kept.set (n m : Nat) (A : World) (B : Nat) (u : Value) (h : n ≤ B ∧ B < m) : Kept n m A (A.setCell ⟨B, 0, none⟩ u) := Kept.grown (grownBy_setCell' A B u) (fun _ e => by cases e; exact .inl h)
theorem kept_t {n m : Nat} : ∀ {A B C : World}, Kept n m A B → Kept n m B C → Kept n m A C := Kept.trans
theorem kept_b (n m : Nat) (W : World) (l : Nat) (o o' : Obj) (h : W.heap[l]? = some o) (hc : o.isCells = false) : Kept n m W (W.putObj l o') :=
  Kept.grown (grownBy_putObj' W l o') (fun _ e => by cases e; exact .inr ⟨o, h, hc⟩)
theorem Kept.of_below {n m : Nat} {A B : World} (h : Below A.heap.size A B) : Kept n m A B :=
  ⟨h.size, fun r o _ ho _ => (h.block r (Array.getElem?_eq_some_iff.1 ho).1).trans ho⟩

/-- A part: its ends, and its least number. -/
abbrev Pt := { x : Nat × Nat × Nat // Dy.W x.1 ∧ Dy.W x.2.1 }
abbrev encP (x : Pt) : Array Value := #[.agg #[.float .f64 x.1.1, .float .f64 x.1.2.1], .float .f64 x.1.2.2]
abbrev pt (f : Nat → Nat) (hf : ∀ j, Dy.W (f j)) (i least : Nat) : Pt := ⟨(f i, f (i + 1), least), hf i, hf (i + 1)⟩
/-- The parts of one direction. -/
def parts3 (f : Nat → Nat) (hf : ∀ j, Dy.W (f j)) (k : Nat) : List Pt := [pt f hf (6 * k) 13830554455654793216, pt f hf (6 * k + 2) 13830554455654793216, pt f hf (6 * k + 4) 0]
def partsN (f : Nat → Nat) (hf : ∀ j, Dy.W (f j)) (k : Nat) : List Pt := (List.range k).flatMap (parts3 f hf)

set_option maxRecDepth 100000 in
set_option maxHeartbeats 2000000 in
theorem parts1_in (F : Fence) (n : Nat) (h7 : F.fn 64) (hro : F.round = none) (hn : 1 ≤ n) (l Bs n₀ m b : Nat) (f : Nat → Nat) (hf : ∀ j, Dy.W (f j)) (hb : b < n₀) (J Jx : List Pt → World → Prop)
    (hY : ∀ pre x W, J pre W → pre.length < 6 → YieldAt F (n - 1) Tryz.prog l (encP x) W fun e W' =>
      (e = .returned (.bool true) ∧ J (pre ++ [x]) W' ∧ Kept n₀ m W W') ∨ (e = .returned (.bool false) ∧ Jx (pre ++ [x]) W'))
    (W : World) (hJ : AbidesFrom W.heap.size J) (hn0 : m ≤ W.heap.size) (hBs : W.cell? ⟨Bs, 0, none⟩ = some (.slice (some ⟨b, 0, none⟩) 2 2)) (hc : ∀ j, j < 12 → W.cell? ⟨b, j, none⟩ = some (.float .f64 (f j))) (h0 : J [] W) :
    CallsIn F n Tryz.prog 64 #[.func (.yield l) #[] #[], .pointer (some ⟨Bs, 0, none⟩)] W fun e W' => (∃ v, e = .returned v) ∧
      ((∃ ys, ys = partsN f hf 2 ∧ J ys W') ∨ (∃ pre, True ∧ Jx pre W')) := by
  refine callsIn_of_wp Tryz.func64 rfl h7 ?_ hro
  simp only [Tryz.ntmps64, List.size_toArray, List.length_cons, List.length_nil, Nat.reduceAdd, Nat.reduceSub, Array.replicate_succ, Array.replicate_zero, List.push_toArray, List.append_toArray, List.nil_append, List.cons_append]
  gi_wp2
  gi_loopw [7] (fun i wr => ∃ k : Nat, k ≤ 2 ∧ i = .int .i64 k ∧ J (partsN f hf k) wr ∧ Kept n₀ m W wr)
    (fun i _ => 2 - (intOf i).toNat)
  case atStart => exact ⟨0, Nat.zero_le _, rfl, h0, Kept.refl _ _ _⟩
  case round =>
    obtain ⟨k, hk, rfl, hJs, hnx⟩ := hrel
    have hcx : ∀ j, j < 12 → wr.cell? ⟨b, j, none⟩ = some (.float .f64 (f j)) := fun j h => hnx.cell (.inl hb) (hc j h)
    have hm : m ≤ wr.heap.size := Nat.le_trans hn0 hnx.1
    by_cases hlt : k < 2
    · have h01 : k = 0 ∨ k = 1 := by omega
      have c0 := hcx 0 (by decide)
      have c1 := hcx 1 (by decide)
      have c2 := hcx 2 (by decide)
      have c3 := hcx 3 (by decide)
      have c4 := hcx 4 (by decide)
      have c5 := hcx 5 (by decide)
      have c6 := hcx 6 (by decide)
      have c7 := hcx 7 (by decide)
      have c8 := hcx 8 (by decide)
      have c9 := hcx 9 (by decide)
      have c10 := hcx 10 (by decide)
      have c11 := hcx 11 (by decide)
      clear hcx hc
      rcases h01 with rfl | rfl
      · have hJ0 : J (partsN f hf 0) (wr.alloc (.cells #[.float .f64 (f 0), .float .f64 (f 1), .float .f64 (f 2), .float .f64 (f 3), .float .f64 (f 4), .float .f64 (f 5)] 29)) := hJ _ wr _ none hJs (World.grownBy_alloc wr _ none) (fun _ e => by cases e)
        obtain ⟨fn1, tmps1, assign1, body1, hy1, hR1⟩ := hY _ (pt f hf 0 13830554455654793216) _ hJ0 (by simp [partsN, parts3])
        dsimp only [encP, pt, Nat.reduceAdd] at hy1
        gi_wp2
        refine hR1.mono ?_
        rintro e W1 (⟨rfl, hJ1, hk1⟩ | ⟨rfl, hx1⟩)
        · have d2 : W1.cell? ⟨wr.heap.size, 2, none⟩ = some (.float .f64 (f 2)) := hk1.cell (.inr hm) (by simp)
          have d3 : W1.cell? ⟨wr.heap.size, 3, none⟩ = some (.float .f64 (f 3)) := hk1.cell (.inr hm) (by simp)
          have d4 : W1.cell? ⟨wr.heap.size, 4, none⟩ = some (.float .f64 (f 4)) := hk1.cell (.inr hm) (by simp)
          have d5 : W1.cell? ⟨wr.heap.size, 5, none⟩ = some (.float .f64 (f 5)) := hk1.cell (.inr hm) (by simp)
          obtain ⟨fn2, tmps2, assign2, body2, hy2, hR2⟩ := hY _ (pt f hf 2 13830554455654793216) _ hJ1 (by simp [partsN, parts3])
          dsimp only [encP, pt, Nat.reduceAdd] at hy2
          gi_wp2
          refine hR2.mono ?_
          rintro e W2 (⟨rfl, hJ2, hk2⟩ | ⟨rfl, hx2⟩)
          · have d4' := hk2.cell (.inr hm) d4
            have d5' := hk2.cell (.inr hm) d5
            obtain ⟨fn3, tmps3, assign3, body3, hy3, hR3⟩ := hY _ (pt f hf 4 0) _ hJ2 (by simp [partsN, parts3])
            dsimp only [encP, pt, Nat.reduceAdd] at hy3
            gi_wp2
            refine hR3.mono ?_
            rintro e W3 (⟨rfl, hJ3, hk3⟩ | ⟨rfl, hx3⟩)
            · gi_wp2
              go_roundw
              case rel => exact ⟨1, by omega, by simp, by have e : partsN f hf 1 = (((partsN f hf 0 ++ [(pt f hf 0 13830554455654793216)]) ++ [(pt f hf 2 13830554455654793216)]) ++ [(pt f hf 4 0)]) := rfl; rw [e]; exact hJ3, hnx.trans ((Kept.alloc _ _ wr _).trans (hk1.trans (hk2.trans hk3)))⟩
              case measure => simp [intOf]
            · gi_wp2
              refine bodyPost_ret (results_none rfl _ _ _) rfl ?_
              exact ⟨⟨_, rfl⟩, .inr ⟨_, trivial, hx3⟩⟩
          · gi_wp2
            refine ⟨fun _ h => (by cases h), ?_⟩
            gi_wp2
            refine bodyPost_ret (results_none rfl _ _ _) rfl ?_
            exact ⟨⟨_, rfl⟩, .inr ⟨_, trivial, hx2⟩⟩
        · gi_wp2
          refine ⟨fun _ h => (by cases h), ?_⟩
          gi_wp2
          refine ⟨fun _ h => (by cases h), ?_⟩
          gi_wp2
          refine bodyPost_ret (results_none rfl _ _ _) rfl ?_
          exact ⟨⟨_, rfl⟩, .inr ⟨_, trivial, hx1⟩⟩
      · have hJ0 : J (partsN f hf 1) (wr.alloc (.cells #[.float .f64 (f 6), .float .f64 (f 7), .float .f64 (f 8), .float .f64 (f 9), .float .f64 (f 10), .float .f64 (f 11)] 29)) := hJ _ wr _ none hJs (World.grownBy_alloc wr _ none) (fun _ e => by cases e)
        obtain ⟨fn1, tmps1, assign1, body1, hy1, hR1⟩ := hY _ (pt f hf 6 13830554455654793216) _ hJ0 (by simp [partsN, parts3])
        dsimp only [encP, pt, Nat.reduceAdd] at hy1
        gi_wp2
        refine hR1.mono ?_
        rintro e W1 (⟨rfl, hJ1, hk1⟩ | ⟨rfl, hx1⟩)
        · have d2 : W1.cell? ⟨wr.heap.size, 2, none⟩ = some (.float .f64 (f 8)) := hk1.cell (.inr hm) (by simp)
          have d3 : W1.cell? ⟨wr.heap.size, 3, none⟩ = some (.float .f64 (f 9)) := hk1.cell (.inr hm) (by simp)
          have d4 : W1.cell? ⟨wr.heap.size, 4, none⟩ = some (.float .f64 (f 10)) := hk1.cell (.inr hm) (by simp)
          have d5 : W1.cell? ⟨wr.heap.size, 5, none⟩ = some (.float .f64 (f 11)) := hk1.cell (.inr hm) (by simp)
          obtain ⟨fn2, tmps2, assign2, body2, hy2, hR2⟩ := hY _ (pt f hf 8 13830554455654793216) _ hJ1 (by simp [partsN, parts3])
          dsimp only [encP, pt, Nat.reduceAdd] at hy2
          gi_wp2
          refine hR2.mono ?_
          rintro e W2 (⟨rfl, hJ2, hk2⟩ | ⟨rfl, hx2⟩)
          · have d4' := hk2.cell (.inr hm) d4
            have d5' := hk2.cell (.inr hm) d5
            obtain ⟨fn3, tmps3, assign3, body3, hy3, hR3⟩ := hY _ (pt f hf 10 0) _ hJ2 (by simp [partsN, parts3])
            dsimp only [encP, pt, Nat.reduceAdd] at hy3
            gi_wp2
            refine hR3.mono ?_
            rintro e W3 (⟨rfl, hJ3, hk3⟩ | ⟨rfl, hx3⟩)
            · gi_wp2
              go_roundw
              case rel => exact ⟨2, by omega, by simp, by have e : partsN f hf 2 = (((partsN f hf 1 ++ [(pt f hf 6 13830554455654793216)]) ++ [(pt f hf 8 13830554455654793216)]) ++ [(pt f hf 10 0)]) := rfl; rw [e]; exact hJ3, hnx.trans ((Kept.alloc _ _ wr _).trans (hk1.trans (hk2.trans hk3)))⟩
              case measure => simp [intOf]
            · gi_wp2
              refine bodyPost_ret (results_none rfl _ _ _) rfl ?_
              exact ⟨⟨_, rfl⟩, .inr ⟨_, trivial, hx3⟩⟩
          · gi_wp2
            refine ⟨fun _ h => (by cases h), ?_⟩
            gi_wp2
            refine bodyPost_ret (results_none rfl _ _ _) rfl ?_
            exact ⟨⟨_, rfl⟩, .inr ⟨_, trivial, hx2⟩⟩
        · gi_wp2
          refine ⟨fun _ h => (by cases h), ?_⟩
          gi_wp2
          refine ⟨fun _ h => (by cases h), ?_⟩
          gi_wp2
          refine bodyPost_ret (results_none rfl _ _ _) rfl ?_
          exact ⟨⟨_, rfl⟩, .inr ⟨_, trivial, hx1⟩⟩
    · obtain rfl : k = 2 := by omega
      gi_wp2
      go_end0
      exact ⟨⟨_, rfl⟩, .inl ⟨_, rfl, hJs⟩⟩

set_option maxHeartbeats 1000000 in
theorem parts_in (F : Fence) (n : Nat) (h5 : F.fn 35) (hro : F.round = none) (a : Option Addr) (len cap : Nat) (w : World) :
    CallsIn F n Tryz.prog 35 #[.slice a len cap] w fun e w' => e = .returned (.func (.func 64) #[] #[.pointer (some ⟨w.heap.size, 0, none⟩)]) ∧ w' = w.alloc (.cells #[.slice a len cap] 71) := by
  refine callsIn_of_wp Tryz.func35 rfl h5 ?_ hro
  simp only [Tryz.ntmps35, List.size_toArray, List.length_cons, List.length_nil, Nat.reduceAdd, Nat.reduceSub, Array.replicate_succ, Array.replicate_zero, List.push_toArray, List.append_toArray, List.nil_append, List.cons_append]
  gi_wp2
  go_ret
  exact ⟨rfl, rfl⟩
theorem parts_stops (F : Fence) (n : Nat) (h6 : F.fn 64) (hro : F.round = none) (hn : 1 ≤ n) (Bs n₀ m b : Nat) (f : Nat → Nat) (hf : ∀ j, Dy.W (f j)) (w : World) (hBs : Bs < w.heap.size) (hb : b < n₀) (hn₀ : n₀ ≤ w.heap.size) (hm : m ≤ w.heap.size)
    (hs : w.cell? ⟨Bs, 0, none⟩ = some (.slice (some ⟨b, 0, none⟩) 2 2)) (hc : ∀ j, j < 12 → w.cell? ⟨b, j, none⟩ = some (.float .f64 (f j))) :
    SeqStopsK F n Tryz.prog 64 #[.pointer (some ⟨Bs, 0, none⟩)] encP (Kept n₀ m) (fun ys => ys = partsN f hf 2) (fun _ => True) 6 w := fun l J Jx W hW hJ _ hY h0 =>
  parts1_in F n h6 hro hn l Bs n₀ m b f hf hb J Jx hY W hJ (Nat.le_trans hm hW.size) ((hW.cell (p := ⟨Bs, 0, none⟩) hBs).trans hs) (fun j h => (hW.cell (p := ⟨b, j, none⟩) (Nat.lt_of_lt_of_le hb hn₀)).trans (hc j h)) h0
end Go.Proofs.YtikiegcncliocaaGreat
