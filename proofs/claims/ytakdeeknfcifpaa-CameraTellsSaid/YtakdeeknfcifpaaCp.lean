/- camera's pixels: the iterator. -/
import Derived.RangeFuncNested
import Derived.RangeFuncBound
import Derived.RangeFuncCalls
import Derived.RangeFuncLeaves
import Derived.Shelf.Abstract
import Derived.WalkKit
import Derived.OwnWalkIn
import Derived.TacticsInMore
import Derived.LoopNIn
import Derived.LoopIn
import Derived.Stop.RegionWithIn
import Derived.Test.YtakdeeknfcifpaaYk
namespace Go.Proofs.Ytakdeeknfcifpaa
open Go Go.RowKit Go.Shelf
attribute [local go_sem] Oper.semAt_some
set_option linter.unusedSimpArgs false
set_option linter.unusedVariables false

/-- What a round keeps: blocks of cells below n, and from m on. -/
def Kept (n m : Nat) (A B : World) : Prop := A.heap.size ≤ B.heap.size ∧ ∀ (r : Nat) (o : Obj), (r < n ∨ m ≤ r) → A.heap[r]? = some o → o.isCells = true → B.heap[r]? = some o
theorem Kept.refl (n m : Nat) (A : World) : Kept n m A A := ⟨Nat.le_refl _, fun _ _ _ h _ => h⟩
theorem Kept.trans {n m : Nat} {A B C : World} (h : Kept n m A B) (k : Kept n m B C) : Kept n m A C := ⟨Nat.le_trans h.1 k.1, fun r o hr ho hc => k.2 r o hr (h.2 r o hr ho hc) hc⟩
theorem Kept.cell {n m : Nat} {A B : World} (h : Kept n m A B) {r i : Nat} {v : Value} (hr : r < n ∨ m ≤ r) (hc : A.cell? ⟨r, i, none⟩ = some v) : B.cell? ⟨r, i, none⟩ = some v := by
  obtain ⟨o, ho, hk⟩ := cells_of_cell hc
  have e : B.heap[r]? = A.heap[r]? := (h.2 r o hr ho hk).trans ho.symm
  exact (World.cell?_of_block e).trans hc
theorem Kept.grown {n m : Nat} {A B : World} {row : Option Nat} (hg : A.grownBy B row) (hrow : ∀ r, row = some r → (n ≤ r ∧ r < m) ∨ ∃ o : Obj, A.heap[r]? = some o ∧ o.isCells = false) : Kept n m A B := by
  refine ⟨hg.size, fun r o hr ho hc => ?_⟩
  refine (hg.block r (Array.getElem?_eq_some_iff.1 ho).1 ?_).trans ho
  intro e
  rcases hrow r e.symm with h | ⟨o', ho', hn⟩
  · omega
  · rw [ho] at ho'; cases ho'; rw [hc] at hn; cases hn
theorem Kept.alloc (n m : Nat) (A : World) (o : Obj) : Kept n m A (A.alloc o) := Kept.grown (World.grownBy_alloc A o none) (fun _ e => by cases e)
theorem Kept.set (n m : Nat) (A : World) (B : Nat) (u : Value) (h : n ≤ B ∧ B < m) : Kept n m A (A.setCell ⟨B, 0, none⟩ u) := Kept.grown (grownBy_setCell' A B u) (fun _ e => by cases e; exact .inl h)
theorem kept_t {n m : Nat} : ∀ {A B C : World}, Kept n m A B → Kept n m B C → Kept n m A C := Kept.trans
theorem kept_b (n m : Nat) (W : World) (l : Nat) (o o' : Obj) (h : W.heap[l]? = some o) (hc : o.isCells = false) : Kept n m W (W.putObj l o') :=
  Kept.grown (grownBy_putObj' W l o') (fun _ e => by cases e; exact .inr ⟨o, h, hc⟩)
theorem Kept.of_below {n m : Nat} {A B : World} (h : Below A.heap.size A B) : Kept n m A B :=
  ⟨h.size, fun r o _ ho _ => (h.block r (Array.getElem?_eq_some_iff.1 ho).1).trans ho⟩

/-- A pixel. -/
abbrev Px := { x : Nat × Nat // x.1 < 256 ∧ x.2 < 256 }
abbrev encQ (x : Px) : Array Value := #[.int .i64 (x.1.1 : Int), .int .i64 (x.1.2 : Int)]
def pxl (s k : Nat) : Px := ⟨(k % s % 256, k / s % 256), Nat.mod_lt _ (by decide), Nat.mod_lt _ (by decide)⟩
/-- The first k pixels of a size. -/
def pixN (s k : Nat) : List Px := (List.range k).map (pxl s)
theorem pixN_succ (s k : Nat) : pixN s (k + 1) = pixN s k ++ [pxl s k] := by simp [pixN, List.range_succ]
theorem pixN_len (s k : Nat) : (pixN s k).length = k := by simp [pixN]

theorem yes_no {e : Ending} {A B : Prop} (h : (e = .returned (.bool true) ∧ A) ∨ (e = .returned (.bool false) ∧ B)) : ∃ b, e = .returned (.bool b) ∧ ((b = true ∧ A) ∨ (b = false ∧ B)) := by
  rcases h with ⟨rfl, h⟩ | ⟨rfl, h⟩
  · exact ⟨true, rfl, .inl ⟨rfl, h⟩⟩
  · exact ⟨false, rfl, .inr ⟨rfl, h⟩⟩
set_option maxRecDepth 100000 in
set_option maxHeartbeats 4000000 in
theorem pix1_in (n : Nat) (hn : 1 ≤ n) (l Bs n₀ m s : Nat) (hs1 : 1 ≤ s) (hs2 : s ≤ 256) (hb : Bs < n₀ ∨ m ≤ Bs) (J Jx : List Px → World → Prop)
    (hY : ∀ pre x W, J pre W → pre.length < s * s → YieldAt Fence.wide (n - 1) Try.prog l (encQ x) W fun e W' =>
      (e = .returned (.bool true) ∧ J (pre ++ [x]) W' ∧ Kept n₀ m W W') ∨ (e = .returned (.bool false) ∧ Jx (pre ++ [x]) W'))
    (W : World) (hJ : AbidesFrom W.heap.size J) (hBs : W.cell? ⟨Bs, 0, none⟩ = some (.int .i64 (s : Int))) (h0 : J [] W) :
    CallsIn Fence.wide n Try.prog 70 #[.func (.yield l) #[] #[], .pointer (some ⟨Bs, 0, none⟩)] W fun e W' => (∃ v, e = .returned v) ∧
      ((∃ ys, ys = pixN s (s * s) ∧ J ys W') ∨ (∃ pre, True ∧ Jx pre W')) := by
  refine callsIn_of_wp Try.func70 rfl trivial ?_ rfl
  simp only [Try.ntmps70, List.size_toArray, List.length_cons, List.length_nil, Nat.reduceAdd, Nat.reduceSub, Array.replicate_succ, Array.replicate_zero, List.push_toArray, List.append_toArray, List.nil_append, List.cons_append]
  have hss : s * s ≤ 65536 := Nat.mul_le_mul hs2 hs2
  gi_wp2
  gi_loopw [7] (fun i wr => ∃ k : Nat, k ≤ s * s ∧ i = .int .i64 k ∧ J (pixN s k) wr ∧ Kept n₀ m W wr)
    (fun i _ => s * s - (intOf i).toNat)
  case atStart => exact ⟨0, Nat.zero_le _, rfl, h0, Kept.refl _ _ _⟩
  case round =>
    obtain ⟨k, hk, rfl, hJs, hnx⟩ := hrel
    have hc := hnx.cell hb hBs
    by_cases hlt : k < s * s
    · have hg0 : ∀ row, wr.grownBy wr.drew row := fun _ => ⟨rfl, rfl, rfl, Nat.le_refl _, fun _ _ _ => rfl⟩
      have hJd : J (pixN s k) wr.drew := hJ _ wr _ none hJs (hg0 none) (fun _ e => by cases e)
      have hcd : wr.drew.cell? ⟨Bs, 0, none⟩ = some (.int .i64 (s : Int)) := hc
      obtain ⟨fn1, tmps1, assign1, body1, hy1, hR1⟩ := hY _ (pxl s k) _ hJd (by rw [pixN_len]; exact hlt)
      have hkd : Kept n₀ m wr wr.drew := Kept.grown (hg0 none) (fun _ e => by cases e)
      have m1 : k % s % 256 = k % s := Nat.mod_eq_of_lt (Nat.lt_of_lt_of_le (Nat.mod_lt _ hs1) hs2)
      have m2 : k / s % 256 = k / s := Nat.mod_eq_of_lt (Nat.lt_of_lt_of_le ((Nat.div_lt_iff_lt_mul hs1).2 hlt) hs2)
      dsimp only [encQ, pxl] at hy1
      rw [m1, m2, Int.natCast_emod, Int.natCast_ediv] at hy1
      gi_wp2
      have wq : IntKind.i64.wrap ((k : Int) / (s : Int)) = (k : Int) / (s : Int) := by
        have : (k : Int) / (s : Int) = ((k / s : Nat) : Int) := (Int.natCast_ediv _ _).symm
        rw [this, IntKind.wrap_i64]
        have : k / s ≤ k := Nat.div_le_self _ _
        omega
      have wm : (k : Int).tmod (s : Int) = (k : Int) % (s : Int) := Int.tmod_eq_emod_of_nonneg (by omega)
      gi_region_with (with_reducible refine hR1.mono ?_; clear hR1 hy1; intro e W1 hh; obtain ⟨b, rfl, hd⟩ := yes_no hh; clear hh)
      all_goals (rcases hd with ⟨rfl, hJ1, hk1⟩ | ⟨rfl, hx1⟩)
      all_goals gi_wp2
      all_goals first
        | (refine bodyPost_ret (results_none rfl _ _ _) rfl ?_
           exact ⟨⟨_, rfl⟩, .inr ⟨_, trivial, hx1⟩⟩)
        | (go_roundw
           case rel => exact ⟨k + 1, by omega, by simp, by rw [pixN_succ]; exact hJ1, hnx.trans (hkd.trans hk1)⟩
           case measure => simp [intOf]; omega)
    · obtain rfl : k = s * s := by omega
      gi_wp2
      go_end0
      exact ⟨⟨_, rfl⟩, .inl ⟨_, rfl, hJs⟩⟩

set_option maxHeartbeats 1000000 in
theorem pixels_in (n : Nat) (s : Int) (w : World) :
    CallsIn Fence.wide n Try.prog 42 #[.int .i64 s] w fun e w' => e = .returned (.func (.func 70) #[] #[.pointer (some ⟨w.heap.size, 0, none⟩)]) ∧ w' = w.alloc (.cells #[.int .i64 s] 3) := by
  refine callsIn_of_wp Try.func42 rfl trivial ?_ rfl
  simp only [Try.ntmps42, List.size_toArray, List.length_cons, List.length_nil, Nat.reduceAdd, Nat.reduceSub, Array.replicate_succ, Array.replicate_zero, List.push_toArray, List.append_toArray, List.nil_append, List.cons_append]
  gi_wp2
  go_ret
  exact ⟨rfl, rfl⟩
theorem pixels_stops (n : Nat) (hn : 1 ≤ n) (Bs n₀ m s : Nat) (hs1 : 1 ≤ s) (hs2 : s ≤ 256) (hb : Bs < n₀ ∨ m ≤ Bs) (w : World) (hBs : Bs < w.heap.size)
    (hs : w.cell? ⟨Bs, 0, none⟩ = some (.int .i64 (s : Int))) :
    SeqStopsK Fence.wide n Try.prog 70 #[.pointer (some ⟨Bs, 0, none⟩)] encQ (Kept n₀ m) (fun ys => ys = pixN s (s * s)) (fun _ => True) (s * s) w := fun l J Jx W hW hJ _ hY h0 =>
  pix1_in n hn l Bs n₀ m s hs1 hs2 hb J Jx hY W hJ ((hW.cell (p := ⟨Bs, 0, none⟩) hBs).trans hs) h0
end Go.Proofs.Ytakdeeknfcifpaa
