/- Walks: slices.Chunk of bytes: the iterator over a picture's rows. -/
import Derived.RangeFuncNested
import Derived.RangeFuncBound
import Derived.RangeFuncCalls
import Derived.RangeFuncLeaves
import Derived.Shelf.Abstract
import Derived.WalkKit
import Derived.OwnWalkIn
import Derived.TacticsInMore
import Derived.LoopNIn
import Derived.LoopIn
import Derived.Stop.RegionWithIn
import Derived.Lib.MinMax
import Derived.Test.YtinhbebjlbnejaaDoorFi
namespace Go.Proofs.YtinhbebjlbnejaaDoor
open Go Go.RowKit Go.Shelf
open Go.Lib (hid)
attribute [local go_sem] Oper.semAt_some
set_option linter.unusedSimpArgs false
set_option linter.unusedVariables false

/-- What a round keeps: blocks of cells that are no rows of bytes, but for one. -/
def KpB (e : TypeId) (b : Nat) (A B : World) : Prop := A.heap.size ≤ B.heap.size ∧ ∀ (k : Nat) (o : Obj), A.heap[k]? = some o → o.isCells = true → k ≠ b → (∀ c fz, o ≠ .cells c e fz) → B.heap[k]? = some o
theorem KpB.refl (e : TypeId) (b : Nat) (A : World) : KpB e b A A := ⟨Nat.le_refl _, fun _ _ h _ _ _ => h⟩
theorem KpB.trans {e : TypeId} {b : Nat} {A B C : World} (h : KpB e b A B) (k : KpB e b B C) : KpB e b A C := ⟨Nat.le_trans h.1 k.1, fun r o ho hc hr hx => k.2 r o (h.2 r o ho hc hr hx) hc hr hx⟩
theorem KpB.of {e : TypeId} {b : Nat} {A B : World} (hs : A.heap.size ≤ B.heap.size) (h : Lib.OthersKept e (some b) A B) : KpB e b A B :=
  ⟨hs, fun k o ho _ hk hx => h k o ho (fun e => hk (by cases e; rfl)) hx⟩
theorem KpB.boxed {e : TypeId} {b : Nat} {A B : World} (h : KpB e b A B) {r : Nat} {t : TypeId} {v : Value} (hb : Boxed A r t v) (hr : r ≠ b) (ht : t ≠ e) : Boxed B r t v :=
  h.2 r _ hb rfl hr (fun c fz e => by cases e; exact ht rfl)
theorem KpB.put (e : TypeId) (b : Nat) (W : World) (l : Nat) (o o' : Obj) (h : W.heap[l]? = some o) (hc : o.isCells = false) : KpB e b W (W.putObj l o') := by
  have hg := grownBy_putObj' W l o'
  refine ⟨hg.size, fun k x hk hx _ _ => (hg.block k (Array.getElem?_eq_some_iff.1 hk).1 (fun e => ?_)).trans hk⟩
  cases e
  rw [hk] at h; cases h; rw [hx] at hc; cases hc

/-- A row's number. -/
abbrev Rw (H : Nat) := { k : Nat // k < H }
abbrev encR (bb oo Wd H : Nat) (x : Rw H) : Array Value := #[.slice (some ⟨bb, oo + x.1 * Wd, none⟩) Wd Wd]
def rwl (H : Nat) (h : 0 < H) (k : Nat) : Rw H := ⟨k % H, Nat.mod_lt _ h⟩
/-- The first k rows. -/
def rowN (H : Nat) (h : 0 < H) (k : Nat) : List (Rw H) := (List.range k).map (rwl H h)
theorem rowN_succ (H : Nat) (h : 0 < H) (k : Nat) : rowN H h (k + 1) = rowN H h k ++ [rwl H h k] := by simp [rowN, List.range_succ]
theorem rowN_len (H : Nat) (h : 0 < H) (k : Nat) : (rowN H h k).length = k := by simp [rowN]

theorem yes_no' {e : Ending} {A B : Prop} (h : (e = .returned (.bool true) ∧ A) ∨ (e = .returned (.bool false) ∧ B)) : ∃ b, e = .returned (.bool b) ∧ ((b = true ∧ A) ∨ (b = false ∧ B)) := by
  rcases h with ⟨rfl, h⟩ | ⟨rfl, h⟩
  · exact ⟨true, rfl, .inl ⟨rfl, h⟩⟩
  · exact ⟨false, rfl, .inr ⟨rfl, h⟩⟩

theorem slice_from (W : World) (b o len cap i : Nat) (h : i < len) (hc : len ≤ cap) :
    (Instr.slice 22 (.slice (some ⟨b, o, none⟩) len cap) (some (.int .i64 (i : Int))) none none).run Tryd.prog W = .ok (.slice (some ⟨b, o + i, none⟩) (len - i) (cap - i)) W := by
  have ht : Tryd.prog.underlying 22 = some (.slice (Tryd.prog.elem 22)) := by simp [Program.elem, Tryd.underlying22]
  have he : Tryd.prog.elem 22 = 5 := by simp [Program.elem, Tryd.underlying22]
  rw [run_slice_l W _ _ _ _ ht .i64 _ (by omega) (by omega), he, Tryd.sizeOf5]
  have hne : ¬ cap = i := by omega
  by_cases h0 : i = 0
  · subst h0; simp [Result.andThen, sliced, Addr.add, hne]
  · simp [Result.andThen, sliced, Addr.add, hne, h0]
theorem slice_part (W : World) (b o len cap i j : Nat) (h : i < j) (hj : j ≤ len) (hc : len ≤ cap) :
    (Instr.slice 22 (.slice (some ⟨b, o, none⟩) len cap) (some (.int .i64 (i : Int))) (some (.int .i64 (j : Int))) (some (.int .i64 (j : Int)))).run Tryd.prog W = .ok (.slice (some ⟨b, o + i, none⟩) (j - i) (j - i)) W := by
  have ht : Tryd.prog.underlying 22 = some (.slice (Tryd.prog.elem 22)) := by simp [Program.elem, Tryd.underlying22]
  have he : Tryd.prog.elem 22 = 5 := by simp [Program.elem, Tryd.underlying22]
  rw [run_slice_lhm W _ _ _ _ ht .i64 .i64 .i64 _ _ _ (by omega) (by omega) (by omega) (by omega), he, Tryd.sizeOf5]
  have hne : ¬ j = i := by omega
  by_cases h0 : i = 0
  · subst h0; simp [Result.andThen, sliced, Addr.add, hne]
  · simp [Result.andThen, sliced, Addr.add, hne, h0]

set_option maxRecDepth 100000 in
set_option maxHeartbeats 4000000 in
theorem chunk1_in (n : Nat) (hn : 1 ≤ n) (l b0 Bs Bn bb oo c Wd H : Nat) (hW1 : 1 ≤ Wd) (hW2 : Wd ≤ 256) (hH : 0 < H) (hH2 : H ≤ 256) (hc : Wd * H ≤ c) (hs0 : Bs ≠ b0) (hn0 : Bn ≠ b0) (J Jx : List (Rw H) → World → Prop)
    (hY : ∀ pre x W, J pre W → pre.length < H → YieldAt Fence.wide (n - 1) Tryd.prog l (encR bb oo Wd H x) W fun e W' =>
      (e = .returned (.bool true) ∧ J (pre ++ [x]) W' ∧ KpB 5 b0 W W') ∨ (e = .returned (.bool false) ∧ Jx (pre ++ [x]) W'))
    (W : World) (hJ : AbidesFrom W.heap.size J) (hBs : Boxed W Bs 22 (.slice (some ⟨bb, oo, none⟩) (Wd * H) c)) (hBn : Boxed W Bn 3 (.int .i64 (Wd : Int))) (h0 : J [] W) :
    CallsIn Fence.wide n Tryd.prog 46 #[.func (.yield l) #[] #[], .pointer (some ⟨Bs, 0, none⟩), .pointer (some ⟨Bn, 0, none⟩)] W fun e W' => (∃ v, e = .returned v) ∧
      ((∃ ys, ys = rowN H hH H ∧ J ys W') ∨ (∃ pre, True ∧ Jx pre W')) := by
  refine callsIn_of_wp Tryd.func46 rfl trivial ?_ rfl
  simp only [Tryd.ntmps46, List.size_toArray, List.length_cons, List.length_nil, Nat.reduceAdd, Nat.reduceSub, Array.replicate_succ, Array.replicate_zero, List.push_toArray, List.append_toArray, List.nil_append, List.cons_append]
  have hss : Wd * H ≤ 65536 := Nat.mul_le_mul hW2 hH2
  gi_wp2
  gi_loopw [4] (fun i wr => ∃ k p : Nat, p = k * Wd ∧ k ≤ H ∧ i = .int .i64 (p : Int) ∧ J (rowN H hH k) wr ∧ KpB 5 b0 W wr)
    (fun i _ => Wd * H - (intOf i).toNat)
  case atStart => exact ⟨0, 0, (Nat.zero_mul _).symm, Nat.zero_le _, rfl, h0, KpB.refl _ _ _⟩
  case round =>
    obtain ⟨k, p, hp, hk, rfl, hJs, hnx⟩ := hrel
    have bs := hnx.boxed hBs hs0 (by decide)
    have bn := hnx.boxed hBn hn0 (by decide)
    have cs := bs.cell
    have cn := bn.cell
    by_cases hlt : k < H
    · have hpl : p + Wd ≤ Wd * H := by
        have h1 : (k + 1) * Wd ≤ H * Wd := Nat.mul_le_mul_right _ hlt
        rw [hp, Nat.mul_comm Wd H]
        rw [Nat.succ_mul] at h1
        exact h1
      have hg0 : ∀ (w : World) row, w.grownBy w.drew row := fun _ _ => ⟨rfl, rfl, rfl, Nat.le_refl _, fun _ _ _ => rfl⟩
      have hJd : J (rowN H hH k) wr.drew := hJ _ wr _ none hJs (hg0 wr none) (fun _ e => by cases e)
      obtain ⟨fn1, tmps1, assign1, body1, hy1, hR1⟩ := hY _ (rwl H hH k) _ hJd (by rw [rowN_len]; exact hlt)
      have hkd : KpB 5 b0 wr wr.drew := ⟨Nat.le_refl _, fun _ _ h _ _ _ => h⟩
      have m1 : k % H = k := Nat.mod_eq_of_lt hlt
      dsimp only [encR, rwl] at hy1
      rw [m1, ← hp] at hy1
      have hy2 := hid hy1
      clear hy1
      have F1 := fun W => slice_from W bb oo (Wd * H) c p (by omega) hc
      have F2 : ∀ W : World, (Instr.slice 22 (.slice (some ⟨bb, oo, none⟩) (Wd * H) c) (some (.int .i64 (p : Int))) (some (.int .i64 ((p : Int) + (Wd : Int)))) (some (.int .i64 ((p : Int) + (Wd : Int))))).run Tryd.prog W = .ok (.slice (some ⟨bb, oo + p, none⟩) Wd Wd) W := fun W => by
        have := slice_part W bb oo (Wd * H) c p (p + Wd) (by omega) hpl hc
        rwa [Int.natCast_add, Nat.add_sub_cancel_left] at this
      have E1 : IntKind.i64.wrap ((p : Int) + (Wd : Int)) = (p : Int) + (Wd : Int) := by rw [IntKind.wrap_i64]; omega
      have E2 : min (Wd : Int) ((Wd * H - p : Nat) : Int) = (Wd : Int) := by omega
      have hP := hid hp
      clear hp
      obtain ⟨L, hL⟩ : ∃ L, L = Wd * H := ⟨_, rfl⟩
      rw [← hL] at cs F1 F2 hpl hss E2
      replace hL := hid hL
      gi_wp2
      gi_region
      have hy1 := hy2.out
      gi_wp2_with (with_reducible refine hR1.mono ?_; clear hR1 hy1; intro e W1 hh; rcases hh with ⟨rfl, hJ1, hk1⟩ | ⟨rfl, hx1⟩ <;> try (have bn1 := (hk1.boxed (hkd.boxed bn hn0 (by decide)) hn0 (by decide)).cell))
      all_goals gi_wp2
      · go_roundw
        case rel => exact ⟨k + 1, p + Wd, by rw [hP.out, Nat.succ_mul], hlt, rfl, by rw [rowN_succ]; exact hJ1, hnx.trans (hkd.trans hk1)⟩
        case measure =>
          have hL' : Wd * H = L := hL.out.symm
          show Wd * H - (intOf (.int .i64 ((p : Int) + (Wd : Int)))).toNat < Wd * H - (intOf (.int .i64 (p : Int))).toNat
          rw [hL']
          simp only [intOf]
          omega
      · refine bodyPost_ret (results_none rfl _ _ _) rfl ?_
        exact ⟨⟨_, rfl⟩, .inr ⟨_, trivial, hx1⟩⟩
    · obtain rfl : k = H := by omega
      rw [Nat.mul_comm] at hp
      subst hp
      gi_wp2
      go_end0
      exact ⟨⟨_, rfl⟩, .inl ⟨_, rfl, hJs⟩⟩

set_option maxHeartbeats 1000000 in
theorem chunk_in (n : Nat) (ao : Option Addr) (m c : Nat) (k : Nat) (hk : 1 ≤ k) (w : World) :
    CallsIn Fence.wide n Tryd.prog 27 #[.slice ao m c, .int .i64 (k : Int)] w fun e w' => e = .returned (.func (.func 46) #[] #[.pointer (some ⟨w.heap.size, 0, none⟩), .pointer (some ⟨w.heap.size + 1, 0, none⟩)]) ∧ w' = (w.alloc (.cells #[.slice ao m c] 22)).alloc (.cells #[.int .i64 (k : Int)] 3) := by
  refine callsIn_of_wp Tryd.func27 rfl trivial ?_ rfl
  simp only [Tryd.ntmps27, List.size_toArray, List.length_cons, List.length_nil, Nat.reduceAdd, Nat.reduceSub, Array.replicate_succ, Array.replicate_zero, List.push_toArray, List.append_toArray, List.nil_append, List.cons_append]
  gi_wp2
  go_ret
  exact ⟨rfl, rfl⟩
theorem chunk_stops (n : Nat) (hn : 1 ≤ n) (b0 Bs Bn bb oo c Wd H : Nat) (hW1 : 1 ≤ Wd) (hW2 : Wd ≤ 256) (hH : 0 < H) (hH2 : H ≤ 256) (hc : Wd * H ≤ c) (hs0 : Bs ≠ b0) (hn0 : Bn ≠ b0) (w : World)
    (hBs : Boxed w Bs 22 (.slice (some ⟨bb, oo, none⟩) (Wd * H) c)) (hBn : Boxed w Bn 3 (.int .i64 (Wd : Int))) :
    SeqStopsK Fence.wide n Tryd.prog 46 #[.pointer (some ⟨Bs, 0, none⟩), .pointer (some ⟨Bn, 0, none⟩)] (encR bb oo Wd H) (KpB 5 b0) (fun ys => ys = rowN H hH H) (fun _ => True) H w := fun l J Jx W hW hJ _ hY h0 =>
  chunk1_in n hn l b0 Bs Bn bb oo c Wd H hW1 hW2 hH hH2 hc hs0 hn0 J Jx hY W hJ ((hW.block _ hBs.lt).trans hBs) ((hW.block _ hBn.lt).trans hBn) h0
end Go.Proofs.YtinhbebjlbnejaaDoor
