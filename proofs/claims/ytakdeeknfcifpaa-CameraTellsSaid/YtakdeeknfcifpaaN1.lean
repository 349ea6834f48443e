/- Walks: a calculator in memory: one block of one cell; what calls upon it leave as it was. Walks: package ival: what is an interval; its parts. Walks: package ival: an operation of two numbers, still without a way; down of one thing, up of another one. Walks: package ival: ask: an answer of right intervals, as long as there is no error. Walks: package ival: a calculator's Num, Add, Sub. Walks: package ival: a calculator's Add, Sub. Walks: package ival: a calculator's Add, Sub: the methods. Walks: package ival: Has, Pi, turned, bare, known. -/
import Derived.Test.YtakdeeknfcifpaaKj
import Derived.Test.YtakdeeknfcifpaaEa
import Derived.RegionTactic
import Derived.Deep.RegionHeld3
import Derived.LoopTactic
import Derived.LoopN
import Derived.Laws.EntriesVeiled
/-! Walks: a calculator in memory: one block of one cell; what calls upon it leave as it was. -/
namespace Go.Proofs.Ytakdeeknfcifpaa
open Go.RowKit

/-- Below block number n the world is as it was, but for block c. -/
structure But (c n : Nat) (w w' : World) : Prop where
  os : w'.os = w.os
  tape : w'.tape = w.tape
  output : w'.output = w.output
  size : w.heap.size ≤ w'.heap.size
  block : ∀ k, k < n → k ≠ c → w'.heap[k]? = w.heap[k]?

theorem But.refl (c n : Nat) (w : World) : But c n w w := ⟨rfl, rfl, rfl, Nat.le_refl _, fun _ _ _ => rfl⟩
theorem But.of {c n : Nat} {w w' : World} (h : Below n w w') : But c n w w' := ⟨h.os, h.tape, h.output, h.size, fun k hk _ => h.block k hk⟩
theorem But.trans {c n : Nat} {u v w : World} (h : But c n u v) (k : But c n v w) : But c n u w :=
  ⟨k.os.trans h.os, k.tape.trans h.tape, k.output.trans h.output, Nat.le_trans h.size k.size, fun i hi hc => (k.block i hi hc).trans (h.block i hi hc)⟩
theorem But.mono {c n m : Nat} {w w' : World} (h : But c n w w') (hm : m ≤ n) : But c m w w' := ⟨h.os, h.tape, h.output, h.size, fun k hk hc => h.block k (Nat.lt_of_lt_of_le hk hm) hc⟩
theorem But.below {c n : Nat} {w w' : World} (h : But c n w w') (hc : n ≤ c) : Below n w w' := ⟨h.os, h.tape, h.output, h.size, fun k hk => h.block k hk (by omega)⟩
theorem But.set {c n : Nat} {u w : World} (h : But c n u w) (v : Value) (o : Nat) : But c n u (w.setCell ⟨c, o, none⟩ v) :=
  h.trans ⟨rfl, rfl, rfl, by simp [World.setCell], fun k _ hk => Below.heap_setCell _ _ _ _ hk⟩
theorem But.more {c n m : Nat} {u v w : World} (h : But c n u v) (k : Below m v w) (hm : n ≤ m) : But c n u w := h.trans (But.of (k.mono hm))

theorem cell_of_block {w w' : World} {k o : Nat} (h : w'.heap[k]? = w.heap[k]?) : w'.cell? ⟨k, o, none⟩ = w.cell? ⟨k, o, none⟩ := by
  unfold World.cell?; simp only [h]
theorem frozen_of_block {w w' : World} {k o : Nat} (h : w'.heap[k]? = w.heap[k]?) : w'.frozen? ⟨k, o, none⟩ = w.frozen? ⟨k, o, none⟩ := by
  unfold World.frozen?; simp only [h]

theorem But.cell {c n k o : Nat} {w w' : World} (h : But c n w w') (hk : k < n) (hc : k ≠ c) : w'.cell? ⟨k, o, none⟩ = w.cell? ⟨k, o, none⟩ := cell_of_block (h.block k hk hc)
theorem But.frozen {c n k o : Nat} {w w' : World} (h : But c n w w') (hk : k < n) (hc : k ≠ c) : w'.frozen? ⟨k, o, none⟩ = w.frozen? ⟨k, o, none⟩ := frozen_of_block (h.block k hk hc)

/-- A calculator lies in block c, its error is err. -/
structure Cal (c : Nat) (err : Int) (w : World) : Prop where
  lt : c < w.heap.size
  cell : w.cell? ⟨c, 0, none⟩ = some (.int .i64 err)
  free : w.frozen? ⟨c, 0, none⟩ = false

theorem Cal.keep {c : Nat} {err : Int} {w w' : World} (h : Cal c err w) (hb : Below w.heap.size w w') : Cal c err w' :=
  ⟨Nat.lt_of_lt_of_le h.lt hb.size, (hb.cell (p := ⟨c, 0, none⟩) h.lt).trans h.cell, (hb.frozen (p := ⟨c, 0, none⟩) h.lt).trans h.free⟩

/-- A call upon a calculator: its answer, its error behind it, and all else as it was. -/
def Asked (c : Nat) (r : (Nat × Nat) × Int) (w : World) (e : Ending) (w' : World) : Prop :=
  e = .returned (.agg #[.float .f64 r.1.1, .float .f64 r.1.2]) ∧ But c w.heap.size w w' ∧ Cal c r.2 w'

abbrev iv (a : Nat × Nat) : Value := .agg #[.float .f64 a.1, .float .f64 a.2]
end Go.Proofs.Ytakdeeknfcifpaa
/-! Walks: package ival: what is an interval; its parts. -/
namespace Go.Proofs.Ytakdeeknfcifpaa
open Go.RowKit

@[go_sem] theorem run_store_float {P : Program} {w : World} {a : Addr} {m : Mode} (k : FloatKind) (b : Nat) : (store a (.float k b) m).run P w = stored P w a (.float k b) m := run_store P w a _ m rfl

end Go.Proofs.Ytakdeeknfcifpaa
/-! Walks: package ival: an operation of two numbers, still without a way; down of one thing, up of another one. -/
namespace Go.Proofs.Ytakdeeknfcifpaa
open Go.RowKit

/-- What a function of two numbers and a way answers. -/
def OpC (K : Nat) (o : Nat → Nat → Bool → Nat × Int) : Prop :=
  ∀ x y up w, Dy.W x → Dy.W y → Calls Try.prog K #[.float .f64 x, .float .f64 y, .bool up] w fun e w' => e = .returned (.tuple #[.float .f64 (o x y up).1, .int .i64 (o x y up).2]) ∧ Below w.heap.size w w'

theorem opc_add : OpC 31 Dy.dAdd := fun x y up w hx hy => add_any x y up w hx hy
theorem opc_sub : OpC 32 Dy.dSub := fun x y up w hx hy => sub_any x y up w hx hy
theorem opc_mul : OpC 30 Dy.dMul := fun x y up w hx hy => mul_any x y up w hx hy
theorem opc_div : OpC 68 Dy.dDiv := fun x y up w hx hy => div_any x y up w hx hy

structure Clo (B : Nat) (K : Nat) (x y : Nat) (w : World) : Prop where
  lt : B + 2 < w.heap.size
  c0 : w.cell? ⟨B, 0, none⟩ = some (.func (Fn.func K) #[] #[])
  c1 : w.cell? ⟨B + 1, 0, none⟩ = some (.float .f64 x)
  c2 : w.cell? ⟨B + 2, 0, none⟩ = some (.float .f64 y)

theorem carry {n : Nat} {W W' : World} {b o : Nat} {v : Value} (hB : Below n W W') (hb : b < n) (h : W.cell? ⟨b, o, none⟩ = some v) : W'.cell? ⟨b, o, none⟩ = some v :=
  (hB.cell (p := ⟨b, o, none⟩) hb).trans h

theorem Clo.keep {B K x y : Nat} {w w' : World} (h : Clo B K x y w) (hb : Below w.heap.size w w') : Clo B K x y w' := by
  have hs := h.lt
  exact ⟨Nat.lt_of_lt_of_le hs hb.size, carry hb (by omega) h.c0, carry hb (by omega) h.c1, carry hb (by omega) h.c2⟩

end Go.Proofs.Ytakdeeknfcifpaa
/-! Walks: package ival: ask: an answer of right intervals, as long as there is no error. -/
namespace Go.Proofs.Ytakdeeknfcifpaa
open Go.RowKit

/-- What a call of a function value answers, in each world that holds what this one holds. -/
def Ans (K : Nat) (cap : Array Value) (r : (Nat × Nat) × Int) (w : World) : Prop :=
  ∀ w', Below w.heap.size w w' → Calls Try.prog K cap w' fun e w'' => e = .returned (.tuple #[iv r.1, .int .i64 r.2]) ∧ Below w'.heap.size w' w''

/-- The result's own variable, behind w, still 0 to 0. -/
structure St (w w1 : World) : Prop where
  bel : Below w.heap.size w w1
  sz : w.heap.size < w1.heap.size
  z0 : w1.cell? ⟨w.heap.size, 0, none⟩ = some (.float .f64 0)
  z1 : w1.cell? ⟨w.heap.size, 1, none⟩ = some (.float .f64 0)
  f0 : w1.frozen? ⟨w.heap.size, 0, none⟩ = false
  f1 : w1.frozen? ⟨w.heap.size, 1, none⟩ = false
theorem St.keep {w w1 w2 : World} (h : St w w1) (hb : Below w1.heap.size w1 w2) : St w w2 := by
  have hs := h.sz
  exact ⟨h.bel.trans (hb.mono (by omega)), Nat.lt_of_lt_of_le hs hb.size, carry hb hs h.z0, carry hb hs h.z1, (hb.frozen (p := ⟨w.heap.size, 0, none⟩) hs).trans h.f0, (hb.frozen (p := ⟨w.heap.size, 1, none⟩) hs).trans h.f1⟩
theorem St.alloc {w w1 : World} (h : St w w1) (o : Obj) : St w (w1.alloc o) := h.keep ((Below.refl _ _).alloc (Nat.le_refl _) _)

end Go.Proofs.Ytakdeeknfcifpaa
/-! Walks: package ival: a calculator's Num, Add, Sub. -/
namespace Go.Proofs.Ytakdeeknfcifpaa
open Go.RowKit

/-- The answer, stored into the result's own block q: what is asked of a method. -/
theorem asked_end {c q : Nat} {re : Int} {u v : Value} {w W w1 : World} (hb : Below w.heap.size w W) (hB : But c W.heap.size W w1) (hC : Cal c re w1) (hq : w.heap.size ≤ q) (hc : c ≠ q) :
    But c w.heap.size w ((w1.setCell ⟨q, 0, none⟩ u).setCell ⟨q, 1, none⟩ v) ∧ Cal c re ((w1.setCell ⟨q, 0, none⟩ u).setCell ⟨q, 1, none⟩ v) := by
  refine ⟨((But.of hb).trans (hB.mono hb.size)).trans (But.of (((Below.refl w.heap.size _).setCell hq _).setCell hq _)), ?_, ?_, ?_⟩
  · simp; exact hC.lt
  · rw [World.cell?_setCell_other _ _ _ _ (fun h => hc (congrArg Addr.block h).symm), World.cell?_setCell_other _ _ _ _ (fun h => hc (congrArg Addr.block h).symm)]; exact hC.cell
  · simp [go_sem]; exact hC.free
theorem asked_cells {c q : Nat} {W w1 : World} (hB : But c W.heap.size W w1) (hq : q < W.heap.size) (hc : q ≠ c) :
    (∀ o, w1.cell? ⟨q, o, none⟩ = W.cell? ⟨q, o, none⟩) ∧ (∀ o, w1.frozen? ⟨q, o, none⟩ = W.frozen? ⟨q, o, none⟩) := ⟨fun _ => hB.cell hq hc, fun _ => hB.frozen hq hc⟩

end Go.Proofs.Ytakdeeknfcifpaa
/-! Walks: package ival: a calculator's Add, Sub. -/
namespace Go.Proofs.Ytakdeeknfcifpaa
open Go.RowKit

theorem ex_cell' {w : World} {a : Addr} (h : (w.cell? a).isSome = true) : ∃ v, w.cell? a = some v := Option.isSome_iff_exists.1 h

/-- What a closure over an operation and two intervals reads. -/
structure Inn (p q s : Nat) (f : Value) (a b : Nat × Nat) (w : World) : Prop where
  lp : p < w.heap.size
  lq : q < w.heap.size
  ls : s < w.heap.size
  p0 : w.cell? ⟨p, 0, none⟩ = some f
  q0 : w.cell? ⟨q, 0, none⟩ = some (.float .f64 a.1)
  q1 : w.cell? ⟨q, 1, none⟩ = some (.float .f64 a.2)
  s0 : w.cell? ⟨s, 0, none⟩ = some (.float .f64 b.1)
  s1 : w.cell? ⟨s, 1, none⟩ = some (.float .f64 b.2)
theorem Inn.keep {p q s : Nat} {f : Value} {a b : Nat × Nat} {w w' : World} (h : Inn p q s f a b w) (hb : Below w.heap.size w w') : Inn p q s f a b w' :=
  ⟨Nat.lt_of_lt_of_le h.lp hb.size, Nat.lt_of_lt_of_le h.lq hb.size, Nat.lt_of_lt_of_le h.ls hb.size, carry hb h.lp h.p0, carry hb h.lq h.q0, carry hb h.lq h.q1, carry hb h.ls h.s0, carry hb h.ls h.s1⟩

/-- The result's variable, in block t. -/
structure Out (t : Nat) (w : World) : Prop where
  lt : t < w.heap.size
  z0 : w.cell? ⟨t, 0, none⟩ = some (.float .f64 0)
  z1 : w.cell? ⟨t, 1, none⟩ = some (.float .f64 0)
  f0 : w.frozen? ⟨t, 0, none⟩ = false
  f1 : w.frozen? ⟨t, 1, none⟩ = false
theorem Out.keep {t : Nat} {w w' : World} (h : Out t w) (hb : Below w.heap.size w w') : Out t w' :=
  ⟨Nat.lt_of_lt_of_le h.lt hb.size, carry hb h.lt h.z0, carry hb h.lt h.z1, (hb.frozen (p := ⟨t, 0, none⟩) h.lt).trans h.f0, (hb.frozen (p := ⟨t, 1, none⟩) h.lt).trans h.f1⟩

end Go.Proofs.Ytakdeeknfcifpaa
/-! Walks: package ival: a calculator's Add, Sub: the methods. -/
namespace Go.Proofs.Ytakdeeknfcifpaa
open Go.RowKit

theorem below5 (w : World) (o1 o2 o3 o4 o5 : Obj) : Below w.heap.size w (((((w.alloc o1).alloc o2).alloc o3).alloc o4).alloc o5) :=
  (((((Below.refl _ _).alloc (Nat.le_refl _) _).alloc (by simp) _).alloc (by simp; omega) _).alloc (by simp; omega) _).alloc (by simp; omega) _

end Go.Proofs.Ytakdeeknfcifpaa
/-! Walks: package ival: Has, Pi, turned, bare, known. -/
namespace Go.Proofs.Ytakdeeknfcifpaa
open Go.RowKit

end Go.Proofs.Ytakdeeknfcifpaa
