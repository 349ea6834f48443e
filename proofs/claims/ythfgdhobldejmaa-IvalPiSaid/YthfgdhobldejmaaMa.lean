/- Walks: a calculator in memory: one block of one cell; what calls upon it leave as it was. -/
import Derived.Test.YthfgdhobldejmaaKj
import Derived.Test.YthfgdhobldejmaaEa
namespace Go.Proofs.Ythfgdhobldejmaa
open Go.RowKit

/-- Below block number n the world is as it was, but for block c. -/
structure But (c n : Nat) (w w' : World) : Prop where
  os : w'.os = w.os
  tape : w'.tape = w.tape
  output : w'.output = w.output
  size : w.heap.size ≤ w'.heap.size
  block : ∀ k, k < n → k ≠ c → w'.heap[k]? = w.heap[k]?

theorem But.refl (c n : Nat) (w : World) : But c n w w := ⟨rfl, rfl, rfl, Nat.le_refl _, fun _ _ _ => rfl⟩
theorem But.of {c n : Nat} {w w' : World} (h : Below n w w') : But c n w w' := ⟨h.os, h.tape, h.output, h.size, fun k hk _ => h.block k hk⟩
theorem But.trans {c n : Nat} {u v w : World} (h : But c n u v) (k : But c n v w) : But c n u w :=
  ⟨k.os.trans h.os, k.tape.trans h.tape, k.output.trans h.output, Nat.le_trans h.size k.size, fun i hi hc => (k.block i hi hc).trans (h.block i hi hc)⟩
theorem But.mono {c n m : Nat} {w w' : World} (h : But c n w w') (hm : m ≤ n) : But c m w w' := ⟨h.os, h.tape, h.output, h.size, fun k hk hc => h.block k (Nat.lt_of_lt_of_le hk hm) hc⟩
theorem But.below {c n : Nat} {w w' : World} (h : But c n w w') (hc : n ≤ c) : Below n w w' := ⟨h.os, h.tape, h.output, h.size, fun k hk => h.block k hk (by omega)⟩
theorem But.set {c n : Nat} {u w : World} (h : But c n u w) (v : Value) (o : Nat) : But c n u (w.setCell ⟨c, o, none⟩ v) :=
  h.trans ⟨rfl, rfl, rfl, by simp [World.setCell], fun k _ hk => Below.heap_setCell _ _ _ _ hk⟩
theorem But.more {c n m : Nat} {u v w : World} (h : But c n u v) (k : Below m v w) (hm : n ≤ m) : But c n u w := h.trans (But.of (k.mono hm))

theorem cell_of_block {w w' : World} {k o : Nat} (h : w'.heap[k]? = w.heap[k]?) : w'.cell? ⟨k, o, none⟩ = w.cell? ⟨k, o, none⟩ := by
  unfold World.cell?; simp only [h]
theorem frozen_of_block {w w' : World} {k o : Nat} (h : w'.heap[k]? = w.heap[k]?) : w'.frozen? ⟨k, o, none⟩ = w.frozen? ⟨k, o, none⟩ := by
  unfold World.frozen?; simp only [h]

theorem But.cell {c n k o : Nat} {w w' : World} (h : But c n w w') (hk : k < n) (hc : k ≠ c) : w'.cell? ⟨k, o, none⟩ = w.cell? ⟨k, o, none⟩ := cell_of_block (h.block k hk hc)
theorem But.frozen {c n k o : Nat} {w w' : World} (h : But c n w w') (hk : k < n) (hc : k ≠ c) : w'.frozen? ⟨k, o, none⟩ = w.frozen? ⟨k, o, none⟩ := frozen_of_block (h.block k hk hc)

/-- A calculator lies in block c, its error is err. -/
structure Cal (c : Nat) (err : Int) (w : World) : Prop where
  lt : c < w.heap.size
  cell : w.cell? ⟨c, 0, none⟩ = some (.int .i64 err)
  free : w.frozen? ⟨c, 0, none⟩ = false

theorem Cal.keep {c : Nat} {err : Int} {w w' : World} (h : Cal c err w) (hb : Below w.heap.size w w') : Cal c err w' :=
  ⟨Nat.lt_of_lt_of_le h.lt hb.size, (hb.cell (p := ⟨c, 0, none⟩) h.lt).trans h.cell, (hb.frozen (p := ⟨c, 0, none⟩) h.lt).trans h.free⟩

/-- A call upon a calculator: its answer, its error behind it, and all else as it was. -/
def Asked (c : Nat) (r : (Nat × Nat) × Int) (w : World) (e : Ending) (w' : World) : Prop :=
  e = .returned (.agg #[.float .f64 r.1.1, .float .f64 r.1.2]) ∧ But c w.heap.size w w' ∧ Cal c r.2 w'

abbrev iv (a : Nat × Nat) : Value := .agg #[.float .f64 a.1, .float .f64 a.2]
end Go.Proofs.Ythfgdhobldejmaa
