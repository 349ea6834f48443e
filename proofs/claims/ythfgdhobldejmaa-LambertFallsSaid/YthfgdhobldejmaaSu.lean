/- Walks: variables in memory, for regions that draw their order. -/
import Derived.Test.YthfgdhobldejmaaMw
import Derived.Test.YthfgdhobldejmaaSt
namespace Go.Proofs.Ythfgdhobldejmaa
open Go.RowKit

theorem Ivl.new (w : World) (r : Nat × Nat) : Ivl w.heap.size r (w.alloc (.cells #[.float .f64 r.1, .float .f64 r.2] 26)) := ⟨by simp, by simp [go_sem], by simp [go_sem]⟩
theorem Ivl.put {s : Nat} {b : Nat × Nat} {w : World} (h : Ivl s b w) (o : Obj) : Ivl s b (w.alloc o) := h.keep ((Below.refl _ _).alloc (Nat.le_refl _) _)

/-- Four whole numbers in block s. -/
structure U4 (s a b c d : Nat) (w : World) : Prop where
  lt : s < w.heap.size
  s0 : w.cell? ⟨s, 0, none⟩ = some (.int .u32 (a : Int))
  s1 : w.cell? ⟨s, 1, none⟩ = some (.int .u32 (b : Int))
  s2 : w.cell? ⟨s, 2, none⟩ = some (.int .u32 (c : Int))
  s3 : w.cell? ⟨s, 3, none⟩ = some (.int .u32 (d : Int))
theorem U4.keep {s a b c d : Nat} {w w' : World} (h : U4 s a b c d w) (hb : Below w.heap.size w w') : U4 s a b c d w' :=
  ⟨Nat.lt_of_lt_of_le h.lt hb.size, carry hb h.lt h.s0, carry hb h.lt h.s1, carry hb h.lt h.s2, carry hb h.lt h.s3⟩
theorem Out.new (w : World) : Out w.heap.size (w.alloc (.cells #[.float .f64 0, .float .f64 0] 26)) := ⟨by simp, by simp [go_sem], by simp [go_sem], by simp [go_sem], by simp [go_sem]⟩

/-- A variable of two cells, whatever they hold. -/
structure Box (t : Nat) (w : World) : Prop where
  lt : t < w.heap.size
  z0 : ∃ v, w.cell? ⟨t, 0, none⟩ = some v
  z1 : ∃ v, w.cell? ⟨t, 1, none⟩ = some v
  f0 : w.frozen? ⟨t, 0, none⟩ = false
  f1 : w.frozen? ⟨t, 1, none⟩ = false
theorem Box.keep {t : Nat} {w w' : World} (h : Box t w) (hb : Below w.heap.size w w') : Box t w' := by
  obtain ⟨v0, e0⟩ := h.z0
  obtain ⟨v1, e1⟩ := h.z1
  exact ⟨Nat.lt_of_lt_of_le h.lt hb.size, ⟨v0, carry hb h.lt e0⟩, ⟨v1, carry hb h.lt e1⟩, (hb.frozen (p := ⟨t, 0, none⟩) h.lt).trans h.f0, (hb.frozen (p := ⟨t, 1, none⟩) h.lt).trans h.f1⟩
theorem cell_set {w : World} {a b : Addr} {v : Value} (h : ∃ u, w.cell? b = some u) : ∃ u, (w.setCell a v).cell? b = some u := by
  obtain ⟨u, hu⟩ := h
  by_cases e : a = b
  · subst e
    exact ⟨v, World.cell?_setCell_same _ _ _ (by rw [hu])⟩
  · exact ⟨u, (World.cell?_setCell_other _ _ _ _ e).trans hu⟩
theorem Box.set {t : Nat} {w : World} (h : Box t w) (a : Addr) (v : Value) : Box t (w.setCell a v) :=
  ⟨by simp; exact h.lt, cell_set h.z0, cell_set h.z1, by simp [go_sem]; exact h.f0, by simp [go_sem]; exact h.f1⟩
theorem Box.new (w : World) : Box w.heap.size (w.alloc (.cells #[.float .f64 0, .float .f64 0] 26)) := ⟨by simp, ⟨.float .f64 0, by simp [go_sem]⟩, ⟨.float .f64 0, by simp [go_sem]⟩, by simp [go_sem], by simp [go_sem]⟩
end Go.Proofs.Ythfgdhobldejmaa
