/- Walks: package ival: Pi, turned, bare; what is known. Walks: package ival: two.all: of all ends of two intervals. Walks: package ival: two.all: where there is no error. Walks: package ival: two.all: where a pair of ends has an error. Walks: package ival: two.all, of any two intervals whose ends' results are right. Walks: package ival: a calculator's Mul. Walks: package ival: a calculator's Div. -/
import Derived.Test.YtakdeeknfcifpaaN1
import Derived.Test.YtakdeeknfcifpaaDc
import Derived.LoopN
import Derived.Outline
/-! Walks: package ival: Pi, turned, bare; what is known. -/
namespace Go.Proofs.Ytakdeeknfcifpaa
open Go.RowKit

theorem piUp : Dy.dNext 4614256656552045848 true = (4614256656552045849, 0) := by decide +kernel
/-- The interval of pi. -/
def piIv : Nat × Nat := (4614256656552045848, 4614256656552045849)

end Go.Proofs.Ytakdeeknfcifpaa
/-! Walks: package ival: two.all: of all ends of two intervals. -/
namespace Go.Proofs.Ytakdeeknfcifpaa
open Go.RowKit

/-- The state of 'all': the second interval, the result's variable, and what there is so far. -/
structure A4 (S : Nat) (b u : Nat × Nat) (w : World) : Prop where
  lt : S + 3 < w.heap.size
  b0 : w.cell? ⟨S + 1, 0, none⟩ = some (.float .f64 b.1)
  b1 : w.cell? ⟨S + 1, 1, none⟩ = some (.float .f64 b.2)
  z0 : w.cell? ⟨S + 2, 0, none⟩ = some (.float .f64 0)
  z1 : w.cell? ⟨S + 2, 1, none⟩ = some (.float .f64 0)
  y0 : w.frozen? ⟨S + 2, 0, none⟩ = false
  y1 : w.frozen? ⟨S + 2, 1, none⟩ = false
  u0 : w.cell? ⟨S + 3, 0, none⟩ = some (.float .f64 u.1)
  u1 : w.cell? ⟨S + 3, 1, none⟩ = some (.float .f64 u.2)
  v0 : w.frozen? ⟨S + 3, 0, none⟩ = false
  v1 : w.frozen? ⟨S + 3, 1, none⟩ = false
theorem A4.keep {S : Nat} {b u : Nat × Nat} {w w' : World} (h : A4 S b u w) (hb : Below w.heap.size w w') : A4 S b u w' := by
  have hl := h.lt
  exact ⟨Nat.lt_of_lt_of_le hl hb.size, carry hb (by omega) h.b0, carry hb (by omega) h.b1, carry hb (by omega) h.z0, carry hb (by omega) h.z1,
    (hb.frozen (p := ⟨S + 2, 0, none⟩) (show S + 2 < w.heap.size by omega)).trans h.y0, (hb.frozen (p := ⟨S + 2, 1, none⟩) (show S + 2 < w.heap.size by omega)).trans h.y1, carry hb (by omega) h.u0, carry hb (by omega) h.u1,
    (hb.frozen (p := ⟨S + 3, 0, none⟩) (show S + 3 < w.heap.size by omega)).trans h.v0, (hb.frozen (p := ⟨S + 3, 1, none⟩) (show S + 3 < w.heap.size by omega)).trans h.v1⟩

end Go.Proofs.Ytakdeeknfcifpaa
/-! Walks: package ival: two.all: where there is no error. -/
namespace Go.Proofs.Ytakdeeknfcifpaa
open Go.RowKit

theorem A4.set {S : Nat} {b u : Nat × Nat} {w : World} (h : A4 S b u w) (v : Nat × Nat) : A4 S b v ((w.setCell ⟨S + 3, 0, none⟩ (.float .f64 v.1)).setCell ⟨S + 3, 1, none⟩ (.float .f64 v.2)) := by
  obtain ⟨h0, h1, h2, h3, h4, h5, h6, h7, h8, h9, h10⟩ := h
  constructor
  all_goals simp [go_sem, *]

end Go.Proofs.Ytakdeeknfcifpaa
/-! Walks: package ival: two.all: where a pair of ends has an error. -/
namespace Go.Proofs.Ytakdeeknfcifpaa
open Go.RowKit

end Go.Proofs.Ytakdeeknfcifpaa
/-! Walks: package ival: two.all, of any two intervals whose ends' results are right. -/
namespace Go.Proofs.Ytakdeeknfcifpaa
open Go.RowKit

end Go.Proofs.Ytakdeeknfcifpaa
/-! Walks: package ival: a calculator's Mul. -/
namespace Go.Proofs.Ytakdeeknfcifpaa
open Go.RowKit

theorem mul_good {a b : Nat × Nat} (ra : Dy.ivR a = true) (rb : Dy.ivR b = true) : ∀ x y, (x = a.1 ∨ x = a.2) → (y = b.1 ∨ y = b.2) → (Dy.iEnds (Dy.dMul x y false) (Dy.dMul x y true)).2 = 0 → Dy.Good (Dy.iEnds (Dy.dMul x y false) (Dy.dMul x y true)) := by
  intro x y hx hy h
  obtain ⟨a1, a2, _⟩ := Dy.ivR_of ra
  obtain ⟨b1, b2, _⟩ := Dy.ivR_of rb
  have rx : Dy.right x = true := by rcases hx with rfl | rfl <;> assumption
  have ry : Dy.right y = true := by rcases hy with rfl | rfl <;> assumption
  rw [Dy.dMul_out rx ry, Dy.dMul_out rx ry] at h ⊢
  exact Dy.good_ends (Dy.fl_le_up Dy.one_pos) h

theorem below4 (w : World) (o1 o2 o3 o4 : Obj) : Below w.heap.size w ((((w.alloc o1).alloc o2).alloc o3).alloc o4) :=
  ((((Below.refl _ _).alloc (Nat.le_refl _) _).alloc (by simp) _).alloc (by simp; omega) _).alloc (by simp; omega) _

end Go.Proofs.Ytakdeeknfcifpaa
/-! Walks: package ival: a calculator's Div. -/
namespace Go.Proofs.Ytakdeeknfcifpaa
open Go.RowKit

theorem div_good {a b : Nat × Nat} (hb : Dy.WW b) (ra : Dy.ivR a = true) (rb : Dy.ivR b = true) : ∀ x y, (x = a.1 ∨ x = a.2) → (y = b.1 ∨ y = b.2) → (Dy.iEnds (Dy.dDiv x y false) (Dy.dDiv x y true)).2 = 0 → Dy.Good (Dy.iEnds (Dy.dDiv x y false) (Dy.dDiv x y true)) := by
  intro x y hx hy h
  obtain ⟨a1, a2, _⟩ := Dy.ivR_of ra
  obtain ⟨b1, b2, _⟩ := Dy.ivR_of rb
  have rx : Dy.right x = true := by rcases hx with rfl | rfl <;> assumption
  have ry : Dy.right y = true := by rcases hy with rfl | rfl <;> assumption
  have wy : Dy.W y := by
    rcases hy with rfl | rfl
    · exact hb.1
    · exact hb.2
  have d : ∀ up, Dy.dDiv x y up = if y = 0 then (0, 11) else Dy.out (Dy.divR (Dy.dec x) (Dy.dec y) up) up := by
    intro up; unfold Dy.dDiv; rw [rx, ry, if_neg (by decide)]
  by_cases y0 : y = 0
  · rw [d, d, if_pos y0, if_pos y0] at h
    exact absurd h (by decide)
  · rw [d, d, if_neg y0, if_neg y0] at h ⊢
    refine Dy.good_ends (Dy.divR_le ?_) h
    intro h0
    have := Dy.enc_of_dec wy ry
    rw [h0] at this
    exact y0 (by rw [← this]; rfl)

end Go.Proofs.Ytakdeeknfcifpaa
