/- Plain facts: a calculator's answers on ranks; of lesser intervals comes a lesser one. -/
import Derived.Test.YtkhplflbcgjkcaaGreatEa
namespace Go.Dy
def E (p : Int × Int) : Nat × Nat := (enc p.1, enc p.2)
structure Rk (p : Int × Int) : Prop where
 lo : ok p.1
 hi : ok p.2
 le : p.1 ≤ p.2
theorem Rk.d1 {p : Int × Int} (h : Rk p) : dec (E p).1 = p.1 := dec_enc h.lo
theorem Rk.d2 {p : Int × Int} (h : Rk p) : dec (E p).2 = p.2 := dec_enc h.hi
theorem Rk.r1 {p : Int × Int} (h : Rk p) : right (E p).1 = true := right_enc h.lo
theorem Rk.r2 {p : Int × Int} (h : Rk p) : right (E p).2 = true := right_enc h.hi
theorem Rk.w1 {p : Int × Int} (h : Rk p) : W (E p).1 := W_enc h.lo
theorem Rk.w2 {p : Int × Int} (h : Rk p) : W (E p).2 := W_enc h.hi
structure Wi (p q : Int × Int) : Prop where
 lo : q.1 ≤ p.1
 hi : p.2 ≤ q.2
theorem Wi.refl (p : Int × Int) : Wi p p := ⟨Int.le_refl _, Int.le_refl _⟩
theorem Wi.trans {p q r : Int × Int} (h : Wi p q) (k : Wi q r) : Wi p r := ⟨Int.le_trans k.lo h.lo, Int.le_trans h.hi k.hi⟩
def Got (r : (Nat × Nat) × Int) (p : Int × Int) : Prop := r = (E p, 0) ∧ Rk p
theorem Got.rk {r : (Nat × Nat) × Int} {p : Int × Int} (h : Got r p) : Rk p := h.2
theorem Got.e0 {r : (Nat × Nat) × Int} {p : Int × Int} (h : Got r p) : r.2 = 0 := by rw [h.1]
theorem Got.e1 {r : (Nat × Nat) × Int} {p : Int × Int} (h : Got r p) : r.1 = E p := by rw [h.1]
def rTurned (p : Int × Int) : Int × Int := (-p.2, -p.1)
def rBare (p : Int × Int) : Int × Int := if 0 ≤ p.1 then p else if p.2 ≤ 0 then rTurned p else (0, max p.2 (-p.1))
theorem ok_neg {z : Int} (h : ok z) : ok (-z) := by unfold ok at *; omega
theorem ok_zero : ok 0 := by have := top_eq; unfold ok; omega
theorem Rk.turned {p : Int × Int} (h : Rk p) : Rk (rTurned p) := ⟨ok_neg h.hi, ok_neg h.lo, by have := h.le; show -p.2 ≤ -p.1; omega⟩
theorem Rk.bare {p : Int × Int} (h : Rk p) : Rk (rBare p) ∧ 0 ≤ (rBare p).1 := by
 have a := h.lo; have b := h.hi
 unfold rBare
 by_cases c : 0 ≤ p.1
 ·rw [if_pos c]; exact ⟨h, c⟩
 ·rw [if_neg c]
  by_cases d : p.2 ≤ 0
  ·rw [if_pos d]; exact ⟨h.turned, by show 0 ≤ -p.2; omega⟩
  ·rw [if_neg d]
   unfold ok at a b
   exact ⟨⟨ok_zero, by unfold ok; dsimp only; omega, by dsimp only; omega⟩, Int.le_refl _⟩
theorem Wi.bare {p p' : Int × Int} (w : Wi p' p) (h : p'.1 ≤ p'.2) : Wi (rBare p') (rBare p) := by
 have a := w.lo; have b := w.hi
 unfold rBare rTurned
 constructor
 ·split <;> split <;> (try split) <;> (try split) <;> (try dsimp only) <;> omega
 ·split <;> split <;> (try split) <;> (try split) <;> (try dsimp only) <;> omega
end Go.Dy
