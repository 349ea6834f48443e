/- Plain facts: sequences that come together and are bounded. -/
import Derived.Test.YthmkjnhgialnlaaRd
namespace Go.Dy
structure Nr (x y : Nat → Rat) : Prop where
  n : Near x y
  bx : Bnd x
  by' : Bnd y
section
variable {x y z x' y' : Nat → Rat}
theorem bnd_add (h : Bnd x) (k : Bnd y) : Bnd (fun n => x n + y n) := by
  obtain ⟨A, a0, a⟩ := h
  obtain ⟨B, b0, b⟩ := k
  exact ⟨A + B, by grind, fun n => by have := a n; have := b n; exact ⟨by grind, by grind⟩⟩
theorem bnd_sub (h : Bnd x) (k : Bnd y) : Bnd (fun n => x n - y n) := by
  obtain ⟨A, a0, a⟩ := h
  obtain ⟨B, b0, b⟩ := k
  exact ⟨A + B, by grind, fun n => by have := a n; have := b n; exact ⟨by grind, by grind⟩⟩
theorem bnd_mul (h : Bnd x) (k : Bnd y) : Bnd (fun n => x n * y n) := by
  obtain ⟨A, a0, a⟩ := h
  obtain ⟨B, b0, b⟩ := k
  refine ⟨A * B, Rat.mul_pos a0 b0, fun n => ?_⟩
  obtain ⟨a1, a2⟩ := a n; obtain ⟨b1, b2⟩ := b n
  have t1 := mul_abs_le a1 a2 b1 b2
  have t2 := mul_abs_le (x := -x n) (m := A) (by grind) (by grind) b1 b2
  exact ⟨by grind, by grind⟩
theorem bnd_eq (e : ∀ n, x n = y n) (h : Bnd x) : Bnd y := by
  obtain ⟨A, a0, a⟩ := h
  exact ⟨A, a0, fun n => by rw [← e n]; exact a n⟩
theorem bnd_div {d : Rat} (d0 : 0 < d) (k : ∀ n, d ≤ y n) (h : Bnd x) : Bnd (fun n => x n / y n) :=
  bnd_eq (x := fun n => x n * (1 / y n)) (fun n => by have := k n; grind) (bnd_mul h (bnd_inv d0 k))
theorem bnd_const (a : Rat) : Bnd (fun _ => a) := bnd_of (a := a) (b := a) fun _ => ⟨by grind, by grind⟩
theorem nr_const (a : Rat) : Nr (fun _ => a) (fun _ => a) := ⟨Near.refl _, bnd_const a, bnd_const a⟩
theorem Nr.symm (h : Nr x y) : Nr y x := ⟨h.n.symm, h.by', h.bx⟩
theorem Nr.trans (h : Nr x y) (k : Nr y z) : Nr x z := ⟨h.n.trans k.n, h.bx, k.by'⟩
theorem nr_eq (e : ∀ n, x n = y n) (h : Bnd x) : Nr x y := ⟨near_eq e, h, bnd_eq e h⟩
theorem Nr.eqR (h : Nr x y) (e : ∀ n, y n = z n) : Nr x z := h.trans (nr_eq e h.by')
theorem Nr.eqL (h : Nr y z) (e : ∀ n, y n = x n) : Nr x z := (nr_eq e h.bx).symm.trans h
theorem nr_add (h : Nr x x') (k : Nr y y') : Nr (fun n => x n + y n) (fun n => x' n + y' n) := ⟨near_add h.n k.n, bnd_add h.bx k.bx, bnd_add h.by' k.by'⟩
theorem nr_sub (h : Nr x x') (k : Nr y y') : Nr (fun n => x n - y n) (fun n => x' n - y' n) := ⟨near_sub h.n k.n, bnd_sub h.bx k.bx, bnd_sub h.by' k.by'⟩
theorem nr_mul (h : Nr x x') (k : Nr y y') : Nr (fun n => x n * y n) (fun n => x' n * y' n) := ⟨near_mul h.n k.n h.bx k.by', bnd_mul h.bx k.bx, bnd_mul h.by' k.by'⟩
theorem nr_div {d : Rat} (h : Nr x x') (k : Nr y y') (d0 : 0 < d) (l : ∀ n, d ≤ y n) (l' : ∀ n, d ≤ y' n) : Nr (fun n => x n / y n) (fun n => x' n / y' n) :=
  ⟨near_div d0 h.n k.n l l' h.bx, bnd_div d0 l h.bx, bnd_div d0 l' h.by'⟩
theorem bnd_max (h : Bnd x) (k : Bnd y) : Bnd (fun n => max (x n) (y n)) := by
  obtain ⟨A, a0, a⟩ := h
  obtain ⟨B, b0, b⟩ := k
  exact ⟨A + B, by grind, fun n => by have := a n; have := b n; exact ⟨by grind, by grind⟩⟩
theorem bnd_min (h : Bnd x) (k : Bnd y) : Bnd (fun n => min (x n) (y n)) := by
  obtain ⟨A, a0, a⟩ := h
  obtain ⟨B, b0, b⟩ := k
  exact ⟨A + B, by grind, fun n => by have := a n; have := b n; exact ⟨by grind, by grind⟩⟩
theorem nr_max (h : Nr x x') (k : Nr y y') : Nr (fun n => max (x n) (y n)) (fun n => max (x' n) (y' n)) := ⟨near_max h.n k.n, bnd_max h.bx k.bx, bnd_max h.by' k.by'⟩
theorem nr_min (h : Nr x x') (k : Nr y y') : Nr (fun n => min (x n) (y n)) (fun n => min (x' n) (y' n)) := ⟨near_min h.n k.n, bnd_min h.bx k.bx, bnd_min h.by' k.by'⟩
/-- Roots of what comes together. -/
theorem bnd_root (h : Bnd (fun n => x n * x n)) : Bnd x := by
  obtain ⟨A, a0, a⟩ := h
  refine ⟨A + 1, by grind, fun n => ?_⟩
  obtain ⟨a1, a2⟩ := a n
  have sq : ∀ {u : Rat}, 0 ≤ u → u * u ≤ A → u ≤ A + 1 := fun {u} h k => by
    by_cases c : u ≤ A + 1
    · exact c
    · have := Rat.mul_le_mul_of_nonneg_left (show A + 1 ≤ u by grind) h
      have := Rat.mul_le_mul_of_nonneg_right (show 1 ≤ A + 1 by grind) h
      grind
  by_cases c : 0 ≤ x n
  · exact ⟨by grind, sq c a2⟩
  · have := sq (u := -x n) (by grind) (by grind)
    exact ⟨by grind, by grind⟩
theorem nr_root (hx : ∀ n, 0 ≤ x n) (hy : ∀ n, 0 ≤ y n) (h : Nr (fun n => x n * x n) (fun n => y n * y n)) : Nr x y := ⟨near_of_sq hx hy h.n, bnd_root h.bx, bnd_root h.by'⟩
end
theorem HasS.nr {p : Int × Int} {x y : Nat → Rat} (h : HasS p x) (n : Near x y) (b : Bnd y) : Nr x y := ⟨n, h.bnd, b⟩
end Go.Dy
