/- Plain facts: Snell's law and Fresnel's by the root. -/
import Derived.Test.YthmkjnhgialnlaaRj
namespace Go.Proofs.Ythmkjnhgialnlaa
open Go Go.RowKit Go.Dy

theorem mul_ge {a b x y : Rat} (hx : a ≤ x) (hy : b ≤ y) (ha : 0 ≤ a) (hb : 0 ≤ b) : a * b ≤ x * y := by
  have := Rat.mul_le_mul_of_nonneg_left hy ha
  have := Rat.mul_le_mul_of_nonneg_right hx (show 0 ≤ y by grind)
  grind
theorem diel_cont {c : Rat} (c0 : 1 / 256 ≤ c) (c1 : c ≤ 1) {g G : Nat → Rat} (g0 : ∀ k, 1 / 4 ≤ g k) (G0 : ∀ k, 1 / 4 ≤ G k) (h : Nr g G) : Nr (fun k => dielQ c (g k)) (fun k => dielQ c (G k)) := by
  have a : Nr (fun k => g k - c) (fun k => G k - c) := nr_sub h (nr_const c)
  have b : Nr (fun k => g k + c) (fun k => G k + c) := nr_add h (nr_const c)
  have r := nr_div a b (d := 1 / 4) (by decide +kernel) (fun k => by have := g0 k; grind) (fun k => by have := G0 k; grind)
  have p := nr_mul r r
  have x := nr_sub (nr_mul (nr_const c) b) (nr_const 1)
  have y := nr_add (nr_mul (nr_const c) a) (nr_const 1)
  have l : ∀ t : Rat, 1 / 4 ≤ t → 1 / 1024 ≤ c * (t - c) + 1 := fun t ht => by
    have m := mul_ge c0 ht (by decide +kernel) (by decide +kernel)
    have m2 := mul_abs_le (x := c) (y := c) (m := 1) (w := 1) (by grind) c1 (by grind) c1
    have e : (1 : Rat) / 256 * (1 / 4) = 1 / 1024 := by decide +kernel
    rw [e] at m; grind
  have z := nr_div x y (d := 1 / 1024) (by decide +kernel) (fun k => l _ (g0 k)) (fun k => l _ (G0 k))
  exact nr_mul (nr_mul (nr_const (1 / 2)) p) (nr_add (nr_const 1) (nr_mul z z))
theorem sq_part {x y : Rat} (hx : 0 ≤ x) (hy : 0 ≤ y) (h : 0 < x + y) : 0 ≤ (x - y) / (x + y) * ((x - y) / (x + y)) ∧ (x - y) / (x + y) * ((x - y) / (x + y)) ≤ 1 := by
  have e : (x - y) / (x + y) * (x + y) = x - y := Rat.div_mul_cancel (by grind)
  have l1 : -1 ≤ (x - y) / (x + y) := le_quo h (by grind)
  have l2 : (x - y) / (x + y) ≤ 1 := quo_le h (by grind)
  have := mul_abs_le (x := (x - y) / (x + y)) (y := (x - y) / (x + y)) (m := 1) (w := 1) l1 l2 l1 l2
  refine ⟨?_, by grind⟩
  by_cases c : 0 ≤ (x - y) / (x + y)
  · exact Rat.mul_nonneg c c
  · have := Rat.mul_nonneg (show 0 ≤ -((x - y) / (x + y)) by grind) (show 0 ≤ -((x - y) / (x + y)) by grind)
    grind
theorem snell_b {c n w : Rat} (c0 : 1 / 256 ≤ c) (n0 : 1 ≤ n) (w0 : 1 / 4 ≤ w) : 0 ≤ snellQ c n w ∧ snellQ c n w ≤ 1 := by
  have nw := mul_ge n0 w0 (by decide +kernel) (by decide +kernel)
  have nc := mul_ge n0 c0 (by decide +kernel) (by decide +kernel)
  have a := sq_part (x := c) (y := n * w) (by grind) (by grind) (by grind)
  have b := sq_part (x := n * c) (y := w) (by grind) (by grind) (by grind)
  unfold snellQ
  generalize (c - n * w) / (c + n * w) * ((c - n * w) / (c + n * w)) = A at *
  generalize (n * c - w) / (n * c + w) * ((n * c - w) / (n * c + w)) = B at *
  exact ⟨by grind, by grind⟩
/-- The two parts of what is reflected, of N in place of the index's square. -/
theorem diel_split {c G : Rat} (c0 : 1 / 256 ≤ c) (c1 : c ≤ 1) (G0 : 1 / 4 ≤ G) : dielQ c G = 1 / 2 * ((c - G) / (c + G) * ((c - G) / (c + G)) + ((G * G - c * c + 1) * c - G) / ((G * G - c * c + 1) * c + G) * (((G * G - c * c + 1) * c - G) / ((G * G - c * c + 1) * c + G))) := by
  have m := mul_ge c0 G0 (by decide +kernel) (by decide +kernel)
  have m2 := mul_abs_le (x := c) (y := c) (m := 1) (w := 1) (by grind) c1 (by grind) c1
  have e1 : (G * G - c * c + 1) * c - G = (G - c) * (c * (G + c) - 1) := by grind
  have e2 : (G * G - c * c + 1) * c + G = (G + c) * (c * (G - c) + 1) := by grind
  have n1 : G + c ≠ 0 := by grind
  have n2 : c * (G - c) + 1 ≠ 0 := by grind
  have e3 : (G - c) * (c * (G + c) - 1) / ((G + c) * (c * (G - c) + 1)) = (G - c) / (G + c) * ((c * (G + c) - 1) / (c * (G - c) + 1)) := by grind
  have e4 : (c - G) / (c + G) = -((G - c) / (G + c)) := by rw [show c + G = G + c by grind, show c - G = -(G - c) by grind, Rat.div_def, Rat.div_def, Rat.neg_mul]
  rw [e1, e2, e3, e4]
  unfold dielQ
  generalize (G - c) / (G + c) = P
  generalize (c * (G + c) - 1) / (c * (G - c) + 1) = Q
  grind
theorem snell_near {c n : Rat} (c0 : 1 / 256 ≤ c) (c1 : c ≤ 1) (n0 : 17 / 16 ≤ n) (n1 : n ≤ 4) {g w : Nat → Rat} (gb : ∀ k, 1 / 3 ≤ g k ∧ g k ≤ 5) (wb : ∀ k, 1 / 4 ≤ w k ∧ w k ≤ 2)
    (hg : Near (fun k => g k * g k) (fun _ => n * n - 1 + c * c)) (hw : Near (fun k => w k * w k) (fun _ => 1 - (1 - c * c) / (n * n))) : Near (fun k => min (max (dielQ c (g k)) 0) 1) (fun k => snellQ c n (w k)) := by
  have n0' : n ≠ 0 := by grind
  have bw : Bnd w := bnd_of wb
  have bg : Bnd g := bnd_of gb
  have hw' : Nr (fun k => w k * w k) (fun _ => 1 - (1 - c * c) / (n * n)) := ⟨hw, bnd_mul bw bw, bnd_const _⟩
  have hg' : Nr (fun k => g k * g k) (fun _ => n * n - 1 + c * c) := ⟨hg, bnd_mul bg bg, bnd_const _⟩
  have G0 : ∀ k, 1 / 4 ≤ n * w k := fun k => by
    have := mul_ge (a := 1) (b := 1 / 4) (x := n) (y := w k) (by grind) (wb k).1 (by decide +kernel) (by decide +kernel)
    grind
  have hG2 : Nr (fun k => (n * w k) * (n * w k)) (fun _ => n * n - 1 + c * c) :=
    ((nr_mul (nr_const (n * n)) hw').eqL (fun k => by grind)).eqR (fun k => by grind)
  have hG : Nr g (fun k => n * w k) := nr_root (fun k => by have := (gb k).1; grind) (fun k => by have := G0 k; grind) (hg'.trans hG2.symm)
  have d1 := diel_cont c0 c1 (fun k => by have := (gb k).1; grind) G0 hG
  -- N and n * n
  have hN : Nr (fun k => (n * w k) * (n * w k) - c * c + 1) (fun _ => n * n) := (nr_add (nr_sub hG2 (nr_const (c * c))) (nr_const 1)).eqR (fun k => by grind)
  have hGG : Nr (fun k => n * w k) (fun k => n * w k) := ⟨Near.refl _, bnd_mul (bnd_const n) bw, bnd_mul (bnd_const n) bw⟩
  have cc := mul_abs_le (x := c) (y := c) (m := 1) (w := 1) (by grind) c1 (by grind) c1
  have ny := mul_ge (a := 1) (b := 1 / 256) (x := n * n) (y := c) (by have := mul_ge (a := 1) (b := 1) (x := n) (y := n) (by grind) (by grind) (by decide +kernel) (by decide +kernel); grind) c0 (by decide +kernel) (by decide +kernel)
  have u := nr_sub (nr_mul hN (nr_const c)) hGG
  have v := nr_add (nr_mul hN (nr_const c)) hGG
  have q := nr_div u v (d := 1 / 4) (by decide +kernel) (fun k => by
    have := G0 k
    have t := Rat.mul_nonneg (show 0 ≤ n * w k by grind) (show 0 ≤ n * w k by grind)
    have t2 := Rat.mul_nonneg (show 0 ≤ n * w k * (n * w k) - c * c + 1 by grind) (show 0 ≤ c by grind)
    grind) (fun k => by have := G0 k; grind)
  have hp : Bnd (fun k => (c - n * w k) / (c + n * w k)) := bnd_div (d := 1 / 4) (by decide +kernel) (fun k => by have := G0 k; grind) (bnd_sub (bnd_const c) (bnd_mul (bnd_const n) bw))
  have pp : Nr (fun k => (c - n * w k) / (c + n * w k) * ((c - n * w k) / (c + n * w k))) (fun k => (c - n * w k) / (c + n * w k) * ((c - n * w k) / (c + n * w k))) := ⟨Near.refl _, bnd_mul hp hp, bnd_mul hp hp⟩
  have f := nr_mul (nr_const (1 / 2)) (nr_add pp (nr_mul q q))
  have f' : Nr (fun k => dielQ c (n * w k)) (fun k => snellQ c n (w k)) := (f.eqL (fun k => (diel_split c0 c1 (G0 k)).symm)).eqR (fun k => by
    have e : (n * n * c - n * w k) / (n * n * c + n * w k) = (n * c - w k) / (n * c + w k) := by
      have := (wb k).1
      have : n * c + w k ≠ 0 := by have := mul_ge (a := 1) (b := 1 / 256) (x := n) (y := c) (by grind) c0 (by decide +kernel) (by decide +kernel); grind
      have e1 : n * n * c - n * w k = n * (n * c - w k) := by grind
      have e2 : n * n * c + n * w k = n * (n * c + w k) := by grind
      rw [e1, e2]; grind
    unfold snellQ; rw [e])
  have all := d1.trans f'
  refine (near_min (near_max all.n (Near.refl (fun _ => 0))) (Near.refl (fun _ => 1))).trans (near_eq fun k => ?_)
  have := snell_b c0 (show 1 ≤ n by grind) (wb k).1
  grind
end Go.Proofs.Ythmkjnhgialnlaa
