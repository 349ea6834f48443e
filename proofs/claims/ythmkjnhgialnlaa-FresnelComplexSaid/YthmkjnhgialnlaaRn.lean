/- Plain facts: what a conductor reflects, by the root and by the index. -/
import Derived.Test.YthmkjnhgialnlaaRm
namespace Go.Proofs.Ythmkjnhgialnlaa
open Go Go.RowKit Go.Dy

theorem sq_nn (x : Rat) : 0 ≤ x * x := by
  by_cases s : 0 ≤ x
  · exact Rat.mul_nonneg s s
  · have := Rat.mul_nonneg (show 0 ≤ -x by grind) (show 0 ≤ -x by grind); grind
theorem nr_cl {x y : Nat → Rat} (h : Nr x y) : Nr (fun κ => clQ (x κ)) (fun κ => clQ (y κ)) := nr_min (nr_max h (nr_const 0)) (nr_const 1)
theorem clQ_id {x : Rat} (h0 : 0 ≤ x) (h1 : x ≤ 1) : clQ x = x := by unfold clQ; grind
theorem mul_ge' {a b x y : Rat} (hx : a ≤ x) (hy : b ≤ y) (ha : 0 ≤ a) (hb : 0 ≤ b) : a * b ≤ x * y := by
  have := Rat.mul_le_mul_of_nonneg_left hy ha
  have := Rat.mul_le_mul_of_nonneg_right hx (show 0 ≤ y by grind)
  grind
/-- A part of a whole: of what is not above it, nor below 0. -/
theorem part_b {x y : Rat} (h0 : 0 ≤ x) (h1 : x ≤ y) (hy : 0 < y) : 0 ≤ x / y ∧ x / y ≤ 1 := ⟨le_quo hy (by grind), quo_le hy (by grind)⟩
theorem nr_self {x : Nat → Rat} (h : Bnd x) : Nr x x := ⟨Near.refl _, h, h⟩
/-- What Fresnel's formulas tell, of the parts of a root. -/
def A1 (c a b : Rat) : Rat := (c - a) * (c - a) + b * b
def A2 (c a b : Rat) : Rat := (c + a) * (c + a) + b * b
def B1 (c a b : Rat) : Rat := (a * c - (1 - c * c)) * (a * c - (1 - c * c)) + b * b * (c * c)
def B2 (c a b : Rat) : Rat := (a * c + (1 - c * c)) * (a * c + (1 - c * c)) + b * b * (c * c)
theorem rs_parts (c a b : Rat) : rsQ c (a * a + b * b) a = A1 c a b / A2 c a b := by
  unfold rsQ A1 A2
  rw [show a * a + b * b + c * c - 2 * a * c = (c - a) * (c - a) + b * b by grind, show a * a + b * b + c * c + 2 * a * c = (c + a) * (c + a) + b * b by grind]
theorem rp_parts (c a b : Rat) : rpQ c (a * a + b * b) a = B1 c a b / B2 c a b := by
  unfold rpQ B1 B2
  rw [show c * c * (a * a + b * b) + (1 - c * c) * (1 - c * c) - 2 * a * c * (1 - c * c) = (a * c - (1 - c * c)) * (a * c - (1 - c * c)) + b * b * (c * c) by grind, show c * c * (a * a + b * b) + (1 - c * c) * (1 - c * c) + 2 * a * c * (1 - c * c) = (a * c + (1 - c * c)) * (a * c + (1 - c * c)) + b * b * (c * c) by grind]
theorem num_parts (c a b : Rat) : ((a * a - b * b + (1 - c * c)) * c - a) * ((a * a - b * b + (1 - c * c)) * c - a) + (2 * (a * b) * c - b) * (2 * (a * b) * c - b) = A1 c a b * B1 c a b := by unfold A1 B1; grind
theorem den_parts (c a b : Rat) : ((a * a - b * b + (1 - c * c)) * c + a) * ((a * a - b * b + (1 - c * c)) * c + a) + (2 * (a * b) * c + b) * (2 * (a * b) * c + b) = A2 c a b * B2 c a b := by unfold A2 B2; grind
theorem A_le {c a b : Rat} (c0 : 0 ≤ c) (a0 : 0 ≤ a) : 0 ≤ A1 c a b ∧ A1 c a b ≤ A2 c a b ∧ c * c ≤ A2 c a b := by
  have := Rat.mul_nonneg c0 a0
  have := sq_nn (c - a); have := sq_nn b; have := Rat.mul_nonneg a0 a0; have := Rat.mul_nonneg c0 c0
  unfold A1 A2; exact ⟨by grind, by grind, by grind⟩
theorem B_le {c a b : Rat} (c0 : 0 ≤ c) (s0 : 0 ≤ 1 - c * c) (a0 : 0 ≤ a) : 0 ≤ B1 c a b ∧ B1 c a b ≤ B2 c a b ∧ c * c * (a * a + b * b) ≤ B2 c a b := by
  have h1 := Rat.mul_nonneg (Rat.mul_nonneg a0 c0) s0
  have := sq_nn (a * c - (1 - c * c)); have := Rat.mul_nonneg (sq_nn b) (Rat.mul_nonneg c0 c0); have := sq_nn (1 - c * c)
  unfold B1 B2; exact ⟨by grind, by grind, by grind⟩

section
variable {c X Y : Rat} {A a z α β : Nat → Rat}
/-- The parts of the root, and the root that is worked out. -/
structure Parts (c X Y : Rat) (A a z α β : Nat → Rat) : Prop where
  c0 : 1 / 256 ≤ c
  c1 : c ≤ 1
  y0 : 1 / 128 ≤ Y
  hA : ∀ κ, 1 / 256 ≤ A κ ∧ A κ ≤ 1000
  hA2 : ∀ κ, X * X + Y * Y ≤ A κ * A κ
  nA : Near (fun κ => A κ * A κ) (fun _ => X * X + Y * Y)
  ha : ∀ κ, 0 ≤ a κ ∧ a κ ≤ 1000
  na : Near (fun κ => a κ * a κ) (fun κ => 1 / 2 * max (A κ + X) 0)
  hz : ∀ κ, 0 ≤ z κ ∧ z κ ≤ 1000
  hz2 : ∀ κ, X * X + Y * Y ≤ z κ * z κ
  nz : Near (fun κ => z κ * z κ) (fun _ => X * X + Y * Y)
  hα : ∀ κ, 0 ≤ α κ ∧ α κ ≤ 1000
  hα2 : ∀ κ, max ((z κ + X) / 2) 0 ≤ α κ * α κ
  nα : Near (fun κ => α κ * α κ) (fun κ => max ((z κ + X) / 2) 0)
  hβ : ∀ κ, 0 ≤ β κ ∧ β κ ≤ 1000
  hβ2 : ∀ κ, max ((z κ - X) / 2) 0 ≤ β κ * β κ
  nβ : Near (fun κ => β κ * β κ) (fun κ => max ((z κ - X) / 2) 0)
theorem Parts.above (h : Parts c X Y A a z α β) (κ : Nat) : -A κ ≤ X ∧ X ≤ A κ ∧ -z κ ≤ X ∧ X ≤ z κ ∧ Y ≤ z κ := by
  have y0 := h.y0
  have yy := sq_nn Y; have xx := sq_nn X
  have a1 := h.hA2 κ; have z1 := h.hz2 κ; have a0 := (h.hA κ).1; have z0 := (h.hz κ).1
  have r : ∀ {u v : Rat}, 0 ≤ v → u * u ≤ v * v → -v ≤ u ∧ u ≤ v := fun {u v} hv k => by
    constructor
    · by_cases s : 0 ≤ u
      · grind
      · have := sq_le_sq (u := -u) (by grind) hv (by grind); grind
    · by_cases s : 0 ≤ u
      · exact sq_le_sq s hv k
      · grind
  obtain ⟨k1, k2⟩ := r (u := X) (v := A κ) (by grind) (by grind)
  obtain ⟨k3, k4⟩ := r (u := X) (v := z κ) z0 (by grind)
  obtain ⟨_, k6⟩ := r (u := Y) (v := z κ) z0 (by grind)
  exact ⟨k1, k2, k3, k4, k6⟩
theorem Parts.ba (h : Parts c X Y A a z α β) : Bnd A ∧ Bnd a ∧ Bnd z ∧ Bnd α ∧ Bnd β := ⟨bnd_of h.hA, bnd_of h.ha, bnd_of h.hz, bnd_of h.hα, bnd_of h.hβ⟩
theorem Parts.Az (h : Parts c X Y A a z α β) : Nr A z := by
  obtain ⟨bA, _, bz, _, _⟩ := h.ba
  exact nr_root (fun κ => by have := (h.hA κ).1; grind) (fun κ => (h.hz κ).1) ⟨h.nA.trans h.nz.symm, bnd_mul bA bA, bnd_mul bz bz⟩
theorem Parts.sqα (h : Parts c X Y A a z α β) : Nr (fun κ => α κ * α κ) (fun κ => (z κ + X) / 2) := by
  obtain ⟨_, _, bz, bα, _⟩ := h.ba
  have n : Near (fun κ => α κ * α κ) (fun κ => (z κ + X) / 2) := h.nα.trans (near_eq fun κ => by have := h.above κ; grind)
  exact ⟨n, bnd_mul bα bα, bnd_div (d := 2) (by decide +kernel) (fun _ => by decide +kernel) (bnd_add bz (bnd_const X))⟩
theorem Parts.sqβ (h : Parts c X Y A a z α β) : Nr (fun κ => β κ * β κ) (fun κ => (z κ - X) / 2) := by
  obtain ⟨_, _, bz, _, bβ⟩ := h.ba
  have n : Near (fun κ => β κ * β κ) (fun κ => (z κ - X) / 2) := h.nβ.trans (near_eq fun κ => by have := h.above κ; grind)
  exact ⟨n, bnd_mul bβ bβ, bnd_div (d := 2) (by decide +kernel) (fun _ => by decide +kernel) (bnd_sub bz (bnd_const X))⟩
theorem Parts.aα (h : Parts c X Y A a z α β) : Nr a α := by
  obtain ⟨bA, ba, bz, bα, bβ⟩ := h.ba
  have s := nr_mul (nr_const (1 / 2)) (nr_add h.Az (nr_const X))
  have s' : Nr (fun κ => a κ * a κ) (fun κ => α κ * α κ) := by
    have t : Nr (fun κ => 1 / 2 * (A κ + X)) (fun κ => (z κ + X) / 2) := s.eqR fun κ => by grind
    have n : Near (fun κ => a κ * a κ) (fun κ => 1 / 2 * (A κ + X)) := h.na.trans (near_eq fun κ => by have := h.above κ; grind)
    have u : Nr (fun κ => a κ * a κ) (fun κ => 1 / 2 * (A κ + X)) := ⟨n, bnd_mul ba ba, t.bx⟩
    exact (u.trans t).trans h.sqα.symm
  exact nr_root (fun κ => (h.ha κ).1) (fun κ => (h.hα κ).1) s'
theorem Parts.sum (h : Parts c X Y A a z α β) : Nr A (fun κ => α κ * α κ + β κ * β κ) :=
  h.Az.trans ((nr_add h.sqα h.sqβ).symm.eqL fun κ => by grind)
theorem Parts.dif (h : Parts c X Y A a z α β) : Nr (fun κ => α κ * α κ - β κ * β κ) (fun _ => X) := (nr_sub h.sqα h.sqβ).eqR fun κ => by grind
theorem Parts.pro (h : Parts c X Y A a z α β) : Nr (fun κ => 2 * (α κ * β κ)) (fun _ => Y) := by
  obtain ⟨bA, ba, bz, bα, bβ⟩ := h.ba
  have p := nr_mul h.sqα h.sqβ
  have zz : Nr (fun κ => z κ * z κ) (fun _ => X * X + Y * Y) := ⟨h.nz, bnd_mul bz bz, bnd_const _⟩
  have q : Nr (fun κ => (z κ + X) / 2 * ((z κ - X) / 2)) (fun _ => Y / 2 * (Y / 2)) := ((nr_mul (nr_const (1 / 4)) (nr_sub zz (nr_const (X * X)))).eqL fun κ => by grind).eqR fun κ => by grind
  have r : Nr (fun κ => α κ * β κ * (α κ * β κ)) (fun _ => Y / 2 * (Y / 2)) := (p.trans q).eqL fun κ => by grind
  have y0 := h.y0
  have s : Nr (fun κ => α κ * β κ) (fun _ => Y / 2) := nr_root (fun κ => Rat.mul_nonneg (h.hα κ).1 (h.hβ κ).1) (fun _ => by grind) r
  exact (nr_mul (nr_const 2) s).eqR fun κ => by grind
theorem Parts.least (h : Parts c X Y A a z α β) (κ : Nat) : 1 / 128 ≤ α κ * α κ + β κ * β κ := by
  have := h.hα2 κ; have := h.hβ2 κ; have := h.above κ; have := h.y0
  grind
theorem Parts.cc (h : Parts c X Y A a z α β) : 1 / 65536 ≤ c * c ∧ 0 ≤ 1 - c * c := by
  have := mul_ge' h.c0 h.c0 (by decide +kernel) (by decide +kernel)
  have e : (1 : Rat) / 256 * (1 / 256) = 1 / 65536 := by decide +kernel
  rw [e] at this
  exact ⟨this, (sc_b h.c0 h.c1).1⟩
set_option maxHeartbeats 2000000 in
theorem Parts.near (h : Parts c X Y A a z α β) {re : Rat} (hre : re = X + (1 - c * c)) : Near (fun κ => condQ c (A κ) (a κ)) (fun κ => wantQ c re Y (α κ) (β κ)) := by
  obtain ⟨bA, ba, bz, bα, bβ⟩ := h.ba
  obtain ⟨cc, ss⟩ := h.cc
  have c0 := h.c0
  have k : Nr A (fun κ => α κ * α κ + β κ * β κ) := h.sum
  have l := h.aα
  have ac : Nr (fun κ => 2 * a κ * c) (fun κ => 2 * α κ * c) := nr_mul (nr_mul (nr_const 2) l) (nr_const c)
  have apos : ∀ {t : Rat}, 0 ≤ t → 0 ≤ 2 * t * c := fun ht => by have := Rat.mul_nonneg ht (show 0 ≤ c by grind); grind
  have apos2 : ∀ {t : Rat}, 0 ≤ t → 0 ≤ 2 * t * c * (1 - c * c) := fun ht => Rat.mul_nonneg (apos ht) ss
  -- the first part
  have kc := nr_add k (nr_const (c * c))
  have rs : Nr (fun κ => rsQ c (A κ) (a κ)) (fun κ => rsQ c (α κ * α κ + β κ * β κ) (α κ)) :=
    nr_div (d := 1 / 65536) (nr_sub kc ac) (nr_add kc ac) (by decide +kernel) (fun κ => by have := apos (h.ha κ).1; have := (h.hA κ).1; grind) (fun κ => by have := apos (h.hα κ).1; have := h.least κ; grind)
  have rsb : ∀ κ, 0 ≤ A1 c (α κ) (β κ) / A2 c (α κ) (β κ) ∧ A1 c (α κ) (β κ) / A2 c (α κ) (β κ) ≤ 1 := fun κ => by
    obtain ⟨x1, x2, x3⟩ := A_le (c := c) (a := α κ) (b := β κ) (by grind) (h.hα κ).1
    exact part_b x1 x2 (by grind)
  have rs' : Nr (fun κ => clQ (rsQ c (A κ) (a κ))) (fun κ => A1 c (α κ) (β κ) / A2 c (α κ) (β κ)) := (nr_cl rs).eqR fun κ => by rw [rs_parts]; exact clQ_id (rsb κ).1 (rsb κ).2
  -- the second one
  have cs := nr_add (nr_mul (nr_const (c * c)) k) (nr_const ((1 - c * c) * (1 - c * c)))
  have at2 := nr_mul ac (nr_const (1 - c * c))
  have s2 := sq_nn (1 - c * c)
  have rp : Nr (fun κ => rpQ c (A κ) (a κ)) (fun κ => rpQ c (α κ * α κ + β κ * β κ) (α κ)) :=
    nr_div (d := 1 / 16777216) (nr_sub cs at2) (nr_add cs at2) (by decide +kernel) (fun κ => by
      have := apos2 (h.ha κ).1
      have m := mul_ge' cc (h.hA κ).1 (by decide +kernel) (by decide +kernel)
      have e : (1 : Rat) / 65536 * (1 / 256) = 1 / 16777216 := by decide +kernel
      rw [e] at m; grind) (fun κ => by
      have := apos2 (h.hα κ).1
      have m := mul_ge' cc (h.least κ) (by decide +kernel) (by decide +kernel)
      have e : (1 : Rat) / 65536 * (1 / 128) = 1 / 8388608 := by decide +kernel
      rw [e] at m; grind)
  have B0 : ∀ κ, 1 / 8388608 ≤ B2 c (α κ) (β κ) := fun κ => by
    have m := mul_ge' cc (h.least κ) (by decide +kernel) (by decide +kernel)
    have e : (1 : Rat) / 65536 * (1 / 128) = 1 / 8388608 := by decide +kernel
    rw [e] at m
    have := (B_le (b := β κ) (show 0 ≤ c by grind) ss (h.hα κ).1).2.2
    grind
  have A0 : ∀ κ, 1 / 65536 ≤ A2 c (α κ) (β κ) := fun κ => by
    have := (A_le (b := β κ) (show 0 ≤ c by grind) (h.hα κ).1).2.2
    grind
  have rpb : ∀ κ, 0 ≤ B1 c (α κ) (β κ) / B2 c (α κ) (β κ) ∧ B1 c (α κ) (β κ) / B2 c (α κ) (β κ) ≤ 1 := fun κ => by
    obtain ⟨x1, x2, x3⟩ := B_le (c := c) (a := α κ) (b := β κ) (by grind) ss (h.hα κ).1
    exact part_b x1 x2 (by have := B0 κ; grind)
  have pr : Nr (fun κ => clQ (clQ (rsQ c (A κ) (a κ)) * rpQ c (A κ) (a κ))) (fun κ => A1 c (α κ) (β κ) / A2 c (α κ) (β κ) * (B1 c (α κ) (β κ) / B2 c (α κ) (β κ))) := (nr_cl (nr_mul rs' rp)).eqR fun κ => by
    rw [rp_parts]
    obtain ⟨x0, x1⟩ := rsb κ; obtain ⟨y0, y1⟩ := rpb κ
    have := mul_abs_le (x := A1 c (α κ) (β κ) / A2 c (α κ) (β κ)) (y := B1 c (α κ) (β κ) / B2 c (α κ) (β κ)) (m := 1) (w := 1) (by grind) x1 (by grind) y1
    exact clQ_id (Rat.mul_nonneg x0 y0) (by grind)
  have f : Nr (fun κ => condQ c (A κ) (a κ)) (fun κ => 1 / 2 * (A1 c (α κ) (β κ) / A2 c (α κ) (β κ) + A1 c (α κ) (β κ) / A2 c (α κ) (β κ) * (B1 c (α κ) (β κ) / B2 c (α κ) (β κ)))) := nr_mul (nr_const (1 / 2)) (nr_add rs' pr)
  -- by the index
  have rA : Bnd (fun κ => A1 c (α κ) (β κ) / A2 c (α κ) (β κ)) := rs'.by'
  have dm : Nr (fun κ => (α κ * α κ - β κ * β κ + (1 - c * c)) * c) (fun _ => re * c) := (nr_mul (nr_add h.dif (nr_const (1 - c * c))) (nr_const c)).eqR fun κ => by rw [hre]
  have dn := nr_mul h.pro (nr_const c)
  have α' := nr_self bα; have β' := nr_self bβ
  have u1 := nr_sub dm α'; have u2 := nr_sub dn β'
  have v1 := nr_add dm α'; have v2 := nr_add dn β'
  have yc := mul_ge' h.y0 c0 (by decide +kernel) (by decide +kernel)
  have e1 : (1 : Rat) / 128 * (1 / 256) = 1 / 32768 := by decide +kernel
  rw [e1] at yc
  have g := nr_div (d := 1 / 1099511627776) (nr_add (nr_mul u1 u1) (nr_mul u2 u2)) (nr_add (nr_mul v1 v1) (nr_mul v2 v2)) (by decide +kernel) (fun κ => by
      have m := mul_ge' (A0 κ) (B0 κ) (by decide +kernel) (by decide +kernel)
      have e : (1 : Rat) / 65536 * (1 / 8388608) = 1 / 549755813888 := by decide +kernel
      rw [e] at m
      have := den_parts c (α κ) (β κ)
      grind) (fun κ => by
      have b0 := (h.hβ κ).1
      have m := mul_ge' (a := 1 / 32768) (b := 1 / 32768) (x := Y * c + β κ) (y := Y * c + β κ) (by grind) (by grind) (by decide +kernel) (by decide +kernel)
      have e : (1 : Rat) / 32768 * (1 / 32768) = 1 / 1073741824 := by decide +kernel
      rw [e] at m
      have := sq_nn (re * c + α κ)
      grind)
  have w := nr_div (d := 2) (nr_add (nr_self rA) g) (nr_const 2) (by decide +kernel) (fun _ => by decide +kernel) (fun _ => by decide +kernel)
  have fin : Nr (fun κ => 1 / 2 * (A1 c (α κ) (β κ) / A2 c (α κ) (β κ) + A1 c (α κ) (β κ) / A2 c (α κ) (β κ) * (B1 c (α κ) (β κ) / B2 c (α κ) (β κ)))) (fun κ => wantQ c re Y (α κ) (β κ)) := w.eqL fun κ => by
    rw [num_parts, den_parts]
    have a2 := A0 κ; have b2 := B0 κ
    generalize A1 c (α κ) (β κ) = a1 at *
    generalize A2 c (α κ) (β κ) = a2' at *
    generalize B1 c (α κ) (β κ) = b1 at *
    generalize B2 c (α κ) (β κ) = b2' at *
    grind
  exact (f.trans fin).n
end
end Go.Proofs.Ythmkjnhgialnlaa
