/- Plain facts: what a mirror sends back, of unit vectors. -/
import Derived.Test.YtikiegcncliocaaRp
namespace Go.Proofs.Ytikiegcncliocaa
open Go Go.RowKit

def dot3 (a b c d e f : Rat) : Rat := a * d + b * e + c * f
def mir (a b c d e f x y : Rat) : Rat := 2 * dot3 a b c d e f * x - y
section
variable {a b c d e f : Int × Int} {X1 X2 X3 X4 X5 X6 : Nat → Rat}
end
/-- Three sequences of a unit vector. -/
structure U3 (X Y Z : Nat → Rat) : Prop where
  le : ∀ κ, X κ * X κ + Y κ * Y κ + Z κ * Z κ ≤ 1
  n : Dy.Near (fun κ => X κ * X κ + Y κ * Y κ + Z κ * Z κ) (fun _ => 1)
theorem sq_in {x : Rat} (h : x * x ≤ 1) : -1 ≤ x ∧ x ≤ 1 := by
  constructor
  · by_cases c : 0 ≤ x
    · grind
    · have := Dy.sq_le_sq (u := -x) (v := 1) (by grind) (by decide +kernel) (by grind); grind
  · by_cases c : 0 ≤ x
    · exact Dy.sq_le_sq c (by decide +kernel) (by grind)
    · grind
section
variable {X Y Z P Q R : Nat → Rat}
theorem U3.b (h : U3 X Y Z) (κ : Nat) : (-1 ≤ X κ ∧ X κ ≤ 1) ∧ (-1 ≤ Y κ ∧ Y κ ≤ 1) ∧ (-1 ≤ Z κ ∧ Z κ ≤ 1) := by
  have l := h.le κ
  have x := sq0 (X κ); have y := sq0 (Y κ); have z := sq0 (Z κ)
  exact ⟨sq_in (by grind), sq_in (by grind), sq_in (by grind)⟩
theorem U3.bnd (h : U3 X Y Z) : Dy.Bnd X ∧ Dy.Bnd Y ∧ Dy.Bnd Z := ⟨Dy.bnd_of fun κ => (h.b κ).1, Dy.bnd_of fun κ => (h.b κ).2.1, Dy.bnd_of fun κ => (h.b κ).2.2⟩
theorem U3.nr (h : U3 X Y Z) : Dy.Nr (fun κ => X κ * X κ + Y κ * Y κ + Z κ * Z κ) (fun _ => 1) := by
  obtain ⟨x, y, z⟩ := h.bnd
  exact ⟨h.n, Dy.bnd_add (Dy.bnd_add (Dy.bnd_mul x x) (Dy.bnd_mul y y)) (Dy.bnd_mul z z), Dy.bnd_const 1⟩
theorem nr_self' {x : Nat → Rat} (h : Dy.Bnd x) : Dy.Nr x x := ⟨Dy.Near.refl _, h, h⟩
theorem dot_bnd (h : U3 X Y Z) (k : U3 P Q R) : Dy.Bnd (fun κ => dot3 (X κ) (Y κ) (Z κ) (P κ) (Q κ) (R κ)) := by
  obtain ⟨x, y, z⟩ := h.bnd; obtain ⟨p, q, r⟩ := k.bnd
  exact Dy.bnd_add (Dy.bnd_add (Dy.bnd_mul x p) (Dy.bnd_mul y q)) (Dy.bnd_mul z r)
theorem mir_sq (a b c d e f : Rat) : mir a b c d e f d a * mir a b c d e f d a + mir a b c d e f e b * mir a b c d e f e b + mir a b c d e f f c * mir a b c d e f f c = a * a + b * b + c * c - 4 * (dot3 a b c d e f * dot3 a b c d e f) * (1 - (d * d + e * e + f * f)) := by
  unfold mir
  generalize hd : dot3 a b c d e f = D
  unfold dot3 at hd
  grind
/-- What comes back is a unit vector. -/
theorem U3.back (h : U3 X Y Z) (k : U3 P Q R) : U3 (fun κ => mir (X κ) (Y κ) (Z κ) (P κ) (Q κ) (R κ) (P κ) (X κ)) (fun κ => mir (X κ) (Y κ) (Z κ) (P κ) (Q κ) (R κ) (Q κ) (Y κ)) (fun κ => mir (X κ) (Y κ) (Z κ) (P κ) (Q κ) (R κ) (R κ) (Z κ)) := by
  constructor
  · intro κ
    have := mir_sq (X κ) (Y κ) (Z κ) (P κ) (Q κ) (R κ)
    have := h.le κ; have := k.le κ
    have := Rat.mul_nonneg (sq0 (dot3 (X κ) (Y κ) (Z κ) (P κ) (Q κ) (R κ))) (show 0 ≤ 1 - (P κ * P κ + Q κ * Q κ + R κ * R κ) by grind)
    grind
  · have d := nr_self' (dot_bnd h k)
    have e := Dy.nr_sub h.nr (Dy.nr_mul (Dy.nr_mul (Dy.nr_const 4) (Dy.nr_mul d d)) (Dy.nr_sub (Dy.nr_const 1) k.nr))
    exact ((Dy.near_eq fun κ => mir_sq (X κ) (Y κ) (Z κ) (P κ) (Q κ) (R κ)).trans e.n).trans (Dy.near_eq fun κ => by grind)
end
/-- A direction's numbers are those of a unit vector. -/
theorem Dir3.u3 {u0 u1 u2 : Nat} {x y z : Int} {p q r : Int × Int} {t : Nat → Rat} (h : Dir3 u0 u1 u2 x y z p q r t) : U3 (fun κ => Dy.val x / t κ) (fun κ => Dy.val y / t κ) (fun κ => Dy.val z / t κ) := by
  have z1 := h.z1
  have xx := sq0 (Dy.val x); have yy := sq0 (Dy.val y)
  have zz : 1 / 4096 ≤ Dy.val z * Dy.val z := by
    have a := Rat.mul_le_mul_of_nonneg_left z1.1 (show (0 : Rat) ≤ 1 / 64 by decide +kernel)
    have b := Rat.mul_le_mul_of_nonneg_right z1.1 (show 0 ≤ Dy.val z by grind)
    have e : (1 : Rat) / 64 * (1 / 64) = 1 / 4096 := by decide +kernel
    rw [e] at a; grind
  have e : ∀ κ, Dy.val x / t κ * (Dy.val x / t κ) + Dy.val y / t κ * (Dy.val y / t κ) + Dy.val z / t κ * (Dy.val z / t κ) = (Dy.val x * Dy.val x + Dy.val y * Dy.val y + Dy.val z * Dy.val z) / (t κ * t κ) := fun κ => by
    have := (h.tb κ).1
    have : t κ ≠ 0 := by grind
    grind
  have bt : Dy.Bnd t := Dy.bnd_of h.tb
  have nt : Dy.Nr (fun κ => t κ * t κ) (fun _ => Dy.val x * Dy.val x + Dy.val y * Dy.val y + Dy.val z * Dy.val z) := ⟨h.nt, Dy.bnd_mul bt bt, Dy.bnd_const _⟩
  constructor
  · intro κ
    rw [e]
    have := h.sb κ
    exact Dy.quo_le (by grind) (by grind)
  · have k := Dy.nr_div (d := 1 / 4096) (Dy.nr_const (Dy.val x * Dy.val x + Dy.val y * Dy.val y + Dy.val z * Dy.val z)) nt (by decide +kernel) (fun κ => by have := h.sb κ; grind) (fun κ => by grind)
    exact ((Dy.near_eq e).trans k.n).trans (Dy.near_eq fun κ => by grind)
end Go.Proofs.Ytikiegcncliocaa
