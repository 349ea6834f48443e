/- Plain facts: what a mirror sends back, of unit vectors. -/
import Derived.Test.YthmkjnhgialnlaaRp
namespace Go.Proofs.Ythmkjnhgialnlaa
open Go Go.RowKit

def dot3 (a b c d e f : Rat) : Rat := a * d + b * e + c * f
def mir (a b c d e f x y : Rat) : Rat := 2 * dot3 a b c d e f * x - y
section
variable {a b c d e f : Int × Int} {X1 X2 X3 X4 X5 X6 : Nat → Rat}
theorem refl_num (ha : Dy.Bd a (-1) 1 2) (hb : Dy.Bd b (-1) 1 2) (hc : Dy.Bd c (-1) 1 2) (hd : Dy.Bd d (-1) 1 2) (he : Dy.Bd e (-1) 1 2) (hf : Dy.Bd f (-1) 1 2) (sa : Dy.HasS a (fun κ => X1 κ)) (sb : Dy.HasS b (fun κ => X2 κ)) (sc : Dy.HasS c (fun κ => X3 κ)) (sd : Dy.HasS d (fun κ => X4 κ)) (se : Dy.HasS e (fun κ => X5 κ)) (sf : Dy.HasS f (fun κ => X6 κ)) : ∃ x y z : Int × Int, reflM (Dy.E a) (Dy.E b) (Dy.E c) (Dy.E d) (Dy.E e) (Dy.E f) 0 = ((Dy.E x, Dy.E y, Dy.E z), 0) ∧ Dy.Rk x ∧ Dy.Rk y ∧ Dy.Rk z ∧ Dy.HasS x (fun κ => mir (X1 κ) (X2 κ) (X3 κ) (X4 κ) (X5 κ) (X6 κ) (X4 κ) (X1 κ)) ∧ Dy.HasS y (fun κ => mir (X1 κ) (X2 κ) (X3 κ) (X4 κ) (X5 κ) (X6 κ) (X5 κ) (X2 κ)) ∧ Dy.HasS z (fun κ => mir (X1 κ) (X2 κ) (X3 κ) (X4 κ) (X5 κ) (X6 κ) (X6 κ) (X3 κ)) := by
  obtain ⟨g1, b1, h1⟩ := Dy.bd_num (x := 4611686018427387904) (z := 4611686018427387904) (num := 2) (den := 1) (Dy.ok_B (by decide) (by decide)) (by decide) (by decide) (by decide +kernel)
  have c1 : Dy.Bd ((4611686018427387904 : Int), (4611686018427387904 : Int)) 2 2 0 := b1.mono (by decide +kernel)
  have e1 : Dy.HasS ((4611686018427387904 : Int), (4611686018427387904 : Int)) (fun κ => (2 : Rat)) := fun κ => (show ((2 : Int) : Rat) / (((1 : Nat) : Int) : Rat) = 2 from by decide +kernel) ▸ h1
  obtain ⟨s2, g2, b2⟩ := Dy.bd_mul 1 (-37778931862957170098177 / 37778931862957161709568) (37778931862957170098177 / 37778931862957161709568) (151115727451828663615489 / 37778931862957161709568) (-1) 1 1 1 ha hd (by decide +kernel)
  have h2 : Dy.HasS s2 (fun κ => (X1 κ) * (X4 κ)) := fun κ => Dy.has_mul ha.rk hd.rk g2 (sa κ) (sd κ)
  obtain ⟨s3, g3, b3⟩ := Dy.bd_mul 1 (-37778931862957170098177 / 37778931862957161709568) (37778931862957170098177 / 37778931862957161709568) (151115727451828663615489 / 37778931862957161709568) (-1) 1 1 1 hb he (by decide +kernel)
  have h3 : Dy.HasS s3 (fun κ => (X2 κ) * (X5 κ)) := fun κ => Dy.has_mul hb.rk he.rk g3 (sb κ) (se κ)
  obtain ⟨s4, g4, b4⟩ := Dy.bd_add (37778931862957170098177 / 18889465931478580854784) (-75557863725914356973571 / 37778931862957161709568) (75557863725914356973571 / 37778931862957161709568) (302231454903657360785411 / 37778931862957161709568) b2 b3 (by decide +kernel)
  have h4 : Dy.HasS s4 (fun κ => ((X1 κ) * (X4 κ)) + ((X2 κ) * (X5 κ))) := fun κ => Dy.has_add b2.rk b3.rk g4 (h2 κ) (h3 κ)
  obtain ⟨s5, g5, b5⟩ := Dy.bd_mul 1 (-37778931862957170098177 / 37778931862957161709568) (37778931862957170098177 / 37778931862957161709568) (151115727451828663615489 / 37778931862957161709568) (-1) 1 1 1 hc hf (by decide +kernel)
  have h5 : Dy.HasS s5 (fun κ => (X3 κ) * (X6 κ)) := fun κ => Dy.has_mul hc.rk hf.rk g5 (sc κ) (sf κ)
  obtain ⟨s6, g6, b6⟩ := Dy.bd_add (28334198897217881767937 / 9444732965739290427392) (-113336795588871552237573 / 37778931862957161709568) (113336795588871552237573 / 37778931862957161709568) (453347182355486074732549 / 37778931862957161709568) b4 b5 (by decide +kernel)
  have h6 : Dy.HasS s6 (fun κ => (((X1 κ) * (X4 κ)) + ((X2 κ) * (X5 κ))) + ((X3 κ) * (X6 κ))) := fun κ => Dy.has_add b4.rk b5.rk g6 (h4 κ) (h5 κ)
  obtain ⟨s7, g7, b7⟩ := Dy.bd_mul (113336795588871552237573 / 18889465931478580854784) (-226673591177743154806795 / 37778931862957161709568) (226673591177743154806795 / 37778931862957161709568) (906694364710972250128395 / 37778931862957161709568) (-113336795588871552237573 / 18889465931478580854784) (113336795588871552237573 / 18889465931478580854784) 2 (113336795588871552237573 / 37778931862957161709568) c1 b6 (by decide +kernel)
  have h7 : Dy.HasS s7 (fun κ => (2 : Rat) * ((((X1 κ) * (X4 κ)) + ((X2 κ) * (X5 κ))) + ((X3 κ) * (X6 κ)))) := fun κ => Dy.has_mul c1.rk b6.rk g7 (e1 κ) (h6 κ)
  obtain ⟨s8, g8, b8⟩ := Dy.bd_mul (226673591177743154806795 / 37778931862957161709568) (-56668397794435801284611 / 9444732965739290427392) (56668397794435801284611 / 9444732965739290427392) (680020773533229330202641 / 18889465931478580854784) (-226673591177743154806795 / 37778931862957161709568) (226673591177743154806795 / 37778931862957161709568) (226673591177743154806795 / 37778931862957161709568) 1 b7 hd (by decide +kernel)
  have h8 : Dy.HasS s8 (fun κ => ((2 : Rat) * ((((X1 κ) * (X4 κ)) + ((X2 κ) * (X5 κ))) + ((X3 κ) * (X6 κ)))) * (X4 κ)) := fun κ => Dy.has_mul b7.rk hd.rk g8 (h7 κ) (sd κ)
  obtain ⟨s9, g9, b9⟩ := Dy.bd_mul (226673591177743154806795 / 37778931862957161709568) (-56668397794435801284611 / 9444732965739290427392) (56668397794435801284611 / 9444732965739290427392) (680020773533229330202641 / 18889465931478580854784) (-226673591177743154806795 / 37778931862957161709568) (226673591177743154806795 / 37778931862957161709568) (226673591177743154806795 / 37778931862957161709568) 1 b7 he (by decide +kernel)
  have h9 : Dy.HasS s9 (fun κ => ((2 : Rat) * ((((X1 κ) * (X4 κ)) + ((X2 κ) * (X5 κ))) + ((X3 κ) * (X6 κ)))) * (X5 κ)) := fun κ => Dy.has_mul b7.rk he.rk g9 (h7 κ) (se κ)
  obtain ⟨s10, g10, b10⟩ := Dy.bd_mul (226673591177743154806795 / 37778931862957161709568) (-56668397794435801284611 / 9444732965739290427392) (56668397794435801284611 / 9444732965739290427392) (680020773533229330202641 / 18889465931478580854784) (-226673591177743154806795 / 37778931862957161709568) (226673591177743154806795 / 37778931862957161709568) (226673591177743154806795 / 37778931862957161709568) 1 b7 hf (by decide +kernel)
  have h10 : Dy.HasS s10 (fun κ => ((2 : Rat) * ((((X1 κ) * (X4 κ)) + ((X2 κ) * (X5 κ))) + ((X3 κ) * (X6 κ)))) * (X6 κ)) := fun κ => Dy.has_mul b7.rk hf.rk g10 (h7 κ) (sf κ)
  obtain ⟨s11, g11, b11⟩ := Dy.bd_sub (66113130760175091712003 / 9444732965739290427392) (-264452523040700425568269 / 37778931862957161709568) (264452523040700425568269 / 37778931862957161709568) (1435599410792373101264931 / 37778931862957161709568) b8 ha (by decide +kernel)
  have h11 : Dy.HasS s11 (fun κ => (((2 : Rat) * ((((X1 κ) * (X4 κ)) + ((X2 κ) * (X5 κ))) + ((X3 κ) * (X6 κ)))) * (X4 κ)) - (X1 κ)) := fun κ => Dy.has_sub b8.rk ha.rk g11 (h8 κ) (sa κ)
  obtain ⟨s12, g12, b12⟩ := Dy.bd_sub (66113130760175091712003 / 9444732965739290427392) (-264452523040700425568269 / 37778931862957161709568) (264452523040700425568269 / 37778931862957161709568) (1435599410792373101264931 / 37778931862957161709568) b9 hb (by decide +kernel)
  have h12 : Dy.HasS s12 (fun κ => (((2 : Rat) * ((((X1 κ) * (X4 κ)) + ((X2 κ) * (X5 κ))) + ((X3 κ) * (X6 κ)))) * (X5 κ)) - (X2 κ)) := fun κ => Dy.has_sub b9.rk hb.rk g12 (h9 κ) (sb κ)
  obtain ⟨s13, g13, b13⟩ := Dy.bd_sub (66113130760175091712003 / 9444732965739290427392) (-264452523040700425568269 / 37778931862957161709568) (264452523040700425568269 / 37778931862957161709568) (1435599410792373101264931 / 37778931862957161709568) b10 hc (by decide +kernel)
  have h13 : Dy.HasS s13 (fun κ => (((2 : Rat) * ((((X1 κ) * (X4 κ)) + ((X2 κ) * (X5 κ))) + ((X3 κ) * (X6 κ)))) * (X6 κ)) - (X3 κ)) := fun κ => Dy.has_sub b10.rk hc.rk g13 (h10 κ) (sc κ)
  refine ⟨s11, s12, s13, ?_, b11.rk, b12.rk, b13.rk, h11, h12, h13⟩
  unfold reflM
  refine (Dy.cs_num g1.1).trans ?_
  refine (Dy.cs_mul g2.1).trans ?_
  refine (Dy.cs_mul g3.1).trans ?_
  refine (Dy.cs_add g4.1).trans ?_
  refine (Dy.cs_mul g5.1).trans ?_
  refine (Dy.cs_add g6.1).trans ?_
  refine (Dy.cs_mul g7.1).trans ?_
  refine (Dy.cs_mul g8.1).trans ?_
  refine (Dy.cs_mul g9.1).trans ?_
  refine (Dy.cs_mul g10.1).trans ?_
  refine (Dy.cs_sub g11.1).trans ?_
  refine (Dy.cs_sub g12.1).trans ?_
  refine (Dy.cs_sub g13.1).trans ?_
  exact rfl
theorem dot_num (ha : Dy.Bd a (-1) 1 2) (hb : Dy.Bd b (-1) 1 2) (hc : Dy.Bd c (-1) 1 2) (hd : Dy.Bd d (-1) 1 2) (he : Dy.Bd e (-1) 1 2) (hf : Dy.Bd f (-1) 1 2) (sa : Dy.HasS a (fun κ => X1 κ)) (sb : Dy.HasS b (fun κ => X2 κ)) (sc : Dy.HasS c (fun κ => X3 κ)) (sd : Dy.HasS d (fun κ => X4 κ)) (se : Dy.HasS e (fun κ => X5 κ)) (sf : Dy.HasS f (fun κ => X6 κ)) : ∃ x y s z v : Int × Int, Dy.Got (Dy.cMul 0 (Dy.E a) (Dy.E d)) x ∧ Dy.Got (Dy.cMul 0 (Dy.E b) (Dy.E e)) y ∧ Dy.Got (Dy.cAdd 0 (Dy.E x) (Dy.E y)) s ∧ Dy.Got (Dy.cMul 0 (Dy.E c) (Dy.E f)) z ∧ Dy.Got (Dy.cAdd 0 (Dy.E s) (Dy.E z)) v ∧ Dy.Rk v ∧ Dy.HasS v (fun κ => dot3 (X1 κ) (X2 κ) (X3 κ) (X4 κ) (X5 κ) (X6 κ)) := by
  obtain ⟨sd1, gd1, bd1⟩ := Dy.bd_mul 1 (-37778931862957170098177 / 37778931862957161709568) (37778931862957170098177 / 37778931862957161709568) (151115727451828663615489 / 37778931862957161709568) (-1) 1 1 1 ha hd (by decide +kernel)
  have hd1 : Dy.HasS sd1 (fun κ => (X1 κ) * (X4 κ)) := fun κ => Dy.has_mul ha.rk hd.rk gd1 (sa κ) (sd κ)
  obtain ⟨sd2, gd2, bd2⟩ := Dy.bd_mul 1 (-37778931862957170098177 / 37778931862957161709568) (37778931862957170098177 / 37778931862957161709568) (151115727451828663615489 / 37778931862957161709568) (-1) 1 1 1 hb he (by decide +kernel)
  have hd2 : Dy.HasS sd2 (fun κ => (X2 κ) * (X5 κ)) := fun κ => Dy.has_mul hb.rk he.rk gd2 (sb κ) (se κ)
  obtain ⟨sd3, gd3, bd3⟩ := Dy.bd_add (37778931862957170098177 / 18889465931478580854784) (-75557863725914356973571 / 37778931862957161709568) (75557863725914356973571 / 37778931862957161709568) (302231454903657360785411 / 37778931862957161709568) bd1 bd2 (by decide +kernel)
  have hd3 : Dy.HasS sd3 (fun κ => ((X1 κ) * (X4 κ)) + ((X2 κ) * (X5 κ))) := fun κ => Dy.has_add bd1.rk bd2.rk gd3 (hd1 κ) (hd2 κ)
  obtain ⟨sd4, gd4, bd4⟩ := Dy.bd_mul 1 (-37778931862957170098177 / 37778931862957161709568) (37778931862957170098177 / 37778931862957161709568) (151115727451828663615489 / 37778931862957161709568) (-1) 1 1 1 hc hf (by decide +kernel)
  have hd4 : Dy.HasS sd4 (fun κ => (X3 κ) * (X6 κ)) := fun κ => Dy.has_mul hc.rk hf.rk gd4 (sc κ) (sf κ)
  obtain ⟨sd5, gd5, bd5⟩ := Dy.bd_add (28334198897217881767937 / 9444732965739290427392) (-113336795588871552237573 / 37778931862957161709568) (113336795588871552237573 / 37778931862957161709568) (453347182355486074732549 / 37778931862957161709568) bd3 bd4 (by decide +kernel)
  have hd5 : Dy.HasS sd5 (fun κ => (((X1 κ) * (X4 κ)) + ((X2 κ) * (X5 κ))) + ((X3 κ) * (X6 κ))) := fun κ => Dy.has_add bd3.rk bd4.rk gd5 (hd3 κ) (hd4 κ)
  exact ⟨sd1, sd2, sd3, sd4, sd5, gd1, gd2, gd3, gd4, gd5, bd5.rk, hd5⟩
end
/-- Three sequences of a unit vector. -/
structure U3 (X Y Z : Nat → Rat) : Prop where
  le : ∀ κ, X κ * X κ + Y κ * Y κ + Z κ * Z κ ≤ 1
  n : Dy.Near (fun κ => X κ * X κ + Y κ * Y κ + Z κ * Z κ) (fun _ => 1)
theorem sq_in {x : Rat} (h : x * x ≤ 1) : -1 ≤ x ∧ x ≤ 1 := by
  constructor
  · by_cases c : 0 ≤ x
    · grind
    · have := Dy.sq_le_sq (u := -x) (v := 1) (by grind) (by decide +kernel) (by grind); grind
  · by_cases c : 0 ≤ x
    · exact Dy.sq_le_sq c (by decide +kernel) (by grind)
    · grind
section
variable {X Y Z P Q R : Nat → Rat}
theorem U3.b (h : U3 X Y Z) (κ : Nat) : (-1 ≤ X κ ∧ X κ ≤ 1) ∧ (-1 ≤ Y κ ∧ Y κ ≤ 1) ∧ (-1 ≤ Z κ ∧ Z κ ≤ 1) := by
  have l := h.le κ
  have x := sq0 (X κ); have y := sq0 (Y κ); have z := sq0 (Z κ)
  exact ⟨sq_in (by grind), sq_in (by grind), sq_in (by grind)⟩
theorem U3.bnd (h : U3 X Y Z) : Dy.Bnd X ∧ Dy.Bnd Y ∧ Dy.Bnd Z := ⟨Dy.bnd_of fun κ => (h.b κ).1, Dy.bnd_of fun κ => (h.b κ).2.1, Dy.bnd_of fun κ => (h.b κ).2.2⟩
theorem U3.nr (h : U3 X Y Z) : Dy.Nr (fun κ => X κ * X κ + Y κ * Y κ + Z κ * Z κ) (fun _ => 1) := by
  obtain ⟨x, y, z⟩ := h.bnd
  exact ⟨h.n, Dy.bnd_add (Dy.bnd_add (Dy.bnd_mul x x) (Dy.bnd_mul y y)) (Dy.bnd_mul z z), Dy.bnd_const 1⟩
theorem nr_self' {x : Nat → Rat} (h : Dy.Bnd x) : Dy.Nr x x := ⟨Dy.Near.refl _, h, h⟩
theorem dot_bnd (h : U3 X Y Z) (k : U3 P Q R) : Dy.Bnd (fun κ => dot3 (X κ) (Y κ) (Z κ) (P κ) (Q κ) (R κ)) := by
  obtain ⟨x, y, z⟩ := h.bnd; obtain ⟨p, q, r⟩ := k.bnd
  exact Dy.bnd_add (Dy.bnd_add (Dy.bnd_mul x p) (Dy.bnd_mul y q)) (Dy.bnd_mul z r)
theorem mir_sq (a b c d e f : Rat) : mir a b c d e f d a * mir a b c d e f d a + mir a b c d e f e b * mir a b c d e f e b + mir a b c d e f f c * mir a b c d e f f c = a * a + b * b + c * c - 4 * (dot3 a b c d e f * dot3 a b c d e f) * (1 - (d * d + e * e + f * f)) := by
  unfold mir
  generalize hd : dot3 a b c d e f = D
  unfold dot3 at hd
  grind
theorem mir_dot (a b c d e f : Rat) : dot3 (mir a b c d e f d a) (mir a b c d e f e b) (mir a b c d e f f c) d e f = dot3 a b c d e f * (2 * (d * d + e * e + f * f) - 1) := by
  unfold mir
  generalize hd : dot3 a b c d e f = D
  unfold dot3 at hd ⊢
  grind
/-- What comes back is a unit vector. -/
theorem U3.back (h : U3 X Y Z) (k : U3 P Q R) : U3 (fun κ => mir (X κ) (Y κ) (Z κ) (P κ) (Q κ) (R κ) (P κ) (X κ)) (fun κ => mir (X κ) (Y κ) (Z κ) (P κ) (Q κ) (R κ) (Q κ) (Y κ)) (fun κ => mir (X κ) (Y κ) (Z κ) (P κ) (Q κ) (R κ) (R κ) (Z κ)) := by
  constructor
  · intro κ
    have := mir_sq (X κ) (Y κ) (Z κ) (P κ) (Q κ) (R κ)
    have := h.le κ; have := k.le κ
    have := Rat.mul_nonneg (sq0 (dot3 (X κ) (Y κ) (Z κ) (P κ) (Q κ) (R κ))) (show 0 ≤ 1 - (P κ * P κ + Q κ * Q κ + R κ * R κ) by grind)
    grind
  · have d := nr_self' (dot_bnd h k)
    have e := Dy.nr_sub h.nr (Dy.nr_mul (Dy.nr_mul (Dy.nr_const 4) (Dy.nr_mul d d)) (Dy.nr_sub (Dy.nr_const 1) k.nr))
    exact ((Dy.near_eq fun κ => mir_sq (X κ) (Y κ) (Z κ) (P κ) (Q κ) (R κ)).trans e.n).trans (Dy.near_eq fun κ => by grind)
theorem back_dot (h : U3 X Y Z) (k : U3 P Q R) : Dy.Near (fun κ => dot3 (mir (X κ) (Y κ) (Z κ) (P κ) (Q κ) (R κ) (P κ) (X κ)) (mir (X κ) (Y κ) (Z κ) (P κ) (Q κ) (R κ) (Q κ) (Y κ)) (mir (X κ) (Y κ) (Z κ) (P κ) (Q κ) (R κ) (R κ) (Z κ)) (P κ) (Q κ) (R κ)) (fun κ => dot3 (X κ) (Y κ) (Z κ) (P κ) (Q κ) (R κ)) := by
  have d := nr_self' (dot_bnd h k)
  have e := Dy.nr_mul d (Dy.nr_sub (Dy.nr_mul (Dy.nr_const 2) k.nr) (Dy.nr_const 1))
  exact ((Dy.near_eq fun κ => mir_dot (X κ) (Y κ) (Z κ) (P κ) (Q κ) (R κ)).trans e.n).trans (Dy.near_eq fun κ => by grind)
/-- Sent back it comes back as it was. -/
theorem back_back {A B : Nat → Rat} (h : U3 X Y Z) (k : U3 P Q R) (hA : Dy.Bnd A) : Dy.Near (fun κ => mir (mir (X κ) (Y κ) (Z κ) (P κ) (Q κ) (R κ) (P κ) (X κ)) (mir (X κ) (Y κ) (Z κ) (P κ) (Q κ) (R κ) (Q κ) (Y κ)) (mir (X κ) (Y κ) (Z κ) (P κ) (Q κ) (R κ) (R κ) (Z κ)) (P κ) (Q κ) (R κ) (A κ) (mir (X κ) (Y κ) (Z κ) (P κ) (Q κ) (R κ) (A κ) (B κ))) B := by
  have d := nr_self' (dot_bnd h k)
  have e := Dy.nr_mul (Dy.nr_mul (Dy.nr_mul (Dy.nr_const 4) d) (Dy.nr_sub k.nr (Dy.nr_const 1))) (nr_self' hA)
  have g : Dy.Near (fun κ => 4 * dot3 (X κ) (Y κ) (Z κ) (P κ) (Q κ) (R κ) * (P κ * P κ + Q κ * Q κ + R κ * R κ - 1) * A κ) (fun _ => 0) := e.n.trans (Dy.near_eq fun κ => by grind)
  refine ((Dy.near_eq (y := fun κ => B κ + 4 * dot3 (X κ) (Y κ) (Z κ) (P κ) (Q κ) (R κ) * (P κ * P κ + Q κ * Q κ + R κ * R κ - 1) * A κ) fun κ => ?_).trans (Dy.near_add (Dy.Near.refl B) g)).trans (Dy.near_eq fun κ => by grind)
  have m := mir_dot (X κ) (Y κ) (Z κ) (P κ) (Q κ) (R κ)
  show 2 * dot3 (mir (X κ) (Y κ) (Z κ) (P κ) (Q κ) (R κ) (P κ) (X κ)) (mir (X κ) (Y κ) (Z κ) (P κ) (Q κ) (R κ) (Q κ) (Y κ)) (mir (X κ) (Y κ) (Z κ) (P κ) (Q κ) (R κ) (R κ) (Z κ)) (P κ) (Q κ) (R κ) * A κ - mir (X κ) (Y κ) (Z κ) (P κ) (Q κ) (R κ) (A κ) (B κ) = _
  rw [m]
  unfold mir
  grind
end
/-- A direction's numbers are those of a unit vector. -/
theorem Dir3.u3 {u0 u1 u2 : Nat} {x y z : Int} {p q r : Int × Int} {t : Nat → Rat} (h : Dir3 u0 u1 u2 x y z p q r t) : U3 (fun κ => Dy.val x / t κ) (fun κ => Dy.val y / t κ) (fun κ => Dy.val z / t κ) := by
  have z1 := h.z1
  have xx := sq0 (Dy.val x); have yy := sq0 (Dy.val y)
  have zz : 1 / 4096 ≤ Dy.val z * Dy.val z := by
    have a := Rat.mul_le_mul_of_nonneg_left z1.1 (show (0 : Rat) ≤ 1 / 64 by decide +kernel)
    have b := Rat.mul_le_mul_of_nonneg_right z1.1 (show 0 ≤ Dy.val z by grind)
    have e : (1 : Rat) / 64 * (1 / 64) = 1 / 4096 := by decide +kernel
    rw [e] at a; grind
  have e : ∀ κ, Dy.val x / t κ * (Dy.val x / t κ) + Dy.val y / t κ * (Dy.val y / t κ) + Dy.val z / t κ * (Dy.val z / t κ) = (Dy.val x * Dy.val x + Dy.val y * Dy.val y + Dy.val z * Dy.val z) / (t κ * t κ) := fun κ => by
    have := (h.tb κ).1
    have : t κ ≠ 0 := by grind
    grind
  have bt : Dy.Bnd t := Dy.bnd_of h.tb
  have nt : Dy.Nr (fun κ => t κ * t κ) (fun _ => Dy.val x * Dy.val x + Dy.val y * Dy.val y + Dy.val z * Dy.val z) := ⟨h.nt, Dy.bnd_mul bt bt, Dy.bnd_const _⟩
  constructor
  · intro κ
    rw [e]
    have := h.sb κ
    exact Dy.quo_le (by grind) (by grind)
  · have k := Dy.nr_div (d := 1 / 4096) (Dy.nr_const (Dy.val x * Dy.val x + Dy.val y * Dy.val y + Dy.val z * Dy.val z)) nt (by decide +kernel) (fun κ => by have := h.sb κ; grind) (fun κ => by grind)
    exact ((Dy.near_eq e).trans k.n).trans (Dy.near_eq fun κ => by grind)
/-- What a mirror sends back, kept within 1. -/
theorem reflG_num {a b c d e f : Int × Int} {X Y Z P Q R : Nat → Rat} (ha : Dy.Bd a (-1) 1 2) (hb : Dy.Bd b (-1) 1 2) (hc : Dy.Bd c (-1) 1 2) (hd : Dy.Bd d (-1) 1 2) (he : Dy.Bd e (-1) 1 2) (hf : Dy.Bd f (-1) 1 2)
    (sa : Dy.HasS a X) (sb : Dy.HasS b Y) (sc : Dy.HasS c Z) (sd : Dy.HasS d P) (se : Dy.HasS e Q) (sf : Dy.HasS f R) (h : U3 X Y Z) (k : U3 P Q R) :
    ∃ x y z : Int × Int, reflG (Dy.enc a.1, Dy.enc a.2) (Dy.enc b.1, Dy.enc b.2) (Dy.enc c.1, Dy.enc c.2) (Dy.enc d.1, Dy.enc d.2) (Dy.enc e.1, Dy.enc e.2) (Dy.enc f.1, Dy.enc f.2) = (((Dy.enc x.1, Dy.enc x.2), (Dy.enc y.1, Dy.enc y.2), (Dy.enc z.1, Dy.enc z.2)), 0) ∧ Dy.Bd x (-1) 1 2 ∧ Dy.Bd y (-1) 1 2 ∧ Dy.Bd z (-1) 1 2 ∧
      Dy.HasS x (fun κ => mir (X κ) (Y κ) (Z κ) (P κ) (Q κ) (R κ) (P κ) (X κ)) ∧ Dy.HasS y (fun κ => mir (X κ) (Y κ) (Z κ) (P κ) (Q κ) (R κ) (Q κ) (Y κ)) ∧ Dy.HasS z (fun κ => mir (X κ) (Y κ) (Z κ) (P κ) (Q κ) (R κ) (R κ) (Z κ)) := by
  obtain ⟨x, y, z, e0, r1, r2, r3, s1, s2, s3⟩ := refl_num ha hb hc hd he hf sa sb sc sd se sf
  have i : ∀ {p : Int × Int}, Dy.Bd p (-1) 1 2 → In1 p := fun h => in1_bd h (by decide +kernel)
  have g := reflG_ok (i ha) (i hb) (i hc) (i hd) (i he) (i hf)
  rw [e0] at g
  have o1 : Dy.ok 4607182418800017408 := Dy.ok_B (by decide) (by decide)
  have cl : ∀ {p : Int × Int} {V : Nat → Rat}, Dy.Rk p → Dy.HasS p V → (∀ κ, -1 ≤ V κ ∧ V κ ≤ 1) → Dy.clip 13830554455654793216 4607182418800017408 (Dy.E p) = Dy.E (Dy.rClip (-4607182418800017408) 4607182418800017408 p) ∧ Dy.Bd (Dy.rClip (-4607182418800017408) 4607182418800017408 p) (-1) 1 2 ∧ Dy.HasS (Dy.rClip (-4607182418800017408) 4607182418800017408 p) V := fun {p V} hp hs hv => by
    obtain ⟨ce, cr⟩ := Dy.clip_R (x := -4607182418800017408) (y := 4607182418800017408) (l := 13830554455654793216) (h := 4607182418800017408) hp (Dy.ok_neg o1) o1 (by decide) (by decide)
    have vm : Dy.val (-4607182418800017408) = -1 := by rw [Dy.val_neg, Dy.val_one]
    have a1 : -1 ≤ Dy.val (Dy.rClip (-4607182418800017408) 4607182418800017408 p).1 := by
      show _ ≤ Dy.val (min (max p.1 _) _); rw [Dy.val_min, Dy.val_max, vm, Dy.val_one]; grind
    have a2 : Dy.val (Dy.rClip (-4607182418800017408) 4607182418800017408 p).2 ≤ 1 := by
      show Dy.val (min (max p.2 _) _) ≤ _; rw [Dy.val_min, Dy.val_max, vm, Dy.val_one]; grind
    exact ⟨ce, ⟨cr, a1, a2, by grind⟩, fun κ => Dy.has_clip (hs κ) (by rw [vm]; exact (hv κ).1) (by rw [Dy.val_one]; exact (hv κ).2)⟩
  have u := h.back k
  obtain ⟨c1, b1, t1⟩ := cl r1 s1 (fun κ => (u.b κ).1)
  obtain ⟨c2, b2, t2⟩ := cl r2 s2 (fun κ => (u.b κ).2.1)
  obtain ⟨c3, b3, t3⟩ := cl r3 s3 (fun κ => (u.b κ).2.2)
  rw [c1, c2, c3] at g
  exact ⟨_, _, _, g, b1, b2, b3, t1, t2, t3⟩
end Go.Proofs.Ythmkjnhgialnlaa
