/- Plain facts: the half of two directions, one of which is the other one's mirror. -/
import Derived.Test.YthmkjnhgialnlaaRq
import Derived.Test.YthmkjnhgialnlaaRv
namespace Go.Dy
section
variable {p q s : Int × Int} {L H w : Rat}
/-- A square of what is not small is not small. -/
theorem sq_pos {v : Rat} (hp : Bd p L H (1 / 68719476736)) (a : Has p v) (h : 1 / 1152921504606846976 ≤ v * v) (h2 : v * v ≤ 16) (g : Got (cSqr 0 (E p)) s) : 1 / 4611686018427387904 ≤ val s.1 := by
  obtain ⟨u, hu, u0, u1, u2⟩ : ∃ u : Rat, u * u = v * v ∧ 0 ≤ u ∧ -u ≤ v ∧ v ≤ u := by
    by_cases c : 0 ≤ v
    · exact ⟨v, rfl, c, by grind, by grind⟩
    · exact ⟨-v, by grind, by grind, by grind, by grind⟩
  have ul : 1 / 1073741824 ≤ u := by
    refine sq_le_sq (by decide +kernel) u0 ?_
    have e : (1 : Rat) / 1073741824 * (1 / 1073741824) = 1 / 1152921504606846976 := by decide +kernel
    rw [e, hu]; exact h
  have b := bd_re (A := v - 1 / 68719476736) (B := v + 1 / 68719476736) hp a ⟨Rat.le_refl, Rat.le_refl⟩
  have uw : u * (1 / 68719476736) ≤ u * u / 64 := by
    have k := Rat.mul_le_mul_of_nonneg_left (show 1 / 68719476736 * 64 ≤ u by grind) u0
    grind
  have hs := (has_sqr hp.rk g a).hi
  have uu1 : 1 / 1152921504606846976 ≤ u * u := by rw [hu]; exact h
  have uu2 : u * u ≤ 16 := by rw [hu]; exact h2
  have c1 : 2 * u * (2 * u) + rr (4 * (u * u)) ≤ 128 := by
    unfold rr
    clear h h2 hu hp a b uw hs
    grind
  have c2 : 2 * (2 * u) * (1 / 68719476736) + 2 * rr (4 * (u * u)) ≤ 1 / 2 * (u * u) := by
    unfold rr
    clear h h2 hu hp a b hs c1
    have e : 2 * (2 * u) * (1 / 68719476736) = 4 * (u * (1 / 68719476736)) := by grind
    rw [e]
    generalize u * (1 / 68719476736) = k at *
    generalize u * u = y at *
    grind
  obtain ⟨s', g', b'⟩ := bd_sqr (4 * (u * u)) 0 128 (1 / 2 * (u * u)) (2 * u) b ⟨by grind, by grind, by grind, .inr Rat.le_refl, c1, c2, by decide +kernel, by decide +kernel⟩
  have e := g'.uniq g
  subst e
  have wd := b'.wd
  rw [← hu] at hs
  clear h h2 hu hp a b uw g g' c1 c2
  generalize u * u = y at *
  grind
theorem add_lo (hp : Rk p) (hq : Rk q) (h : Got (cAdd 0 (E p) (E q)) s) : (0 ≤ q.1 → p.1 ≤ s.1) ∧ (0 ≤ p.1 → q.1 ≤ s.1) := by
  rw [cAdd_E hp hq] at h
  have l1 := add_dn p.1 q.1; have l2 := add_up' p.2 q.2
  have a := val_le.2 hp.le; have b := val_le.2 hq.le
  have := res_eq h (val_le.1 (by grind))
  subst this
  constructor
  · intro k
    have v := V_nonneg.2 k
    exact (fl_down (by decide)).2 (by simp; omega)
  · intro k
    have v := V_nonneg.2 k
    exact (fl_down (by decide)).2 (by simp; omega)
theorem root_lo (hp : Rk p) (h : 4327959241903046656 ≤ p.1) (g : Got (cSqrt 0 (E p)) s) : 4467570830351532032 ≤ s.1 := by
  have h0 : 0 ≤ p.1 := by omega
  have e := g.uniq (got_sqrt hp h0)
  subst e
  refine (sqz_down h0 (by decide)).2 ?_
  have k : V 4467570830351532032 * V 4467570830351532032 = V 4327959241903046656 * one := by decide +kernel
  rw [k]
  exact Int.mul_le_mul_of_nonneg_right (V_le_iff.2 h) (by omega)
end
end Go.Dy
namespace Go.Proofs.Ythmkjnhgialnlaa
open Go Go.RowKit

theorem kv_eq (d P Q R : Rat) : 4 * (d * d) * (P * P + Q * Q + R * R) = 2 * d * P * (2 * d * P) + 2 * d * Q * (2 * d * Q) + 2 * d * R * (2 * d * R) := by grind
theorem big_sq {d y : Rat} (dl : 1 / 1073741824 ≤ d) (du : d ≤ 1) (h1 : 1 / 4 ≤ y * y) (h2 : y * y ≤ 1) : 1 / 1152921504606846976 ≤ 2 * d * y * (2 * d * y) ∧ 2 * d * y * (2 * d * y) ≤ 16 := by
  have a := Dy.mul_abs_le (x := 1 / 1073741824) (y := 1 / 1073741824) (m := d) (w := d) (by grind) dl (by grind) dl
  have b := Dy.mul_abs_le (x := d) (y := d) (m := 1) (w := 1) (by grind) du (by grind) du
  have e0 : (1 : Rat) / 1073741824 * (1 / 1073741824) = 1 / 1152921504606846976 := by decide +kernel
  rw [e0] at a
  have d0 := sq0 d
  have e : 2 * d * y * (2 * d * y) = 4 * (d * d * (y * y)) := by grind
  have f := Rat.mul_le_mul_of_nonneg_left h1 d0
  have g := Rat.mul_le_mul_of_nonneg_left h2 d0
  rw [e]; clear e e0
  generalize d * d * (y * y) = k at *
  generalize d * d = m at *
  exact ⟨by grind, by grind⟩
theorem le1 {P Q R : Rat} (h : P * P + Q * Q + R * R ≤ 1) : P * P ≤ 1 ∧ Q * Q ≤ 1 ∧ R * R ≤ 1 := by
  have a := sq0 P; have b := sq0 Q; have c := sq0 R
  exact ⟨by grind, by grind, by grind⟩
theorem no_small {x y z : Rat} (h : -(1 / 4) ≤ x + y + z - 1) (a : ¬ 1 / 4 ≤ x) (b : ¬ 1 / 4 ≤ y) (c : ¬ 1 / 4 ≤ z) : False := by grind
theorem cl_half {d : Rat} (l : 1 / 1073741824 ≤ d) (u : d ≤ 1) : min (max (1 / 2 * (2 * d)) 0) 1 = d := by grind
theorem cl_lean {d R : Rat} (l : 1 / 1073741824 ≤ d) (h0 : 0 ≤ R) (h1 : R ≤ 1) : min (max (2 * d * R / (2 * d)) 0) 1 = R := by
  have : d ≠ 0 := by grind
  have e : 2 * d * R / (2 * d) = R := by grind
  rw [e]; grind
theorem nn_of {x : Rat} (h : 1 / 2147483648 ≤ x) : 0 ≤ x := by grind
theorem two_d {d : Rat} (l : 1 / 1073741824 ≤ d) : 1 / 2147483648 ≤ 2 * d ∧ 0 ≤ 2 * d := ⟨by grind, by grind⟩
theorem sq_two (d u v w : Rat) (P Q R : Rat) : 4 * (d * d) * 1 = 2 * d * (2 * d) := by grind
theorem refl_wd {a b c d e f : Int × Int} (ha : Dy.Bd a (-1) 1 (1 / 70368744177664)) (hb : Dy.Bd b (-1) 1 (1 / 70368744177664)) (hc : Dy.Bd c (-1) 1 (1 / 70368744177664)) (hd : Dy.Bd d (-1) 1 (1 / 70368744177664)) (he : Dy.Bd e (-1) 1 (1 / 70368744177664)) (hf : Dy.Bd f (-1) 1 (1 / 70368744177664)) : ∃ x y z : Int × Int, reflG (Dy.enc a.1, Dy.enc a.2) (Dy.enc b.1, Dy.enc b.2) (Dy.enc c.1, Dy.enc c.2) (Dy.enc d.1, Dy.enc d.2) (Dy.enc e.1, Dy.enc e.2) (Dy.enc f.1, Dy.enc f.2) = ((Dy.E x, Dy.E y, Dy.E z), 0) ∧ Dy.Bd x (-1) 1 (1 / 1099511627776) ∧ Dy.Bd y (-1) 1 (1 / 1099511627776) ∧ Dy.Bd z (-1) 1 (1 / 1099511627776) := by
  have i : ∀ {p : Int × Int}, Dy.Bd p (-1) 1 (1 / 70368744177664) → In1 p := fun h => in1_bd h (by decide +kernel)
  have g := reflG_ok (i ha) (i hb) (i hc) (i hd) (i he) (i hf)
  obtain ⟨g1, b1, h1⟩ := Dy.bd_num (x := 4611686018427387904) (z := 4611686018427387904) (num := 2) (den := 1) (Dy.ok_B (by decide) (by decide)) (by decide) (by decide) (by decide +kernel)
  have c1 : Dy.Bd ((4611686018427387904 : Int), (4611686018427387904 : Int)) 2 2 0 := b1.mono (by decide +kernel)
  have e1 : Dy.Has ((4611686018427387904 : Int), (4611686018427387904 : Int)) ((2 : Rat)) := (show ((2 : Int) : Rat) / (((1 : Nat) : Int) : Rat) = 2 from by decide +kernel) ▸ h1
  obtain ⟨s2, g2, b2⟩ := Dy.bd_mul 1 (-37778931862957170098177 / 37778931862957161709568) (37778931862957170098177 / 37778931862957161709568) (1257282852399214341694423041 / 43556142965880123323311949751266331066368) (-1) 1 1 1 ha hd (by decide +kernel)
  obtain ⟨s3, g3, b3⟩ := Dy.bd_mul 1 (-37778931862957170098177 / 37778931862957161709568) (37778931862957170098177 / 37778931862957161709568) (1257282852399214341694423041 / 43556142965880123323311949751266331066368) (-1) 1 1 1 hb he (by decide +kernel)
  obtain ⟨s4, g4, b4⟩ := Dy.bd_add (37778931862957170098177 / 18889465931478580854784) (-75557863725914356973571 / 37778931862957161709568) (75557863725914356973571 / 37778931862957161709568) (2553251331026096825569379331 / 43556142965880123323311949751266331066368) b2 b3 (by decide +kernel)
  obtain ⟨s5, g5, b5⟩ := Dy.bd_mul 1 (-37778931862957170098177 / 37778931862957161709568) (37778931862957170098177 / 37778931862957161709568) (1257282852399214341694423041 / 43556142965880123323311949751266331066368) (-1) 1 1 1 hc hf (by decide +kernel)
  obtain ⟨s6, g6, b6⟩ := Dy.bd_add (28334198897217881767937 / 9444732965739290427392) (-113336795588871552237573 / 37778931862957161709568) (113336795588871552237573 / 37778931862957161709568) (3868562622766813389124537349 / 43556142965880123323311949751266331066368) b4 b5 (by decide +kernel)
  obtain ⟨s7, g7, b7⟩ := Dy.bd_mul (113336795588871552237573 / 18889465931478580854784) (-226673591177743154806795 / 37778931862957161709568) (226673591177743154806795 / 37778931862957161709568) (7853182124216631247740349451 / 43556142965880123323311949751266331066368) (-113336795588871552237573 / 18889465931478580854784) (113336795588871552237573 / 18889465931478580854784) 2 (113336795588871552237573 / 37778931862957161709568) c1 b6 (by decide +kernel)
  obtain ⟨s8, g8, b8⟩ := Dy.bd_mul (226673591177743154806795 / 37778931862957161709568) (-56668397794435801284611 / 9444732965739290427392) (56668397794435801284611 / 9444732965739290427392) (2920764780188944897838989443 / 10889035741470030830827987437816582766592) (-226673591177743154806795 / 37778931862957161709568) (226673591177743154806795 / 37778931862957161709568) (226673591177743154806795 / 37778931862957161709568) 1 b7 hd (by decide +kernel)
  obtain ⟨s9, g9, b9⟩ := Dy.bd_mul (226673591177743154806795 / 37778931862957161709568) (-56668397794435801284611 / 9444732965739290427392) (56668397794435801284611 / 9444732965739290427392) (2920764780188944897838989443 / 10889035741470030830827987437816582766592) (-226673591177743154806795 / 37778931862957161709568) (226673591177743154806795 / 37778931862957161709568) (226673591177743154806795 / 37778931862957161709568) 1 b7 he (by decide +kernel)
  obtain ⟨s10, g10, b10⟩ := Dy.bd_mul (226673591177743154806795 / 37778931862957161709568) (-56668397794435801284611 / 9444732965739290427392) (56668397794435801284611 / 9444732965739290427392) (2920764780188944897838989443 / 10889035741470030830827987437816582766592) (-226673591177743154806795 / 37778931862957161709568) (226673591177743154806795 / 37778931862957161709568) (226673591177743154806795 / 37778931862957161709568) 1 b7 hf (by decide +kernel)
  obtain ⟨s11, g11, b11⟩ := Dy.bd_sub (66113130760175091712003 / 9444732965739290427392) (-264452523040700425568269 / 37778931862957161709568) (264452523040700425568269 / 37778931862957161709568) (12437428832195308316631702029 / 43556142965880123323311949751266331066368) b8 ha (by decide +kernel)
  obtain ⟨s12, g12, b12⟩ := Dy.bd_sub (66113130760175091712003 / 9444732965739290427392) (-264452523040700425568269 / 37778931862957161709568) (264452523040700425568269 / 37778931862957161709568) (12437428832195308316631702029 / 43556142965880123323311949751266331066368) b9 hb (by decide +kernel)
  obtain ⟨s13, g13, b13⟩ := Dy.bd_sub (66113130760175091712003 / 9444732965739290427392) (-264452523040700425568269 / 37778931862957161709568) (264452523040700425568269 / 37778931862957161709568) (12437428832195308316631702029 / 43556142965880123323311949751266331066368) b10 hc (by decide +kernel)
  have e0 : reflM (Dy.E a) (Dy.E b) (Dy.E c) (Dy.E d) (Dy.E e) (Dy.E f) 0 = ((Dy.E s11, Dy.E s12, Dy.E s13), 0) := by
    unfold reflM
    refine (Dy.cs_num g1.1).trans ?_
    refine (Dy.cs_mul g2.1).trans ?_
    refine (Dy.cs_mul g3.1).trans ?_
    refine (Dy.cs_add g4.1).trans ?_
    refine (Dy.cs_mul g5.1).trans ?_
    refine (Dy.cs_add g6.1).trans ?_
    refine (Dy.cs_mul g7.1).trans ?_
    refine (Dy.cs_mul g8.1).trans ?_
    refine (Dy.cs_mul g9.1).trans ?_
    refine (Dy.cs_mul g10.1).trans ?_
    refine (Dy.cs_sub g11.1).trans ?_
    refine (Dy.cs_sub g12.1).trans ?_
    refine (Dy.cs_sub g13.1).trans ?_
    exact rfl
  rw [e0] at g
  have o1 : Dy.ok 4607182418800017408 := Dy.ok_B (by decide) (by decide)
  have vm : Dy.val (-4607182418800017408) = -1 := by rw [Dy.val_neg, Dy.val_one]
  have cl : ∀ {p : Int × Int} {L H w : Rat}, Dy.Bd p L H w → Dy.clip 13830554455654793216 4607182418800017408 (Dy.E p) = Dy.E (Dy.rClip (-4607182418800017408) 4607182418800017408 p) ∧ Dy.Bd (Dy.rClip (-4607182418800017408) 4607182418800017408 p) (-1) 1 w := fun {p L H w} hp =>
    Dy.bd_clip (-1) 1 (Dy.ok_neg o1) o1 (by decide) (by decide) hp (.inr (by rw [vm]; exact Rat.le_refl)) (by rw [Dy.val_one]; decide +kernel) (.inr (by rw [Dy.val_one]; exact Rat.le_refl)) (by rw [vm]; decide +kernel) (by decide)
  obtain ⟨c1, b1⟩ := cl b11
  obtain ⟨c2, b2⟩ := cl b12
  obtain ⟨c3, b3⟩ := cl b13
  rw [c1, c2, c3] at g
  exact ⟨_, _, _, g, b1.mono ⟨Rat.le_refl, Rat.le_refl, by decide +kernel⟩, b2.mono ⟨Rat.le_refl, Rat.le_refl, by decide +kernel⟩, b3.mono ⟨Rat.le_refl, Rat.le_refl, by decide +kernel⟩⟩
set_option maxHeartbeats 2000000 in
theorem half_num {a b c p q r : Int × Int} {A B C X Y Z d P Q R : Nat → Rat} (ha : Dy.Bd a (-1) 1 (1 / 1099511627776)) (hb : Dy.Bd b (-1) 1 (1 / 1099511627776)) (hc : Dy.Bd c (-1) 1 (1 / 1099511627776)) (hp : Dy.Bd p (-1) 1 (1 / 1099511627776)) (hq : Dy.Bd q (-1) 1 (1 / 1099511627776)) (hr : Dy.Bd r (-1) 1 (1 / 1099511627776)) (sa : Dy.HasS a (fun κ => A κ)) (sb : Dy.HasS b (fun κ => B κ)) (sc : Dy.HasS c (fun κ => C κ)) (sp : Dy.HasS p (fun κ => X κ)) (sq : Dy.HasS q (fun κ => Y κ)) (sr : Dy.HasS r (fun κ => Z κ)) (eA : ∀ κ, A κ + X κ = 2 * d κ * P κ) (eB : ∀ κ, B κ + Y κ = 2 * d κ * Q κ) (eC : ∀ κ, C κ + Z κ = 2 * d κ * R κ) (dl : ∀ κ, 1 / 1073741824 ≤ d κ) (du : ∀ κ, d κ ≤ 1) (N3 : U3 P Q R) (R0 : ∀ κ, 0 ≤ R κ) :
    ∃ (x_s1 x_s2 x_s3 x_q1 x_q2 x_u x_q3 x_v x_n x_hn x_ln : Int × Int) (h l : Nat → Rat), Dy.Got (Dy.cAdd 0 (Dy.E a) (Dy.E p)) x_s1 ∧ Dy.Got (Dy.cAdd 0 (Dy.E b) (Dy.E q)) x_s2 ∧ Dy.Got (Dy.cAdd 0 (Dy.E c) (Dy.E r)) x_s3 ∧ Dy.Got (Dy.cSqr 0 (Dy.E x_s1)) x_q1 ∧ Dy.Got (Dy.cSqr 0 (Dy.E x_s2)) x_q2 ∧ Dy.Got (Dy.cAdd 0 (Dy.E x_q1) (Dy.E x_q2)) x_u ∧ Dy.Got (Dy.cSqr 0 (Dy.E x_s3)) x_q3 ∧ Dy.Got (Dy.cAdd 0 (Dy.E x_u) (Dy.E x_q3)) x_v ∧ Dy.Got (Dy.cSqrt 0 (Dy.E x_v)) x_n ∧ Dy.Got (Dy.cMul 0 (Dy.E (4602678819172646912, 4602678819172646912)) (Dy.E x_n)) x_hn ∧ Dy.Got (Dy.cDiv 0 (Dy.E x_s3) (Dy.E x_n)) x_ln ∧ Dy.Rk x_hn ∧ Dy.Rk x_ln ∧ Dy.HasS (Dy.rClip 0 4607182418800017408 x_hn) h ∧ Dy.Near h d ∧ Dy.HasS (Dy.rClip 0 4607182418800017408 x_ln) l ∧ Dy.Near l R := by
  obtain ⟨s1, g1, b1⟩ := Dy.bd_add 2 (-75557863725914340196353 / 37778931862957161709568) (75557863725914340196353 / 37778931862957161709568) (79266848140492005727134547969 / 43556142965880123323311949751266331066368) ha hp (by decide +kernel)
  have h1 : Dy.HasS s1 (fun κ => (A κ) + (X κ)) := fun κ => Dy.has_add ha.rk hp.rk g1 (sa κ) (sp κ)
  obtain ⟨s2, g2, b2⟩ := Dy.bd_add 2 (-75557863725914340196353 / 37778931862957161709568) (75557863725914340196353 / 37778931862957161709568) (79266848140492005727134547969 / 43556142965880123323311949751266331066368) hb hq (by decide +kernel)
  have h2 : Dy.HasS s2 (fun κ => (B κ) + (Y κ)) := fun κ => Dy.has_add hb.rk hq.rk g2 (sb κ) (sq κ)
  obtain ⟨s3, g3, b3⟩ := Dy.bd_add 2 (-75557863725914340196353 / 37778931862957161709568) (75557863725914340196353 / 37778931862957161709568) (79266848140492005727134547969 / 43556142965880123323311949751266331066368) hc hr (by decide +kernel)
  have h3 : Dy.HasS s3 (fun κ => (C κ) + (Z κ)) := fun κ => Dy.has_add hc.rk hr.rk g3 (sc κ) (sr κ)
  have k1 : Dy.HasS s1 (fun κ => 2 * d κ * P κ) := fun κ => by show Dy.Has _ (2 * d κ * P κ); rw [← eA κ]; exact h1 κ
  have k2 : Dy.HasS s2 (fun κ => 2 * d κ * Q κ) := fun κ => by show Dy.Has _ (2 * d κ * Q κ); rw [← eB κ]; exact h2 κ
  have k3 : Dy.HasS s3 (fun κ => 2 * d κ * R κ) := fun κ => by show Dy.Has _ (2 * d κ * R κ); rw [← eC κ]; exact h3 κ
  obtain ⟨s4, g4, b4⟩ := Dy.bd_sqr (151115727451828713947141 / 37778931862957161709568) 0 (151115727451828747501573 / 37778931862957161709568) (317144763814423429613187240453 / 43556142965880123323311949751266331066368) (75557863725914340196353 / 37778931862957161709568) b1 (by decide +kernel)
  have h4 : Dy.HasS s4 (fun κ => (2 * d κ * P κ) * (2 * d κ * P κ)) := fun κ => Dy.has_sqr b1.rk g4 (k1 κ)
  obtain ⟨s5, g5, b5⟩ := Dy.bd_sqr (151115727451828713947141 / 37778931862957161709568) 0 (151115727451828747501573 / 37778931862957161709568) (317144763814423429613187240453 / 43556142965880123323311949751266331066368) (75557863725914340196353 / 37778931862957161709568) b2 (by decide +kernel)
  have h5 : Dy.HasS s5 (fun κ => (2 * d κ * Q κ) * (2 * d κ * Q κ)) := fun κ => Dy.has_sqr b2.rk g5 (k2 κ)
  obtain ⟨s6, g6, b6⟩ := Dy.bd_add (151115727451828747501573 / 18889465931478580854784) (-77371252455336318720805377 / 43556142965880123323311949751266331066368) (302231454903657562112011 / 37778931862957161709568) (634444270133757531863816091659 / 43556142965880123323311949751266331066368) b4 b5 (by decide +kernel)
  have h6 : Dy.HasS s6 (fun κ => ((2 * d κ * P κ) * (2 * d κ * P κ)) + ((2 * d κ * Q κ) * (2 * d κ * Q κ))) := fun κ => Dy.has_add b4.rk b5.rk g6 (h4 κ) (h5 κ)
  obtain ⟨s7, g7, b7⟩ := Dy.bd_sqr (151115727451828713947141 / 37778931862957161709568) 0 (151115727451828747501573 / 37778931862957161709568) (317144763814423429613187240453 / 43556142965880123323311949751266331066368) (75557863725914340196353 / 37778931862957161709568) b3 (by decide +kernel)
  have h7 : Dy.HasS s7 (fun κ => (2 * d κ * R κ) * (2 * d κ * R κ)) := fun κ => Dy.has_sqr b3.rk g7 (k3 κ)
  obtain ⟨s8, g8, b8⟩ := Dy.bd_add (28334198897217894350849 / 2361183241434822606848) (-96714065569170406990941441 / 21778071482940061661655974875633165533184) (453347182355486410276881 / 37778931862957161709568) (951821147705546970467525487121 / 43556142965880123323311949751266331066368) b6 b7 (by decide +kernel)
  have h8 : Dy.HasS s8 (fun κ => (((2 * d κ * P κ) * (2 * d κ * P κ)) + ((2 * d κ * Q κ) * (2 * d κ * Q κ))) + ((2 * d κ * R κ) * (2 * d κ * R κ))) := fun κ => Dy.has_add b6.rk b7.rk g8 (h6 κ) (h7 κ)
  have kv : Dy.HasS s8 (fun κ => 4 * (d κ * d κ) * (P κ * P κ + Q κ * Q κ + R κ * R κ)) := fun κ => by show Dy.Has _ (4 * (d κ * d κ) * (P κ * P κ + Q κ * Q κ + R κ * R κ)); rw [kv_eq]; exact h8 κ
  have z1 : 0 ≤ s4.1 := Dy.val_le.1 (by rw [Dy.val_zero]; exact b4.lo)
  have z2 : 0 ≤ s5.1 := Dy.val_le.1 (by rw [Dy.val_zero]; exact b5.lo)
  have z3 : 0 ≤ s7.1 := Dy.val_le.1 (by rw [Dy.val_zero]; exact b7.lo)
  obtain ⟨l1, l2⟩ := Dy.add_lo b4.rk b5.rk g6
  obtain ⟨l3, l4⟩ := Dy.add_lo b6.rk b7.rk g8
  have zu : 0 ≤ s6.1 := by have := l1 z2; omega
  have vl : 4327959241903046656 ≤ s8.1 := by
    obtain ⟨κ, hκ⟩ := N3.n (1 / 4) (by decide +kernel)
    have hκ : -(1 / 4) ≤ P κ * P κ + Q κ * Q κ + R κ * R κ - 1 ∧ P κ * P κ + Q κ * Q κ + R κ * R κ - 1 ≤ 1 / 4 := hκ κ (Nat.le_refl _)
    obtain ⟨pp, qq, rr⟩ := le1 (N3.le κ)
    have vq : ∀ {s : Int × Int} {L H w : Rat}, Dy.Bd s L H w → Dy.Rk s → 1 / 4611686018427387904 ≤ Dy.val s.1 → 4327959241903046656 ≤ s.1 := fun _ _ h => Dy.val_le.1 (by rw [Dy.val_q (z := 4327959241903046656) (num := 1) (den := 4611686018427387904) (by decide) (by decide +kernel)]; exact Rat.le_trans (by decide +kernel) h)
    by_cases c1 : 1 / 4 ≤ P κ * P κ
    · obtain ⟨m1, m2⟩ := big_sq (dl κ) (du κ) c1 pp
      have := vq b4 b4.rk (Dy.sq_pos (b1.mono ⟨Rat.le_refl, Rat.le_refl, by decide +kernel⟩) (k1 κ) m1 m2 g4)
      have := l1 z2; have := l3 z3; omega
    by_cases c2 : 1 / 4 ≤ Q κ * Q κ
    · obtain ⟨m1, m2⟩ := big_sq (dl κ) (du κ) c2 qq
      have := vq b5 b5.rk (Dy.sq_pos (b2.mono ⟨Rat.le_refl, Rat.le_refl, by decide +kernel⟩) (k2 κ) m1 m2 g5)
      have := l2 z1; have := l3 z3; omega
    by_cases c3 : 1 / 4 ≤ R κ * R κ
    · obtain ⟨m1, m2⟩ := big_sq (dl κ) (du κ) c3 rr
      have := vq b7 b7.rk (Dy.sq_pos (b3.mono ⟨Rat.le_refl, Rat.le_refl, by decide +kernel⟩) (k3 κ) m1 m2 g7)
      have := l4 zu; omega
    exact (no_small hκ.1 c1 c2 c3).elim
  have gn := Dy.got_sqrt b8.rk (show 0 ≤ s8.1 by omega)
  obtain ⟨n, hn⟩ : ∃ n, n = (Dy.sqz s8.1 false, Dy.sqz s8.2 true) := ⟨_, rfl⟩
  rw [← hn] at gn; clear hn
  have nl := Dy.root_lo b8.rk vl gn
  obtain ⟨n1, g1', bn1⟩ := Dy.bd_sqrt0 (4089689340145286892981 / 1180591620717411303424) (130870058884649151516401 / 37778931862957161709568) b8 (show 0 ≤ s8.1 by omega) (by decide +kernel)
  have en := g1'.uniq gn; subst en
  have nlv := Dy.val_le.2 nl
  rw [Dy.val_q (z := 4467570830351532032) (num := 1) (den := 2147483648) (by decide) (by decide +kernel)] at nlv
  have bn : Dy.Bd n1 (1 / 2147483648) (4089689340145286892981 / 1180591620717411303424) (4089689340145286892981 / 1180591620717411303424) := ⟨bn1.rk, Rat.le_trans (by decide +kernel) nlv, bn1.hi, bn1.wd⟩
  obtain ⟨_, t, kt, _, ht, _, nt⟩ := Dy.root_seq b8.rk gn kv
  obtain ⟨g9, b9, h9⟩ := Dy.bd_num (x := 4602678819172646912) (z := 4602678819172646912) (num := 1) (den := 2) (Dy.ok_B (by decide) (by decide)) (by decide) (by decide) (by decide +kernel)
  have c9 : Dy.Bd ((4602678819172646912 : Int), (4602678819172646912 : Int)) (1 / 2) (1 / 2) 0 := b9.mono (by decide +kernel)
  have e9 : Dy.HasS ((4602678819172646912 : Int), (4602678819172646912 : Int)) (fun κ => ((1 / 2) : Rat)) := fun κ => (show ((1 : Int) : Rat) / (((2 : Nat) : Int) : Rat) = (1 / 2) from by decide +kernel) ▸ h9
  obtain ⟨s10, g10, b10⟩ := Dy.bd_mul (4089689340145286892981 / 2361183241434822606848) (10141188050458297976878511992831 / 43556142965880123323311949751266331066368) (8179378680290575602149 / 4722366482869645213696) (65435029442324619346687 / 37778931862957161709568) (1 / 4294967296) (4089689340145286892981 / 2361183241434822606848) (1 / 2) (4089689340145286892981 / 1180591620717411303424) c9 bn (by decide +kernel)
  have h10 : Dy.HasS s10 (fun κ => ((1 / 2) : Rat) * (t κ)) := fun κ => Dy.has_mul c9.rk bn.rk g10 (e9 κ) (ht κ)
  obtain ⟨s11, g11, b11⟩ := Dy.bd_div (75557863725914340196353 / 17592186044416) (-162259276829213435449174195699721 / 37778931862957161709568) (162259276829213435449174195699721 / 37778931862957161709568) (1207063241578211430137562833839265114915295 / 37778931862957161709568) (-75557863725914340196353 / 17592186044416) (75557863725914340196353 / 17592186044416) (603531620789105715068781380890835538493671 / 18889465931478580854784) b3 bn (by decide +kernel)
  have h11 : Dy.HasS s11 (fun κ => (2 * d κ * R κ) / (t κ)) := fun κ => Dy.has_div b3.rk bn.rk g11 (k3 κ) (ht κ)
  have ck : ∀ {p : Int × Int} {x : Nat → Rat}, Dy.HasS p x → Dy.HasS (Dy.rClip 0 4607182418800017408 p) (fun κ => min (max (x κ) 0) 1) := fun h κ => Dy.has_clipq (nx := 0) (dx := 1) (ny := 1) (dy := 1) (h κ) (by decide +kernel) (by decide +kernel)
  have bt : ∀ κ, 1 / 2147483648 ≤ t κ := fun κ => Rat.le_trans bn.lo (ht κ).lo
  have bd : Dy.Bnd d := Dy.bnd_of fun κ => ⟨dl κ, du κ⟩
  obtain ⟨bP, bQ, bR⟩ := N3.bnd
  have ns : Dy.Nr (fun κ => t κ * t κ) (fun κ => 2 * d κ * (2 * d κ)) := by
    have a := Dy.nr_mul (Dy.nr_mul (Dy.nr_const 4) (Dy.nr_mul (nr_self' bd) (nr_self' bd))) N3.nr
    have b : Dy.Nr (fun κ => t κ * t κ) (fun κ => 4 * (d κ * d κ) * (P κ * P κ + Q κ * Q κ + R κ * R κ)) := ⟨nt, Dy.bnd_mul ht.bnd ht.bnd, a.bx⟩
    exact (b.trans a).eqR (fun κ => sq_two _ 0 0 0 0 0 0)
  have n2 : Dy.Nr t (fun κ => 2 * d κ) := Dy.nr_root (fun κ => nn_of (bt κ)) (fun κ => (two_d (dl κ)).2) ns
  have nh : Dy.Near (fun κ => min (max (((1 / 2) : Rat) * (t κ)) 0) 1) d := by
    have a := Dy.nr_min (Dy.nr_max (Dy.nr_mul (Dy.nr_const (1 / 2)) n2) (Dy.nr_const 0)) (Dy.nr_const 1)
    exact a.n.trans (Dy.near_eq fun κ => cl_half (dl κ) (du κ))
  have nl2 : Dy.Near (fun κ => min (max ((2 * d κ * R κ) / (t κ)) 0) 1) R := by
    have m := Dy.nr_mul (Dy.nr_mul (Dy.nr_const 2) (nr_self' bd)) (nr_self' bR)
    have a := Dy.nr_min (Dy.nr_max (Dy.nr_div (d := 1 / 2147483648) m n2 (by decide +kernel) bt (fun κ => (two_d (dl κ)).1)) (Dy.nr_const 0)) (Dy.nr_const 1)
    exact a.n.trans (Dy.near_eq fun κ => cl_lean (dl κ) (R0 κ) (N3.b κ).2.2.2)
  exact ⟨s1, s2, s3, s4, s5, s6, s7, s8, n1, s10, s11, _, _, g1, g2, g3, g4, g5, g6, g7, g8, gn, g10, g11, b10.rk, b11.rk, ck h10, nh, ck h11, nl2⟩
end Go.Proofs.Ythmkjnhgialnlaa
