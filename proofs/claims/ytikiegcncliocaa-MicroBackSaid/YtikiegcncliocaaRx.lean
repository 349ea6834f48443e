/- Plain facts: the half of two directions. -/
import Derived.Test.YtikiegcncliocaaRq
namespace Go.Proofs.Ytikiegcncliocaa
open Go Go.RowKit

theorem dot_le1' {X Y Z P Q R : Rat} (h : X * X + Y * Y + Z * Z ≤ 1) (k : P * P + Q * Q + R * R ≤ 1) : dot3 X Y Z P Q R ≤ 1 := by
  have a := sq0 (X - P); have b := sq0 (Y - Q); have c := sq0 (Z - R)
  unfold dot3; grind
/-- Twice the half by its lean; its square. -/
theorem mhalf_near {X Y Z P Q R r t : Nat → Rat} (U : U3 X Y Z) (U1 : U3 P Q R) (zl : ∀ κ, 1 / 256 ≤ Z κ) (rl : ∀ κ, 1 / 256 ≤ R κ) (bt : Dy.Bnd t)
    (k : ∀ κ, 0 ≤ r κ ∧ r κ ≤ t κ ∧ r κ * r κ ≤ ((X κ + P κ) * (X κ + P κ) + (Y κ + Q κ) * (Y κ + Q κ) + (Z κ + R κ) * (Z κ + R κ)) ∧ ((X κ + P κ) * (X κ + P κ) + (Y κ + Q κ) * (Y κ + Q κ) + (Z κ + R κ) * (Z κ + R κ)) ≤ t κ * t κ) (nr : Dy.Near (fun κ => r κ * r κ) (fun κ => ((X κ + P κ) * (X κ + P κ) + (Y κ + Q κ) * (Y κ + Q κ) + (Z κ + R κ) * (Z κ + R κ)))) (nt : Dy.Near (fun κ => t κ * t κ) (fun κ => ((X κ + P κ) * (X κ + P κ) + (Y κ + Q κ) * (Y κ + Q κ) + (Z κ + R κ) * (Z κ + R κ)))) :
    Dy.Near (fun κ => 2 * min (max (1 / 2 * t κ) 0) 1 * min (max ((Z κ + R κ) / t κ) 0) 1) (fun κ => Z κ + R κ) ∧ Dy.Near (fun κ => min (max (1 / 2 * t κ) 0) 1 * min (max (1 / 2 * t κ) 0) 1) (fun κ => (1 + dot3 (X κ) (Y κ) (Z κ) (P κ) (Q κ) (R κ)) / 2) := by
  have e : ∀ κ, ((X κ + P κ) * (X κ + P κ) + (Y κ + Q κ) * (Y κ + Q κ) + (Z κ + R κ) * (Z κ + R κ)) = (X κ * X κ + Y κ * Y κ + Z κ * Z κ) + (P κ * P κ + Q κ * Q κ + R κ * R κ) + 2 * dot3 (X κ) (Y κ) (Z κ) (P κ) (Q κ) (R κ) := fun κ => by unfold dot3; grind
  have db := dot_bnd U U1
  obtain ⟨bX, bY, bZ⟩ := U.bnd
  obtain ⟨bP, bQ, bR⟩ := U1.bnd
  have nv : Dy.Nr (fun κ => ((X κ + P κ) * (X κ + P κ) + (Y κ + Q κ) * (Y κ + Q κ) + (Z κ + R κ) * (Z κ + R κ))) (fun κ => 1 + 1 + 2 * dot3 (X κ) (Y κ) (Z κ) (P κ) (Q κ) (R κ)) :=
    Dy.Nr.eqL (Dy.nr_add (Dy.nr_add U.nr U1.nr) (Dy.nr_mul (Dy.nr_const 2) (nr_self' db))) (fun κ => (e κ).symm)
  have bV := nv.bx
  have four : ∀ κ, ((X κ + P κ) * (X κ + P κ) + (Y κ + Q κ) * (Y κ + Q κ) + (Z κ + R κ) * (Z κ + R κ)) ≤ 4 := fun κ => by
    rw [e κ]
    have a := U.le κ; have b := U1.le κ
    have c := dot_le1' a b
    grind
  have zr : ∀ κ, (Z κ + R κ) * (Z κ + R κ) ≤ ((X κ + P κ) * (X κ + P κ) + (Y κ + Q κ) * (Y κ + Q κ) + (Z κ + R κ) * (Z κ + R κ)) := fun κ => by
    have a := sq0 (X κ + P κ); have b := sq0 (Y κ + Q κ); grind
  have r2 : ∀ κ, r κ ≤ 2 := fun κ => Dy.sq_le_sq (k κ).1 (by decide +kernel) (by have := (k κ).2.2.1; have := four κ; grind)
  have t0 : ∀ κ, 0 ≤ t κ := fun κ => Rat.le_trans (k κ).1 (k κ).2.1
  have tl : ∀ κ, Z κ + R κ ≤ t κ := fun κ => Dy.sq_le_sq (by have := zl κ; have := rl κ; grind) (t0 κ) (Rat.le_trans (zr κ) (k κ).2.2.2)
  have tp : ∀ κ, 1 / 256 ≤ t κ := fun κ => by have := tl κ; have := zl κ; have := rl κ; grind
  have br : Dy.Bnd r := Dy.bnd_of fun κ => ⟨(k κ).1, r2 κ⟩
  have rr : Dy.Nr (fun κ => r κ * r κ) (fun κ => ((X κ + P κ) * (X κ + P κ) + (Y κ + Q κ) * (Y κ + Q κ) + (Z κ + R κ) * (Z κ + R κ))) := ⟨nr, Dy.bnd_mul br br, bV⟩
  have tt : Dy.Nr (fun κ => t κ * t κ) (fun κ => r κ * r κ) := by
    have n := nt.trans nr.symm
    exact ⟨n, Dy.bnd_mul bt bt, Dy.bnd_mul br br⟩
  have tr : Dy.Nr t r := Dy.nr_root t0 (fun κ => (k κ).1) tt
  have hc : Dy.Nr (fun κ => min (max (1 / 2 * t κ) 0) 1) (fun κ => 1 / 2 * r κ) :=
    (Dy.nr_min (Dy.nr_max (Dy.nr_mul (Dy.nr_const (1 / 2)) tr) (Dy.nr_const 0)) (Dy.nr_const 1)).eqR (fun κ => by have := (k κ).1; have := r2 κ; grind)
  have lc : ∀ κ, min (max ((Z κ + R κ) / t κ) 0) 1 = (Z κ + R κ) / t κ := fun κ => by
    have p : 0 < t κ := by have := tp κ; grind
    have a : 0 ≤ (Z κ + R κ) / t κ := Dy.le_quo p (by have := zl κ; have := rl κ; grind)
    have b : (Z κ + R κ) / t κ ≤ 1 := Dy.quo_le p (by have := tl κ; grind)
    grind
  have zs := nr_self' (Dy.bnd_add bZ bR)
  have ls : Dy.Nr (fun κ => (Z κ + R κ) / t κ) (fun κ => (Z κ + R κ) / t κ) := nr_self' (Dy.bnd_div (d := 1 / 256) (by decide +kernel) tp zs.bx)
  constructor
  · have a := Dy.nr_mul (Dy.nr_mul (Dy.nr_const 2) (hc.trans (Dy.nr_mul (Dy.nr_const (1 / 2)) tr.symm))) ls
    refine (Dy.near_eq fun κ => by rw [lc κ]).trans (a.n.trans (Dy.near_eq fun κ => ?_))
    have p : t κ ≠ 0 := by have := tp κ; grind
    grind
  · have a := Dy.nr_mul hc hc
    have b := Dy.nr_mul (Dy.nr_const (1 / 4)) (rr.trans nv)
    exact (a.n.trans (Dy.near_eq fun κ => by grind)).trans (b.n.trans (Dy.near_eq fun κ => by grind))
set_option maxHeartbeats 2000000 in
theorem mhalf_num {p q r p' q' r' : Int × Int} {X Y Z P Q R : Nat → Rat} (hp : Dy.Bd p (-1) 1 2) (hq : Dy.Bd q (-1) 1 2) (hr : Dy.Bd r (1 / 256) 1 2) (hp1 : Dy.Bd p' (-1) 1 2) (hq1 : Dy.Bd q' (-1) 1 2) (hr1 : Dy.Bd r' (1 / 256) 1 2) (sp : Dy.HasS p (fun κ => X κ)) (sq : Dy.HasS q (fun κ => Y κ)) (sr : Dy.HasS r (fun κ => Z κ)) (sp1 : Dy.HasS p' (fun κ => P κ)) (sq1 : Dy.HasS q' (fun κ => Q κ)) (sr1 : Dy.HasS r' (fun κ => R κ)) (U : U3 X Y Z) (U1 : U3 P Q R) :
    ∃ (x_s1 x_s2 x_s3 x_q1 x_q2 x_u x_q3 x_v x_n x_hn x_ln x_th x_tw x_d1 x_d2 x_d3 x_d4 x_d5 x_ad x_sq x_hs : Int × Int) (h l : Nat → Rat), Dy.Got (Dy.cAdd 0 (Dy.E p) (Dy.E p')) x_s1 ∧ Dy.Got (Dy.cAdd 0 (Dy.E q) (Dy.E q')) x_s2 ∧ Dy.Got (Dy.cAdd 0 (Dy.E r) (Dy.E r')) x_s3 ∧ Dy.Got (Dy.cSqr 0 (Dy.E x_s1)) x_q1 ∧ Dy.Got (Dy.cSqr 0 (Dy.E x_s2)) x_q2 ∧ Dy.Got (Dy.cAdd 0 (Dy.E x_q1) (Dy.E x_q2)) x_u ∧ Dy.Got (Dy.cSqr 0 (Dy.E x_s3)) x_q3 ∧ Dy.Got (Dy.cAdd 0 (Dy.E x_u) (Dy.E x_q3)) x_v ∧ Dy.Got (Dy.cSqrt 0 (Dy.E x_v)) x_n ∧ Dy.Got (Dy.cMul 0 (Dy.E (4602678819172646912, 4602678819172646912)) (Dy.E x_n)) x_hn ∧ Dy.Got (Dy.cDiv 0 (Dy.E x_s3) (Dy.E x_n)) x_ln ∧ Dy.Got (Dy.cMul 0 (Dy.E (4611686018427387904, 4611686018427387904)) (Dy.E (Dy.rClip 0 4607182418800017408 x_hn))) x_th ∧ Dy.Got (Dy.cMul 0 (Dy.E x_th) (Dy.E (Dy.rClip 0 4607182418800017408 x_ln))) x_tw ∧ Dy.Got (Dy.cMul 0 (Dy.E p) (Dy.E p')) x_d1 ∧ Dy.Got (Dy.cMul 0 (Dy.E q) (Dy.E q')) x_d2 ∧ Dy.Got (Dy.cAdd 0 (Dy.E x_d1) (Dy.E x_d2)) x_d3 ∧ Dy.Got (Dy.cMul 0 (Dy.E r) (Dy.E r')) x_d4 ∧ Dy.Got (Dy.cAdd 0 (Dy.E x_d3) (Dy.E x_d4)) x_d5 ∧ Dy.Got (Dy.cAdd 0 (Dy.E (4607182418800017408, 4607182418800017408)) (Dy.E x_d5)) x_ad ∧ Dy.Got (Dy.cDiv 0 (Dy.E x_ad) (Dy.E (4611686018427387904, 4611686018427387904))) x_sq ∧ Dy.Got (Dy.cSqr 0 (Dy.E (Dy.rClip 0 4607182418800017408 x_hn))) x_hs ∧ Dy.Rk x_hn ∧ Dy.Rk x_ln ∧ Dy.Rk x_s3 ∧ Dy.Rk x_tw ∧ Dy.Rk x_hs ∧ Dy.Rk x_sq ∧ Dy.HasS x_s3 (fun κ => Z κ + R κ) ∧ Dy.HasS x_tw h ∧ Dy.Near h (fun κ => Z κ + R κ) ∧ Dy.HasS x_hs l ∧ Dy.HasS x_sq (fun κ => (1 + dot3 (X κ) (Y κ) (Z κ) (P κ) (Q κ) (R κ)) / 2) ∧ Dy.Near l (fun κ => (1 + dot3 (X κ) (Y κ) (Z κ) (P κ) (Q κ) (R κ)) / 2) := by
  obtain ⟨s1, g1, b1⟩ := Dy.bd_add 2 (-75557863725914340196353 / 37778931862957161709568) (75557863725914340196353 / 37778931862957161709568) (151115727451828680392705 / 37778931862957161709568) hp hp1 (by decide +kernel)
  have h1 : Dy.HasS s1 (fun κ => (X κ) + (P κ)) := fun κ => Dy.has_add hp.rk hp1.rk g1 (sp κ) (sp1 κ)
  obtain ⟨s2, g2, b2⟩ := Dy.bd_add 2 (-75557863725914340196353 / 37778931862957161709568) (75557863725914340196353 / 37778931862957161709568) (151115727451828680392705 / 37778931862957161709568) hq hq1 (by decide +kernel)
  have h2 : Dy.HasS s2 (fun κ => (Y κ) + (Q κ)) := fun κ => Dy.has_add hq.rk hq1.rk g2 (sq κ) (sq1 κ)
  obtain ⟨s3, g3, b3⟩ := Dy.bd_add 2 (316912650057039335975666319359 / 40564819207303340847894502572032) (75557863725914340196353 / 37778931862957161709568) (151115727451828680392705 / 37778931862957161709568) hr hr1 (by decide +kernel)
  have h3 : Dy.HasS s3 (fun κ => (Z κ) + (R κ)) := fun κ => Dy.has_add hr.rk hr1.rk g3 (sr κ) (sr1 κ)
  obtain ⟨s4, g4, b4⟩ := Dy.bd_sqr (151115727451828713947141 / 37778931862957161709568) 0 (151115727451828747501573 / 37778931862957161709568) (604462909807314922897421 / 37778931862957161709568) (75557863725914340196353 / 37778931862957161709568) b1 (by decide +kernel)
  have h4 : Dy.HasS s4 (fun κ => ((X κ) + (P κ)) * ((X κ) + (P κ))) := fun κ => Dy.has_sqr b1.rk g4 (h1 κ)
  obtain ⟨s5, g5, b5⟩ := Dy.bd_sqr (151115727451828713947141 / 37778931862957161709568) 0 (151115727451828747501573 / 37778931862957161709568) (604462909807314922897421 / 37778931862957161709568) (75557863725914340196353 / 37778931862957161709568) b2 (by decide +kernel)
  have h5 : Dy.HasS s5 (fun κ => ((Y κ) + (Q κ)) * ((Y κ) + (Q κ))) := fun κ => Dy.has_sqr b2.rk g5 (h2 κ)
  obtain ⟨s6, g6, b6⟩ := Dy.bd_add (151115727451828747501573 / 18889465931478580854784) (-77371252455336318720805377 / 43556142965880123323311949751266331066368) (302231454903657562112011 / 37778931862957161709568) (1208925819614629980012571 / 37778931862957161709568) b4 b5 (by decide +kernel)
  have h6 : Dy.HasS s6 (fun κ => (((X κ) + (P κ)) * ((X κ) + (P κ))) + (((Y κ) + (Q κ)) * ((Y κ) + (Q κ)))) := fun κ => Dy.has_add b4.rk b5.rk g6 (h4 κ) (h5 κ)
  obtain ⟨s7, g7, b7⟩ := Dy.bd_sqr (151115727451828713947141 / 37778931862957161709568) (2475880078534450277802573815 / 40564819207303340847894502572032) (151115727451828747501573 / 37778931862957161709568) (604462909807314922897421 / 37778931862957161709568) (75557863725914340196353 / 37778931862957161709568) b3 (by decide +kernel)
  have h7 : Dy.HasS s7 (fun κ => ((Z κ) + (R κ)) * ((Z κ) + (R κ))) := fun κ => Dy.has_sqr b3.rk g7 (h3 κ)
  obtain ⟨s8, g8, b8⟩ := Dy.bd_add (28334198897217894350849 / 2361183241434822606848) (1237940039177153146353876919 / 20282409603651670423947251286016) (453347182355486410276881 / 37778931862957161709568) (1813388729421945104236585 / 37778931862957161709568) b6 b7 (by decide +kernel)
  have h8 : Dy.HasS s8 (fun κ => ((((X κ) + (P κ)) * ((X κ) + (P κ))) + (((Y κ) + (Q κ)) * ((Y κ) + (Q κ)))) + (((Z κ) + (R κ)) * ((Z κ) + (R κ)))) := fun κ => Dy.has_add b6.rk b7.rk g8 (h6 κ) (h7 κ)
  obtain ⟨s9, g9, b9⟩ := Dy.bd_sqrt (316912650043173076066595153605 / 40564819207303340847894502572032) (4089689340145286892981 / 1180591620717411303424) (58028439344038816690075267 / 18889465931478580854784) (316912650043204277920081369471 / 40564819207303340847894502572032) (130870058884649151516401 / 37778931862957161709568) (14507109836009704165254069 / 4722366482869645213696) b8 (by decide +kernel)
  obtain ⟨r9, t9, k9, h9, u9, nr9, nt9⟩ := Dy.root_seq b8.rk g9 h8
  obtain ⟨g10, b10, h10⟩ := Dy.bd_num (x := 4602678819172646912) (z := 4602678819172646912) (num := 1) (den := 2) (Dy.ok_B (by decide) (by decide)) (by decide) (by decide) (by decide +kernel)
  have c10 : Dy.Bd ((4602678819172646912 : Int), (4602678819172646912 : Int)) (1 / 2) (1 / 2) 0 := b10.mono (by decide +kernel)
  have e10 : Dy.HasS ((4602678819172646912 : Int), (4602678819172646912 : Int)) (fun κ => ((1 / 2) : Rat)) := fun κ => (show ((1 : Int) : Rat) / (((2 : Nat) : Int) : Rat) = (1 / 2) from by decide +kernel) ▸ h10
  obtain ⟨s11, g11, b11⟩ := Dy.bd_mul (4089689340145286892981 / 2361183241434822606848) (79228162510785468553277234433 / 20282409603651670423947251286016) (8179378680290575602149 / 4722366482869645213696) (29014219672019408359567129 / 18889465931478580854784) (316912650043173076066595153605 / 81129638414606681695789005144064) (4089689340145286892981 / 2361183241434822606848) (1 / 2) (4089689340145286892981 / 1180591620717411303424) c10 b9 (by decide +kernel)
  have h11 : Dy.HasS s11 (fun κ => ((1 / 2) : Rat) * (t9 κ)) := fun κ => Dy.has_mul c10.rk b9.rk g11 (e10 κ) (u9 κ)
  obtain ⟨g12, b12⟩ := Dy.bd_clipq (x := 0) (y := 4607182418800017408) (l := 0) (h := 4607182418800017408) (nx := 0) (dx := 1) (ny := 1) (dy := 1) (79228162510785468553277234433 / 20282409603651670423947251286016) 1 Dy.ok_zero (Dy.ok_B (by decide) (by decide)) rfl (by decide) b11 (by decide +kernel) (by decide +kernel) (by decide +kernel)
  have h12 : Dy.HasS (Dy.rClip (0) (4607182418800017408) s11) (fun κ => min (max (((1 / 2) : Rat) * (t9 κ)) 0) 1) := fun κ => Dy.has_clipq (nx := 0) (dx := 1) (ny := 1) (dy := 1) (h11 κ) (by decide +kernel) (by decide +kernel)
  obtain ⟨s13, g13, b13⟩ := Dy.bd_div (9671406557340749971042271 / 37778931862957161709568) (91484801907708754037736902829 / 40564819207303340847894502572032) (302231454916898503703935 / 1180591620717411303424) (950742785999316499987097678051 / 9444732965739290427392) (91484801910014597047051618685 / 40564819207303340847894502572032) (9671406557340749971042271 / 37778931862957161709568) (3802971143997265999944095744907 / 37778931862957161709568) b3 b9 (by decide +kernel)
  have h13 : Dy.HasS s13 (fun κ => ((Z κ) + (R κ)) / (t9 κ)) := fun κ => Dy.has_div b3.rk b9.rk g13 (h3 κ) (u9 κ)
  obtain ⟨g14, b14⟩ := Dy.bd_clipq (x := 0) (y := 4607182418800017408) (l := 0) (h := 4607182418800017408) (nx := 0) (dx := 1) (ny := 1) (dy := 1) (91484801907708754037736902829 / 40564819207303340847894502572032) 1 Dy.ok_zero (Dy.ok_B (by decide) (by decide)) rfl (by decide) b13 (by decide +kernel) (by decide +kernel) (by decide +kernel)
  have h14 : Dy.HasS (Dy.rClip (0) (4607182418800017408) s13) (fun κ => min (max (((Z κ) + (R κ)) / (t9 κ)) 0) 1) := fun κ => Dy.has_clipq (nx := 0) (dx := 1) (ny := 1) (dy := 1) (h13 κ) (by decide +kernel) (by decide +kernel)
  obtain ⟨g15, b15, h15⟩ := Dy.bd_num (x := 4611686018427387904) (z := 4611686018427387904) (num := 2) (den := 1) (Dy.ok_B (by decide) (by decide)) (by decide) (by decide) (by decide +kernel)
  have c15 : Dy.Bd ((4611686018427387904 : Int), (4611686018427387904 : Int)) 2 2 0 := b15.mono (by decide +kernel)
  have e15 : Dy.HasS ((4611686018427387904 : Int), (4611686018427387904 : Int)) (fun κ => (2 : Rat)) := fun κ => (show ((2 : Int) : Rat) / (((1 : Nat) : Int) : Rat) = 2 from by decide +kernel) ▸ h15
  obtain ⟨s16, g16, b16⟩ := Dy.bd_mul 2 (316912650043123859814599455747 / 40564819207303340847894502572032) (75557863725914340196353 / 37778931862957161709568) (116056878688077633471822949 / 37778931862957161709568) (79228162510785468553277234433 / 10141204801825835211973625643008) 2 2 1 c15 b12 (by decide +kernel)
  have h16 : Dy.HasS s16 (fun κ => (2 : Rat) * (min (max (((1 / 2) : Rat) * (t9 κ)) 0) 1)) := fun κ => Dy.has_mul c15.rk b12.rk g16 (e15 κ) (h12 κ)
  obtain ⟨s17, g17, b17⟩ := Dy.bd_mul (75557863725914340196353 / 37778931862957161709568) (714725014854536396609090337 / 40564819207303340847894502572032) (37778931862957178486785 / 18889465931478580854784) (1901514586218305441597209471483 / 9444732965739290427392) (28992691011242214442931835043661592089622466855080824608263 / 1645504557321206042154969182557350504982735865633579863348609024) (75557863725914340196353 / 37778931862957161709568) (75557863725914340196353 / 37778931862957161709568) 1 b16 b14 (by decide +kernel)
  have h17 : Dy.HasS s17 (fun κ => ((2 : Rat) * (min (max (((1 / 2) : Rat) * (t9 κ)) 0) 1)) * (min (max (((Z κ) + (R κ)) / (t9 κ)) 0) 1)) := fun κ => Dy.has_mul b16.rk b14.rk g17 (h16 κ) (h14 κ)
  obtain ⟨g18, b18, h18⟩ := Dy.bd_num (x := 4607182418800017408) (z := 4607182418800017408) (num := 1) (den := 1) (Dy.ok_B (by decide) (by decide)) (by decide) (by decide) (by decide +kernel)
  have c18 : Dy.Bd ((4607182418800017408 : Int), (4607182418800017408 : Int)) 1 1 0 := b18.mono (by decide +kernel)
  have e18 : Dy.HasS ((4607182418800017408 : Int), (4607182418800017408 : Int)) (fun κ => (1 : Rat)) := fun κ => (show ((1 : Int) : Rat) / (((1 : Nat) : Int) : Rat) = 1 from by decide +kernel) ▸ h18
  obtain ⟨s19, g19, b19⟩ := Dy.bd_mul 1 (-37778931862957170098177 / 37778931862957161709568) (37778931862957170098177 / 37778931862957161709568) (151115727451828663615489 / 37778931862957161709568) (-1) 1 1 1 hp hp1 (by decide +kernel)
  have h19 : Dy.HasS s19 (fun κ => (X κ) * (P κ)) := fun κ => Dy.has_mul hp.rk hp1.rk g19 (sp κ) (sp1 κ)
  obtain ⟨s20, g20, b20⟩ := Dy.bd_mul 1 (-37778931862957170098177 / 37778931862957161709568) (37778931862957170098177 / 37778931862957161709568) (151115727451828663615489 / 37778931862957161709568) (-1) 1 1 1 hq hq1 (by decide +kernel)
  have h20 : Dy.HasS s20 (fun κ => (Y κ) * (Q κ)) := fun κ => Dy.has_mul hq.rk hq1.rk g20 (sq κ) (sq1 κ)
  obtain ⟨s21, g21, b21⟩ := Dy.bd_add (37778931862957170098177 / 18889465931478580854784) (-75557863725914356973571 / 37778931862957161709568) (75557863725914356973571 / 37778931862957161709568) (302231454903657360785411 / 37778931862957161709568) b19 b20 (by decide +kernel)
  have h21 : Dy.HasS s21 (fun κ => ((X κ) * (P κ)) + ((Y κ) * (Q κ))) := fun κ => Dy.has_add b19.rk b20.rk g21 (h19 κ) (h20 κ)
  obtain ⟨s22, g22, b22⟩ := Dy.bd_mul 1 (618970019633682938194821119 / 40564819207303340847894502572032) (37778931862957170098177 / 37778931862957161709568) (151115727451828663615489 / 37778931862957161709568) (1 / 65536) 1 1 1 hr hr1 (by decide +kernel)
  have h22 : Dy.HasS s22 (fun κ => (Z κ) * (R κ)) := fun κ => Dy.has_mul hr.rk hr1.rk g22 (sr κ) (sr1 κ)
  obtain ⟨s23, g23, b23⟩ := Dy.bd_add (28334198897217881767937 / 9444732965739290427392) (-18889321816290521776129 / 9444732965739290427392) (113336795588871552237573 / 37778931862957161709568) (453347182355486074732549 / 37778931862957161709568) b21 b22 (by decide +kernel)
  have h23 : Dy.HasS s23 (fun κ => (((X κ) * (P κ)) + ((Y κ) * (Q κ))) + ((Z κ) * (R κ))) := fun κ => Dy.has_add b21.rk b22.rk g23 (h21 κ) (h22 κ)
  obtain ⟨s24, g24, b24⟩ := Dy.bd_add (151115727451828713947141 / 37778931862957161709568) (-40564200237283806244152404869137 / 40564819207303340847894502572032) (75557863725914373750787 / 18889465931478580854784) (226673591177743070920707 / 18889465931478580854784) c18 b23 (by decide +kernel)
  have h24 : Dy.HasS s24 (fun κ => (1 : Rat) + ((((X κ) * (P κ)) + ((Y κ) * (Q κ))) + ((Z κ) * (R κ)))) := fun κ => Dy.has_add c18.rk b23.rk g24 (e18 κ) (h23 κ)
  obtain ⟨s25, g25, b25⟩ := Dy.bd_div (75557863725914373750787 / 37778931862957161709568) (-10141050059320960568237355958283 / 20282409603651670423947251286016) (18889465931478597632001 / 9444732965739290427392) (56668397794435776118785 / 9444732965739290427392) (-20282100118641903122076202434569 / 40564819207303340847894502572032) (75557863725914373750787 / 37778931862957161709568) (226673591177743070920707 / 37778931862957161709568) b24 c15 (by decide +kernel)
  have h25 : Dy.HasS s25 (fun κ => ((1 : Rat) + ((((X κ) * (P κ)) + ((Y κ) * (Q κ))) + ((Z κ) * (R κ)))) / (2 : Rat)) := fun κ => Dy.has_div b24.rk c15.rk g25 (h24 κ) (e15 κ)
  obtain ⟨s26, g26, b26⟩ := Dy.bd_sqr 1 (618970019579325609441847085 / 40564819207303340847894502572032) (37778931862957170098177 / 37778931862957161709568) (116056878688077633455045733 / 37778931862957161709568) 1 b12 (by decide +kernel)
  have h26 : Dy.HasS s26 (fun κ => (min (max (((1 / 2) : Rat) * (t9 κ)) 0) 1) * (min (max (((1 / 2) : Rat) * (t9 κ)) 0) 1)) := fun κ => Dy.has_sqr b12.rk g26 (h12 κ)
  have zl : ∀ κ, 1 / 256 ≤ Z κ := fun κ => Rat.le_trans hr.lo (sr κ).lo
  have rl : ∀ κ, 1 / 256 ≤ R κ := fun κ => Rat.le_trans hr1.lo (sr1 κ).lo
  have kk : ∀ κ, 0 ≤ r9 κ ∧ r9 κ ≤ t9 κ ∧ r9 κ * r9 κ ≤ ((X κ + P κ) * (X κ + P κ) + (Y κ + Q κ) * (Y κ + Q κ) + (Z κ + R κ) * (Z κ + R κ)) ∧ ((X κ + P κ) * (X κ + P κ) + (Y κ + Q κ) * (Y κ + Q κ) + (Z κ + R κ) * (Z κ + R κ)) ≤ t9 κ * t9 κ := k9
  obtain ⟨nh, nt⟩ := mhalf_near U U1 zl rl (Dy.HasS.bnd u9) kk nr9 nt9
  exact ⟨s1, s2, s3, s4, s5, s6, s7, s8, s9, s11, s13, s16, s17, s19, s20, s21, s22, s23, s24, s25, s26, _, _, g1, g2, g3, g4, g5, g6, g7, g8, g9, g11, g13, g16, g17, g19, g20, g21, g22, g23, g24, g25, g26, b11.rk, b13.rk, b3.rk, b17.rk, b26.rk, b25.rk, h3, h17, nh, h26, h25, nt⟩
end Go.Proofs.Ytikiegcncliocaa
