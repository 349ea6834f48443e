/- Plain facts: the half of a direction and itself. -/
import Derived.Test.YtikiegcncliocaaRx
import Derived.Test.YtikiegcncliocaaR1
namespace Go.Proofs.Ytikiegcncliocaa
open Go Go.RowKit

theorem four_sq (x y z : Rat) : 4 * (x * x + y * y + z * z) = (x + x) * (x + x) + (y + y) * (y + y) + (z + z) * (z + z) := by grind
theorem four_b {s w : Rat} (h : -(1 / 1024) ≤ s - 1) (k : s - 1 ≤ 1 / 1024) (c : w ≤ 1 / 2) : 3 / 1 ≤ 4 * s - w ∧ 4 * s + w ≤ 5 / 1 := ⟨by grind, by grind⟩
theorem low_of {a b w : Rat} (h : 1 ≤ b) (k : b - a ≤ w) : 1 - w ≤ a := by grind
theorem shalf_near {X Y Z t : Nat → Rat} (U : U3 X Y Z) (t1 : ∀ κ, 1 ≤ t κ) (bt : Dy.Bnd t) (nt : Dy.Near (fun κ => t κ * t κ) (fun κ => 4 * (X κ * X κ + Y κ * Y κ + Z κ * Z κ))) (zl : ∀ κ, 1 / 256 ≤ Z κ) :
    Dy.Near (fun κ => min (max (1 / 2 * t κ) 0) 1) (fun _ => 1) ∧ Dy.Near (fun κ => min (max ((Z κ + Z κ) / t κ) 0) 1) Z := by
  have a : Dy.Nr (fun κ => 4 * (X κ * X κ + Y κ * Y κ + Z κ * Z κ)) (fun _ => 2 * 2) := (Dy.nr_mul (Dy.nr_const 4) U.nr).eqR (fun _ => by decide +kernel)
  have b : Dy.Nr (fun κ => t κ * t κ) (fun _ => 2 * 2) := ⟨nt.trans a.n, Dy.bnd_mul bt bt, a.by'⟩
  have c : Dy.Nr t (fun _ => 2) := Dy.nr_root (fun κ => by have := t1 κ; grind) (fun _ => by decide +kernel) b
  have z := nr_self' U.bnd.2.2
  constructor
  · have d := Dy.nr_min (Dy.nr_max (Dy.nr_mul (Dy.nr_const (1 / 2)) c) (Dy.nr_const 0)) (Dy.nr_const 1)
    exact d.n.trans (Dy.near_eq fun _ => by decide +kernel)
  · have d := Dy.nr_min (Dy.nr_max (Dy.nr_div (d := 1) (Dy.nr_add z z) c (by decide +kernel) t1 (fun _ => by decide +kernel)) (Dy.nr_const 0)) (Dy.nr_const 1)
    refine d.n.trans (Dy.near_eq fun κ => ?_)
    have h0 := zl κ; have h1 := (U.b κ).2.2.2
    have e : (Z κ + Z κ) / 2 = Z κ := by grind
    rw [e]; grind
theorem shalf_num {p q r : Int × Int} {X Y Z : Nat → Rat} (hp : Dy.Bd p (-1) 1 (1 / 70368744177664)) (hq : Dy.Bd q (-1) 1 (1 / 70368744177664)) (hr : Dy.Bd r (1 / 256) 1 (1 / 70368744177664)) (sp : Dy.HasS p (fun κ => X κ)) (sq : Dy.HasS q (fun κ => Y κ)) (sr : Dy.HasS r (fun κ => Z κ)) (U : U3 X Y Z) (zl : ∀ κ, 1 / 256 ≤ Z κ) :
    ∃ (x_s1 x_s2 x_s3 x_q1 x_q2 x_u x_q3 x_v x_n x_hn x_ln : Int × Int) (l : Nat → Rat), Dy.Got (Dy.cAdd 0 (Dy.E p) (Dy.E p)) x_s1 ∧ Dy.Got (Dy.cAdd 0 (Dy.E q) (Dy.E q)) x_s2 ∧ Dy.Got (Dy.cAdd 0 (Dy.E r) (Dy.E r)) x_s3 ∧ Dy.Got (Dy.cSqr 0 (Dy.E x_s1)) x_q1 ∧ Dy.Got (Dy.cSqr 0 (Dy.E x_s2)) x_q2 ∧ Dy.Got (Dy.cAdd 0 (Dy.E x_q1) (Dy.E x_q2)) x_u ∧ Dy.Got (Dy.cSqr 0 (Dy.E x_s3)) x_q3 ∧ Dy.Got (Dy.cAdd 0 (Dy.E x_u) (Dy.E x_q3)) x_v ∧ Dy.Got (Dy.cSqrt 0 (Dy.E x_v)) x_n ∧ Dy.Got (Dy.cMul 0 (Dy.E (4602678819172646912, 4602678819172646912)) (Dy.E x_n)) x_hn ∧ Dy.Got (Dy.cDiv 0 (Dy.E x_s3) (Dy.E x_n)) x_ln ∧ Dy.Rk x_hn ∧ Dy.Rk x_ln ∧ (Dy.rClip 0 4607182418800017408 x_hn).2 = 4607182418800017408 ∧ 4607182418800009216 ≤ (Dy.rClip 0 4607182418800017408 x_hn).1 ∧ Dy.HasS (Dy.rClip 0 4607182418800017408 x_ln) l ∧ Dy.Near l Z := by
  obtain ⟨s1, g1, b1⟩ := Dy.bd_add 2 (-75557863725914340196353 / 37778931862957161709568) (75557863725914340196353 / 37778931862957161709568) (1276625665513048408489721857 / 43556142965880123323311949751266331066368) hp hp (by decide +kernel)
  have h1 : Dy.HasS s1 (fun κ => (X κ) + (X κ)) := fun κ => Dy.has_add hp.rk hp.rk g1 (sp κ) (sp κ)
  obtain ⟨s2, g2, b2⟩ := Dy.bd_add 2 (-75557863725914340196353 / 37778931862957161709568) (75557863725914340196353 / 37778931862957161709568) (1276625665513048408489721857 / 43556142965880123323311949751266331066368) hq hq (by decide +kernel)
  have h2 : Dy.HasS s2 (fun κ => (Y κ) + (Y κ)) := fun κ => Dy.has_add hq.rk hq.rk g2 (sq κ) (sq κ)
  obtain ⟨s3, g3, b3⟩ := Dy.bd_add 2 (316912650057039335975666319359 / 40564819207303340847894502572032) (75557863725914340196353 / 37778931862957161709568) (1276625665513048408489721857 / 43556142965880123323311949751266331066368) hr hr (by decide +kernel)
  have h3 : Dy.HasS s3 (fun κ => (Z κ) + (Z κ)) := fun κ => Dy.has_add hr.rk hr.rk g3 (sr κ) (sr κ)
  obtain ⟨s4, g4, b4⟩ := Dy.bd_sqr (151115727451828713947141 / 37778931862957161709568) 0 (151115727451828747501573 / 37778931862957161709568) (5183873914507531069371257349 / 43556142965880123323311949751266331066368) (75557863725914340196353 / 37778931862957161709568) b1 (by decide +kernel)
  have h4 : Dy.HasS s4 (fun κ => ((X κ) + (X κ)) * ((X κ) + (X κ))) := fun κ => Dy.has_sqr b1.rk g4 (h1 κ)
  obtain ⟨s5, g5, b5⟩ := Dy.bd_sqr (151115727451828713947141 / 37778931862957161709568) 0 (151115727451828747501573 / 37778931862957161709568) (5183873914507531069371257349 / 43556142965880123323311949751266331066368) (75557863725914340196353 / 37778931862957161709568) b2 (by decide +kernel)
  have h5 : Dy.HasS s5 (fun κ => ((Y κ) + (Y κ)) * ((Y κ) + (Y κ))) := fun κ => Dy.has_sqr b2.rk g5 (h2 κ)
  obtain ⟨s6, g6, b6⟩ := Dy.bd_add (151115727451828747501573 / 18889465931478580854784) (-77371252455336318720805377 / 43556142965880123323311949751266331066368) (302231454903657562112011 / 37778931862957161709568) (10522490333925734776184125451 / 43556142965880123323311949751266331066368) b4 b5 (by decide +kernel)
  have h6 : Dy.HasS s6 (fun κ => (((X κ) + (X κ)) * ((X κ) + (X κ))) + (((Y κ) + (Y κ)) * ((Y κ) + (Y κ)))) := fun κ => Dy.has_add b4.rk b5.rk g6 (h4 κ) (h5 κ)
  obtain ⟨s7, g7, b7⟩ := Dy.bd_sqr (151115727451828713947141 / 37778931862957161709568) (2475880078534450277802573815 / 40564819207303340847894502572032) (151115727451828747501573 / 37778931862957161709568) (5183873914507531069371257349 / 43556142965880123323311949751266331066368) (75557863725914340196353 / 37778931862957161709568) b3 (by decide +kernel)
  have h7 : Dy.HasS s7 (fun κ => ((Z κ) + (Z κ)) * ((Z κ) + (Z κ))) := fun κ => Dy.has_sqr b3.rk g7 (h3 κ)
  obtain ⟨s8, g8, b8⟩ := Dy.bd_add (28334198897217894350849 / 2361183241434822606848) (1237940039177153146353876919 / 20282409603651670423947251286016) (453347182355486410276881 / 37778931862957161709568) (15938478005799274836077537809 / 43556142965880123323311949751266331066368) b6 b7 (by decide +kernel)
  have h8 : Dy.HasS s8 (fun κ => ((((X κ) + (X κ)) * ((X κ) + (X κ))) + (((Y κ) + (Y κ)) * ((Y κ) + (Y κ)))) + (((Z κ) + (Z κ)) * ((Z κ) + (Z κ)))) := fun κ => Dy.has_add b6.rk b7.rk g8 (h6 κ) (h7 κ)
  have hv4 : Dy.HasS s8 (fun κ => 4 * (X κ * X κ + Y κ * Y κ + Z κ * Z κ)) := fun κ => by show Dy.Has _ (4 * (X κ * X κ + Y κ * Y κ + Z κ * Z κ)); rw [four_sq]; exact h8 κ
  obtain ⟨κ, hκ⟩ := U.n (1 / 1024) (by decide +kernel)
  have hκ : -(1 / 1024) ≤ X κ * X κ + Y κ * Y κ + Z κ * Z κ - 1 ∧ X κ * X κ + Y κ * Y κ + Z κ * Z κ - 1 ≤ 1 / 1024 := hκ κ (Nat.le_refl _)
  have bv : Dy.Bd s8 (3 / 1) (5 / 1) (15938478005799274836077537809 / 43556142965880123323311949751266331066368) := Dy.bd_re b8 (hv4 κ) (by have := hκ; exact four_b this.1 this.2 (by decide +kernel))
  obtain ⟨s9, g9, b9⟩ := Dy.bd_sqrt (65435029442324523098545 / 37778931862957161709568) (21119064940726250366381 / 9444732965739290427392) (2322147064279588916467336305 / 21778071482940061661655974875633165533184) (65435029442324541856043 / 37778931862957161709568) (42238129881452491354013 / 18889465931478580854784) (4601042283560570481788163297 / 43556142965880123323311949751266331066368) bv (by decide +kernel)
  obtain ⟨r9, t9, k9, h9, u9, nr9, nt9⟩ := Dy.root_seq bv.rk g9 hv4
  obtain ⟨g10, b10, h10⟩ := Dy.bd_num (x := 4602678819172646912) (z := 4602678819172646912) (num := 1) (den := 2) (Dy.ok_B (by decide) (by decide)) (by decide) (by decide) (by decide +kernel)
  have c10 : Dy.Bd ((4602678819172646912 : Int), (4602678819172646912 : Int)) (1 / 2) (1 / 2) 0 := b10.mono (by decide +kernel)
  have e10 : Dy.HasS ((4602678819172646912 : Int), (4602678819172646912 : Int)) (fun κ => ((1 / 2) : Rat)) := fun κ => (show ((1 : Int) : Rat) / (((2 : Nat) : Int) : Rat) = (1 / 2) from by decide +kernel) ▸ h10
  obtain ⟨s11, g11, b11⟩ := Dy.bd_mul (21119064940726250366381 / 18889465931478580854784) (17565081966723804022763004889943 / 20282409603651670423947251286016) (42238129881452510111511 / 37778931862957161709568) (1171886493389446298421255225 / 21778071482940061661655974875633165533184) (65435029442324523098545 / 75557863725914323419136) (21119064940726250366381 / 18889465931478580854784) (1 / 2) (21119064940726250366381 / 9444732965739290427392) c10 b9 (by decide +kernel)
  have h11 : Dy.HasS s11 (fun κ => ((1 / 2) : Rat) * (t9 κ)) := fun κ => Dy.has_mul c10.rk b9.rk g11 (e10 κ) (u9 κ)
  obtain ⟨g12, b12⟩ := Dy.bd_clipq (x := 0) (y := 4607182418800017408) (l := 0) (h := 4607182418800017408) (nx := 0) (dx := 1) (ny := 1) (dy := 1) (17565081966723804022763004889943 / 20282409603651670423947251286016) 1 Dy.ok_zero (Dy.ok_B (by decide) (by decide)) rfl (by decide) b11 (by decide +kernel) (by decide +kernel) (by decide +kernel)
  have h12 : Dy.HasS (Dy.rClip (0) (4607182418800017408) s11) (fun κ => min (max (((1 / 2) : Rat) * (t9 κ)) 0) 1) := fun κ => Dy.has_clipq (nx := 0) (dx := 1) (ny := 1) (dy := 1) (h11 κ) (by decide +kernel) (by decide +kernel)
  obtain ⟨s13, g13, b13⟩ := Dy.bd_div (21811676480774858381013 / 18889465931478580854784) (35431911422854519966316135649 / 10141204801825835211973625643008) (43623352961549726448357 / 37778931862957161709568) (481948926757597290452201027 / 5444517870735015415413993718908291383296) (70863822845714240241546640609 / 20282409603651670423947251286016) (21811676480774858381013 / 18889465931478580854784) (3833256257344464868635450903 / 43556142965880123323311949751266331066368) b3 b9 (by decide +kernel)
  have h13 : Dy.HasS s13 (fun κ => ((Z κ) + (Z κ)) / (t9 κ)) := fun κ => Dy.has_div b3.rk b9.rk g13 (h3 κ) (u9 κ)
  obtain ⟨g14, b14⟩ := Dy.bd_clipq (x := 0) (y := 4607182418800017408) (l := 0) (h := 4607182418800017408) (nx := 0) (dx := 1) (ny := 1) (dy := 1) (35431911422854519966316135649 / 10141204801825835211973625643008) 1 Dy.ok_zero (Dy.ok_B (by decide) (by decide)) rfl (by decide) b13 (by decide +kernel) (by decide +kernel) (by decide +kernel)
  have h14 : Dy.HasS (Dy.rClip (0) (4607182418800017408) s13) (fun κ => min (max (((Z κ) + (Z κ)) / (t9 κ)) 0) 1) := fun κ => Dy.has_clipq (nx := 0) (dx := 1) (ny := 1) (dy := 1) (h13 κ) (by decide +kernel) (by decide +kernel)
  have t1 : ∀ κ, 1 ≤ t9 κ := fun κ => Rat.le_trans (by decide +kernel) (b9.has (u9 κ)).1
  have bt : Dy.Bnd t9 := Dy.HasS.bnd u9
  obtain ⟨nh, nl⟩ := shalf_near U t1 bt nt9 zl
  have h2 : 4607182418800017408 ≤ (Dy.rClip (0) (4607182418800017408) s11).2 := Dy.val_le.1 (by rw [Dy.val_one]; exact Dy.near_le (y := fun _ => (1 : Rat)) nh (fun κ => (h12 κ).hi) (fun _ => Rat.le_refl))
  have h2' : (Dy.rClip (0) (4607182418800017408) s11).2 ≤ 4607182418800017408 := by show min (max _ _) _ ≤ _; omega
  have hl : 4607182418800009216 ≤ (Dy.rClip (0) (4607182418800017408) s11).1 := Dy.val_le.1 (by
    have a := Dy.val_le.2 h2; have b := b12.wd
    rw [Dy.val_one] at a
    rw [Dy.val_q (z := 4607182418800009216) (num := 1099511627775) (den := 1099511627776) (by decide) (by decide +kernel)]
    refine Rat.le_trans (b := 1 - (1171886493389446298421255225 / 21778071482940061661655974875633165533184)) (by decide +kernel) ?_
    exact low_of a b)
  exact ⟨s1, s2, s3, s4, s5, s6, s7, s8, s9, s11, s13, _, g1, g2, g3, g4, g5, g6, g7, g8, g9, g11, g13, b11.rk, b13.rk, Int.le_antisymm h2' h2, hl, h14, nl⟩
end Go.Proofs.Ytikiegcncliocaa
