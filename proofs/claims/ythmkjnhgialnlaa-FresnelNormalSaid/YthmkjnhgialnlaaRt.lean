/- Plain facts: what a conductor reflects straight on: value and width. -/
import Derived.Test.YthmkjnhgialnlaaRs
import Derived.Test.YthmkjnhgialnlaaCb
namespace Go.Proofs.Ythmkjnhgialnlaa
open Go Go.RowKit

theorem sq_b {x : Rat} (h0 : 1 / 16 ≤ x) (h1 : x ≤ 16) : 1 / 256 ≤ x * x ∧ x * x ≤ 256 := by
  have a := Dy.mul_abs_le (x := x) (y := x) (m := 16) (w := 16) (by grind) h1 (by grind) h1
  have b := Rat.mul_le_mul_of_nonneg_left h0 (show 0 ≤ x by grind)
  exact ⟨by grind, by grind⟩
theorem sc_all {x y : Rat} (h0 : 1 / 16 ≤ x) (h1 : x ≤ 16) (k0 : 1 / 16 ≤ y) (k1 : y ≤ 16) : Dy.Sc (x * x + y * y) ∧ Dy.Sc ((x * x + y * y) * (x * x + y * y)) ∧ Dy.Sc (1 + (x * x + y * y)) := by
  obtain ⟨a, b⟩ := sq_b h0 h1
  obtain ⟨c, d⟩ := sq_b k0 k1
  have e0 : 1 / 128 ≤ x * x + y * y := by grind
  have e1 : x * x + y * y ≤ 512 := by grind
  generalize x * x + y * y = s at e0 e1
  have f := Dy.mul_abs_le (x := s) (y := s) (m := 512) (w := 512) (by grind) e1 (by grind) e1
  have g := Rat.mul_le_mul_of_nonneg_left e0 (show 0 ≤ s by grind)
  exact ⟨⟨by grind, by grind⟩, ⟨by grind, by grind⟩, ⟨by grind, by grind⟩⟩
theorem bs_sq0 {z : Int} {S : Rat} (hS : Dy.Sc S) (oz : Dy.ok z) (h0 : 0 ≤ Dy.val z) (h : Dy.val z * Dy.val z ≤ S) : ∃ s, Dy.Got (Dy.cSqr 0 (Dy.E (z, z))) s ∧ Dy.Bd s (0 * S) (2 * S) (1 / 1125899906842624 * S) := by
  have r := Dy.rr_s hS 1
  have l := hS.pos
  rw [Rat.one_mul] at r
  have r1 : Dy.rs 1 * S ≤ 1 / 2251799813685248 * S := Dy.sm_le hS (by decide +kernel)
  have r2 := Rat.le_trans r r1
  refine Dy.bd_sqr S _ _ _ (Dy.val z) (Dy.Bd.pt oz Rat.le_refl Rat.le_refl) ⟨by grind, by grind, h, .inr (by grind), ?_, ?_, Dy.sc_lo hS (by decide +kernel), Dy.sc_hi hS (by decide +kernel)⟩
  · have r3 : (1 : Rat) / 2251799813685248 * S ≤ 1 * S := Dy.sm_le hS (by decide +kernel)
    have r4 := Rat.le_trans r2 r3
    clear r r1 r2 r3
    generalize Dy.rr S = k at *
    grind
  · have r3 : (1 : Rat) / 2251799813685248 + 1 / 2251799813685248 = 1 / 1125899906842624 := by decide +kernel
    rw [← r3, Rat.add_mul]
    clear r r1
    generalize (1 : Rat) / 2251799813685248 * S = y at *
    generalize Dy.rr S = k at *
    grind
theorem val_t0 : Dy.val 4589168020290535424 = 1 / 16 := (Dy.val_q (z := 4589168020290535424) (num := 1) (den := 16) (by decide) (by decide +kernel)).trans (by decide +kernel)
theorem val_t1 : Dy.val 4625196817309499392 = 16 := (Dy.val_q (z := 4625196817309499392) (num := 16) (den := 1) (by decide) (by decide +kernel)).trans (by decide +kernel)
theorem val_tI : Dy.val 4607182418800017408 = 1 := (Dy.val_q (z := 4607182418800017408) (num := 1) (den := 1) (by decide) (by decide +kernel)).trans (by decide +kernel)
theorem sq_nn (x : Rat) : 0 ≤ x * x := by
  by_cases c : 0 ≤ x
  · exact Rat.mul_nonneg c c
  · have := Rat.mul_nonneg (show 0 ≤ -x by grind) (show 0 ≤ -x by grind); grind
/-- What is reflected straight on. -/
def metalQ (x y : Rat) : Rat := (1 + (x * x + y * y) - 2 * x) / (1 + (x * x + y * y) + 2 * x)
set_option maxHeartbeats 4000000 in
theorem cond1_num {e m : Int} (le : 4589168020290535424 ≤ e) (ue : e ≤ 4625196817309499392) (lm : 4589168020290535424 ≤ m) (um : m ≤ 4625196817309499392) : ∃ v : Int × Int, condM (Dy.E (4607182418800017408, 4607182418800017408)) (Dy.E (e, e)) (Dy.E (m, m)) 0 = (Dy.E v, 0) ∧ Dy.Bd v (-10) 10 (1 / 4294967296) ∧ Dy.Has v (metalQ (Dy.val e) (Dy.val m)) := by
  have oe : Dy.ok e := Dy.ok_B (by unfold Dy.B10; omega) (by unfold Dy.B10; omega)
  have om : Dy.ok m := Dy.ok_B (by unfold Dy.B10; omega) (by unfold Dy.B10; omega)
  have oI : Dy.ok 4607182418800017408 := Dy.ok_B (by decide) (by decide)
  have rI : Dy.Rk (4607182418800017408, 4607182418800017408) := ⟨oI, oI, Int.le_refl _⟩
  have rO : Dy.Rk (0, 0) := ⟨Dy.ok_zero, Dy.ok_zero, Int.le_refl _⟩
  have e0 : 1 / 16 ≤ Dy.val e := by have := Dy.val_le.2 le; rwa [val_t0] at this
  have e1 : Dy.val e ≤ 16 := by have := Dy.val_le.2 ue; rwa [val_t1] at this
  have m0 : 1 / 16 ≤ Dy.val m := by have := Dy.val_le.2 lm; rwa [val_t0] at this
  have m1 : Dy.val m ≤ 16 := by have := Dy.val_le.2 um; rwa [val_t1] at this
  obtain ⟨sS, sR, sT⟩ := sc_all e0 e1 m0 m1
  obtain ⟨x2a, x2b⟩ := sq_b e0 e1
  obtain ⟨y2a, y2b⟩ := sq_b m0 m1
  have hx := Dy.Has.pt e
  have hy := Dy.Has.pt m
  obtain ⟨s_e2, g_e2, b_e2⟩ := bs_sq0 sS oe (by grind) (show Dy.val e * Dy.val e ≤ Dy.val e * Dy.val e + Dy.val m * Dy.val m by grind)
  obtain ⟨s_k2, g_k2, b_k2⟩ := bs_sq0 sS om (by grind) (show Dy.val m * Dy.val m ≤ Dy.val e * Dy.val e + Dy.val m * Dy.val m by grind)
  have h_e2 := Dy.has_sqr ⟨oe, oe, Int.le_refl _⟩ g_e2 hx
  have h_k2 := Dy.has_sqr ⟨om, om, Int.le_refl _⟩ g_k2 hy
  generalize Dy.val e = x at *
  generalize Dy.val m = y at *
  have xx : 2 * x ≤ 1 + x * x := by have := sq_nn (1 - x); grind
  obtain ⟨S, hS⟩ : ∃ S, S = x * x + y * y := ⟨_, rfl⟩
  obtain ⟨R, hR⟩ : ∃ R, R = S * S := ⟨_, rfl⟩
  obtain ⟨T, hT⟩ : ∃ T, T = 1 + S := ⟨_, rfl⟩
  rw [← hS] at sS sR sT b_e2 b_k2
  rw [← hR] at sR
  rw [← hT] at sT
  have one_nn : (0 : Rat) ≤ 1 := by decide +kernel
  have sl := sS.lo
  have su : S ≤ 512 := by grind
  have Tp : 0 < T := by have := sT.lo; grind
  have qn : 0 ≤ S / T := Dy.le_quo Tp (by grind)
  obtain ⟨g1, b1, h1⟩ := Dy.bd_num (x := 4602678819172646912) (z := 4602678819172646912) (num := 1) (den := 2) (Dy.ok_B (by decide) (by decide)) (by decide) (by decide) (by decide +kernel)
  have c1 : Dy.Bd ((4602678819172646912 : Int), (4602678819172646912 : Int)) (1 / 2) (1 / 2) 0 := b1.mono (by decide +kernel)
  have e1 : Dy.Has ((4602678819172646912 : Int), (4602678819172646912 : Int)) (((1 / 2) : Rat)) := (show ((1 : Int) : Rat) / (((2 : Nat) : Int) : Rat) = (1 / 2) from by decide +kernel) ▸ h1
  obtain ⟨g2, b2, h2⟩ := Dy.bd_num (x := 4607182418800017408) (z := 4607182418800017408) (num := 1) (den := 1) (Dy.ok_B (by decide) (by decide)) (by decide) (by decide) (by decide +kernel)
  have c2 : Dy.Bd ((4607182418800017408 : Int), (4607182418800017408 : Int)) 1 1 0 := b2.mono (by decide +kernel)
  have e2 : Dy.Has ((4607182418800017408 : Int), (4607182418800017408 : Int)) ((1 : Rat)) := (show ((1 : Int) : Rat) / (((1 : Nat) : Int) : Rat) = 1 from by decide +kernel) ▸ h2
  have g_c2 : Dy.Got (Dy.cSqr 0 (Dy.E (4607182418800017408, 4607182418800017408))) (4607182418800017408, 4607182418800017408) := ⟨by decide +kernel, rI⟩
  have g_d : Dy.Got (Dy.cSub 0 (Dy.E (4607182418800017408, 4607182418800017408)) (Dy.E (4607182418800017408, 4607182418800017408))) (0, 0) := ⟨by decide +kernel, rO⟩
  have g_s2 : Dy.clip 0 4607182418800017408 (Dy.E (0, 0)) = Dy.E (0, 0) := by decide +kernel
  have b1T : Dy.Bd (4607182418800017408, 4607182418800017408) (0 * T) (1 * T) (0 * T) := c2.mono ⟨by grind, by grind, by grind⟩
  have b_c1 := Dy.bs_one c2
  obtain ⟨s3, g3, b3⟩ := Dy.bs_sub 2 (-75557863725914340196353 / 37778931862957161709568) (75557863725914340196353 / 37778931862957161709568) (116056878683004400771792897 / 43556142965880123323311949751266331066368) sS b_e2 b_k2 (by decide +kernel)
  have h3 : Dy.Has s3 ((x * x) - (y * y)) := Dy.has_sub b_e2.rk b_k2.rk g3 h_e2 h_k2
  have z0 : Dy.Bd (0, 0) 0 0 0 := Dy.Bd.pt Dy.ok_zero (by rw [Dy.val_zero]; exact Rat.le_refl) (by rw [Dy.val_zero]; exact Rat.le_refl)
  have hz0 : Dy.Has (0, 0) 0 := ⟨by rw [Dy.val_zero]; exact Rat.le_refl, by rw [Dy.val_zero]; exact Rat.le_refl⟩
  have zS : Dy.Bd (0, 0) (0 * S) (0 * S) (0 * S) := z0.mono ⟨by grind, by grind, by grind⟩
  have zq : Dy.Bd (0, 0) (0 * (S / T)) (0 * (S / T)) (0 * (S / T)) := z0.mono ⟨by grind, by grind, by grind⟩
  obtain ⟨s4, g4, b4⟩ := Dy.bs_sub (75557863725914340196353 / 37778931862957161709568) (-37778931862957178486785 / 18889465931478580854784) (37778931862957178486785 / 18889465931478580854784) (77371252455336271476162817 / 21778071482940061661655974875633165533184) sS b3 zS (by decide +kernel)
  have h4 : Dy.Has s4 (x * x - y * y) := (show ((x * x) - (y * y)) - 0 = x * x - y * y from by grind) ▸ (Dy.has_sub b3.rk zS.rk g4 h3 hz0)
  obtain ⟨s5, g5, b5⟩ := Dy.bs_sqr (R := R) (151115727451828781056009 / 37778931862957161709568) 0 (151115727451828814610441 / 37778931862957161709568) (696341272098026782587902473 / 43556142965880123323311949751266331066368) (37778931862957178486785 / 18889465931478580854784) sR hR.symm sS.pos b4 (by decide +kernel)
  have h5 : Dy.Has s5 ((x * x - y * y) * (x * x - y * y)) := Dy.has_sqr b4.rk g5 h4
  obtain ⟨g6, b6, h6⟩ := Dy.bd_num (x := 4616189618054758400) (z := 4616189618054758400) (num := 4) (den := 1) (Dy.ok_B (by decide) (by decide)) (by decide) (by decide) (by decide +kernel)
  have c6 : Dy.Bd ((4616189618054758400 : Int), (4616189618054758400 : Int)) 4 4 0 := b6.mono (by decide +kernel)
  have e6 : Dy.Has ((4616189618054758400 : Int), (4616189618054758400 : Int)) ((4 : Rat)) := (show ((4 : Int) : Rat) / (((1 : Nat) : Int) : Rat) = 4 from by decide +kernel) ▸ h6
  have b_f1 := Dy.bs_one c6
  obtain ⟨s7, g7, b7⟩ := Dy.bs_mul (R := R) 4 0 (151115727451828680392705 / 37778931862957161709568) (232113757366008801543585793 / 43556142965880123323311949751266331066368) 0 4 2 2 sR hR.symm sS.pos sS.pos b_e2 b_k2 (by decide +kernel)
  have h7 : Dy.Has s7 ((x * x) * (y * y)) := Dy.has_mul b_e2.rk b_k2.rk g7 h_e2 h_k2
  obtain ⟨s8, g8, b8⟩ := Dy.bs_mul (R := R) (151115727451828680392705 / 9444732965739290427392) 0 (604462909807314855788549 / 37778931862957161709568) (1237940039285380343618603013 / 43556142965880123323311949751266331066368) 0 (151115727451828680392705 / 9444732965739290427392) 4 (151115727451828680392705 / 37778931862957161709568) sR (Rat.one_mul R) one_nn sR.pos b_f1 b7 (by decide +kernel)
  have h8 : Dy.Has s8 ((4 : Rat) * ((x * x) * (y * y))) := Dy.has_mul b_f1.rk b7.rk g8 e6 h7
  obtain ⟨s9, g9, b9⟩ := Dy.bs_add (377789318629571835199495 / 18889465931478580854784) (-193428131138340779622141441 / 43556142965880123323311949751266331066368) (755578637259143838171151 / 37778931862957161709568) (2321137573660088685450788367 / 43556142965880123323311949751266331066368) sR b5 b8 (by decide +kernel)
  have h9 : Dy.Has s9 (S * S) := (show ((x * x - y * y) * (x * x - y * y)) + ((4 : Rat) * ((x * x) * (y * y))) = S * S from by rw [hS]; grind) ▸ (Dy.has_add b5.rk b8.rk g9 h5 h8)
  have b10 := Dy.bs_re (lo := 1) (hi := 1) (A := (40564819207301179120073364733327 / 40564819207303340847894502572032)) (B := (37778931862959174975489 / 37778931862957161709568)) sR b9 h9 (by grind) (by grind) (by decide +kernel)
  obtain ⟨s11, g11, b11⟩ := Dy.bs_sqrt (R := R) (20282409603651125488392339448523 / 20282409603651670423947251286016) (18889465931479088365569 / 18889465931478580854784) (589955799971954924340650117 / 21778071482940061661655974875633165533184) (40564819207302259983983933638279 / 40564819207303340847894502572032) (37778931862958168342529 / 37778931862957161709568) (1160568786830075266489925385 / 43556142965880123323311949751266331066368) sS sR hR.symm b10 (by decide +kernel)
  have h11 : Dy.Has s11 (S) := Dy.has_sqrt b10.rk g11 h9 sS.pos
  have b12 := Dy.bs_re (lo := 1) (hi := 1) (A := (40564819207302241969585424141415 / 40564819207303340847894502572032)) (B := (37778931862958185119745 / 37778931862957161709568)) sS b11 h11 (by grind) (by grind) (by decide +kernel)
  obtain ⟨s13, g13, b13⟩ := Dy.bs_add (113336795588872542093315 / 37778931862957161709568) (-37778931862958243840003 / 37778931862957161709568) (28334198897218141814785 / 9444732965739290427392) (1392682544196085133185403149 / 43556142965880123323311949751266331066368) sS b12 b4 (by decide +kernel)
  have h13 : Dy.Has s13 (2 * (x * x)) := (show (S) + (x * x - y * y) = 2 * (x * x) from by rw [hS]; grind) ▸ (Dy.has_add b12.rk b4.rk g13 h11 h4)
  obtain ⟨g14, b14, h14⟩ := Dy.bd_num (x := 0) (z := 0) (num := 0) (den := 1) Dy.ok_zero rfl (by decide) (by decide +kernel)
  have c14 : Dy.Bd ((0 : Int), (0 : Int)) 0 0 0 := b14.mono (by decide +kernel)
  have e14 : Dy.Has ((0 : Int), (0 : Int)) ((0 : Rat)) := (show ((0 : Int) : Rat) / (((1 : Nat) : Int) : Rat) = 0 from by decide +kernel) ▸ h14
  obtain ⟨g15, b15⟩ := Dy.bs_max 0 (28334198897218141814785 / 9444732965739290427392) (1392682544196085133185403149 / 43556142965880123323311949751266331066368) sS b13 zS (by decide +kernel)
  have h15 : Dy.Has (Dy.rMax s13 (0, 0)) (2 * (x * x)) := (show max (2 * (x * x)) 0 = 2 * (x * x) from by grind) ▸ (Dy.has_max h13 hz0)
  have b_h1 := Dy.bs_one c1
  obtain ⟨s16, g16, b16⟩ := Dy.bs_mul (R := S) (28334198897218141814785 / 18889465931478580854784) 0 (56668397794436296212483 / 37778931862957161709568) (725355491768793943811041415 / 43556142965880123323311949751266331066368) 0 (28334198897218141814785 / 18889465931478580854784) (1 / 2) (28334198897218141814785 / 9444732965739290427392) sS (Rat.one_mul S) one_nn sS.pos b_h1 b15 (by decide +kernel)
  have h16 : Dy.Has s16 (x * x) := (show ((1 / 2) : Rat) * (2 * (x * x)) = x * x from by grind) ▸ (Dy.has_mul b_h1.rk b15.rk g16 e1 h15)
  have bhm : Dy.Bd s16 (x * x - (725355491768793943811041415 / 43556142965880123323311949751266331066368) * S) (x * x + (725355491768793943811041415 / 43556142965880123323311949751266331066368) * S) ((725355491768793943811041415 / 43556142965880123323311949751266331066368) * S) := Dy.bd_re b16 h16 ⟨Rat.le_refl, Rat.le_refl⟩
  have hSx : S ≤ 16 * (S * x) := by have := Rat.mul_le_mul_of_nonneg_left e0 sS.pos; grind
  obtain ⟨s_a, g_a, b_a⟩ := Dy.bd_sqrt (0 * T) (3 * T) ((744698304882628010606340231 / 2722258935367507707706996859454145691648) * T) (x / 2) (2 * x) (16 * ((725355491768793943811041415 / 43556142965880123323311949751266331066368) * S)) bhm ⟨by grind, by grind, by grind, by grind, by unfold Dy.rr; grind, by unfold Dy.rr; grind, by grind, by grind, by unfold Dy.rr; grind, by grind, by grind⟩
  have h_a : Dy.Has s_a x := Dy.has_sqrt bhm.rk g_a h16 (by grind)
  have abT : Dy.Bd s11 (0 * T) ((37778931862958185119745 / 37778931862957161709568) * T) ((589955799971954924340650117 / 21778071482940061661655974875633165533184) * T) := Dy.bs_up sS (by decide +kernel) (by grind) b12
  obtain ⟨s17, g17, b17⟩ := Dy.bs_add (75557863725915346829313 / 37778931862957161709568) (-19342813113834328788304129 / 43556142965880123323311949751266331066368) (37778931862957681803265 / 18889465931478580854784) (1218597226171578506257908491 / 43556142965880123323311949751266331066368) sT abT b1T (by decide +kernel)
  have h17 : Dy.Has s17 (T) := (show S + 1 = T from by grind) ▸ (Dy.has_add abT.rk b1T.rk g17 h11 e2)
  have b18 := Dy.bs_re (lo := 1) (hi := 1) (A := (40564819207302205940788405176959 / 40564819207303340847894502572032)) (B := (37778931862958218674177 / 37778931862957161709568)) sT b17 h17 (by grind) (by grind) (by decide +kernel)
  obtain ⟨g19, b19, h19⟩ := Dy.bd_num (x := 4611686018427387904) (z := 4611686018427387904) (num := 2) (den := 1) (Dy.ok_B (by decide) (by decide)) (by decide) (by decide) (by decide +kernel)
  have c19 : Dy.Bd ((4611686018427387904 : Int), (4611686018427387904 : Int)) 2 2 0 := b19.mono (by decide +kernel)
  have e19 : Dy.Has ((4611686018427387904 : Int), (4611686018427387904 : Int)) ((2 : Rat)) := (show ((2 : Int) : Rat) / (((1 : Nat) : Int) : Rat) = 2 from by decide +kernel) ▸ h19
  have b_t1 := Dy.bs_one c19
  obtain ⟨s20, g20, b20⟩ := Dy.bs_mul (R := T) 6 0 (226673591177743020589057 / 37778931862957161709568) (23946402634927100740174680289 / 43556142965880123323311949751266331066368) 0 6 2 3 sT (Rat.one_mul T) one_nn sT.pos b_t1 b_a (by decide +kernel)
  have h20 : Dy.Has s20 ((2 : Rat) * x) := Dy.has_mul b_t1.rk b_a.rk g20 e19 h_a
  obtain ⟨s21, g21, b21⟩ := Dy.bs_mul (R := T) (226673591177743020589057 / 37778931862957161709568) 0 (113336795588871535460353 / 18889465931478580854784) (12031229756805052583358138737 / 21778071482940061661655974875633165533184) 0 (226673591177743020589057 / 37778931862957161709568) (226673591177743020589057 / 37778931862957161709568) 1 sT (Rat.mul_one T) sT.pos one_nn b20 b_c1 (by decide +kernel)
  have h21 : Dy.Has s21 (2 * x) := (show ((2 : Rat) * x) * 1 = 2 * x from by grind) ▸ (Dy.has_mul b20.rk b_c1.rk g21 h20 e2)
  obtain ⟨s22, g22, b22⟩ := Dy.bs_sub (188894659314786966175747 / 37778931862957161709568) (-188894659314787008118787 / 37778931862957161709568) (18889465931479130308609 / 18889465931478580854784) (12688885402675427299828084215 / 21778071482940061661655974875633165533184) sT b18 b21 (by decide +kernel)
  have h22 : Dy.Has s22 ((T) - (2 * x)) := Dy.has_sub b18.rk b21.rk g22 h17 h21
  have b23 := Dy.bs_re (lo := 0) (hi := 1) (A := (-12688885402675427299828084215 / 21778071482940061661655974875633165533184)) (B := (37778931862979173416961 / 37778931862957161709568)) sT b22 h22 (by grind) (by grind) (by decide +kernel)
  obtain ⟨s24, g24, b24⟩ := Dy.bs_add (264452523040701289594883 / 37778931862957161709568) (20282409603651071445196810994869 / 20282409603651670423947251286016) (66113130760175337078785 / 9444732965739290427392) (12708228215789261366623383031 / 21778071482940061661655974875633165533184) sT b18 b21 (by decide +kernel)
  have h24 : Dy.Has s24 ((T) + (2 * x)) := Dy.has_add b18.rk b21.rk g24 h17 h21
  have b25 := Dy.bs_re (lo := 1) (hi := 2) (A := (40564819207279669928253042724479 / 40564819207303340847894502572032)) (B := (75557863725936368680961 / 37778931862957161709568)) sT b24 h24 (by grind) (by grind) (by decide +kernel)
  obtain ⟨s26, g26, b26⟩ := Dy.bs_div (18889465931500609339393 / 18889465931478580854784) (-25387442211922591683996647997 / 43556142965880123323311949751266331066368) (37778931863001227067395 / 37778931862957161709568) (25406785025051257097499437393 / 21778071482940061661655974875633165533184) (-6344442701341415843003719695 / 10889035741470030830827987437816582766592) (18889465931500609339393 / 18889465931478580854784) (50794227236988657571035336353 / 43556142965880123323311949751266331066368) sT b23 b25 (by decide +kernel)
  have h26 : Dy.Has s26 (((T) - (2 * x)) / ((T) + (2 * x))) := Dy.has_div b23.rk b25.rk g26 h22 h24
  have q0 : 0 ≤ (T - 2 * x) / (T + 2 * x) := Dy.le_quo (by grind) (by grind)
  have q1 : (T - 2 * x) / (T + 2 * x) ≤ 1 := Dy.quo_le (by grind) (by grind)
  obtain ⟨g27, b27⟩ := Dy.bd_clipq (x := 0) (y := 4607182418800017408) (l := 0) (h := 4607182418800017408) (nx := 0) (dx := 1) (ny := 1) (dy := 1) 0 1 Dy.ok_zero (Dy.ok_B (by decide) (by decide)) rfl (by decide) b26 (by decide +kernel) (by decide +kernel) (by decide +kernel)
  have h27 : Dy.Has (Dy.rClip (0) (4607182418800017408) s26) (((T - 2 * x) / (T + 2 * x))) := Dy.has_clip h26 (by rw [Dy.val_zero]; exact q0) (by rw [val_tI]; exact q1)
  obtain ⟨s28, g28, b28⟩ := Dy.bs_mul (R := S) (37778931862958185119745 / 37778931862957161709568) (20282409603651116481193084700089 / 20282409603651670423947251286016) (18889465931479096754177 / 18889465931478580854784) (1199254413057744439462609675 / 43556142965880123323311949751266331066368) (40564819207302241969585424141415 / 40564819207303340847894502572032) (37778931862958185119745 / 37778931862957161709568) 1 (37778931862958185119745 / 37778931862957161709568) sS (Rat.one_mul S) one_nn sS.pos b_c1 b12 (by decide +kernel)
  have h28 : Dy.Has s28 (1 * (S)) := Dy.has_mul b_c1.rk b12.rk g28 e2 h11
  have g_s4 : Dy.Got (Dy.cSqr 0 (Dy.E (0, 0))) (0, 0) := ⟨by decide +kernel, rO⟩
  obtain ⟨s29, g29, b29⟩ := Dy.bs_add (18889465931479096754177 / 18889465931478580854784) (40564819207302223955186914658939 / 40564819207303340847894502572032) (37778931862958201896963 / 37778931862957161709568) (304649306542894758634721731 / 10889035741470030830827987437816582766592) sS b28 zS (by decide +kernel)
  have h29 : Dy.Has s29 (S) := (show (1 * (S)) + 0 = S from by grind) ▸ (Dy.has_add b28.rk zS.rk g29 h28 hz0)
  have qe : T * (S / T) = S := by rw [Rat.mul_comm]; exact Rat.div_mul_cancel (by grind)
  obtain ⟨s30, g30, b30⟩ := Dy.bs_mul (R := S) 0 0 (1 / 1532495540865888858358347027150309183618739122183602176) (1 / 766247770432944429179173513575154591809369561091801088) 0 0 (113336795588871535460353 / 18889465931478580854784) 0 sS qe sT.pos qn b21 zq (by decide +kernel)
  have h30 : Dy.Has s30 (0) := (show (2 * x) * 0 = 0 from by grind) ▸ (Dy.has_mul b21.rk zq.rk g30 h21 hz0)
  obtain ⟨s31, g31, b31⟩ := Dy.bs_sub (37778931862958201896963 / 37778931862957161709568) (20282409603651107473993829958849 / 20282409603651670423947251286016) (9444732965739552571393 / 9444732965739290427392) (1237940039285413633910131981 / 43556142965880123323311949751266331066368) sS b29 b30 (by decide +kernel)
  have h31 : Dy.Has s31 (S) := (show (S) - (0) = S from by grind) ▸ (Dy.has_sub b29.rk b30.rk g31 h29 h30)
  have b32 := Dy.bs_re (lo := 1) (hi := 1) (A := (40564819207302187926389895693987 / 40564819207303340847894502572032)) (B := (37778931862958235451393 / 37778931862957161709568)) sS b31 h31 (by grind) (by grind) (by decide +kernel)
  obtain ⟨s33, g33, b33⟩ := Dy.bs_add (9444732965739550474241 / 9444732965739290427392) (20282409603651107473993829958849 / 20282409603651670423947251286016) (9444732965739552571393 / 9444732965739290427392) (1237940039285413633910132493 / 43556142965880123323311949751266331066368) sS b29 b30 (by decide +kernel)
  have h33 : Dy.Has s33 (S) := (show (S) + (0) = S from by grind) ▸ (Dy.has_add b29.rk b30.rk g33 h29 h30)
  have b34 := Dy.bs_re (lo := 1) (hi := 1) (A := (40564819207302187926389895693987 / 40564819207303340847894502572032)) (B := (37778931862958235451393 / 37778931862957161709568)) sS b33 h33 (by grind) (by grind) (by decide +kernel)
  have sse : S / S = 1 := by rw [Rat.div_def]; exact Rat.mul_inv_cancel _ (by grind)
  obtain ⟨s35, g35, b35⟩ := Dy.bs_div (18889465931479654596609 / 18889465931478580854784) (20282409603650512998842480214609 / 20282409603651670423947251286016) (37778931862959317581827 / 37778931862957161709568) (2495222891684803171615612965 / 43556142965880123323311949751266331066368) (40564819207301035004884215170723 / 40564819207303340847894502572032) (18889465931479654596609 / 18889465931478580854784) (618970019642742001327171337 / 10889035741470030830827987437816582766592) sS b32 b34 (by decide +kernel)
  have h35 : Dy.Has s35 ((1 : Rat)) := (show (S) / (S) = (1 : Rat) from sse) ▸ (Dy.has_div b32.rk b34.rk g35 h31 h33)
  have b36 := Dy.bd_re (A := (40564819207301016990486779201863 / 40564819207303340847894502572032)) (B := (37778931862959325970433 / 37778931862957161709568)) b35 h35 (by decide +kernel)
  obtain ⟨s37, g37, b37⟩ := Dy.bd_mul (37778931862959325970433 / 37778931862957161709568) 0 (18889465931479667179521 / 18889465931478580854784) (53328135754904063524317038669 / 43556142965880123323311949751266331066368) 0 (37778931862959325970433 / 37778931862957161709568) 1 (37778931862959325970433 / 37778931862957161709568) b27 b36 (by decide +kernel)
  have h37 : Dy.Has s37 (((T - 2 * x) / (T + 2 * x)) * ((1 : Rat))) := Dy.has_mul b27.rk b36.rk g37 h27 h35
  obtain ⟨g38, b38⟩ := Dy.bd_clipq (x := 0) (y := 4607182418800017408) (l := 0) (h := 4607182418800017408) (nx := 0) (dx := 1) (ny := 1) (dy := 1) 0 1 Dy.ok_zero (Dy.ok_B (by decide) (by decide)) rfl (by decide) b37 (by decide +kernel) (by decide +kernel) (by decide +kernel)
  have h38 : Dy.Has (Dy.rClip (0) (4607182418800017408) s37) ((((T - 2 * x) / (T + 2 * x)) * ((1 : Rat)))) := Dy.has_clip h37 (by rw [Dy.val_zero, Rat.mul_one]; exact q0) (by rw [val_tI, Rat.mul_one]; exact q1)
  have bh : Dy.Bd ((4602678819172646912 : Int), (4602678819172646912 : Int)) (1 / 2) (1 / 2) 0 := b_h1.mono ⟨by grind, by grind, by grind⟩
  obtain ⟨s39, g39, b39⟩ := Dy.bd_add 2 (-19342813113834066795298817 / 43556142965880123323311949751266331066368) (75557863725914340196353 / 37778931862957161709568) (6511274464452140365806656943 / 2722258935367507707706996859454145691648) b27 b38 (by decide +kernel)
  have h39 : Dy.Has s39 (((T - 2 * x) / (T + 2 * x)) + (((T - 2 * x) / (T + 2 * x)) * ((1 : Rat)))) := Dy.has_add b27.rk b38.rk g39 h27 h38
  obtain ⟨s40, g40, b40⟩ := Dy.bd_mul (37778931862957170098177 / 37778931862957161709568) (-19342813113834068942782721 / 43556142965880123323311949751266331066368) (37778931862957178486785 / 37778931862957161709568) (52109538528730956997543522169 / 43556142965880123323311949751266331066368) (-19342813113834066795298817 / 87112285931760246646623899502532662132736) (75557863725914340196353 / 75557863725914323419136) (1 / 2) (75557863725914340196353 / 37778931862957161709568) bh b39 (by decide +kernel)
  have h40 : Dy.Has s40 (((1 / 2) : Rat) * (((T - 2 * x) / (T + 2 * x)) + (((T - 2 * x) / (T + 2 * x)) * ((1 : Rat))))) := Dy.has_mul bh.rk b39.rk g40 e1 h39
  have hE : (((1 / 2) : Rat) * (((T - 2 * x) / (T + 2 * x)) + (((T - 2 * x) / (T + 2 * x)) * ((1 : Rat))))) = metalQ x y := by unfold metalQ; grind
  refine ⟨s40, ?_, b40.mono (by decide +kernel), hE ▸ h40⟩
  unfold condM
  refine (Dy.cs_num g1.1).trans ?_
  refine (Dy.cs_sqr g_c2.1).trans ?_
  refine (Dy.cs_num g2.1).trans ?_
  refine (Dy.cs_sub g_d.1).trans ?_
  refine (Dy.cm_p g_s2).trans ?_
  refine (Dy.cs_sqr g_e2.1).trans ?_
  refine (Dy.cs_sqr g_k2.1).trans ?_
  refine (Dy.cs_sub g3.1).trans ?_
  refine (Dy.cs_sub g4.1).trans ?_
  refine (Dy.cs_sqr g5.1).trans ?_
  refine (Dy.cs_num g6.1).trans ?_
  refine (Dy.cs_mul g7.1).trans ?_
  refine (Dy.cs_mul g8.1).trans ?_
  refine (Dy.cs_add g9.1).trans ?_
  refine (Dy.cs_sqrt g11.1).trans ?_
  refine (Dy.cs_add g13.1).trans ?_
  refine (Dy.cs_num g14.1).trans ?_
  refine (Dy.cs_max g15.1).trans ?_
  refine (Dy.cs_mul g16.1).trans ?_
  refine (Dy.cs_sqrt g_a.1).trans ?_
  refine (Dy.cs_add g17.1).trans ?_
  refine (Dy.cs_num g19.1).trans ?_
  refine (Dy.cs_mul g20.1).trans ?_
  refine (Dy.cs_mul g21.1).trans ?_
  refine (Dy.cs_sub g22.1).trans ?_
  refine (Dy.cs_add g24.1).trans ?_
  refine (Dy.cs_div g26.1).trans ?_
  refine (Dy.cm_p g27).trans ?_
  refine (Dy.cs_mul g28.1).trans ?_
  refine (Dy.cs_sqr g_s4.1).trans ?_
  refine (Dy.cs_add g29.1).trans ?_
  refine (Dy.cs_mul g30.1).trans ?_
  refine (Dy.cs_sub g31.1).trans ?_
  refine (Dy.cs_add g33.1).trans ?_
  refine (Dy.cs_div g35.1).trans ?_
  refine (Dy.cs_mul g37.1).trans ?_
  refine (Dy.cm_p g38).trans ?_
  refine (Dy.cs_add g39.1).trans ?_
  exact g40.1
end Go.Proofs.Ythmkjnhgialnlaa
