/- Plain facts: how wide a unit vector is. -/
import Derived.Test.YtikiegcncliocaaR1
import Derived.Test.YtikiegcncliocaaRp
namespace Go.Proofs.Ytikiegcncliocaa
open Go Go.RowKit

theorem bs_sqp {z : Int} {S : Rat} (hS : Dy.Sc S) (oz : Dy.ok z) (h : Dy.val z * Dy.val z ≤ S) : ∃ s, Dy.Got (Dy.cSqr 0 (Dy.E (z, z))) s ∧ Dy.Bd s (0 * S) (2 * S) (1 / 1125899906842624 * S) := by
  have r := Dy.rr_s hS 1
  rw [Rat.one_mul] at r
  have r1 : Dy.rs 1 * S ≤ 1 / 2251799813685248 * S := Dy.sm_le hS (by decide +kernel)
  have r2 := Rat.le_trans r r1
  have l := hS.pos
  have r3 : (1 : Rat) / 2251799813685248 * S ≤ 1 * S := Dy.sm_le hS (by decide +kernel)
  have r5 : (1 : Rat) / 2251799813685248 + 1 / 2251799813685248 = 1 / 1125899906842624 := by decide +kernel
  obtain ⟨m, hm, m1, m2⟩ : ∃ m : Rat, m * m = Dy.val z * Dy.val z ∧ -m ≤ Dy.val z ∧ Dy.val z ≤ m := by
    by_cases c : 0 ≤ Dy.val z
    · exact ⟨Dy.val z, rfl, by grind, by grind⟩
    · exact ⟨-Dy.val z, by grind, by grind, by grind⟩
  refine Dy.bd_sqr S _ _ _ m (Dy.Bd.pt oz Rat.le_refl Rat.le_refl) ⟨m1, m2, by rw [hm]; exact h, .inr (by grind), ?_, ?_, Dy.sc_lo hS (by decide +kernel), Dy.sc_hi hS (by decide +kernel)⟩
  · rw [hm]
    have r4 := Rat.le_trans r2 r3
    clear r r1 r2 r3 hm
    generalize Dy.rr S = k at *
    generalize Dy.val z * Dy.val z = u at *
    grind
  · rw [← r5, Rat.add_mul]
    clear r r1 r3 hm m1 m2
    generalize (1 : Rat) / 2251799813685248 * S = y at *
    generalize Dy.rr S = k at *
    grind
theorem bounds_of {x t : Rat} (h : 0 < t) (a : -1 ≤ x / t) (b : x / t ≤ 1) : -t ≤ x ∧ x ≤ t := by
  have e : x / t * t = x := Rat.div_mul_cancel (by grind)
  have l := Rat.mul_le_mul_of_nonneg_right a (show 0 ≤ t by grind)
  have u := Rat.mul_le_mul_of_nonneg_right b (show 0 ≤ t by grind)
  exact ⟨by grind, by grind⟩
set_option maxHeartbeats 2000000 in
/-- A direction's unit vector is narrow. -/
theorem unit_wd {x y z : Int} (lx : -4607182418800017408 ≤ x) (ux : x ≤ 4607182418800017408) (ly : -4607182418800017408 ≤ y) (uy : y ≤ 4607182418800017408) (lz : 4580160821035794432 ≤ z) (uz : z ≤ 4607182418800017408) : ∃ (p q r : Int × Int), unitG (Dy.enc x) (Dy.enc y) (Dy.enc z) = ((Dy.E p, Dy.E q, Dy.E r), 0) ∧ Dy.Bd p (-1) 1 (1 / 70368744177664) ∧ Dy.Bd q (-1) 1 (1 / 70368744177664) ∧ Dy.Bd r (-1) 1 (1 / 70368744177664) := by
  have cx : Dy.Bd (x, x) (-1) 1 0 := (Dy.bd_in (x := -4607182418800017408) (y := 4607182418800017408) (nx := -1) (dx := 1) (ny := 1) (dy := 1) lx ux (Dy.ok_B (by unfold Dy.B10; omega) (by unfold Dy.B10; omega)) (by decide +kernel)).mono (by decide +kernel)
  have ex : Dy.Has (x, x) (Dy.val x) := Dy.Has.pt x
  have cy : Dy.Bd (y, y) (-1) 1 0 := (Dy.bd_in (x := -4607182418800017408) (y := 4607182418800017408) (nx := -1) (dx := 1) (ny := 1) (dy := 1) ly uy (Dy.ok_B (by unfold Dy.B10; omega) (by unfold Dy.B10; omega)) (by decide +kernel)).mono (by decide +kernel)
  have ey : Dy.Has (y, y) (Dy.val y) := Dy.Has.pt y
  have cz : Dy.Bd (z, z) (1 / 64) 1 0 := (Dy.bd_in (x := 4580160821035794432) (y := 4607182418800017408) (nx := 1) (dx := 64) (ny := 1) (dy := 1) lz uz (Dy.ok_B (by unfold Dy.B10; omega) (by unfold Dy.B10; omega)) (by decide +kernel)).mono (by decide +kernel)
  have ez : Dy.Has (z, z) (Dy.val z) := Dy.Has.pt z
  obtain ⟨_, _, _, t, _, _, _, _, tb, sb, nt, _, _, _⟩ := unit_num lx ux ly uy lz uz
  obtain ⟨κ, hκ⟩ := nt (1 / 1208925819614629174706176) (by decide +kernel)
  have hk : -(1 / 1208925819614629174706176) ≤ t κ * t κ - (Dy.val x * Dy.val x + Dy.val y * Dy.val y + Dy.val z * Dy.val z) ∧ t κ * t κ - (Dy.val x * Dy.val x + Dy.val y * Dy.val y + Dy.val z * Dy.val z) ≤ 1 / 1208925819614629174706176 := hκ κ (Nat.le_refl _)
  have tb := tb κ
  have sb := sb κ
  obtain ⟨T, hT⟩ : ∃ T, T = t κ := ⟨_, rfl⟩
  rw [← hT] at hk tb sb
  clear hκ
  have zl := cz.lo
  have zz : 1 / 4096 ≤ Dy.val z * Dy.val z := by have a := Dy.mul_abs_le (x := 1 / 64) (y := 1 / 64) (m := Dy.val z) (w := Dy.val z) (by grind) (by grind) (by grind) (by grind); grind
  have xx := sq0 (Dy.val x)
  have yy := sq0 (Dy.val y)
  obtain ⟨R, hR⟩ : ∃ R, R = T * T := ⟨_, rfl⟩
  rw [← hR] at sb hk
  have R4 : R ≤ 4 := by have a := Dy.mul_abs_le (x := T) (y := T) (m := 2) (w := 2) (by grind) tb.2 (by grind) tb.2; grind
  have sR : Dy.Sc R := ⟨by grind, by grind⟩
  have sT : Dy.Sc T := ⟨by grind, by grind⟩
  have T0 : 0 < T := by grind
  obtain ⟨lo_x, hi_x⟩ := by_root (x := Dy.val x) (s := (Dy.val x * Dy.val x + Dy.val y * Dy.val y + Dy.val z * Dy.val z)) T0 (by rw [← hR]; exact sb) (by grind)
  have l_x : -T ≤ Dy.val x ∧ Dy.val x ≤ T := bounds_of T0 lo_x hi_x
  have p_x : Dy.Bd (x, x) (-1 * T) (1 * T) (0 * T) := (Dy.Bd.pt cx.rk.lo Rat.le_refl Rat.le_refl).mono ⟨by grind, by grind, by grind⟩
  obtain ⟨s_x, g_x, b_x⟩ := bs_sqp (z := x) sR cx.rk.lo (by grind)
  have h_x := Dy.has_sqr cx.rk g_x ex
  obtain ⟨lo_y, hi_y⟩ := by_root (x := Dy.val y) (s := (Dy.val x * Dy.val x + Dy.val y * Dy.val y + Dy.val z * Dy.val z)) T0 (by rw [← hR]; exact sb) (by grind)
  have l_y : -T ≤ Dy.val y ∧ Dy.val y ≤ T := bounds_of T0 lo_y hi_y
  have p_y : Dy.Bd (y, y) (-1 * T) (1 * T) (0 * T) := (Dy.Bd.pt cy.rk.lo Rat.le_refl Rat.le_refl).mono ⟨by grind, by grind, by grind⟩
  obtain ⟨s_y, g_y, b_y⟩ := bs_sqp (z := y) sR cy.rk.lo (by grind)
  have h_y := Dy.has_sqr cy.rk g_y ey
  obtain ⟨lo_z, hi_z⟩ := by_root (x := Dy.val z) (s := (Dy.val x * Dy.val x + Dy.val y * Dy.val y + Dy.val z * Dy.val z)) T0 (by rw [← hR]; exact sb) (by grind)
  have l_z : -T ≤ Dy.val z ∧ Dy.val z ≤ T := bounds_of T0 lo_z hi_z
  have p_z : Dy.Bd (z, z) (-1 * T) (1 * T) (0 * T) := (Dy.Bd.pt cz.rk.lo Rat.le_refl Rat.le_refl).mono ⟨by grind, by grind, by grind⟩
  obtain ⟨s_z, g_z, b_z⟩ := bs_sqp (z := z) sR cz.rk.lo (by grind)
  have h_z := Dy.has_sqr cz.rk g_z ez
  have gx := Dy.got_num cx.rk.lo
  have gy := Dy.got_num cy.rk.lo
  have gz := Dy.got_num cz.rk.lo
  obtain ⟨s1, g1, b1⟩ := Dy.bs_add 4 (-38685626227668133590597633 / 43556142965880123323311949751266331066368) (151115727451828680392705 / 37778931862957161709568) (154742504910672534362390529 / 43556142965880123323311949751266331066368) sR b_x b_y (by decide +kernel)
  have h1 : Dy.Has s1 ((Dy.val x * Dy.val x) + (Dy.val y * Dy.val y)) := Dy.has_add b_x.rk b_y.rk g1 h_x h_y
  obtain ⟨s2, g2, b2⟩ := Dy.bs_add (226673591177743003811841 / 37778931862957161709568) (-48357032784585171283214465 / 21778071482940061661655974875633165533184) (113336795588871527071745 / 18889465931478580854784) (154742504910672542952325377 / 21778071482940061661655974875633165533184) sR b1 b_z (by decide +kernel)
  have h2 : Dy.Has s2 (Dy.val x * Dy.val x + Dy.val y * Dy.val y + Dy.val z * Dy.val z) := (show ((Dy.val x * Dy.val x) + (Dy.val y * Dy.val y)) + (Dy.val z * Dy.val z) = Dy.val x * Dy.val x + Dy.val y * Dy.val y + Dy.val z * Dy.val z from rfl) ▸ (Dy.has_add b1.rk b_z.rk g2 h1 h_z)
  have b3 := Dy.bs_re (lo := (1152921504606846975 / 1152921504606846976)) (hi := 1) (A := (40564819207303052582333978771439 / 40564819207303340847894502572032)) (B := (37778931862957430145025 / 37778931862957161709568)) sR b2 h2 (by grind) (by grind) (by decide +kernel)
  obtain ⟨s_n, g_n, b_n⟩ := Dy.bs_sqrt (R := R) (20282409603651593853957492965227 / 20282409603651670423947251286016) (18889465931478652157953 / 18889465931478580854784) (174085318024507228290024195 / 43556142965880123323311949751266331066368) (40564819207303196715114240671479 / 40564819207303340847894502572032) (37778931862957295927297 / 37778931862957161709568) (77371252455336546387624065 / 21778071482940061661655974875633165533184) sT sR hR.symm b3 (by decide +kernel)
  obtain ⟨r1, t1, k1, _, u1, _, _⟩ := Dy.root_seq b3.rk g_n (x := fun _ => (Dy.val x * Dy.val x + Dy.val y * Dy.val y + Dy.val z * Dy.val z)) (fun _ => h2)
  have k1 := k1 0
  have u1 := u1 0
  generalize t1 0 = τ at *
  have nl := u1.lo
  have bl := b_n.lo
  have Lp : 0 < (20282409603651593853957492965227 / 20282409603651670423947251286016) * T := Rat.mul_pos (by decide +kernel) T0
  have τ0 : 0 < τ := by grind
  obtain ⟨s5, g5, b5⟩ := Dy.bs_div (37778931862957304332289 / 37778931862957161709568) (-18889465931478656360449 / 18889465931478580854784) (18889465931478656360449 / 18889465931478580854784) (193428131138342682519148293 / 43556142965880123323311949751266331066368) (-37778931862957304332289 / 37778931862957161709568) (37778931862957304332289 / 37778931862957161709568) (43521329506127135675254081 / 10889035741470030830827987437816582766592) sT p_x b_n (by decide +kernel)
  have h5 : Dy.Has s5 ((Dy.val x) / τ) := Dy.has_div p_x.rk b_n.rk g5 ex u1
  obtain ⟨a_x, c_x⟩ := by_root (x := Dy.val x) (s := (Dy.val x * Dy.val x + Dy.val y * Dy.val y + Dy.val z * Dy.val z)) τ0 k1.2.2.2 (by grind)
  obtain ⟨g6, b6⟩ := bd_within (-1) 1 b5 (by have := h5.lo; grind) (by have := h5.hi; grind) (by decide +kernel)
  obtain ⟨s7, g7, b7⟩ := Dy.bs_div (37778931862957304332289 / 37778931862957161709568) (-18889465931478656360449 / 18889465931478580854784) (18889465931478656360449 / 18889465931478580854784) (193428131138342682519148293 / 43556142965880123323311949751266331066368) (-37778931862957304332289 / 37778931862957161709568) (37778931862957304332289 / 37778931862957161709568) (43521329506127135675254081 / 10889035741470030830827987437816582766592) sT p_y b_n (by decide +kernel)
  have h7 : Dy.Has s7 ((Dy.val y) / τ) := Dy.has_div p_y.rk b_n.rk g7 ey u1
  obtain ⟨a_y, c_y⟩ := by_root (x := Dy.val y) (s := (Dy.val x * Dy.val x + Dy.val y * Dy.val y + Dy.val z * Dy.val z)) τ0 k1.2.2.2 (by grind)
  obtain ⟨g8, b8⟩ := bd_within (-1) 1 b7 (by have := h7.lo; grind) (by have := h7.hi; grind) (by decide +kernel)
  obtain ⟨s9, g9, b9⟩ := Dy.bs_div (37778931862957304332289 / 37778931862957161709568) (-18889465931478656360449 / 18889465931478580854784) (18889465931478656360449 / 18889465931478580854784) (193428131138342682519148293 / 43556142965880123323311949751266331066368) (-37778931862957304332289 / 37778931862957161709568) (37778931862957304332289 / 37778931862957161709568) (43521329506127135675254081 / 10889035741470030830827987437816582766592) sT p_z b_n (by decide +kernel)
  have h9 : Dy.Has s9 ((Dy.val z) / τ) := Dy.has_div p_z.rk b_n.rk g9 ez u1
  obtain ⟨a_z, c_z⟩ := by_root (x := Dy.val z) (s := (Dy.val x * Dy.val x + Dy.val y * Dy.val y + Dy.val z * Dy.val z)) τ0 k1.2.2.2 (by grind)
  obtain ⟨g10, b10⟩ := bd_within (-1) 1 b9 (by have := h9.lo; grind) (by have := h9.hi; grind) (by decide +kernel)
  have eM : unitM (Dy.enc x) (Dy.enc y) (Dy.enc z) 0 = ((Dy.E (rWithin s5), Dy.E (rWithin s7), Dy.E (rWithin s9)), 0) := by
    unfold unitM
    refine (Dy.cs_num gx.1).trans ?_
    refine (Dy.cs_num gy.1).trans ?_
    refine (Dy.cs_num gz.1).trans ?_
    refine (Dy.cs_sqr g_x.1).trans ?_
    refine (Dy.cs_sqr g_y.1).trans ?_
    refine (Dy.cs_add g1.1).trans ?_
    refine (Dy.cs_sqr g_z.1).trans ?_
    refine (Dy.cs_add g2.1).trans ?_
    refine (Dy.cs_sqrt g_n.1).trans ?_
    refine (Dy.cs_div g5.1).trans ?_
    refine (Dy.cm_p g6).trans ?_
    refine (Dy.cs_div g7.1).trans ?_
    refine (Dy.cm_p g8).trans ?_
    refine (Dy.cs_div g9.1).trans ?_
    refine (Dy.cm_p g10).trans ?_
    exact rfl
  have eG : unitG (Dy.enc x) (Dy.enc y) (Dy.enc z) = ((Dy.E (rWithin s5), Dy.E (rWithin s7), Dy.E (rWithin s9)), 0) := by
    rw [unitG_mid cx.rk.lo cy.rk.lo cz.rk.lo (by omega) (by omega), eM]
  exact ⟨(rWithin s5), (rWithin s7), (rWithin s9), eG, b6.mono (by decide +kernel), b8.mono (by decide +kernel), b10.mono (by decide +kernel)⟩
end Go.Proofs.Ytikiegcncliocaa
