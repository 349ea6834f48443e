/- Plain facts: rings of mirrors: a round. -/
import Derived.Test.YtikiegcncliocaaSo
namespace Go.Proofs.Ytikiegcncliocaa
open Go Go.RowKit

theorem sqS (x : Rat) : 0 ≤ x * x := by
  by_cases h : 0 ≤ x
  · exact Rat.mul_nonneg h h
  · have := Rat.mul_nonneg (show 0 ≤ -x by grind) (show 0 ≤ -x by grind); grind
theorem addS {a b c d : Rat} (h : a ≤ b) (k : c ≤ d) : a + c ≤ b + d := by grind
theorem q_pos {A C : Rat} (A0 : 0 < A) (A1 : A ≤ 1) (c0 : 0 ≤ C) (c1 : C ≤ 1) : 0 < (A - 1) * (C * C) + 1 := by
  have s : C * C ≤ 1 := by have := Rat.mul_le_mul_of_nonneg_left c1 c0; grind
  have t := Rat.mul_nonneg (show 0 ≤ 1 - A by grind) (show 0 ≤ 1 - C * C by grind)
  grind
theorem sq_mono {C E : Rat} (c0 : 0 ≤ C) (ce : C ≤ E) : C * C ≤ E * E := by
  have a := Rat.mul_le_mul_of_nonneg_left ce c0
  have b := Rat.mul_le_mul_of_nonneg_right ce (show 0 ≤ E by grind)
  grind
theorem ring_eq {A C E q r : Rat} (hq : q = (A - 1) * (C * C) + 1) (hr : r = (A - 1) * (E * E) + 1) (q0 : q ≠ 0) (r0 : r ≠ 0) : (1 - C * C) / q - (1 - E * E) / r = A * (E * E - C * C) / (q * r) := by
  have e : (1 - C * C) * r - (1 - E * E) * q = A * (E * E - C * C) := by rw [hq, hr]; grind
  grind
theorem part_eq {A P q C w : Rat} (P0 : P ≠ 0) (q0 : q ≠ 0) : 2 * P * (A / (P * (q * q))) * C * w = 2 * A * C * w / (q * q) := by grind
theorem quo_sw {u q r : Rat} (q0 : q ≠ 0) : u / (q * q) * (q * r) = u * r / q := by grind
theorem ring_lo {A C E q r : Rat} (A0 : 0 < A) (c0 : 0 ≤ C) (ce : C ≤ E) (q0 : 0 < q) (r0 : 0 < r) (rq : r ≤ q) : 2 * A * C * (E - C) / (q * q) ≤ A * (E * E - C * C) / (q * r) := by
  have qr := Rat.mul_pos q0 r0
  have n1 : 0 ≤ 2 * A * C * (E - C) := Rat.mul_nonneg (Rat.mul_nonneg (by grind) c0) (by grind)
  have w2 := Rat.mul_nonneg (show 0 ≤ A by grind) (sqS (E - C))
  refine Dy.le_quo qr ?_
  rw [quo_sw (by grind)]
  refine Rat.le_trans (Dy.quo_le q0 (Rat.mul_le_mul_of_nonneg_left rq n1)) ?_
  grind
theorem ring_hi {A C E q r : Rat} (A0 : 0 < A) (c0 : 0 ≤ C) (ce : C ≤ E) (q0 : 0 < q) (r0 : 0 < r) (rq : r ≤ q) : A * (E * E - C * C) / (q * r) ≤ 2 * A * E * (E - C) / (r * r) := by
  have qr := Rat.mul_pos q0 r0
  have n1 : 0 ≤ 2 * A * E * (E - C) := Rat.mul_nonneg (Rat.mul_nonneg (by grind) (by grind)) (by grind)
  have w2 := Rat.mul_nonneg (show 0 ≤ A by grind) (sqS (E - C))
  refine Dy.quo_le qr ?_
  rw [Rat.mul_comm q r, quo_sw (by grind)]
  refine Rat.le_trans ?_ (Dy.le_quo r0 (Rat.mul_le_mul_of_nonneg_left rq n1))
  grind
theorem pi_pos : (0 : Rat) < Dy.piQ := by have := Dy.bd_pi.2.2.lo; have := Dy.bd_pi.1.lo; grind
theorem has_loP {p : Int × Int} (h : Dy.Rk p) : Dy.Has p (Dy.val p.1) := ⟨Rat.le_refl, Dy.val_le.2 h.le⟩
theorem has_hiP {p : Int × Int} (h : Dy.Rk p) : Dy.Has p (Dy.val p.2) := ⟨Dy.val_le.2 h.le, Rat.le_refl⟩
theorem rr_M : Dy.rr 2000000 ≤ 1 := by decide +kernel
theorem rr_nn : (0 : Rat) ≤ Dy.rr 2000000 := by decide +kernel
theorem around_num : ∃ r0 : Int × Int, Dy.Got (Dy.cMul 0 (Dy.E (4611686018427387904, 4611686018427387904)) (Dy.E Dy.piP)) r0 ∧ Dy.Bd r0 6 7 1 ∧ Dy.Has r0 (2 * Dy.piQ) := by
  obtain ⟨g1, b1, h1⟩ := Dy.bd_num (x := 4611686018427387904) (z := 4611686018427387904) (num := 2) (den := 1) (Dy.ok_B (by decide) (by decide)) (by decide) (by decide) (by decide +kernel)
  have c1 : Dy.Bd ((4611686018427387904 : Int), (4611686018427387904 : Int)) 2 2 0 := b1.mono (by decide +kernel)
  have e1 : Dy.Has ((4611686018427387904 : Int), (4611686018427387904 : Int)) ((2 : Rat)) := (show ((2 : Int) : Rat) / (((1 : Nat) : Int) : Rat) = 2 from by decide +kernel) ▸ h1
  obtain ⟨b2, y2, h2⟩ := Dy.bd_pi
  obtain ⟨s3, g3, b3⟩ := Dy.bd_mul (7074237752028441 / 1125899906842624) (237372029602271099338901 / 37778931862957161709568) (237372029602271238307691 / 37778931862957161709568) (160220105384030980618059777 / 43556142965880123323311949751266331066368) (884279719003555 / 140737488355328) (7074237752028441 / 1125899906842624) 2 (7074237752028441 / 2251799813685248) c1 b2 (by decide +kernel)
  have h3 : Dy.Has s3 ((2 : Rat) * Dy.piQ) := Dy.has_mul c1.rk b2.rk g3 e1 h2
  exact ⟨s3, g3, b3.mono (by decide +kernel), h3⟩
/-- A sum and a number. -/
theorem add_pt {L : Int × Int} {z : Int} {B : Rat} (oz : Dy.ok z) (z1 : -15000 ≤ Dy.val z) (z2 : Dy.val z ≤ 15000) (B1 : 1 ≤ B) (B2 : B ≤ 1500000) (bL : Dy.Bd L (-B) B (2 * B)) :
    ∃ L', Dy.Got (Dy.cAdd 0 (Dy.E L) (Dy.E (z, z))) L' ∧ Dy.Bd L' (-(B + 20000)) (B + 20000) (2 * (B + 20000)) ∧ Dy.val L'.1 ≤ Dy.val L.1 + Dy.val z ∧ Dy.val L.2 + Dy.val z ≤ Dy.val L'.2 := by
  have bz : Dy.Bd (z, z) (-15000) 15000 0 := ⟨Dy.rk_pt oz, z1, z2, by show Dy.val z - Dy.val z ≤ 0; grind⟩
  have r1 := rr_M; have r0 := rr_nn
  obtain ⟨L', g, b⟩ := Dy.bd_add 2000000 (-(B + 20000)) (B + 20000) (2 * (B + 20000)) bL bz ⟨by grind, by grind, by grind, by grind, by grind, by grind, by grind⟩
  exact ⟨L', g, b, (Dy.has_add bL.rk bz.rk g (has_loP bL.rk) (Dy.has_pt z)).lo, (Dy.has_add bL.rk bz.rk g (has_hiP bL.rk) (Dy.has_pt z)).hi⟩
set_option maxHeartbeats 2000000 in
theorem once_step {a x y : Int} {A f B : Rat} {s r0 L H : Int × Int} (ea : Dy.Got (Dy.cSqr 0 (Dy.E (a, a))) s) (bs : Dy.Bd s (633825300114105693549096861695 / 40564819207303340847894502572032) (37778931862957170098177 / 37778931862957161709568) (19342813113834066795298817 / 43556142965880123323311949751266331066368)) (hs : Dy.Has s A) (A0 : 0 < A) (A1 : A ≤ 1) (br : Dy.Bd r0 6 7 1) (hr : Dy.Has r0 (2 * Dy.piQ)) (x0 : 0 ≤ x) (xy : x ≤ y) (y1 : y ≤ 4607182418800017408)
    (B1 : 1 ≤ B) (B2 : B ≤ 1500000) (bL : Dy.Bd L (-B) B (2 * B)) (bH : Dy.Bd H (-B) B (2 * B)) (lL : Dy.val L.1 ≤ f) (lH : f ≤ Dy.val H.2) :
    ∃ v p1 p2 wd p3 L' H' : Int × Int, dM (Dy.E (x, y)) (Dy.E (a, a)) 0 = (Dy.E v, 0) ∧ Dy.Got (Dy.cMul 0 (Dy.E r0) (Dy.E v)) p1 ∧ Dy.Got (Dy.cMul 0 (Dy.E p1) (Dy.E (x, y))) p2 ∧ Dy.Got (Dy.cSub 0 (Dy.E (y, y)) (Dy.E (x, x))) wd ∧ Dy.Got (Dy.cMul 0 (Dy.E p2) (Dy.E wd)) p3 ∧
      Dy.Got (Dy.cAdd 0 (Dy.E L) (Dy.E (p3.1, p3.1))) L' ∧ Dy.Got (Dy.cAdd 0 (Dy.E H) (Dy.E (p3.2, p3.2))) H' ∧ Dy.Rk p3 ∧ Dy.Bd L' (-(B + 20000)) (B + 20000) (2 * (B + 20000)) ∧ Dy.Bd H' (-(B + 20000)) (B + 20000) (2 * (B + 20000)) ∧
      Dy.val L'.1 ≤ f + ((((1 : Rat) - (Dy.val x * Dy.val x)) / (((A - (1 : Rat)) * (Dy.val x * Dy.val x)) + (1 : Rat))) - (((1 : Rat) - (Dy.val y * Dy.val y)) / (((A - (1 : Rat)) * (Dy.val y * Dy.val y)) + (1 : Rat)))) ∧ f + ((((1 : Rat) - (Dy.val x * Dy.val x)) / (((A - (1 : Rat)) * (Dy.val x * Dy.val x)) + (1 : Rat))) - (((1 : Rat) - (Dy.val y * Dy.val y)) / (((A - (1 : Rat)) * (Dy.val y * Dy.val y)) + (1 : Rat)))) ≤ Dy.val H'.2 := by
  have ox : Dy.ok x := Dy.ok_B (by unfold Dy.B10; omega) (by unfold Dy.B10; omega)
  have oy : Dy.ok y := Dy.ok_B (by unfold Dy.B10; omega) (by unfold Dy.B10; omega)
  have vx := Dy.val_le.2 x0; have vxy := Dy.val_le.2 xy; have vy := Dy.val_le.2 y1
  rw [Dy.val_zero] at vx
  rw [Dy.val_q (z := 4607182418800017408) (num := 1) (den := 1) (by decide) (by decide +kernel)] at vy
  have vy : Dy.val y ≤ 1 := Rat.le_trans vy (by decide +kernel)
  have bk : Dy.Bd (x, y) 0 1 2 := ⟨⟨ox, oy, xy⟩, vx, vy, by show Dy.val y - Dy.val x ≤ 2; grind⟩
  have by' : Dy.Bd (y, y) 0 1 0 := ⟨Dy.rk_pt oy, Rat.le_trans vx vxy, vy, by show Dy.val y - Dy.val y ≤ 0; grind⟩
  have bx : Dy.Bd (x, x) 0 1 0 := ⟨Dy.rk_pt ox, vx, Rat.le_trans vxy vy, by show Dy.val x - Dy.val x ≤ 0; grind⟩
  obtain ⟨v, ev, bv, hv⟩ := d_once ea bs hs bk
  have kx : Dy.Has (x, y) (Dy.val x) := ⟨Rat.le_refl, vxy⟩
  have ky : Dy.Has (x, y) (Dy.val y) := ⟨vxy, Rat.le_refl⟩
  obtain ⟨s1, g1, b1⟩ := Dy.bd_mul 14000 0 (528905046081400381374464001 / 37778931862957161709568) (1135815013362357269655604372176897 / 37778931862957161709568) 0 14000 7 2000 br bv (by decide +kernel)
  obtain ⟨s2, g2, b2⟩ := Dy.bd_mul (528905046081400381374464001 / 37778931862957161709568) 0 (264452523040700249407488001 / 18889465931478580854784) (283954017793112358114150500532225 / 9444732965739290427392) 0 (528905046081400381374464001 / 37778931862957161709568) (528905046081400381374464001 / 37778931862957161709568) 1 b1 bk (by decide +kernel)
  obtain ⟨s3, g3, b3⟩ := Dy.bd_sub 1 (-37778931862957170098177 / 37778931862957161709568) (37778931862957170098177 / 37778931862957161709568) (19342813113834066795298817 / 43556142965880123323311949751266331066368) by' bx (by decide +kernel)
  obtain ⟨s4, g4, b4⟩ := Dy.bd_mul (528905046081400616255502003 / 37778931862957161709568) (-528905046081400733696014003 / 37778931862957161709568) (528905046081400733696014003 / 37778931862957161709568) (1135816071172449684658932619965749 / 37778931862957161709568) (-9990733848941725822573917474653781537996119474177 / 713623846352979940529142984724747568191373312) (9990733848941725822573917474653781537996119474177 / 713623846352979940529142984724747568191373312) (264452523040700249407488001 / 18889465931478580854784) (37778931862957170098177 / 37778931862957161709568) b2 b3 (by decide +kernel)
  have h1 := Dy.has_mul br.rk bv.rk g1 hr (hv _ kx)
  have h1' := Dy.has_mul br.rk bv.rk g1 hr (hv _ ky)
  have h2 := Dy.has_mul b1.rk bk.rk g2 h1 kx
  have h2' := Dy.has_mul b1.rk bk.rk g2 h1' ky
  have h3 := Dy.has_sub by'.rk bx.rk g3 (Dy.has_pt y) (Dy.has_pt x)
  have h4 := (Dy.has_mul b2.rk b3.rk g4 h2 h3).lo
  have h4' := (Dy.has_mul b2.rk b3.rk g4 h2' h3).hi
  have bp := b4.mono (L' := -15000) (H' := 15000) (w' := 1208925819614629174706176) (by decide +kernel)
  obtain ⟨L', gL, bL', vL, _⟩ := add_pt bp.rk.lo bp.lo (Rat.le_trans (Dy.val_le.2 bp.rk.le) bp.hi) B1 B2 bL
  obtain ⟨H', gH, bH', _, vH⟩ := add_pt bp.rk.hi (Rat.le_trans bp.lo (Dy.val_le.2 bp.rk.le)) bp.hi B1 B2 bH
  have q0 := q_pos A0 A1 vx (Rat.le_trans vxy vy)
  have r0' := q_pos A0 A1 (Rat.le_trans vx vxy) vy
  have sm := sq_mono vx vxy
  have rq : (A - 1) * (Dy.val y * Dy.val y) + 1 ≤ (A - 1) * (Dy.val x * Dy.val x) + 1 := by
    have := Rat.mul_nonneg (show 0 ≤ 1 - A by grind) (show 0 ≤ Dy.val y * Dy.val y - Dy.val x * Dy.val x by grind)
    grind
  have pp := pi_pos
  have re := ring_eq (A := A) (C := Dy.val x) (E := Dy.val y) rfl rfl (by grind) (by grind)
  have lo := ring_lo A0 vx vxy q0 r0' rq
  have hi := ring_hi A0 vx vxy q0 r0' rq
  rw [part_eq (by grind) (by grind)] at h4
  rw [part_eq (by grind) (by grind)] at h4'
  rw [← re] at lo hi
  refine ⟨v, _, _, _, _, L', H', ev, g1, g2, g3, g4, gL, gH, bp.rk, bL', bH', ?_, ?_⟩
  · exact Rat.le_trans vL (addS lL (Rat.le_trans h4 lo))
  · exact Rat.le_trans (addS lH (Rat.le_trans hi h4')) vH
end Go.Proofs.Ytikiegcncliocaa
