/- Plain facts: rings of cosines of a cap: a round, the end. -/
import Derived.Test.YtikiegcncliocaaSp
import Derived.Test.YtikiegcncliocaaLm
namespace Go.Proofs.Ytikiegcncliocaa
open Go Go.RowKit

theorem cap_has {p q : Int × Int} {x c : Rat} (hp : Un p) (hq : Un q) (hx : Dy.Has p x) (hc : Dy.Has q c) : ∃ s, Dy.Got (lamC (Dy.E p) (Dy.E q)) s ∧ Dy.Has s (x * (1 - c * c)) := by
  have a := hp.rk.le; have b := hq.rk.le; have a0 := hp.lo; have b0 := hq.lo; have b1 := hq.hi
  have s1 := sq_un (up := false) b0 (Int.le_trans b b1)
  have s2 := sq_un (up := true) (Int.le_trans b0 b) b1
  have s12 : Dy.mulR q.1 q.1 false ≤ Dy.mulR q.2 q.2 true := Int.le_trans (Dy.mulR_le _ _) (Dy.sq_mono b0 b)
  have hs := Un.mk' s1.1 s12 s2.2
  have gs : Dy.Got (Dy.cSqr 0 (Dy.E q)) (Dy.mulR q.1 q.1 false, Dy.mulR q.2 q.2 true) := by
    rw [Dy.cSqr_E hq.rk, show Dy.rBare q = q from by unfold Dy.rBare; rw [if_pos b0]]
    exact Dy.got_ok s12 hs.rk.lo hs.rk.hi
  have t1 := rest_un (up := false) s2.1 s2.2
  have t2 := rest_un (up := true) s1.1 s1.2
  have t12 : Dy.fl (Dy.V Dy.I1 - Dy.V (Dy.mulR q.2 q.2 true)) 1 false ≤ Dy.fl (Dy.V Dy.I1 - Dy.V (Dy.mulR q.1 q.1 false)) 1 true := Int.le_trans (rest_mono s12) (Dy.fl_le_up (by decide))
  have ht := Un.mk' t1.1 t12 t2.2
  have gt : Dy.Got (Dy.cSub 0 (Dy.E (Dy.I1, Dy.I1)) (Dy.E (Dy.mulR q.1 q.1 false, Dy.mulR q.2 q.2 true))) (Dy.fl (Dy.V Dy.I1 - Dy.V (Dy.mulR q.2 q.2 true)) 1 false, Dy.fl (Dy.V Dy.I1 - Dy.V (Dy.mulR q.1 q.1 false)) 1 true) := by
    rw [Dy.cSub_E un_one.rk hs.rk]
    exact Dy.got_ok t12 ht.rk.lo ht.rk.hi
  have v1 : Dy.val Dy.I1 = 1 := (Dy.val_q (z := 4607182418800017408) (num := 1) (den := 1) (by decide) (by decide +kernel)).trans (by decide +kernel)
  have ho : Dy.Has (Dy.I1, Dy.I1) 1 := ⟨by rw [v1]; exact Rat.le_refl, by rw [v1]; exact Rat.le_refl⟩
  refine ⟨_, ?_, Dy.has_mul hp.rk ht.rk (mul_got hp ht) hx (Dy.has_sub un_one.rk hs.rk gt ho (Dy.has_sqr hq.rk gs hc))⟩
  unfold lamC
  refine lam2_got hp hq ?_
  unfold capF
  rw [gs.1, one_E]
  dsimp only
  rw [gt.1]
  exact mul_got hp ht
theorem cap_whole {z : Int} (h0 : 0 ≤ z) (h1 : z ≤ Dy.I1) : Dy.Got (lamC (Dy.E (z, z)) (Dy.E (0, 0))) (z, z) := by
  have g := got_cap (Un.pt h0 h1) (Un.pt (Int.le_refl 0) (by decide))
  have one : ∀ up, Dy.fl (Dy.V Dy.I1 - Dy.V 0) 1 up = Dy.I1 := fun up => by
    have := Dy.fl_V Dy.I1 1 (by decide) up
    rw [Dy.V_zero, Int.sub_zero]; rwa [show Dy.V Dy.I1 * ((1 : Nat) : Int) = Dy.V Dy.I1 from by omega] at this
  have m1 : ∀ up, Dy.mulR z Dy.I1 up = z := fun up => by unfold Dy.mulR; rw [Dy.V_one]; exact Dy.fl_V z _ Dy.one_pos up
  have l : capLo z 0 = z := by unfold capLo; rw [Dy.mulR_0, one, m1]
  have u : capHi z 0 = z := by unfold capHi; rw [Dy.mulR_0, one, m1]
  have e : ((capLo z 0, capHi z 0) : Int × Int) = (z, z) := by rw [l, u]
  rw [show (capLo ((z, z) : Int × Int).1 ((0, 0) : Int × Int).2, capHi ((z, z) : Int × Int).2 ((0, 0) : Int × Int).1) = (z, z) from e] at g
  exact g
/-- Around: twice the albedo. -/
theorem ring_around {z : Int} (h0 : 0 ≤ z) (h1 : z ≤ Dy.I1) : ∃ f r1 r0 : Int × Int, Dy.Got (lamV (Dy.E (z, z))) f ∧ Dy.Got (Dy.cMul 0 (Dy.E (4611686018427387904, 4611686018427387904)) (Dy.E Dy.piP)) r1 ∧ Dy.Got (Dy.cMul 0 (Dy.E r1) (Dy.E f)) r0 ∧ Dy.Bd r0 0 3 (1 / 281474976710656) ∧ Dy.Has r0 (2 * Dy.val z) ∧ 0 ≤ Dy.val z ∧ Dy.val z ≤ 1 := by
  have v1 : Dy.val Dy.I1 = 1 := (Dy.val_q (z := 4607182418800017408) (num := 1) (den := 1) (by decide) (by decide +kernel)).trans (by decide +kernel)
  have vz := Dy.val_le.2 h0; have vy := Dy.val_le.2 h1
  rw [Dy.val_zero] at vz; rw [v1] at vy
  have uz := Un.pt h0 h1
  have bz : Dy.Bd (z, z) 0 1 0 := ⟨uz.rk, vz, vy, by show Dy.val z - Dy.val z ≤ 0; grind⟩
  have hz := Dy.has_pt z
  obtain ⟨b1, y1, h1⟩ := Dy.bd_pi
  obtain ⟨s2, g2, b2⟩ := Dy.bd_div (3228045746235693164742483537269 / 10141204801825835211973625643008) 0 (6456091492471387763025251880203 / 20282409603651670423947251286016) (8116845360405056611351751 / 43556142965880123323311949751266331066368) 0 (3228045746235693164742483537269 / 10141204801825835211973625643008) (1959836719666200935191923 / 43556142965880123323311949751266331066368) bz b1 (by decide +kernel)
  have h2 : Dy.Has s2 ((Dy.val z) / Dy.piQ) := Dy.has_div bz.rk b1.rk g2 hz h1
  obtain ⟨g3, b3, h3⟩ := Dy.bd_num (x := 4611686018427387904) (z := 4611686018427387904) (num := 2) (den := 1) (Dy.ok_B (by decide) (by decide)) (by decide) (by decide) (by decide +kernel)
  have c3 : Dy.Bd ((4611686018427387904 : Int), (4611686018427387904 : Int)) 2 2 0 := b3.mono (by decide +kernel)
  have e3 : Dy.Has ((4611686018427387904 : Int), (4611686018427387904 : Int)) ((2 : Rat)) := (show ((2 : Int) : Rat) / (((1 : Nat) : Int) : Rat) = 2 from by decide +kernel) ▸ h3
  obtain ⟨s4, g4, b4⟩ := Dy.bd_mul (7074237752028441 / 1125899906842624) (237372029602271099338901 / 37778931862957161709568) (237372029602271238307691 / 37778931862957161709568) (160220105384030980618059777 / 43556142965880123323311949751266331066368) (884279719003555 / 140737488355328) (7074237752028441 / 1125899906842624) 2 (7074237752028441 / 2251799813685248) c3 b1 (by decide +kernel)
  have h4 : Dy.Has s4 ((2 : Rat) * Dy.piQ) := Dy.has_mul c3.rk b1.rk g4 e3 h1
  obtain ⟨s5, g5, b5⟩ := Dy.bd_mul (18889465931478591913569 / 9444732965739290427392) 0 (18889465931478596107873 / 9444732965739290427392) (140684913245959881450944475 / 43556142965880123323311949751266331066368) 0 (1532495540865889755553566852065133889231691277585541273 / 766247770432944429179173513575154591809369561091801088) (237372029602271238307691 / 37778931862957161709568) (6456091492471387763025251880203 / 20282409603651670423947251286016) b4 b2 (by decide +kernel)
  have h5 : Dy.Has s5 (((2 : Rat) * Dy.piQ) * ((Dy.val z) / Dy.piQ)) := Dy.has_mul b4.rk b2.rk g5 h4 h2
  obtain ⟨s', _, gv, gd⟩ := got_value uz
  have e : s' = s2 := gd.uniq g2
  subst e
  refine ⟨_, _, _, gv, g4, g5, b5.mono (by decide +kernel), ?_, vz, vy⟩
  have hh := h5
  have pp := pi_pos
  have eq : (2 : Rat) * Dy.piQ * (Dy.val z / Dy.piQ) = 2 * Dy.val z := by grind
  have e2 : (((2 : Rat) * Dy.piQ) * ((Dy.val z) / Dy.piQ)) = 2 * Dy.val z := by grind
  rw [e2] at hh; exact hh
theorem rr_5 : Dy.rr 400 ≤ 1 / 8796093022208 := by decide +kernel
theorem rr_5n : (0 : Rat) ≤ Dy.rr 400 := by decide +kernel
/-- A sum and a part of it. -/
theorem add_pr {L p : Int × Int} {B W s x : Rat} (bp : Dy.Bd p (-(7 / 2)) (7 / 2) (1 / 35184372088832)) (B1 : 1 ≤ B) (B2 : B ≤ 300) (bL : Dy.Bd L (-B) B W) (hL : Dy.Has L s) (hp : Dy.Has p x) :
    ∃ L', Dy.Got (Dy.cAdd 0 (Dy.E L) (Dy.E p)) L' ∧ Dy.Bd L' (-(B + 4)) (B + 4) (W + 1 / 2199023255552) ∧ Dy.Has L' (s + x) := by
  have r1 := rr_5; have r0 := rr_5n
  obtain ⟨L', g, b⟩ := Dy.bd_add 400 (-(B + 4)) (B + 4) (W + 1 / 2199023255552) bL bp ⟨by grind, by grind, by grind, by grind, by grind, by grind, by grind⟩
  exact ⟨L', g, b, Dy.has_add bL.rk bp.rk g hL hp⟩
set_option maxHeartbeats 2000000 in
theorem rings_step {x y : Int} {rho B W sl sh : Rat} {r0 L H : Int × Int} (br : Dy.Bd r0 0 3 (1 / 281474976710656)) (hr : Dy.Has r0 (2 * rho)) (x0 : 0 ≤ x) (xy : x ≤ y) (y1 : y ≤ 4607182418800017408)
    (B1 : 1 ≤ B) (B2 : B ≤ 300) (bL : Dy.Bd L (-B) B W) (bH : Dy.Bd H (-B) B W) (hL : Dy.Has L sl) (hH : Dy.Has H sh) :
    ∃ wd p1 p2 L' p3 p4 H' : Int × Int, Dy.Got (Dy.cSub 0 (Dy.E (y, y)) (Dy.E (x, x))) wd ∧ Dy.Got (Dy.cMul 0 (Dy.E r0) (Dy.E (x, x))) p1 ∧ Dy.Got (Dy.cMul 0 (Dy.E p1) (Dy.E wd)) p2 ∧ Dy.Got (Dy.cAdd 0 (Dy.E L) (Dy.E p2)) L' ∧ Dy.Got (Dy.cMul 0 (Dy.E r0) (Dy.E (y, y))) p3 ∧ Dy.Got (Dy.cMul 0 (Dy.E p3) (Dy.E wd)) p4 ∧ Dy.Got (Dy.cAdd 0 (Dy.E H) (Dy.E p4)) H' ∧
      Dy.Bd L' (-(B + 4)) (B + 4) (W + 1 / 2199023255552) ∧ Dy.Bd H' (-(B + 4)) (B + 4) (W + 1 / 2199023255552) ∧ Dy.Has L' (sl + 2 * rho * Dy.val x * (Dy.val y - Dy.val x)) ∧ Dy.Has H' (sh + 2 * rho * Dy.val y * (Dy.val y - Dy.val x)) ∧ 0 ≤ Dy.val x ∧ Dy.val x ≤ Dy.val y ∧ Dy.val y ≤ 1 := by
  have ox : Dy.ok x := Dy.ok_B (by unfold Dy.B10; omega) (by unfold Dy.B10; omega)
  have oy : Dy.ok y := Dy.ok_B (by unfold Dy.B10; omega) (by unfold Dy.B10; omega)
  have vx := Dy.val_le.2 x0; have vxy := Dy.val_le.2 xy; have vy := Dy.val_le.2 y1
  rw [Dy.val_zero] at vx
  rw [Dy.val_q (z := 4607182418800017408) (num := 1) (den := 1) (by decide) (by decide +kernel)] at vy
  have vy : Dy.val y ≤ 1 := Rat.le_trans vy (by decide +kernel)
  have by' : Dy.Bd (y, y) 0 1 0 := ⟨Dy.rk_pt oy, Rat.le_trans vx vxy, vy, by show Dy.val y - Dy.val y ≤ 0; grind⟩
  have bx : Dy.Bd (x, x) 0 1 0 := ⟨Dy.rk_pt ox, vx, Rat.le_trans vxy vy, by show Dy.val x - Dy.val x ≤ 0; grind⟩
  obtain ⟨s1, g1, b1⟩ := Dy.bd_sub 1 (-37778931862957170098177 / 37778931862957161709568) (37778931862957170098177 / 37778931862957161709568) (19342813113834066795298817 / 43556142965880123323311949751266331066368) by' bx (by decide +kernel)
  have h1 : Dy.Has s1 ((Dy.val y) - (Dy.val x)) := Dy.has_sub by'.rk bx.rk g1 (Dy.has_pt y) (Dy.has_pt x)
  obtain ⟨s2, g2, b2⟩ := Dy.bd_mul 3 0 (113336795588871510294529 / 37778931862957161709568) (212770944252174734748286977 / 43556142965880123323311949751266331066368) 0 3 3 1 br bx (by decide +kernel)
  have h2 : Dy.Has s2 ((2 * rho) * (Dy.val x)) := Dy.has_mul br.rk bx.rk g2 hr (Dy.has_pt x)
  obtain ⟨s3, g3, b3⟩ := Dy.bd_mul (113336795588871535460357 / 37778931862957161709568) (-113336795588871560626181 / 37778931862957161709568) (113336795588871560626181 / 37778931862957161709568) (328827822935179221419434501 / 43556142965880123323311949751266331066368) (-4281743078117881544650909366420250589115973633 / 1427247692705959881058285969449495136382746624) (4281743078117881544650909366420250589115973633 / 1427247692705959881058285969449495136382746624) (113336795588871510294529 / 37778931862957161709568) (37778931862957170098177 / 37778931862957161709568) b2 b1 (by decide +kernel)
  have h3 : Dy.Has s3 (((2 * rho) * (Dy.val x)) * ((Dy.val y) - (Dy.val x))) := Dy.has_mul b2.rk b1.rk g3 h2 h1
  obtain ⟨s4, g4, b4⟩ := Dy.bd_mul 3 0 (113336795588871510294529 / 37778931862957161709568) (212770944252174734748286977 / 43556142965880123323311949751266331066368) 0 3 3 1 br by' (by decide +kernel)
  have h4 : Dy.Has s4 ((2 * rho) * (Dy.val y)) := Dy.has_mul br.rk by'.rk g4 hr (Dy.has_pt y)
  obtain ⟨s5, g5, b5⟩ := Dy.bd_mul (113336795588871535460357 / 37778931862957161709568) (-113336795588871560626181 / 37778931862957161709568) (113336795588871560626181 / 37778931862957161709568) (328827822935179221419434501 / 43556142965880123323311949751266331066368) (-4281743078117881544650909366420250589115973633 / 1427247692705959881058285969449495136382746624) (4281743078117881544650909366420250589115973633 / 1427247692705959881058285969449495136382746624) (113336795588871510294529 / 37778931862957161709568) (37778931862957170098177 / 37778931862957161709568) b4 b1 (by decide +kernel)
  have h5 : Dy.Has s5 (((2 * rho) * (Dy.val y)) * ((Dy.val y) - (Dy.val x))) := Dy.has_mul b4.rk b1.rk g5 h4 h1
  obtain ⟨L', gL, bL', hL'⟩ := add_pr (b3.mono (by decide +kernel)) B1 B2 bL hL h3
  obtain ⟨H', gH, bH', hH'⟩ := add_pr (b5.mono (by decide +kernel)) B1 B2 bH hH h5
  exact ⟨_, _, _, L', _, _, H', g1, g2, g3, gL, g4, g5, gH, bL', bH', hL', hH', vx, vxy, vy⟩
theorem lo_step {rho x y sl F : Rat} (r0 : 0 ≤ rho) (x0 : 0 ≤ x) (xy : x ≤ y) (h : sl ≤ F) : sl + 2 * rho * x * (y - x) ≤ F + rho * (y * y - x * x) := by
  have := Rat.mul_nonneg r0 (sqS (y - x)); grind
theorem hi_step {rho x y sh F : Rat} (r0 : 0 ≤ rho) (x0 : 0 ≤ x) (xy : x ≤ y) (h : F ≤ sh) : F + rho * (y * y - x * x) ≤ sh + 2 * rho * y * (y - x) := by
  have := Rat.mul_nonneg r0 (sqS (y - x)); grind
theorem gap_step {rho x y sl sh G dlt : Rat} (r0 : 0 ≤ rho) (xy : x ≤ y) (hd : y - x ≤ dlt) (h : sh - sl ≤ G) : (sh + 2 * rho * y * (y - x)) - (sl + 2 * rho * x * (y - x)) ≤ G + 2 * rho * (dlt * dlt) := by
  have s := sq_mono (C := y - x) (E := dlt) (by grind) hd
  have := Rat.mul_nonneg r0 (show 0 ≤ dlt * dlt - (y - x) * (y - x) by grind)
  grind
end Go.Proofs.Ytikiegcncliocaa
