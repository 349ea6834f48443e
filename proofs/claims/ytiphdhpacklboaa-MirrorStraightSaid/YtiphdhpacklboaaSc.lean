/- Plain facts: turned unit vectors; what a mirror that looks straight up sends back. -/
import Derived.Test.YtiphdhpacklboaaSa
import Derived.Test.YtiphdhpacklboaaVm
namespace Go.Dy
theorem bare_neg (x : Int) : rBare (-x, -x) = rBare (x, x) := by
  unfold rBare rTurned
  dsimp only
  rcases Int.lt_trichotomy x 0 with h | h | h
  · rw [if_pos (by omega), if_neg (by omega), if_pos (by omega)]
  · subst h; rfl
  · rw [if_neg (by omega), if_pos (by omega), if_pos (by omega), Int.neg_neg]
theorem rk_pt {x : Int} (ox : ok x) : Rk (x, x) := ⟨ox, ox, Int.le_refl _⟩
theorem sqr_neg {x : Int} {s : Int × Int} (ox : ok x) (h : Got (cSqr 0 (E (x, x))) s) : Got (cSqr 0 (E (-x, -x))) s := by
  rw [cSqr_E (rk_pt ox)] at h
  rw [cSqr_E (rk_pt (ok_neg ox)), bare_neg]
  exact h
theorem divR_minus {x y : Int} (hy : 0 < y) (up : Bool) : divR (-x) y up = -divR x y (!up) := by
  rw [divR_pos hy, divR_pos hy, V_neg, Int.neg_mul, fl_neg]
theorem pin_neg (z : Int) : pin (-z) = -pin z := by
  have := top_eq
  unfold pin; omega
end Go.Dy
namespace Go.Proofs.Ytiphdhpacklboaa
open Go Go.RowKit

theorem div_turn {x : Int} {q d : Int × Int} (ox : Dy.ok x) (hq : Dy.Rk q) (q0 : 0 < q.1) (h : Dy.Got (Dy.cDiv 0 (Dy.E (x, x)) (Dy.E q)) d) : Dy.Got (Dy.cDiv 0 (Dy.E (-x, -x)) (Dy.E q)) (Dy.rTurned d) := by
  have hl := hq.le
  have h0 := nz_of (Dy.rk_pt ox) hq h
  rw [Dy.cDiv_E (Dy.rk_pt ox) hq h0] at h
  obtain ⟨_, c1, c2⟩ := Dy.res_err (congrArg (·.2) h.1)
  have lh : Dy.lo4 Dy.divR (x, x) q ≤ Dy.hi4 Dy.divR (x, x) q := by
    have := Dy.divR_le (a := x) (b := q.1) (by omega)
    unfold Dy.lo4 Dy.hi4; dsimp only; omega
  have hd := (Dy.got_of lh c1 c2).uniq h
  have m : ∀ up, Dy.divR (-x) q.1 up = -Dy.divR x q.1 (!up) := Dy.divR_minus q0
  have m' : ∀ up, Dy.divR (-x) q.2 up = -Dy.divR x q.2 (!up) := Dy.divR_minus (by omega)
  have e1 : Dy.lo4 Dy.divR (-x, -x) q = -Dy.hi4 Dy.divR (x, x) q := by
    unfold Dy.lo4 Dy.hi4; dsimp only; rw [m, m', Bool.not_false]; omega
  have e2 : Dy.hi4 Dy.divR (-x, -x) q = -Dy.lo4 Dy.divR (x, x) q := by
    unfold Dy.lo4 Dy.hi4; dsimp only; rw [m, m', Bool.not_true]; omega
  have g := Dy.got_of (z := -Dy.hi4 Dy.divR (x, x) q) (y := -Dy.lo4 Dy.divR (x, x) q) (by omega) (by omega) (by omega)
  rw [Dy.cDiv_E (Dy.rk_pt (Dy.ok_neg ox)) hq h0, e1, e2, ← hd]
  rw [Dy.pin_neg, Dy.pin_neg] at g
  exact g
theorem within_E {p : Int × Int} (hp : Dy.Rk p) (k1 : p.1 ≤ 4607182418800017408) (k2 : -4607182418800017408 ≤ p.2) : vWithin (Dy.E p) = Dy.E (rWithin p) := by
  have o1 : Dy.ok 4607182418800017408 := Dy.ok_B (by decide) (by decide)
  have om : Dy.ok (-4607182418800017408) := Dy.ok_neg o1
  have l := hp.le
  unfold vWithin iMeet
  show (if Dy.fgt (Dy.dmax (Dy.enc p.1) (Dy.enc (-4607182418800017408))) (Dy.dmin (Dy.enc p.2) (Dy.enc 4607182418800017408)) = true then ((0, 0), false) else ((Dy.dmax (Dy.enc p.1) (Dy.enc (-4607182418800017408)), Dy.dmin (Dy.enc p.2) (Dy.enc 4607182418800017408)), true)).1 = _
  rw [Dy.dmax_enc hp.lo om, Dy.dmin_enc hp.hi o1, Dy.fgt_enc (Dy.ok_max2 hp.lo om) (Dy.ok_min2 hp.hi o1), decide_eq_false (by omega), if_neg (by decide)]
  rfl
theorem rWithin_turn (p : Int × Int) : rWithin (Dy.rTurned p) = Dy.rTurned (rWithin p) := by
  unfold rWithin Dy.rTurned
  simp only [Prod.mk.injEq]
  omega
/-- A unit vector, by its steps. -/
theorem unit_of {x y z : Int} {p q r : Int × Int} (ox : Dy.ok x) (oy : Dy.ok y) (oz : Dy.ok z) (h : UnitSt x y z p q r) : unitM (Dy.enc x) (Dy.enc y) (Dy.enc z) 0 = ((Dy.E p, Dy.E q, Dy.E r), 0) := by
  obtain ⟨sx, sy, s, sz, t, n, dx, dy, dz, g1, g2, g3, g4, g5, g6, _, _, ⟨g7, r7, a7, b7, rfl⟩, ⟨g8, r8, a8, b8, rfl⟩, ⟨g9, r9, a9, b9, rfl⟩⟩ := h
  unfold unitM
  refine (Dy.cs_num (Dy.got_num ox).1).trans ?_
  refine (Dy.cs_num (Dy.got_num oy).1).trans ?_
  refine (Dy.cs_num (Dy.got_num oz).1).trans ?_
  refine (Dy.cs_sqr g1.1).trans ?_
  refine (Dy.cs_sqr g2.1).trans ?_
  refine (Dy.cs_add g3.1).trans ?_
  refine (Dy.cs_sqr g4.1).trans ?_
  refine (Dy.cs_add g5.1).trans ?_
  refine (Dy.cs_sqrt g6.1).trans ?_
  refine (Dy.cs_div g7.1).trans ?_
  refine (Dy.cm_p (within_E r7 a7 b7)).trans ?_
  refine (Dy.cs_div g8.1).trans ?_
  refine (Dy.cm_p (within_E r8 a8 b8)).trans ?_
  refine (Dy.cs_div g9.1).trans ?_
  refine (Dy.cm_p (within_E r9 a9 b9)).trans ?_
  exact rfl
theorem UnitSt.turnX {x y z : Int} {p q r : Int × Int} (ox : Dy.ok x) (h : UnitSt x y z p q r) : UnitSt (-x) y z (Dy.rTurned p) q r := by
  obtain ⟨sx, sy, s, sz, t, n, dx, dy, dz, g1, g2, g3, g4, g5, g6, k, k0, ⟨g7, r7, a7, b7, rfl⟩, c8, c9⟩ := h
  exact ⟨sx, sy, s, sz, t, n, Dy.rTurned dx, dy, dz, Dy.sqr_neg ox g1, g2, g3, g4, g5, g6, k, k0, ⟨div_turn ox k k0 g7, r7.turned, by show -dx.2 ≤ _; omega, by show _ ≤ -dx.1; omega, (rWithin_turn dx).symm⟩, c8, c9⟩
theorem UnitSt.turnY {x y z : Int} {p q r : Int × Int} (oy : Dy.ok y) (h : UnitSt x y z p q r) : UnitSt x (-y) z p (Dy.rTurned q) r := by
  obtain ⟨sx, sy, s, sz, t, n, dx, dy, dz, g1, g2, g3, g4, g5, g6, k, k0, c7, ⟨g8, r8, a8, b8, rfl⟩, c9⟩ := h
  exact ⟨sx, sy, s, sz, t, n, dx, Dy.rTurned dy, dz, g1, Dy.sqr_neg oy g2, g3, g4, g5, g6, k, k0, c7, ⟨div_turn oy k k0 g8, r8.turned, by show -dy.2 ≤ _; omega, by show _ ≤ -dy.1; omega, (rWithin_turn dy).symm⟩, c9⟩
theorem UnitSt.turnZ {x y z : Int} {p q r : Int × Int} (oz : Dy.ok z) (h : UnitSt x y z p q r) : UnitSt x y (-z) p q (Dy.rTurned r) := by
  obtain ⟨sx, sy, s, sz, t, n, dx, dy, dz, g1, g2, g3, g4, g5, g6, k, k0, c7, c8, ⟨g9, r9, a9, b9, rfl⟩⟩ := h
  exact ⟨sx, sy, s, sz, t, n, dx, dy, Dy.rTurned dz, g1, g2, g3, Dy.sqr_neg oz g4, g5, g6, k, k0, c7, c8, ⟨div_turn oz k k0 g9, r9.turned, by show -dz.2 ≤ _; omega, by show _ ≤ -dz.1; omega, (rWithin_turn dz).symm⟩⟩
theorem has_turn {p : Int × Int} {x : Rat} (h : Dy.Has p x) : Dy.Has (Dy.rTurned p) (-x) :=
  ⟨by show Dy.val (-p.2) ≤ -x; rw [Dy.val_neg]; have := h.hi; grind, by show -x ≤ Dy.val (-p.1); rw [Dy.val_neg]; have := h.lo; grind⟩
theorem mJ_E {p : Int × Int} (hp : Dy.Rk p) (l1 : -4607182418800017408 ≤ p.1) (l2 : p.2 ≤ 4607182418800017408) : mJ (Dy.enc p.1, Dy.enc p.2) = true := by
  have oI : Dy.ok 4607182418800017408 := Dy.ok_B (by decide) (by decide)
  have e1 : (Dy.fgt (Dy.enc p.1) 13830554455654793216 || Dy.feq (Dy.enc p.1) 13830554455654793216) = true := ge_true (y := -4607182418800017408) hp.lo (Dy.ok_neg oI) l1
  have e2 : (Dy.flt (Dy.enc p.2) 4607182418800017408 || Dy.feq (Dy.enc p.2) 4607182418800017408) = true := le_true (y := 4607182418800017408) hp.hi oI l2
  unfold mJ mW
  rw [show Dy.ivR (Dy.enc p.1, Dy.enc p.2) = true from hp.E_R, e1, e2]; rfl
set_option maxHeartbeats 2000000 in
/-- What a mirror that looks straight up sends back. -/
theorem refl_up {p q r : Int × Int} {x y z : Rat} (bp : Dy.Bd p (-1) 1 (1 / 281474976710656)) (bq : Dy.Bd q (-1) 1 (1 / 281474976710656)) (br : Dy.Bd r (-1) 1 (1 / 281474976710656)) (hp : Dy.Has p x) (hq : Dy.Has q y) (hr : Dy.Has r z) (kx : -1 ≤ x ∧ x ≤ 1) (ky : -1 ≤ y ∧ y ≤ 1) (kz : -1 ≤ z ∧ z ≤ 1) :
    ∃ a b c : Int × Int, reflG (Dy.E p) (Dy.E q) (Dy.E r) (0, 0) (0, 0) (4607182418800017408, 4607182418800017408) = ((Dy.E a, Dy.E b, Dy.E c), 0) ∧ (Dy.Rk a ∧ Dy.Has a (-x)) ∧ (Dy.Rk b ∧ Dy.Has b (-y)) ∧ (Dy.Rk c ∧ Dy.Has c z) := by
  have oI : Dy.ok 4607182418800017408 := Dy.ok_B (by decide) (by decide)
  have b0 : Dy.Bd ((0 : Int), (0 : Int)) 0 0 0 := (Dy.Bd.pt Dy.ok_zero Rat.le_refl Rat.le_refl).mono ⟨by rw [Dy.val_zero]; exact Rat.le_refl, by rw [Dy.val_zero]; exact Rat.le_refl, Rat.le_refl⟩
  have h0 : Dy.Has ((0 : Int), (0 : Int)) 0 := by have := Dy.Has.pt 0; rwa [Dy.val_zero] at this
  have b1 : Dy.Bd ((4607182418800017408 : Int), (4607182418800017408 : Int)) 1 1 0 := (Dy.Bd.pt oI Rat.le_refl Rat.le_refl).mono ⟨by rw [Dy.val_one]; exact Rat.le_refl, by rw [Dy.val_one]; exact Rat.le_refl, Rat.le_refl⟩
  have h1 : Dy.Has ((4607182418800017408 : Int), (4607182418800017408 : Int)) 1 := by have := Dy.Has.pt 4607182418800017408; rwa [Dy.val_one] at this
  obtain ⟨gm1, bm1, hm1⟩ := Dy.bd_num (x := 4611686018427387904) (z := 4611686018427387904) (num := 2) (den := 1) (Dy.ok_B (by decide) (by decide)) (by decide) (by decide) (by decide +kernel)
  have cm1 : Dy.Bd ((4611686018427387904 : Int), (4611686018427387904 : Int)) 2 2 0 := bm1.mono (by decide +kernel)
  have em1 : Dy.Has ((4611686018427387904 : Int), (4611686018427387904 : Int)) ((2 : Rat)) := (show ((2 : Int) : Rat) / (((1 : Nat) : Int) : Rat) = 2 from by decide +kernel) ▸ hm1
  obtain ⟨sm2, gm2, bm2⟩ := Dy.bd_mul 0 (-1 / 62165404551223330269422781018352605012557018849668464680057997111644937126566671941632) (1 / 62165404551223330269422781018352605012557018849668464680057997111644937126566671941632) (1 / 62165404551223330269422781018352605012557018849668464680057997111644937126566671941632) 0 0 1 0 bp b0 (by decide +kernel)
  have hm2 : Dy.Has sm2 (x * (0 : Rat)) := Dy.has_mul bp.rk b0.rk gm2 hp h0
  obtain ⟨sm3, gm3, bm3⟩ := Dy.bd_mul 0 (-1 / 62165404551223330269422781018352605012557018849668464680057997111644937126566671941632) (1 / 62165404551223330269422781018352605012557018849668464680057997111644937126566671941632) (1 / 62165404551223330269422781018352605012557018849668464680057997111644937126566671941632) 0 0 1 0 bq b0 (by decide +kernel)
  have hm3 : Dy.Has sm3 (y * (0 : Rat)) := Dy.has_mul bq.rk b0.rk gm3 hq h0
  obtain ⟨sm4, gm4, bm4⟩ := Dy.bd_add (1 / 31082702275611665134711390509176302506278509424834232340028998555822468563283335970816) (-3 / 62165404551223330269422781018352605012557018849668464680057997111644937126566671941632) (3 / 62165404551223330269422781018352605012557018849668464680057997111644937126566671941632) (3 / 62165404551223330269422781018352605012557018849668464680057997111644937126566671941632) bm2 bm3 (by decide +kernel)
  have hm4 : Dy.Has sm4 ((x * (0 : Rat)) + (y * (0 : Rat))) := Dy.has_add bm2.rk bm3.rk gm4 hm2 hm3
  obtain ⟨sm5, gm5, bm5⟩ := Dy.bd_mul 1 (-37778931862957170098177 / 37778931862957161709568) (37778931862957170098177 / 37778931862957161709568) (174085318024506601157689345 / 43556142965880123323311949751266331066368) (-1) 1 1 1 br b1 (by decide +kernel)
  have hm5 : Dy.Has sm5 (z * (1 : Rat)) := Dy.has_mul br.rk b1.rk gm5 hr h1
  obtain ⟨sm6, gm6, bm6⟩ := Dy.bd_add (18889465931478585049089 / 18889465931478580854784) (-18889465931478589243393 / 18889465931478580854784) (18889465931478589243393 / 18889465931478580854784) (96714065569170336123978241 / 21778071482940061661655974875633165533184) bm4 bm5 (by decide +kernel)
  have hm6 : Dy.Has sm6 (((x * (0 : Rat)) + (y * (0 : Rat))) + (z * (1 : Rat))) := Dy.has_add bm4.rk bm5.rk gm6 hm4 hm5
  obtain ⟨sm7, gm7, bm7⟩ := Dy.bd_mul (18889465931478589243393 / 9444732965739290427392) (-75557863725914373750789 / 37778931862957161709568) (75557863725914373750789 / 37778931862957161709568) (425541888504349495266381829 / 43556142965880123323311949751266331066368) (-18889465931478589243393 / 9444732965739290427392) (18889465931478589243393 / 9444732965739290427392) 2 (18889465931478589243393 / 18889465931478580854784) cm1 bm6 (by decide +kernel)
  have hm7 : Dy.Has sm7 ((2 : Rat) * (((x * (0 : Rat)) + (y * (0 : Rat))) + (z * (1 : Rat)))) := Dy.has_mul cm1.rk bm6.rk gm7 em1 hm6
  obtain ⟨sm8, gm8, bm8⟩ := Dy.bd_mul 0 (-1 / 62165404551223330269422781018352605012557018849668464680057997111644937126566671941632) (1 / 62165404551223330269422781018352605012557018849668464680057997111644937126566671941632) (1 / 62165404551223330269422781018352605012557018849668464680057997111644937126566671941632) 0 0 (75557863725914373750789 / 37778931862957161709568) 0 bm7 b0 (by decide +kernel)
  have hm8 : Dy.Has sm8 (((2 : Rat) * (((x * (0 : Rat)) + (y * (0 : Rat))) + (z * (1 : Rat)))) * (0 : Rat)) := Dy.has_mul bm7.rk b0.rk gm8 hm7 h0
  obtain ⟨sm10, gm10, bm10⟩ := Dy.bd_mul (75557863725914373750789 / 37778931862957161709568) (-37778931862957195264003 / 18889465931478580854784) (37778931862957195264003 / 18889465931478580854784) (232113757366008827313392899 / 21778071482940061661655974875633165533184) (-75557863725914373750789 / 37778931862957161709568) (75557863725914373750789 / 37778931862957161709568) (75557863725914373750789 / 37778931862957161709568) 1 bm7 b1 (by decide +kernel)
  have hm10 : Dy.Has sm10 (((2 : Rat) * (((x * (0 : Rat)) + (y * (0 : Rat))) + (z * (1 : Rat)))) * (1 : Rat)) := Dy.has_mul bm7.rk b1.rk gm10 hm7 h1
  obtain ⟨sm11, gm11, bm11⟩ := Dy.bd_sub (37778931862957161709569 / 37778931862957161709568) (-37778931862957170098177 / 37778931862957161709568) (37778931862957170098177 / 37778931862957161709568) (174085318024506601157689857 / 43556142965880123323311949751266331066368) bm8 bp (by decide +kernel)
  have hm11 : Dy.Has sm11 ((((2 : Rat) * (((x * (0 : Rat)) + (y * (0 : Rat))) + (z * (1 : Rat)))) * (0 : Rat)) - x) := Dy.has_sub bm8.rk bp.rk gm11 hm8 hp
  obtain ⟨sm12, gm12, bm12⟩ := Dy.bd_sub (37778931862957161709569 / 37778931862957161709568) (-37778931862957170098177 / 37778931862957161709568) (37778931862957170098177 / 37778931862957161709568) (174085318024506601157689857 / 43556142965880123323311949751266331066368) bm8 bq (by decide +kernel)
  have hm12 : Dy.Has sm12 ((((2 : Rat) * (((x * (0 : Rat)) + (y * (0 : Rat))) + (z * (1 : Rat)))) * (0 : Rat)) - y) := Dy.has_sub bm8.rk bq.rk gm12 hm8 hq
  obtain ⟨sm13, gm13, bm13⟩ := Dy.bd_sub (56668397794435776118787 / 18889465931478580854784) (-113336795588871577403399 / 37778931862957161709568) (113336795588871577403399 / 37778931862957161709568) (676998458984192423734814215 / 43556142965880123323311949751266331066368) bm10 br (by decide +kernel)
  have hm13 : Dy.Has sm13 ((((2 : Rat) * (((x * (0 : Rat)) + (y * (0 : Rat))) + (z * (1 : Rat)))) * (1 : Rat)) - z) := Dy.has_sub bm10.rk br.rk gm13 hm10 hr
  have eM : reflM (Dy.E p) (Dy.E q) (Dy.E r) (Dy.E ((0 : Int), (0 : Int))) (Dy.E ((0 : Int), (0 : Int))) (Dy.E ((4607182418800017408 : Int), (4607182418800017408 : Int))) 0 = ((Dy.E sm11, Dy.E sm12, Dy.E sm13), 0) := by
    unfold reflM
    refine (Dy.cs_num gm1.1).trans ?_
    refine (Dy.cs_mul gm2.1).trans ?_
    refine (Dy.cs_mul gm3.1).trans ?_
    refine (Dy.cs_add gm4.1).trans ?_
    refine (Dy.cs_mul gm5.1).trans ?_
    refine (Dy.cs_add gm6.1).trans ?_
    refine (Dy.cs_mul gm7.1).trans ?_
    refine (Dy.cs_mul gm8.1).trans ?_
    refine (Dy.cs_mul gm8.1).trans ?_
    refine (Dy.cs_mul gm10.1).trans ?_
    refine (Dy.cs_sub gm11.1).trans ?_
    refine (Dy.cs_sub gm12.1).trans ?_
    refine (Dy.cs_sub gm13.1).trans ?_
    exact rfl
  have mx : Dy.Has sm11 (-x) := by have h := hm11; rwa [show ((((2 : Rat) * (((x * (0 : Rat)) + (y * (0 : Rat))) + (z * (1 : Rat)))) * (0 : Rat)) - x) = -x by grind] at h
  have my : Dy.Has sm12 (-y) := by have h := hm12; rwa [show ((((2 : Rat) * (((x * (0 : Rat)) + (y * (0 : Rat))) + (z * (1 : Rat)))) * (0 : Rat)) - y) = -y by grind] at h
  have mz : Dy.Has sm13 z := by have h := hm13; rwa [show ((((2 : Rat) * (((x * (0 : Rat)) + (y * (0 : Rat))) + (z * (1 : Rat)))) * (1 : Rat)) - z) = z by grind] at h
  obtain ⟨e1, r1⟩ := Dy.clip_R (x := -4607182418800017408) (y := 4607182418800017408) (l := 13830554455654793216) (h := 4607182418800017408) bm11.rk (Dy.ok_neg oI) oI (by decide) (by decide)
  obtain ⟨e2, r2⟩ := Dy.clip_R (x := -4607182418800017408) (y := 4607182418800017408) (l := 13830554455654793216) (h := 4607182418800017408) bm12.rk (Dy.ok_neg oI) oI (by decide) (by decide)
  obtain ⟨e3, r3⟩ := Dy.clip_R (x := -4607182418800017408) (y := 4607182418800017408) (l := 13830554455654793216) (h := 4607182418800017408) bm13.rk (Dy.ok_neg oI) oI (by decide) (by decide)
  have v1 : Dy.val (-4607182418800017408) = -1 := by rw [Dy.val_neg, Dy.val_one]
  refine ⟨_, _, _, ?_, ⟨r1, Dy.has_clip mx (by rw [v1]; grind) (by rw [Dy.val_one]; grind)⟩, ⟨r2, Dy.has_clip my (by rw [v1]; grind) (by rw [Dy.val_one]; grind)⟩, ⟨r3, Dy.has_clip mz (by rw [v1]; grind) (by rw [Dy.val_one]; grind)⟩⟩
  have eM' : reflM (Dy.E p) (Dy.E q) (Dy.E r) (0, 0) (0, 0) (4607182418800017408, 4607182418800017408) 0 = ((Dy.E sm11, Dy.E sm12, Dy.E sm13), 0) := eM
  unfold reflG
  rw [eM', if_neg (by simp), ← e1, ← e2, ← e3]
end Go.Proofs.Ytiphdhpacklboaa
