/- Plain facts: unit vectors of any triple of numbers: their values, how wide they are, their signs, their length. -/
import Derived.Test.YtiphdhpacklboaaRs
import Derived.Test.YtiphdhpacklboaaRo
import Derived.Test.YtiphdhpacklboaaCc
namespace Go.Proofs.Ytiphdhpacklboaa
open Go Go.RowKit

theorem bs_sqq {z : Int} {S : Rat} (hS : Dy.Sc S) (oz : Dy.ok z) (h : Dy.val z * Dy.val z ≤ S) : ∃ s, Dy.Got (Dy.cSqr 0 (Dy.E (z, z))) s ∧ Dy.Bd s (0 * S) (2 * S) (1 / 2251799813685247 * S) := by
  have r := Dy.rr_s hS 1
  rw [Rat.one_mul] at r
  have r1 : Dy.rs 1 * S ≤ 1 / 4503599627370494 * S := Dy.sm_le hS (by decide +kernel)
  have r2 := Rat.le_trans r r1
  have l := hS.pos
  have r3 : (1 : Rat) / 4503599627370494 * S ≤ 1 * S := Dy.sm_le hS (by decide +kernel)
  have r5 : (1 : Rat) / 4503599627370494 + 1 / 4503599627370494 = 1 / 2251799813685247 := by decide +kernel
  obtain ⟨m, hm, m1, m2⟩ : ∃ m : Rat, m * m = Dy.val z * Dy.val z ∧ -m ≤ Dy.val z ∧ Dy.val z ≤ m := by
    by_cases c : 0 ≤ Dy.val z
    · exact ⟨Dy.val z, rfl, by grind, by grind⟩
    · exact ⟨-Dy.val z, by grind, by grind, by grind⟩
  refine Dy.bd_sqr S _ _ _ m (Dy.Bd.pt oz Rat.le_refl Rat.le_refl) ⟨m1, m2, by rw [hm]; exact h, .inr (by grind), ?_, ?_, Dy.sc_lo hS (by decide +kernel), Dy.sc_hi hS (by decide +kernel)⟩
  · rw [hm]
    have r4 := Rat.le_trans r2 r3
    clear r r1 r2 r3 hm
    generalize Dy.rr S = k at *
    generalize Dy.val z * Dy.val z = u at *
    grind
  · rw [← r5, Rat.add_mul]
    clear r r1 r3 hm m1 m2
    generalize (1 : Rat) / 4503599627370494 * S = y at *
    generalize Dy.rr S = k at *
    grind
theorem bounds_of {x t : Rat} (h : 0 < t) (a : -1 ≤ x / t) (b : x / t ≤ 1) : -t ≤ x ∧ x ≤ t := by
  have e : x / t * t = x := Rat.div_mul_cancel (by grind)
  have l := Rat.mul_le_mul_of_nonneg_right a (show 0 ≤ t by grind)
  have u := Rat.mul_le_mul_of_nonneg_right b (show 0 ≤ t by grind)
  exact ⟨by grind, by grind⟩
/-- Of what is not above 0, by what is above, no quotient is above. -/
theorem div_np {x : Int} {q s : Int × Int} (hp : Dy.Rk (x, x)) (hq : Dy.Rk q) (p0 : x ≤ 0) (q0 : 0 < q.1) (h : Dy.Got (Dy.cDiv 0 (Dy.E (x, x)) (Dy.E q)) s) : s.2 ≤ 0 := by
  have h0 := nz_of hp hq h
  have hl := hq.le
  rw [Dy.cDiv_E hp hq h0] at h
  have d : ∀ y, 0 < y → Dy.divR x y true ≤ 0 := fun y hy => by
    have vy := Dy.V_pos.2 hy
    have vx : Dy.V x ≤ 0 := by
      have := Dy.V_nonneg.2 (show 0 ≤ -x by omega)
      rw [Dy.V_neg] at this; omega
    rw [Dy.divR_pos hy]
    have h0 : Dy.V x * (Dy.one : Int) ≤ 0 := Int.mul_nonpos_of_nonpos_of_nonneg vx (by have := Dy.one_pos'; omega)
    have := Dy.fl_mono (up := true) (den := (Dy.V y).toNat) (by omega) h0
    rwa [fl_0 (by omega)] at this
  have u : Dy.hi4 Dy.divR (x, x) q ≤ 0 := Dy.hi4_le (d _ q0) (d _ (by omega)) (d _ q0) (d _ (by omega))
  obtain ⟨_, c1, c2⟩ := Dy.res_err (congrArg (·.2) h.1)
  have lh : Dy.lo4 Dy.divR (x, x) q ≤ Dy.hi4 Dy.divR (x, x) q := by
    have := Dy.divR_le (a := x) (b := q.1) (by omega)
    unfold Dy.lo4 Dy.hi4; dsimp only; omega
  have := (Dy.got_of lh c1 c2).uniq h
  rw [← this]
  show Dy.pin _ ≤ 0
  unfold Dy.pin
  have := Dy.top_eq
  omega
theorem wi_nn {p : Int × Int} (h : 0 ≤ p.1) : 0 ≤ (rWithin p).1 := by
  unfold rWithin; simp only; omega
theorem wi_np {p : Int × Int} (h : p.2 ≤ 0) : (rWithin p).2 ≤ 0 := by
  unfold rWithin; simp only; omega
theorem has_lim {p : Int × Int} {u : Nat → Rat} {a : Rat} (h : Dy.HasS p u) (n : Dy.Near u (fun _ => a)) : Dy.Has p a :=
  ⟨Dy.near_le n.symm (fun _ => Rat.le_refl) (fun k => (h k).lo), Dy.near_le n (fun k => (h k).hi) (fun _ => Rat.le_refl)⟩
/-- How a unit vector is worked out. -/
def UnitSt (x y z : Int) (p q r : Int × Int) : Prop := ∃ sx sy s sz t n dx dy dz : Int × Int, Dy.Got (Dy.cSqr 0 (Dy.E (x, x))) sx ∧ Dy.Got (Dy.cSqr 0 (Dy.E (y, y))) sy ∧ Dy.Got (Dy.cAdd 0 (Dy.E sx) (Dy.E sy)) s ∧ Dy.Got (Dy.cSqr 0 (Dy.E (z, z))) sz ∧ Dy.Got (Dy.cAdd 0 (Dy.E s) (Dy.E sz)) t ∧ Dy.Got (Dy.cSqrt 0 (Dy.E t)) n ∧ Dy.Rk n ∧ 0 < n.1 ∧
  (Dy.Got (Dy.cDiv 0 (Dy.E (x, x)) (Dy.E n)) dx ∧ Dy.Rk dx ∧ dx.1 ≤ 4607182418800017408 ∧ -4607182418800017408 ≤ dx.2 ∧ p = rWithin dx) ∧ (Dy.Got (Dy.cDiv 0 (Dy.E (y, y)) (Dy.E n)) dy ∧ Dy.Rk dy ∧ dy.1 ≤ 4607182418800017408 ∧ -4607182418800017408 ≤ dy.2 ∧ q = rWithin dy) ∧ (Dy.Got (Dy.cDiv 0 (Dy.E (z, z)) (Dy.E n)) dz ∧ Dy.Rk dz ∧ dz.1 ≤ 4607182418800017408 ∧ -4607182418800017408 ≤ dz.2 ∧ r = rWithin dz)
theorem in_ends {p : Int × Int} {x : Rat} (h : Dy.Has p x) (k : -1 ≤ x ∧ x ≤ 1) : p.1 ≤ 4607182418800017408 ∧ -4607182418800017408 ≤ p.2 :=
  ⟨Dy.val_le.1 (by rw [Dy.val_one]; have := h.lo; grind), Dy.val_le.1 (by rw [Dy.val_neg, Dy.val_one]; have := h.hi; grind)⟩
set_option maxHeartbeats 4000000 in
/-- Any triple's unit vector. -/
theorem unit_all {x y z : Int} (ox : Dy.ok x) (oy : Dy.ok y) (oz : Dy.ok z) (hs : 1 / 340282366920938463463374607431768211456 ≤ (Dy.val x * Dy.val x + Dy.val y * Dy.val y + Dy.val z * Dy.val z)) (us : (Dy.val x * Dy.val x + Dy.val y * Dy.val y + Dy.val z * Dy.val z) ≤ 2722258935367507707706996859454145691648) : ∃ (p q r : Int × Int) (t : Nat → Rat), unitM (Dy.enc x) (Dy.enc y) (Dy.enc z) 0 = ((Dy.E p, Dy.E q, Dy.E r), 0) ∧
    (Dy.Bd p (-1) 1 (1 / 281474976710656) ∧ Dy.Bd q (-1) 1 (1 / 281474976710656) ∧ Dy.Bd r (-1) 1 (1 / 281474976710656)) ∧ (∀ κ, 1 / 73786976294838206464 ≤ t κ) ∧ Dy.Near (fun n => t n * t n) (fun _ => (Dy.val x * Dy.val x + Dy.val y * Dy.val y + Dy.val z * Dy.val z)) ∧
    (Dy.HasS p (fun κ => Dy.val x / t κ) ∧ Dy.HasS q (fun κ => Dy.val y / t κ) ∧ Dy.HasS r (fun κ => Dy.val z / t κ)) ∧
    ((0 ≤ x → 0 ≤ p.1) ∧ (x ≤ 0 → p.2 ≤ 0)) ∧ ((0 ≤ y → 0 ≤ q.1) ∧ (y ≤ 0 → q.2 ≤ 0)) ∧ ((0 ≤ z → 0 ≤ r.1) ∧ (z ≤ 0 → r.2 ≤ 0)) ∧ UnitSt x y z p q r := by
  have xx := sq0 (Dy.val x)
  have yy := sq0 (Dy.val y)
  have zz := sq0 (Dy.val z)
  obtain ⟨a, T, aT0, T4, aT, a2, T2, d⟩ := Dy.root_near (x := (Dy.val x * Dy.val x + Dy.val y * Dy.val y + Dy.val z * Dy.val z)) (lo := 1 / 18446744073709551616) (hi := 73786976294838206464) (e := 1 / 2037035976334486086268445688409378161051468393665936250636140449354381299763336706183397376) (by decide +kernel) (by rw [show (1 / 18446744073709551616 : Rat) * (1 / 18446744073709551616) = 1 / 340282366920938463463374607431768211456 by decide +kernel]; exact hs) (by rw [show (73786976294838206464 : Rat) * 73786976294838206464 = 5444517870735015415413993718908291383296 by decide +kernel]; grind) (by decide +kernel) (by decide +kernel)
  have T1 : 1 / 18446744073709551616 ≤ T := by grind
  have T0 : 0 < T := by grind
  obtain ⟨R, hR⟩ : ∃ R, R = T * T := ⟨_, rfl⟩
  have sb : (Dy.val x * Dy.val x + Dy.val y * Dy.val y + Dy.val z * Dy.val z) ≤ R := by rw [hR]; exact T2
  have hk : R ≤ (Dy.val x * Dy.val x + Dy.val y * Dy.val y + Dy.val z * Dy.val z) + 1 / 2037035976334486086268445688409378161051468393665936250636140449354381299763336706183397376 := by rw [hR]; grind
  have R1 : 1 / 340282366920938463463374607431768211456 ≤ R := by grind
  have R4 : R ≤ 1606938044258990275541962092341162602522202993782792835301376 := by grind
  have sR : Dy.Sc R := ⟨by grind, R4⟩
  have sT : Dy.Sc T := ⟨by grind, by grind⟩
  obtain ⟨lo_x, hi_x⟩ := by_root (x := Dy.val x) (s := (Dy.val x * Dy.val x + Dy.val y * Dy.val y + Dy.val z * Dy.val z)) T0 T2 (by grind)
  have l_x : -T ≤ Dy.val x ∧ Dy.val x ≤ T := bounds_of T0 lo_x hi_x
  have p_x : Dy.Bd (x, x) (-1 * T) (1 * T) (0 * T) := (Dy.Bd.pt ox Rat.le_refl Rat.le_refl).mono ⟨by grind, by grind, by grind⟩
  have ex := Dy.Has.pt x
  obtain ⟨s_x, g_x, b_x⟩ := bs_sqq (z := x) sR ox (by grind)
  have h_x := Dy.has_sqr (Dy.Rk.mk ox ox (Int.le_refl _)) g_x ex
  have b1 := Dy.bs_re (lo := 0) (hi := 1) (A := (-19342813113834075385233409 / 43556142965880123323311949751266331066368)) (B := (37778931862957178486785 / 37778931862957161709568)) sR b_x h_x (by grind) (by grind) (by decide +kernel)
  obtain ⟨lo_y, hi_y⟩ := by_root (x := Dy.val y) (s := (Dy.val x * Dy.val x + Dy.val y * Dy.val y + Dy.val z * Dy.val z)) T0 T2 (by grind)
  have l_y : -T ≤ Dy.val y ∧ Dy.val y ≤ T := bounds_of T0 lo_y hi_y
  have p_y : Dy.Bd (y, y) (-1 * T) (1 * T) (0 * T) := (Dy.Bd.pt oy Rat.le_refl Rat.le_refl).mono ⟨by grind, by grind, by grind⟩
  have ey := Dy.Has.pt y
  obtain ⟨s_y, g_y, b_y⟩ := bs_sqq (z := y) sR oy (by grind)
  have h_y := Dy.has_sqr (Dy.Rk.mk oy oy (Int.le_refl _)) g_y ey
  have b2 := Dy.bs_re (lo := 0) (hi := 1) (A := (-19342813113834075385233409 / 43556142965880123323311949751266331066368)) (B := (37778931862957178486785 / 37778931862957161709568)) sR b_y h_y (by grind) (by grind) (by decide +kernel)
  obtain ⟨lo_z, hi_z⟩ := by_root (x := Dy.val z) (s := (Dy.val x * Dy.val x + Dy.val y * Dy.val y + Dy.val z * Dy.val z)) T0 T2 (by grind)
  have l_z : -T ≤ Dy.val z ∧ Dy.val z ≤ T := bounds_of T0 lo_z hi_z
  have p_z : Dy.Bd (z, z) (-1 * T) (1 * T) (0 * T) := (Dy.Bd.pt oz Rat.le_refl Rat.le_refl).mono ⟨by grind, by grind, by grind⟩
  have ez := Dy.Has.pt z
  obtain ⟨s_z, g_z, b_z⟩ := bs_sqq (z := z) sR oz (by grind)
  have h_z := Dy.has_sqr (Dy.Rk.mk oz oz (Int.le_refl _)) g_z ez
  have b3 := Dy.bs_re (lo := 0) (hi := 1) (A := (-19342813113834075385233409 / 43556142965880123323311949751266331066368)) (B := (37778931862957178486785 / 37778931862957161709568)) sR b_z h_z (by grind) (by grind) (by decide +kernel)
  have gx := Dy.got_num ox
  have gy := Dy.got_num oy
  have gz := Dy.got_num oz
  obtain ⟨s4, g4, b4⟩ := Dy.bs_add (37778931862957178486785 / 18889465931478580854784) (-58028439341502226155700739 / 43556142965880123323311949751266331066368) (75557863725914373750787 / 37778931862957161709568) (77371252455336301540934657 / 43556142965880123323311949751266331066368) sR b1 b2 (by decide +kernel)
  have h4 : Dy.Has s4 ((Dy.val x * Dy.val x) + (Dy.val y * Dy.val y)) := Dy.has_add b1.rk b2.rk g4 h_x h_y
  have b5 := Dy.bs_re (lo := 0) (hi := 1) (A := (-77371252455336301540934657 / 43556142965880123323311949751266331066368)) (B := (37778931862957228818433 / 37778931862957161709568)) sR b4 h4 (by grind) (by grind) (by decide +kernel)
  obtain ⟨s6, g6, b6⟩ := Dy.bs_add (37778931862957203652609 / 18889465931478580854784) (-116056878683004465196303875 / 43556142965880123323311949751266331066368) (75557863725914424082435 / 37778931862957161709568) (67699845898419276733219841 / 21778071482940061661655974875633165533184) sR b5 b3 (by decide +kernel)
  have h6 : Dy.Has s6 (Dy.val x * Dy.val x + Dy.val y * Dy.val y + Dy.val z * Dy.val z) := (show ((Dy.val x * Dy.val x) + (Dy.val y * Dy.val y)) + (Dy.val z * Dy.val z) = Dy.val x * Dy.val x + Dy.val y * Dy.val y + Dy.val z * Dy.val z from rfl) ▸ (Dy.has_add b5.rk b3.rk g6 h4 h_z)
  have b7 := Dy.bs_re (lo := (1461501637330902918203684832716283019655932542975 / 1461501637330902918203684832716283019655932542976)) (hi := 1) (A := (40564819207303214747104936198063 / 40564819207303340847894502572032)) (B := (37778931862957279150081 / 37778931862957161709568)) sR b6 h6 (by grind) (by grind) (by decide +kernel)
  obtain ⟨s_n, g_n, b_n⟩ := Dy.bs_sqrt (R := R) (40564819207303268790300464643991 / 40564819207303340847894502572032) (18889465931478614409217 / 18889465931478580854784) (87042659012253478819988995 / 43556142965880123323311949751266331066368) (20282409603651638898749859692499 / 20282409603651670423947251286016) (37778931862957220429825 / 37778931862957161709568) (33849922949209690979959297 / 21778071482940061661655974875633165533184) sT sR hR.symm b7 (by decide +kernel)
  obtain ⟨r1, t1, k1, _, u1, _, nt⟩ := Dy.root_seq b7.rk g_n (x := fun _ => (Dy.val x * Dy.val x + Dy.val y * Dy.val y + Dy.val z * Dy.val z)) (fun _ => h6)
  have nl : ∀ κ, Dy.val s_n.1 ≤ t1 κ := fun κ => (u1 κ).lo
  have bl := b_n.lo
  have Lp : 0 < (40564819207303268790300464643991 / 40564819207303340847894502572032) * T := Rat.mul_pos (by decide +kernel) T0
  have n0 : 0 < s_n.1 := Dy.val_lt.1 (by rw [Dy.val_zero]; grind)
  have τ0 : ∀ κ, 0 < t1 κ := fun κ => by have := nl κ; grind
  have τb : ∀ κ, 1 / 73786976294838206464 ≤ t1 κ := fun κ => by have := nl κ; have : (1 : Rat) / 2 * T ≤ (40564819207303268790300464643991 / 40564819207303340847894502572032) * T := Rat.mul_le_mul_of_nonneg_right (by decide +kernel) (by grind); grind
  obtain ⟨s9, g9, b9⟩ := Dy.bs_div (37778931862957228818433 / 37778931862957161709568) (-18889465931478618603521 / 18889465931478580854784) (18889465931478618603521 / 18889465931478580854784) (106385472126087889212674309 / 43556142965880123323311949751266331066368) (-37778931862957228818433 / 37778931862957161709568) (37778931862957228818433 / 37778931862957161709568) (21760664753063447014409153 / 10889035741470030830827987437816582766592) sT p_x b_n (by decide +kernel)
  have h9 : Dy.Has s9 ((Dy.val x) / (t1 0)) := Dy.has_div p_x.rk b_n.rk g9 ex (u1 0)
  have a_x : ∀ κ, -1 ≤ Dy.val x / t1 κ ∧ Dy.val x / t1 κ ≤ 1 := fun κ => by_root (τ0 κ) (k1 κ).2.2.2 (by grind)
  have c_x := a_x 0
  obtain ⟨g10, b10⟩ := bd_within (-1) 1 b9 (by have := h9.lo; grind) (by have := h9.hi; grind) (by decide +kernel)
  have H10 : Dy.HasS (rWithin s9) (fun κ => Dy.val x / t1 κ) := fun κ => has_within (Dy.has_div p_x.rk b_n.rk g9 ex (u1 κ)) (a_x κ).1 (a_x κ).2
  have P10 : (0 ≤ x → 0 ≤ (rWithin s9).1) ∧ (x ≤ 0 → (rWithin s9).2 ≤ 0) := ⟨fun h => wi_nn (div_nn p_x.rk b_n.rk h (by omega) g9), fun h => wi_np (div_np p_x.rk b_n.rk h n0 g9)⟩
  obtain ⟨s11, g11, b11⟩ := Dy.bs_div (37778931862957228818433 / 37778931862957161709568) (-18889465931478618603521 / 18889465931478580854784) (18889465931478618603521 / 18889465931478580854784) (106385472126087889212674309 / 43556142965880123323311949751266331066368) (-37778931862957228818433 / 37778931862957161709568) (37778931862957228818433 / 37778931862957161709568) (21760664753063447014409153 / 10889035741470030830827987437816582766592) sT p_y b_n (by decide +kernel)
  have h11 : Dy.Has s11 ((Dy.val y) / (t1 0)) := Dy.has_div p_y.rk b_n.rk g11 ey (u1 0)
  have a_y : ∀ κ, -1 ≤ Dy.val y / t1 κ ∧ Dy.val y / t1 κ ≤ 1 := fun κ => by_root (τ0 κ) (k1 κ).2.2.2 (by grind)
  have c_y := a_y 0
  obtain ⟨g12, b12⟩ := bd_within (-1) 1 b11 (by have := h11.lo; grind) (by have := h11.hi; grind) (by decide +kernel)
  have H12 : Dy.HasS (rWithin s11) (fun κ => Dy.val y / t1 κ) := fun κ => has_within (Dy.has_div p_y.rk b_n.rk g11 ey (u1 κ)) (a_y κ).1 (a_y κ).2
  have P12 : (0 ≤ y → 0 ≤ (rWithin s11).1) ∧ (y ≤ 0 → (rWithin s11).2 ≤ 0) := ⟨fun h => wi_nn (div_nn p_y.rk b_n.rk h (by omega) g11), fun h => wi_np (div_np p_y.rk b_n.rk h n0 g11)⟩
  obtain ⟨s13, g13, b13⟩ := Dy.bs_div (37778931862957228818433 / 37778931862957161709568) (-18889465931478618603521 / 18889465931478580854784) (18889465931478618603521 / 18889465931478580854784) (106385472126087889212674309 / 43556142965880123323311949751266331066368) (-37778931862957228818433 / 37778931862957161709568) (37778931862957228818433 / 37778931862957161709568) (21760664753063447014409153 / 10889035741470030830827987437816582766592) sT p_z b_n (by decide +kernel)
  have h13 : Dy.Has s13 ((Dy.val z) / (t1 0)) := Dy.has_div p_z.rk b_n.rk g13 ez (u1 0)
  have a_z : ∀ κ, -1 ≤ Dy.val z / t1 κ ∧ Dy.val z / t1 κ ≤ 1 := fun κ => by_root (τ0 κ) (k1 κ).2.2.2 (by grind)
  have c_z := a_z 0
  obtain ⟨g14, b14⟩ := bd_within (-1) 1 b13 (by have := h13.lo; grind) (by have := h13.hi; grind) (by decide +kernel)
  have H14 : Dy.HasS (rWithin s13) (fun κ => Dy.val z / t1 κ) := fun κ => has_within (Dy.has_div p_z.rk b_n.rk g13 ez (u1 κ)) (a_z κ).1 (a_z κ).2
  have P14 : (0 ≤ z → 0 ≤ (rWithin s13).1) ∧ (z ≤ 0 → (rWithin s13).2 ≤ 0) := ⟨fun h => wi_nn (div_nn p_z.rk b_n.rk h (by omega) g13), fun h => wi_np (div_np p_z.rk b_n.rk h n0 g13)⟩
  have eM : unitM (Dy.enc x) (Dy.enc y) (Dy.enc z) 0 = ((Dy.E (rWithin s9), Dy.E (rWithin s11), Dy.E (rWithin s13)), 0) := by
    unfold unitM
    refine (Dy.cs_num gx.1).trans ?_
    refine (Dy.cs_num gy.1).trans ?_
    refine (Dy.cs_num gz.1).trans ?_
    refine (Dy.cs_sqr g_x.1).trans ?_
    refine (Dy.cs_sqr g_y.1).trans ?_
    refine (Dy.cs_add g4.1).trans ?_
    refine (Dy.cs_sqr g_z.1).trans ?_
    refine (Dy.cs_add g6.1).trans ?_
    refine (Dy.cs_sqrt g_n.1).trans ?_
    refine (Dy.cs_div g9.1).trans ?_
    refine (Dy.cm_p g10).trans ?_
    refine (Dy.cs_div g11.1).trans ?_
    refine (Dy.cm_p g12).trans ?_
    refine (Dy.cs_div g13.1).trans ?_
    refine (Dy.cm_p g14).trans ?_
    exact rfl
  exact ⟨(rWithin s9), (rWithin s11), (rWithin s13), t1, eM, ⟨b10.mono (by decide +kernel), b12.mono (by decide +kernel), b14.mono (by decide +kernel)⟩, τb, nt, ⟨H10, H12, H14⟩, P10, P12, P14, ⟨s_x, s_y, s4, s_z, s6, s_n, s9, s11, s13, g_x, g_y, g4, g_z, g6, g_n, b_n.rk, n0, ⟨g9, b9.rk, (in_ends h9 c_x).1, (in_ends h9 c_x).2, rfl⟩, ⟨g11, b11.rk, (in_ends h11 c_y).1, (in_ends h11 c_y).2, rfl⟩, ⟨g13, b13.rk, (in_ends h13 c_z).1, (in_ends h13 c_z).2, rfl⟩⟩⟩
set_option maxHeartbeats 4000000 in
/-- A unit vector's length has 1. -/
theorem norm_one {x y z : Rat} {p q r : Int × Int} {t : Nat → Rat} (bx : Dy.Bd p (-1) 1 (1 / 281474976710656)) (by' : Dy.Bd q (-1) 1 (1 / 281474976710656)) (bz : Dy.Bd r (-1) 1 (1 / 281474976710656)) (hx : Dy.HasS p (fun κ => x / t κ)) (hy : Dy.HasS q (fun κ => y / t κ)) (hz : Dy.HasS r (fun κ => z / t κ))
    (near : Dy.Near (fun κ => x / t κ * (x / t κ) + y / t κ * (y / t κ) + z / t κ * (z / t κ)) (fun _ => 1)) : ∃ sm1 sm2 sm3 sm4 sm5 n, Dy.Got (Dy.cSqr 0 (Dy.E p)) sm1 ∧ Dy.Got (Dy.cSqr 0 (Dy.E q)) sm2 ∧ Dy.Got (Dy.cAdd 0 (Dy.E sm1) (Dy.E sm2)) sm3 ∧ Dy.Got (Dy.cSqr 0 (Dy.E r)) sm4 ∧ Dy.Got (Dy.cAdd 0 (Dy.E sm3) (Dy.E sm4)) sm5 ∧ Dy.Got (Dy.cSqrt 0 (Dy.E sm5)) n ∧ Dy.Bd n 0 2 2 ∧ Dy.Has n 1 := by
  obtain ⟨sm1, gm1, bm1⟩ := Dy.bd_sqr 1 0 (37778931862957170098177 / 37778931862957161709568) (328827822935179135520079873 / 43556142965880123323311949751266331066368) 1 bx (by decide +kernel)
  have hm1 : Dy.HasS sm1 (fun κ => (x / t κ) * (x / t κ)) := fun κ => Dy.has_sqr bx.rk gm1 (hx κ)
  obtain ⟨sm2, gm2, bm2⟩ := Dy.bd_sqr 1 0 (37778931862957170098177 / 37778931862957161709568) (328827822935179135520079873 / 43556142965880123323311949751266331066368) 1 by' (by decide +kernel)
  have hm2 : Dy.HasS sm2 (fun κ => (y / t κ) * (y / t κ)) := fun κ => Dy.has_sqr by'.rk gm2 (hy κ)
  obtain ⟨sm3, gm3, bm3⟩ := Dy.bd_add (37778931862957170098177 / 18889465931478580854784) (-19342813113834071090266625 / 43556142965880123323311949751266331066368) (75557863725914356973571 / 37778931862957161709568) (696341272098026413220692995 / 43556142965880123323311949751266331066368) bm1 bm2 (by decide +kernel)
  have hm3 : Dy.HasS sm3 (fun κ => ((x / t κ) * (x / t κ)) + ((y / t κ) * (y / t κ))) := fun κ => Dy.has_add bm1.rk bm2.rk gm3 (hm1 κ) (hm2 κ)
  obtain ⟨sm4, gm4, bm4⟩ := Dy.bd_sqr 1 0 (37778931862957170098177 / 37778931862957161709568) (328827822935179135520079873 / 43556142965880123323311949751266331066368) 1 bz (by decide +kernel)
  have hm4 : Dy.HasS sm4 (fun κ => (z / t κ) * (z / t κ)) := fun κ => Dy.has_sqr bz.rk gm4 (hz κ)
  obtain ⟨sm5, gm5, bm5⟩ := Dy.bd_add (28334198897217881767937 / 9444732965739290427392) (-24178516392292591010317057 / 21778071482940061661655974875633165533184) (113336795588871552237573 / 37778931862957161709568) (1083197534374707770601507845 / 43556142965880123323311949751266331066368) bm3 bm4 (by decide +kernel)
  have hm5 : Dy.HasS sm5 (fun κ => (((x / t κ) * (x / t κ)) + ((y / t κ) * (y / t κ))) + ((z / t κ) * (z / t κ))) := fun κ => Dy.has_add bm3.rk bm4.rk gm5 (hm3 κ) (hm4 κ)
  have one : Dy.Has sm5 1 := has_lim hm5 near
  have bb := Dy.bd_re (A := (40564819207302332041577971580899 / 40564819207303340847894502572032)) (B := (37778931862958101233665 / 37778931862957161709568)) bm5 one (by decide +kernel)
  obtain ⟨sN, gN, bN⟩ := Dy.bd_sqrt (633825300114106678711515348941 / 633825300114114700748351602688) (18889465931478819930113 / 18889465931478580854784) (140235395075298731780735489 / 10889035741470030830827987437816582766592) (40564819207302836444736237073329 / 40564819207303340847894502572032) (37778931862957631471617 / 37778931862957161709568) (541598767187360619809474051 / 43556142965880123323311949751266331066368) bb (by decide +kernel)
  have hN : Dy.Has sN 1 := Dy.has_sqrt bb.rk gN (by rw [Rat.mul_one]; exact one) (by decide +kernel)
  exact ⟨sm1, sm2, sm3, sm4, sm5, sN, gm1, gm2, gm3, gm4, gm5, gN, bN.mono (by decide +kernel), hN⟩
end Go.Proofs.Ytiphdhpacklboaa
