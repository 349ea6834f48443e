/- Plain facts: unit vectors of directions, made wider. -/
import Derived.Test.YtikiegcncliocaaGreatR1
import Derived.Test.YtikiegcncliocaaGreatRf
import Derived.Test.YtikiegcncliocaaGreatVe
namespace Go.Dy
theorem abs_enc {z : Int} (h : ok z) : abs (enc z) = enc (z.natAbs : Int) := by
  have t := top_eq
  unfold abs enc ok at *
  by_cases c : 0 ≤ z
  · rw [if_pos c, if_pos (by omega)]; omega
  · rw [if_neg c, if_pos (by omega)]; omega
theorem ok_abs {z : Int} (h : ok z) : ok (z.natAbs : Int) := by unfold ok at *; omega
end Go.Dy
namespace Go.Proofs.YtikiegcncliocaaGreat
open Go Go.RowKit

theorem most_enc {x y z : Int} (hx : Dy.ok x) (hy : Dy.ok y) (hz : Dy.ok z) : most3 (Dy.enc x) (Dy.enc y) (Dy.enc z) = Dy.enc (max (max (x.natAbs : Int) y.natAbs) z.natAbs) := by
  unfold most3
  rw [Dy.abs_enc hx, Dy.abs_enc hy, Dy.abs_enc hz, Dy.dmax_enc (Dy.ok_abs hx) (Dy.ok_abs hy), Dy.dmax_enc (Dy.ok_max2 (Dy.ok_abs hx) (Dy.ok_abs hy)) (Dy.ok_abs hz)]
theorem unitG_mid {x y z : Int} (hx : Dy.ok x) (hy : Dy.ok y) (hz : Dy.ok z) (h1 : (4318952042648305664 : Int) ≤ max (max (x.natAbs : Int) y.natAbs) z.natAbs) (h2 : max (max (x.natAbs : Int) y.natAbs) z.natAbs ≤ (4895412794951729152 : Int)) : unitG (Dy.enc x) (Dy.enc y) (Dy.enc z) = ((unitM (Dy.enc x) (Dy.enc y) (Dy.enc z) 0).1, 0) := by
  have t := Dy.top_eq
  have o := Dy.ok_max2 (Dy.ok_max2 (Dy.ok_abs hx) (Dy.ok_abs hy)) (Dy.ok_abs hz)
  have e1 : Dy.flt (most3 (Dy.enc x) (Dy.enc y) (Dy.enc z)) 4318952042648305664 = false := by
    rw [most_enc hx hy hz]; exact lt_false (y := 4318952042648305664) o (by unfold Dy.ok; omega) h1
  have e2 : Dy.fgt (most3 (Dy.enc x) (Dy.enc y) (Dy.enc z)) 4895412794951729152 = false := by
    rw [most_enc hx hy hz]; exact gt_false (y := 4895412794951729152) o (by unfold Dy.ok; omega) h2
  unfold unitG
  rw [if_neg (by rw [e1]; decide), if_neg (by rw [e2]; decide)]
/-- What an interval has within -1 and 1. -/
def rWithin (p : Int × Int) : Int × Int := (max p.1 (-4607182418800017408), min p.2 4607182418800017408)
theorem bd_within (A B : Rat) {p : Int × Int} {L H w : Rat} (hp : Dy.Bd p L H w) (h1 : Dy.val p.1 ≤ 1) (h2 : -1 ≤ Dy.val p.2) (c : (A ≤ L ∨ A ≤ -1) ∧ (H ≤ B ∨ 1 ≤ B)) : vWithin (Dy.E p) = Dy.E (rWithin p) ∧ Dy.Bd (rWithin p) A B w := by
  have p1 := hp.lo; have p2 := hp.hi; have p3 := hp.wd; have p4 := hp.le
  have v1 := Dy.val_one
  have o1 : Dy.ok 4607182418800017408 := Dy.ok_B (by decide) (by decide)
  have om : Dy.ok (-4607182418800017408) := Dy.ok_neg o1
  have k1 : p.1 ≤ 4607182418800017408 := Dy.val_le.1 (by rw [v1]; exact h1)
  have k2 : -4607182418800017408 ≤ p.2 := Dy.val_le.1 (by rw [Dy.val_neg, v1]; exact h2)
  have l := hp.rk.le
  have e : vWithin (Dy.E p) = Dy.E (rWithin p) := by
    unfold vWithin iMeet
    show (if Dy.fgt (Dy.dmax (Dy.enc p.1) (Dy.enc (-4607182418800017408))) (Dy.dmin (Dy.enc p.2) (Dy.enc 4607182418800017408)) = true then ((0, 0), false) else ((Dy.dmax (Dy.enc p.1) (Dy.enc (-4607182418800017408)), Dy.dmin (Dy.enc p.2) (Dy.enc 4607182418800017408)), true)).1 = _
    rw [Dy.dmax_enc hp.rk.lo om, Dy.dmin_enc hp.rk.hi o1, Dy.fgt_enc (Dy.ok_max2 hp.rk.lo om) (Dy.ok_min2 hp.rk.hi o1), decide_eq_false (by omega), if_neg (by decide)]
    rfl
  refine ⟨e, ⟨Dy.ok_max2 hp.rk.lo om, Dy.ok_min2 hp.rk.hi o1, by unfold rWithin; dsimp only; omega⟩, ?_, ?_, ?_⟩
  · show A ≤ Dy.val (max p.1 (-4607182418800017408)); rw [Dy.val_max, Dy.val_neg, v1]; grind
  · show Dy.val (min p.2 4607182418800017408) ≤ B; rw [Dy.val_min, v1]; grind
  · show Dy.val (min p.2 4607182418800017408) - Dy.val (max p.1 (-4607182418800017408)) ≤ w; rw [Dy.val_min, Dy.val_max, Dy.val_neg, v1]; grind
theorem has_within {p : Int × Int} {x : Rat} (h : Dy.Has p x) (h1 : -1 ≤ x) (h2 : x ≤ 1) : Dy.Has (rWithin p) x := by
  have v1 := Dy.val_one
  have a := h.lo; have b := h.hi
  constructor
  · show Dy.val (max p.1 (-4607182418800017408)) ≤ x; rw [Dy.val_max, Dy.val_neg, v1]; grind
  · show x ≤ Dy.val (min p.2 4607182418800017408); rw [Dy.val_min, v1]; grind
/-- A number by a root that is no less. -/
theorem by_root {x s t : Rat} (t0 : 0 < t) (h : s ≤ t * t) (hx : x * x ≤ s) : -1 ≤ x / t ∧ x / t ≤ 1 := by
  have k : x * x ≤ t * t := by grind
  have u : x ≤ t := by
    by_cases c : 0 ≤ x
    · exact Dy.sq_le_sq c (by grind) k
    · grind
  have l : -t ≤ x := by
    by_cases c : 0 ≤ x
    · grind
    · have := Dy.sq_le_sq (u := -x) (v := t) (by grind) (by grind) (by grind); grind
  exact ⟨Dy.le_quo t0 (by grind), Dy.quo_le t0 (by grind)⟩
theorem sq0 (x : Rat) : 0 ≤ x * x := by
  by_cases s : 0 ≤ x
  · exact Rat.mul_nonneg s s
  · have := Rat.mul_nonneg (show 0 ≤ -x by grind) (show 0 ≤ -x by grind); grind
/-- A direction's unit vector. -/
theorem unit_num {x y z : Int} (lx : -4607182418800017408 ≤ x) (ux : x ≤ 4607182418800017408) (ly : -4607182418800017408 ≤ y) (uy : y ≤ 4607182418800017408) (lz : 4580160821035794432 ≤ z) (uz : z ≤ 4607182418800017408) : ∃ (p q r : Int × Int) (t : Nat → Rat), unitG (Dy.enc x) (Dy.enc y) (Dy.enc z) = ((Dy.E p, Dy.E q, Dy.E r), 0) ∧ Dy.Bd p (-1) 1 2 ∧ Dy.Bd q (-1) 1 2 ∧ Dy.Bd r (1 / 256) 1 2 ∧ (∀ κ, 1 / 128 ≤ t κ ∧ t κ ≤ 2) ∧ (∀ κ, (Dy.val x * Dy.val x + Dy.val y * Dy.val y + Dy.val z * Dy.val z) ≤ t κ * t κ) ∧ Dy.Near (fun κ => t κ * t κ) (fun _ => (Dy.val x * Dy.val x + Dy.val y * Dy.val y + Dy.val z * Dy.val z)) ∧ Dy.HasS p (fun κ => Dy.val x / t κ) ∧ Dy.HasS q (fun κ => Dy.val y / t κ) ∧ Dy.HasS r (fun κ => Dy.val z / t κ) := by
  have cx : Dy.Bd (x, x) (-1) 1 0 := (Dy.bd_in (x := -4607182418800017408) (y := 4607182418800017408) (nx := -1) (dx := 1) (ny := 1) (dy := 1) lx ux (Dy.ok_B (by unfold Dy.B10; omega) (by unfold Dy.B10; omega)) (by decide +kernel)).mono (by decide +kernel)
  have ex : Dy.HasS (x, x) (fun κ => Dy.val x) := fun κ => Dy.Has.pt x
  have cy : Dy.Bd (y, y) (-1) 1 0 := (Dy.bd_in (x := -4607182418800017408) (y := 4607182418800017408) (nx := -1) (dx := 1) (ny := 1) (dy := 1) ly uy (Dy.ok_B (by unfold Dy.B10; omega) (by unfold Dy.B10; omega)) (by decide +kernel)).mono (by decide +kernel)
  have ey : Dy.HasS (y, y) (fun κ => Dy.val y) := fun κ => Dy.Has.pt y
  have cz : Dy.Bd (z, z) (1 / 64) 1 0 := (Dy.bd_in (x := 4580160821035794432) (y := 4607182418800017408) (nx := 1) (dx := 64) (ny := 1) (dy := 1) lz uz (Dy.ok_B (by unfold Dy.B10; omega) (by unfold Dy.B10; omega)) (by decide +kernel)).mono (by decide +kernel)
  have ez : Dy.HasS (z, z) (fun κ => Dy.val z) := fun κ => Dy.Has.pt z
  have gx := Dy.got_num cx.rk.lo
  have gy := Dy.got_num cy.rk.lo
  have gz := Dy.got_num cz.rk.lo
  obtain ⟨s1, g1, b1⟩ := Dy.bd_sqr 1 0 (37778931862957170098177 / 37778931862957161709568) (19342813113834066795298817 / 43556142965880123323311949751266331066368) 1 cx (by decide +kernel)
  have h1 : Dy.HasS s1 (fun κ => (Dy.val x) * (Dy.val x)) := fun κ => Dy.has_sqr cx.rk g1 (ex κ)
  obtain ⟨s2, g2, b2⟩ := Dy.bd_sqr 1 0 (37778931862957170098177 / 37778931862957161709568) (19342813113834066795298817 / 43556142965880123323311949751266331066368) 1 cy (by decide +kernel)
  have h2 : Dy.HasS s2 (fun κ => (Dy.val y) * (Dy.val y)) := fun κ => Dy.has_sqr cy.rk g2 (ey κ)
  obtain ⟨s3, g3, b3⟩ := Dy.bd_add (37778931862957170098177 / 18889465931478580854784) (-19342813113834071090266625 / 43556142965880123323311949751266331066368) (75557863725914356973571 / 37778931862957161709568) (77371252455336275771130883 / 43556142965880123323311949751266331066368) b1 b2 (by decide +kernel)
  have h3 : Dy.HasS s3 (fun κ => ((Dy.val x) * (Dy.val x)) + ((Dy.val y) * (Dy.val y))) := fun κ => Dy.has_add b1.rk b2.rk g3 (h1 κ) (h2 κ)
  obtain ⟨s4, g4, b4⟩ := Dy.bd_sqr 1 (9903520314274034999938252799 / 40564819207303340847894502572032) (37778931862957170098177 / 37778931862957161709568) (19342813113834066795298817 / 43556142965880123323311949751266331066368) 1 cz (by decide +kernel)
  have h4 : Dy.HasS s4 (fun κ => (Dy.val z) * (Dy.val z)) := fun κ => Dy.has_sqr cz.rk g4 (ez κ)
  obtain ⟨s5, g5, b5⟩ := Dy.bd_add (28334198897217881767937 / 9444732965739290427392) (618970019639312437729034239 / 2535301200456458802993406410752) (113336795588871552237573 / 37778931862957161709568) (154742504910672564427164677 / 43556142965880123323311949751266331066368) b3 b4 (by decide +kernel)
  have h5 : Dy.HasS s5 (fun κ => (((Dy.val x) * (Dy.val x)) + ((Dy.val y) * (Dy.val y))) + ((Dy.val z) * (Dy.val z))) := fun κ => Dy.has_add b3.rk b4.rk g5 (h3 κ) (h4 κ)
  obtain ⟨s6, g6, b6⟩ := Dy.bd_sqrt (633825300112369717564695864485 / 40564819207303340847894502572032) (32717514721162287879101 / 18889465931478580854784) (623157861528687879487566741 / 5444517870735015415413993718908291383296) (633825300112385318491438972415 / 40564819207303340847894502572032) (32717514721162280614353 / 18889465931478580854784) (4951760157155032860551436455 / 43556142965880123323311949751266331066368) b5 (by decide +kernel)
  obtain ⟨r6, t6, k6, h6, u6, nr6, nt6⟩ := Dy.root_seq b5.rk g6 h5
  have tb : ∀ κ, 1 / 128 ≤ t6 κ ∧ t6 κ ≤ 2 := fun κ => (b6.mono (L' := 1 / 128) (H' := 2) (w' := 2) (by decide +kernel)).has (u6 κ)
  have xx := sq0 (Dy.val x)
  have yy := sq0 (Dy.val y)
  have zz := sq0 (Dy.val z)
  have sb : ∀ κ, (Dy.val x * Dy.val x + Dy.val y * Dy.val y + Dy.val z * Dy.val z) ≤ t6 κ * t6 κ := fun κ => (k6 κ).2.2.2
  obtain ⟨s7, g7, b7⟩ := Dy.bd_div (302231454904489366498953 / 4722366482869645213696) (-2417851639235915468862537 / 37778931862957161709568) (2417851639235915468862537 / 37778931862957161709568) (5105218686680941936782904660881 / 10889035741470030830827987437816582766592) (-302231454904489366498953 / 4722366482869645213696) (302231454904489366498953 / 4722366482869645213696) (20419636806684478958686438932035 / 43556142965880123323311949751266331066368) cx b6 (by decide +kernel)
  have h7 : Dy.HasS s7 (fun κ => (Dy.val x) / (t6 κ)) := fun κ => Dy.has_div cx.rk b6.rk g7 (ex κ) (u6 κ)
  have qbx : ∀ κ, -1 ≤ Dy.val x / t6 κ ∧ Dy.val x / t6 κ ≤ 1 := fun κ => by_root (by have := (tb κ).1; grind) (sb κ) (by grind)
  obtain ⟨g8, b8⟩ := bd_within (-1) 1 b7 (by have := (h7 0).lo; have := (qbx 0).2; grind) (by have := (h7 0).hi; have := (qbx 0).1; grind) (by decide +kernel)
  have h8 : Dy.HasS (rWithin s7) (fun κ => Dy.val x / t6 κ) := fun κ => has_within (h7 κ) (qbx κ).1 (qbx κ).2
  obtain ⟨s9, g9, b9⟩ := Dy.bd_div (302231454904489366498953 / 4722366482869645213696) (-2417851639235915468862537 / 37778931862957161709568) (2417851639235915468862537 / 37778931862957161709568) (5105218686680941936782904660881 / 10889035741470030830827987437816582766592) (-302231454904489366498953 / 4722366482869645213696) (302231454904489366498953 / 4722366482869645213696) (20419636806684478958686438932035 / 43556142965880123323311949751266331066368) cy b6 (by decide +kernel)
  have h9 : Dy.HasS s9 (fun κ => (Dy.val y) / (t6 κ)) := fun κ => Dy.has_div cy.rk b6.rk g9 (ey κ) (u6 κ)
  have qby : ∀ κ, -1 ≤ Dy.val y / t6 κ ∧ Dy.val y / t6 κ ≤ 1 := fun κ => by_root (by have := (tb κ).1; grind) (sb κ) (by grind)
  obtain ⟨g10, b10⟩ := bd_within (-1) 1 b9 (by have := (h9 0).lo; have := (qby 0).2; grind) (by have := (h9 0).hi; have := (qby 0).1; grind) (by decide +kernel)
  have h10 : Dy.HasS (rWithin s9) (fun κ => Dy.val y / t6 κ) := fun κ => has_within (h9 κ) (qby κ).1 (qby κ).2
  obtain ⟨s11, g11, b11⟩ := Dy.bd_div (302231454904489366498953 / 4722366482869645213696) (365939207639502809926378677653 / 40564819207303340847894502572032) (2417851639235915468862537 / 37778931862957161709568) (5105218686680941936782904660881 / 10889035741470030830827987437816582766592) (182969603820039635339341844097 / 20282409603651670423947251286016) (302231454904489366498953 / 4722366482869645213696) (20419636806684478958686438932035 / 43556142965880123323311949751266331066368) cz b6 (by decide +kernel)
  have h11 : Dy.HasS s11 (fun κ => (Dy.val z) / (t6 κ)) := fun κ => Dy.has_div cz.rk b6.rk g11 (ez κ) (u6 κ)
  have qbz : ∀ κ, -1 ≤ Dy.val z / t6 κ ∧ Dy.val z / t6 κ ≤ 1 := fun κ => by_root (by have := (tb κ).1; grind) (sb κ) (by grind)
  obtain ⟨g12, b12⟩ := bd_within (365939207639502809926378677653 / 40564819207303340847894502572032) 1 b11 (by have := (h11 0).lo; have := (qbz 0).2; grind) (by have := (h11 0).hi; have := (qbz 0).1; grind) (by decide +kernel)
  have h12 : Dy.HasS (rWithin s11) (fun κ => Dy.val z / t6 κ) := fun κ => has_within (h11 κ) (qbz κ).1 (qbz κ).2
  have eM : unitM (Dy.enc x) (Dy.enc y) (Dy.enc z) 0 = ((Dy.E (rWithin s7), Dy.E (rWithin s9), Dy.E (rWithin s11)), 0) := by
    unfold unitM
    refine (Dy.cs_num gx.1).trans ?_
    refine (Dy.cs_num gy.1).trans ?_
    refine (Dy.cs_num gz.1).trans ?_
    refine (Dy.cs_sqr g1.1).trans ?_
    refine (Dy.cs_sqr g2.1).trans ?_
    refine (Dy.cs_add g3.1).trans ?_
    refine (Dy.cs_sqr g4.1).trans ?_
    refine (Dy.cs_add g5.1).trans ?_
    refine (Dy.cs_sqrt g6.1).trans ?_
    refine (Dy.cs_div g7.1).trans ?_
    refine (Dy.cm_p g8).trans ?_
    refine (Dy.cs_div g9.1).trans ?_
    refine (Dy.cm_p g10).trans ?_
    refine (Dy.cs_div g11.1).trans ?_
    refine (Dy.cm_p g12).trans ?_
    exact rfl
  have eG : unitG (Dy.enc x) (Dy.enc y) (Dy.enc z) = ((Dy.E (rWithin s7), Dy.E (rWithin s9), Dy.E (rWithin s11)), 0) := by
    rw [unitG_mid cx.rk.lo cy.rk.lo cz.rk.lo (by omega) (by omega), eM]
  exact ⟨(rWithin s7), (rWithin s9), (rWithin s11), t6, eG, b8.mono (by decide +kernel), b10.mono (by decide +kernel), b12.mono (by decide +kernel), tb, sb, nt6, h8, h10, h12⟩
/-- By how much a vector is made wider. -/
theorem bytes_all : ((List.range 256).all fun u => match Ieee.double.div (FloatKind.f64.nearest ((u : Nat) : Int)) 4643211215818981376 with | some r => decide (r ≤ 4607182418800017408) && decide (FloatKind.f64.nearest ((u : Nat) : Int) < W64) | none => false) = true := by decide +kernel
theorem byte_all {u : Nat} (hu : u < 256) : ∃ b : Int, 0 ≤ b ∧ b ≤ 4607182418800017408 ∧ (Ieee.double.div (FloatKind.f64.nearest ((u : Nat) : Int)) 4643211215818981376).getD 0 = Dy.enc b ∧ nN [.i ((u : Nat) : Int)] = true ∧ (fN Ieee.double.div) [.f (FloatKind.f64.nearest ((u : Nat) : Int)), .f 4643211215818981376] = true := by
  have h := List.all_eq_true.1 bytes_all u (List.mem_range.2 hu)
  split at h
  · rename_i r hr
    obtain ⟨h1, h2⟩ := Bool.and_eq_true_iff.1 h
    have h1 := of_decide_eq_true h1
    refine ⟨(r : Int), by omega, by omega, by rw [hr, Dy.enc_nat]; rfl, h2, ?_⟩
    exact okF_some hr (by unfold W64; omega)
  · cases h
/-- An interval within two numbers, made wider, is within them. -/
theorem widen_num {p : Int × Int} {b l : Int} {L : Nat} (hp : Dy.Rk p) (hb : 0 ≤ b) (hb1 : b ≤ 4607182418800017408) (hl : -4607182418800017408 ≤ l) (hL : L = Dy.enc l) (h1 : l ≤ p.1) (h2 : p.2 ≤ 4607182418800017408) :
    ∃ s : Int × Int, widenF (Dy.enc p.1, Dy.enc p.2) (Dy.enc b) L = (Dy.enc s.1, Dy.enc s.2) ∧ Dy.Rk s ∧ l ≤ s.1 ∧ s.2 ≤ 4607182418800017408 ∧ nWid [.f (Dy.enc p.1), .f (Dy.enc p.2), .f (Dy.enc b), .f L] = true := by
  subst hL
  have le := hp.le
  have o1 : Dy.ok 4607182418800017408 := Dy.ok_B (by decide) (by decide)
  have ob : Dy.ok b := Dy.ok_B (by unfold Dy.B10; omega) (by unfold Dy.B10; omega)
  have ol : Dy.ok l := Dy.ok_B (by unfold Dy.B10; omega) (by unfold Dy.B10; omega)
  have vb := Dy.V_nonneg.2 hb
  have vb1 := Dy.V_le_iff.2 hb1
  have v1 := Dy.V_le_iff.2 h1
  have v2 := Dy.V_le_iff.2 h2
  have v3 := Dy.V_le_iff.2 hl
  have v4 := Dy.V_le_iff.2 le
  have e1 : Dy.V 4607182418800017408 = (Dy.one : Int) := Dy.V_one
  rw [Dy.V_neg, e1] at v3
  rw [e1] at v2 vb1
  have b12 := Dy.V_B12
  have a1 : Dy.nz (Dy.V p.1 - Dy.V b) ≤ p.1 := Dy.nz_le (by omega)
  have a2 : -(Dy.B10 + 9007199254740992) ≤ Dy.nz (Dy.V p.1 - Dy.V b) := Dy.le_nz (by rw [Dy.V_neg, b12]; omega)
  have c1 : p.2 ≤ Dy.nz (Dy.V p.2 + Dy.V b) := Dy.le_nz (by omega)
  have c2 : Dy.nz (Dy.V p.2 + Dy.V b) ≤ Dy.B10 + 9007199254740992 := Dy.nz_le (by rw [b12]; omega)
  have oa : Dy.ok (Dy.nz (Dy.V p.1 - Dy.V b)) := Dy.ok_B a2 (by unfold Dy.B10; omega)
  have oc : Dy.ok (Dy.nz (Dy.V p.2 + Dy.V b)) := Dy.ok_B (by unfold Dy.B10; omega) c2
  have es := Dy.sub_enc hp.lo ob oa
  have ea := Dy.add_enc hp.hi ob oc
  generalize Dy.nz (Dy.V p.1 - Dy.V b) = x at *
  generalize Dy.nz (Dy.V p.2 + Dy.V b) = y at *
  have w1 : widLo (Dy.enc p.1) (Dy.enc b) (Dy.enc l) = Dy.enc (max x l) := by
    unfold widLo
    rw [es]
    show (if Dy.flt (Dy.enc x) (Dy.enc l) = true then Dy.enc l else Dy.enc x) = _
    rw [Dy.flt_enc oa ol]
    by_cases c : x < l
    · rw [decide_eq_true c, if_pos rfl, show max x l = l by omega]
    · rw [decide_eq_false c, if_neg (by decide), show max x l = x by omega]
  have w2 : widHi (Dy.enc p.2) (Dy.enc b) = Dy.enc (min y 4607182418800017408) := by
    unfold widHi
    rw [ea]
    show (if Dy.fgt (Dy.enc y) (Dy.enc 4607182418800017408) = true then Dy.enc 4607182418800017408 else Dy.enc y) = _
    rw [Dy.fgt_enc oc o1]
    by_cases c : (4607182418800017408 : Int) < y
    · rw [decide_eq_true c, if_pos rfl, show min y 4607182418800017408 = 4607182418800017408 by omega]
    · rw [decide_eq_false c, if_neg (by decide), show min y 4607182418800017408 = y by omega]
  have k1 := point_all (Dy.ok_max2 oa ol)
  have k2 := point_all (Dy.ok_min2 oc o1)
  refine ⟨(max x l, min y 4607182418800017408), ?_, ⟨Dy.ok_max2 oa ol, Dy.ok_min2 oc o1, by dsimp only; omega⟩, by dsimp only; omega, by dsimp only; omega, ?_⟩
  · unfold widenF
    dsimp only
    rw [w1, w2, k1.1, k2.1]
  · show (okF (Ieee.double.sub (Dy.enc p.1) (Dy.enc b)) && okF (Ieee.double.add (Dy.enc p.2) (Dy.enc b)) && okF (Ieee.double.add (widLo (Dy.enc p.1) (Dy.enc b) (Dy.enc l)) 0) && okF (Ieee.double.add (widHi (Dy.enc p.2) (Dy.enc b)) 0)) = true
    rw [okF_some es (Dy.W_enc oa), okF_some ea (Dy.W_enc oc), w1, w2]
    rw [show okF (Ieee.double.add (Dy.enc (max x l)) 0) = true from k1.2, show okF (Ieee.double.add (Dy.enc (min y 4607182418800017408)) 0) = true from k2.2]; rfl
structure In1 (p : Int × Int) : Prop where
  rk : Dy.Rk p
  wi : Dy.Wi p (-4607182418800017408, 4607182418800017408)
theorem In1.wn {p : Int × Int} (h : In1 p) : Dy.Wn (13830554455654793216, 4607182418800017408) (Dy.E p) := ⟨(-4607182418800017408, 4607182418800017408), p, by decide, rfl, ⟨Dy.ok_neg (Dy.ok_B (by decide) (by decide)), Dy.ok_B (by decide) (by decide), by decide⟩, h.rk, h.wi⟩
section
variable {a b c d e f a' b' c' d' e' f' : Int × Int}
end
end Go.Proofs.YtikiegcncliocaaGreat
