/- Plain facts: what an operation answers of numbers; which corners the ends of an answer are. -/
import Derived.Test.YtiphdhpacklboaaIp
import Derived.Test.YtiphdhpacklboaaLo
import Derived.Test.YtiphdhpacklboaaRa
namespace Go.Dy
theorem rk_pt {x : Int} (ox : ok x) : Rk (x, x) := ⟨ox, ox, Int.le_refl _⟩
theorem sqr_eq {p s : Int × Int} (hp : Rk p) (h : Got (cSqr 0 (E p)) s) : s = (mulR (rBare p).1 (rBare p).1 false, mulR (rBare p).2 (rBare p).2 true) := by
  obtain ⟨b, b0⟩ := hp.bare
  rw [cSqr_E hp] at h
  have m := b.le
  have b0' : 0 ≤ (rBare p).1 := b0
  have v := V_le_iff.2 m
  have v0 := V_nonneg.2 b0'
  refine res_eq h (Int.le_trans (fl_mono (up := false) one_pos ?_) (mulR_le _ _))
  exact Int.mul_le_mul v v v0 (by omega)
theorem add_eq {p q s : Int × Int} (hp : Rk p) (hq : Rk q) (h : Got (cAdd 0 (E p) (E q)) s) : s = (fl (V p.1 + V q.1) 1 false, fl (V p.2 + V q.2) 1 true) := by
  rw [cAdd_E hp hq] at h
  have a := V_le_iff.2 hp.le; have b := V_le_iff.2 hq.le
  exact res_eq h (Int.le_trans (fl_mono (by decide) (by omega)) (fl_le_up (by decide)))
theorem sub_eq {p q s : Int × Int} (hp : Rk p) (hq : Rk q) (h : Got (cSub 0 (E p) (E q)) s) : s = (fl (V p.1 - V q.2) 1 false, fl (V p.2 - V q.1) 1 true) := by
  rw [cSub_E hp hq] at h
  have a := V_le_iff.2 hp.le; have b := V_le_iff.2 hq.le
  exact res_eq h (Int.le_trans (fl_mono (by decide) (by omega)) (fl_le_up (by decide)))
theorem mul_eq' {p q s : Int × Int} (hp : Rk p) (hq : Rk q) (h : Got (cMul 0 (E p) (E q)) s) : s = (lo4 mulR p q, hi4 mulR p q) := by
  rw [cMul_E hp hq] at h
  refine res_eq h ?_
  have := mulR_le p.1 q.1
  unfold lo4 hi4; omega
theorem div_nz {p q s : Int × Int} (hp : Rk p) (hq : Rk q) (h : Got (cDiv 0 (E p) (E q)) s) : nz0 q := by
  by_cases h0 : nz0 q
  · exact h0
  · rw [cDiv_zero hp hq h0] at h; exact absurd h.e0 (by decide)
theorem div_eq' {p q s : Int × Int} (hp : Rk p) (hq : Rk q) (h : Got (cDiv 0 (E p) (E q)) s) : s = (lo4 divR p q, hi4 divR p q) := by
  have z := div_nz hp hq h
  have l := hq.le
  rw [cDiv_E hp hq z] at h
  refine res_eq h ?_
  have := divR_le (a := p.1) (b := q.1) (by unfold nz0 at z; omega)
  unfold lo4 hi4; omega
theorem sqrt_eq {p s : Int × Int} (hp : Rk p) (h : Got (cSqrt 0 (E p)) s) : 0 ≤ p.1 ∧ s = (sqz p.1 false, sqz p.2 true) := by
  have h0 : 0 ≤ p.1 := by
    by_cases c : 0 ≤ p.1
    · exact c
    · rw [cSqrt_neg hp (by omega)] at h; exact absurd h.e0 (by decide)
  rw [cSqrt_E hp h0] at h
  exact ⟨h0, res_eq h (Int.le_trans (sqz_mono h0 hp.le) (sqz_le_up _))⟩
theorem mulR_nn2 (x : Int) (up : Bool) : mulR (-x) (-x) up = mulR x x up := by unfold mulR; rw [V_neg, Int.neg_mul_neg]
end Go.Dy
namespace Go.Proofs.Ytiphdhpacklboaa
open Go Go.RowKit

theorem mkP {r : Nat × Int} {z : Int} (h : r = (Dy.enc z, 0)) : (r.1, r.2 == 0) = (Dy.enc z, true) := by rw [h]; rfl
/-- What an operation answers of numbers is what it answers of intervals that are numbers. -/
theorem point_ask {k : Int} (hk : 0 ≤ k) {x y : Int} (ox : Dy.ok x) (oy : Dy.ok y) {s : Int × Int} (h : Dy.Got (opAsk k 0 (Dy.E (x, x)) (Dy.E (y, y))) s) :
    pointG k (Dy.enc x) (Dy.enc y) false = (Dy.enc s.1, true) ∧ pointG k (Dy.enc x) (Dy.enc y) true = (Dy.enc s.2, true) := by
  have px := Dy.rk_pt ox; have py := Dy.rk_pt oy
  have l := h.rk.lo; have u := h.rk.hi
  have h1 : 0 ≤ k.tmod 11 := Int.tmod_nonneg 11 hk
  have h2 : k.tmod 11 < 11 := Int.tmod_lt_of_pos k (by omega)
  unfold opAsk at h
  unfold pointG
  generalize k.tmod 11 = j at *
  have : j = 0 ∨ j = 1 ∨ j = 2 ∨ j = 3 ∨ j = 4 ∨ j = 5 ∨ j = 6 ∨ j = 7 ∨ j = 8 ∨ j = 9 ∨ j = 10 := by omega
  rcases this with rfl | rfl | rfl | rfl | rfl | rfl | rfl | rfl | rfl | rfl | rfl
  · have e := Dy.add_eq px py (show Dy.Got (Dy.cAdd 0 (Dy.E (x, x)) (Dy.E (y, y))) s from h)
    subst e
    exact ⟨mkP ((Dy.dAdd_enc ox oy).trans (Dy.out_mid l)), mkP ((Dy.dAdd_enc ox oy).trans (Dy.out_mid u))⟩
  · have e := Dy.sub_eq px py (show Dy.Got (Dy.cSub 0 (Dy.E (x, x)) (Dy.E (y, y))) s from h)
    subst e
    exact ⟨mkP ((Dy.dSub_enc ox oy).trans (Dy.out_mid l)), mkP ((Dy.dSub_enc ox oy).trans (Dy.out_mid u))⟩
  · have e := Dy.mul_eq' px py (show Dy.Got (Dy.cMul 0 (Dy.E (x, x)) (Dy.E (y, y))) s from h)
    have e1 : Dy.lo4 Dy.mulR (x, x) (y, y) = Dy.mulR x y false := by unfold Dy.lo4; dsimp only; omega
    have e2 : Dy.hi4 Dy.mulR (x, x) (y, y) = Dy.mulR x y true := by unfold Dy.hi4; dsimp only; omega
    rw [e1, e2] at e
    subst e
    exact ⟨mkP ((Dy.out_mul ox oy).trans (Dy.out_mid l)), mkP ((Dy.out_mul ox oy).trans (Dy.out_mid u))⟩
  · have h' : Dy.Got (Dy.cDiv 0 (Dy.E (x, x)) (Dy.E (y, y))) s := h
    have e := Dy.div_eq' px py h'
    have y0 : y ≠ 0 := by have := Dy.div_nz px py h'; unfold Dy.nz0 at this; omega
    have e1 : Dy.lo4 Dy.divR (x, x) (y, y) = Dy.divR x y false := by unfold Dy.lo4; dsimp only; omega
    have e2 : Dy.hi4 Dy.divR (x, x) (y, y) = Dy.divR x y true := by unfold Dy.hi4; dsimp only; omega
    rw [e1, e2] at e
    subst e
    exact ⟨mkP ((Dy.out_div ox oy y0).trans (Dy.out_mid l)), mkP ((Dy.out_div ox oy y0).trans (Dy.out_mid u))⟩
  · have e := (show Dy.Got (Dy.cMin 0 (Dy.E (x, x)) (Dy.E (y, y))) s from h).uniq (Dy.got_min px py)
    subst e
    exact ⟨congrArg (fun z => (z, true)) (Dy.dmin_enc ox oy), congrArg (fun z => (z, true)) (Dy.dmin_enc ox oy)⟩
  · have e := (show Dy.Got (Dy.cMax 0 (Dy.E (x, x)) (Dy.E (y, y))) s from h).uniq (Dy.got_max px py)
    subst e
    exact ⟨congrArg (fun z => (z, true)) (Dy.dmax_enc ox oy), congrArg (fun z => (z, true)) (Dy.dmax_enc ox oy)⟩
  · have e := Dy.sqr_eq px (show Dy.Got (Dy.cSqr 0 (Dy.E (x, x))) s from h)
    have hb : ∀ up, Dy.mulR (Dy.rBare (x, x)).1 (Dy.rBare (x, x)).1 up = Dy.mulR x x up ∧ Dy.mulR (Dy.rBare (x, x)).2 (Dy.rBare (x, x)).2 up = Dy.mulR x x up := fun up => by
      unfold Dy.rBare Dy.rTurned; dsimp only
      by_cases c : 0 ≤ x
      · rw [if_pos c]; exact ⟨rfl, rfl⟩
      · rw [if_neg c, if_pos (by omega)]; exact ⟨Dy.mulR_nn2 x up, Dy.mulR_nn2 x up⟩
    rw [(hb false).1, (hb true).2] at e
    subst e
    exact ⟨mkP ((Dy.out_mul ox ox).trans (Dy.out_mid l)), mkP ((Dy.out_mul ox ox).trans (Dy.out_mid u))⟩
  · obtain ⟨h0, e⟩ := Dy.sqrt_eq px (show Dy.Got (Dy.cSqrt 0 (Dy.E (x, x))) s from h)
    subst e
    exact ⟨mkP (Dy.dSqrt_enc ox h0), mkP (Dy.dSqrt_enc ox h0)⟩
  · have e := (show Dy.Got (Dy.cNeg 0 (Dy.E (x, x))) s from h).uniq (Dy.got_neg px)
    subst e
    have m : (Ieee.double.sub 0 (Dy.enc x)).getD 0 = Dy.enc (-x) := by rw [sub0_E (Dy.W_enc ox) (Dy.right_enc ox), Dy.minus_enc ox]; rfl
    exact ⟨congrArg (fun z => (z, true)) m, congrArg (fun z => (z, true)) m⟩
  · have e := (show Dy.Got (Dy.cAbs 0 (Dy.E (x, x))) s from h).uniq (Dy.got_abs px)
    have m : (Ieee.double.sub 0 (Dy.enc x)).getD 0 = Dy.enc (-x) := by rw [sub0_E (Dy.W_enc ox) (Dy.right_enc ox), Dy.minus_enc ox]; rfl
    have d : Dy.dmax (Dy.enc x) ((Ieee.double.sub 0 (Dy.enc x)).getD 0) = Dy.enc (max x (-x)) := by rw [m, Dy.dmax_enc ox (Dy.ok_neg ox)]
    have hb : Dy.rBare (x, x) = (max x (-x), max x (-x)) := by
      unfold Dy.rBare Dy.rTurned; dsimp only
      by_cases c : 0 ≤ x
      · rw [if_pos c]; simp only [Prod.mk.injEq]; omega
      · rw [if_neg c, if_pos (by omega)]; simp only [Prod.mk.injEq]; omega
    rw [hb] at e
    subst e
    exact ⟨congrArg (fun z => (z, true)) d, congrArg (fun z => (z, true)) d⟩
  · have e := (show Dy.Got (Dy.cNum 0 (Dy.enc x)) s from h).uniq (Dy.got_num ox)
    subst e
    exact ⟨rfl, rfl⟩
/-- An answer's ends are what corners have. -/
theorem corners {k : Int} (hk : 0 ≤ k) {p q s c1 c2 c3 c4 : Int × Int} (hp : Dy.Rk p) (hq : Dy.Rk q) (h : Dy.Got (opAsk k 0 (Dy.E p) (Dy.E q)) s) (h10 : (k.tmod 11 == 10) = false)
    (h1 : Dy.Got (opAsk k 0 (Dy.E (p.1, p.1)) (Dy.E (q.1, q.1))) c1) (h2 : Dy.Got (opAsk k 0 (Dy.E (p.1, p.1)) (Dy.E (q.2, q.2))) c2) (h3 : Dy.Got (opAsk k 0 (Dy.E (p.2, p.2)) (Dy.E (q.1, q.1))) c3) (h4 : Dy.Got (opAsk k 0 (Dy.E (p.2, p.2)) (Dy.E (q.2, q.2))) c4) :
    ((c1.1 = s.1 ∨ c2.1 = s.1 ∨ c3.1 = s.1 ∨ c4.1 = s.1) ∨ ((k.tmod 11 == 6) = true ∨ (k.tmod 11 == 9) = true) ∧ p.1 < 0 ∧ 0 < p.2) ∧ (c1.2 = s.2 ∨ c2.2 = s.2 ∨ c3.2 = s.2 ∨ c4.2 = s.2) := by
  have p1 := Dy.rk_pt hp.lo; have p2 := Dy.rk_pt hp.hi; have q1 := Dy.rk_pt hq.lo; have q2 := Dy.rk_pt hq.hi
  have hl := hp.le
  have g1 : 0 ≤ k.tmod 11 := Int.tmod_nonneg 11 hk
  have g2 : k.tmod 11 < 11 := Int.tmod_lt_of_pos k (by omega)
  unfold opAsk at h h1 h2 h3 h4
  generalize k.tmod 11 = j at *
  have : j = 0 ∨ j = 1 ∨ j = 2 ∨ j = 3 ∨ j = 4 ∨ j = 5 ∨ j = 6 ∨ j = 7 ∨ j = 8 ∨ j = 9 ∨ j = 10 := by omega
  rcases this with rfl | rfl | rfl | rfl | rfl | rfl | rfl | rfl | rfl | rfl | rfl
  · rw [Dy.add_eq hp hq h, Dy.add_eq p1 q1 h1, Dy.add_eq p2 q2 h4]
    exact ⟨.inl (.inl rfl), .inr (.inr (.inr rfl))⟩
  · rw [Dy.sub_eq hp hq h, Dy.sub_eq p1 q2 h2, Dy.sub_eq p2 q1 h3]
    exact ⟨.inl (.inr (.inl rfl)), .inr (.inr (.inl rfl))⟩
  · rw [Dy.mul_eq' hp hq h, Dy.mul_eq' p1 q1 h1, Dy.mul_eq' p1 q2 h2, Dy.mul_eq' p2 q1 h3, Dy.mul_eq' p2 q2 h4]
    unfold Dy.lo4 Dy.hi4; dsimp only; omega
  · rw [Dy.div_eq' hp hq h, Dy.div_eq' p1 q1 h1, Dy.div_eq' p1 q2 h2, Dy.div_eq' p2 q1 h3, Dy.div_eq' p2 q2 h4]
    unfold Dy.lo4 Dy.hi4; dsimp only; omega
  · rw [(show Dy.Got (Dy.cMin 0 (Dy.E p) (Dy.E q)) s from h).uniq (Dy.got_min hp hq), (show Dy.Got (Dy.cMin 0 _ _) c1 from h1).uniq (Dy.got_min p1 q1), (show Dy.Got (Dy.cMin 0 _ _) c4 from h4).uniq (Dy.got_min p2 q2)]
    exact ⟨.inl (.inl rfl), .inr (.inr (.inr rfl))⟩
  · rw [(show Dy.Got (Dy.cMax 0 (Dy.E p) (Dy.E q)) s from h).uniq (Dy.got_max hp hq), (show Dy.Got (Dy.cMax 0 _ _) c1 from h1).uniq (Dy.got_max p1 q1), (show Dy.Got (Dy.cMax 0 _ _) c4 from h4).uniq (Dy.got_max p2 q2)]
    exact ⟨.inl (.inl rfl), .inr (.inr (.inr rfl))⟩
  · have bb : ∀ x up, Dy.mulR (Dy.rBare (x, x)).1 (Dy.rBare (x, x)).1 up = Dy.mulR x x up ∧ Dy.mulR (Dy.rBare (x, x)).2 (Dy.rBare (x, x)).2 up = Dy.mulR x x up := fun x up => by
      unfold Dy.rBare Dy.rTurned; dsimp only
      by_cases c : 0 ≤ x
      · rw [if_pos c]; exact ⟨rfl, rfl⟩
      · rw [if_neg c, if_pos (by omega)]; exact ⟨Dy.mulR_nn2 x up, Dy.mulR_nn2 x up⟩
    rw [Dy.sqr_eq hp h, Dy.sqr_eq p1 h1, Dy.sqr_eq p2 h4]
    dsimp only
    rw [(bb _ _).1, (bb _ _).2, (bb _ _).1, (bb _ _).2]
    by_cases c : 0 ≤ p.1
    · have e : Dy.rBare p = p := by unfold Dy.rBare; rw [if_pos c]
      rw [e]; exact ⟨.inl (.inl rfl), .inr (.inr (.inr rfl))⟩
    · by_cases d : p.2 ≤ 0
      · have e : Dy.rBare p = Dy.rTurned p := by unfold Dy.rBare; rw [if_neg c, if_pos d]
        rw [e]; unfold Dy.rTurned; dsimp only; rw [Dy.mulR_nn2, Dy.mulR_nn2]
        exact ⟨.inl (.inr (.inr (.inr rfl))), .inl rfl⟩
      · have e : Dy.rBare p = (0, max p.2 (-p.1)) := by unfold Dy.rBare; rw [if_neg c, if_neg d]
        rw [e]
        refine ⟨.inr ⟨.inl rfl, by omega, by omega⟩, ?_⟩
        dsimp only
        by_cases f : -p.1 ≤ p.2
        · rw [show max p.2 (-p.1) = p.2 by omega]; exact .inr (.inr (.inr rfl))
        · rw [show max p.2 (-p.1) = -p.1 by omega, Dy.mulR_nn2]; exact .inl rfl
  · rw [(Dy.sqrt_eq hp h).2, (Dy.sqrt_eq p1 h1).2, (Dy.sqrt_eq p2 h4).2]
    exact ⟨.inl (.inl rfl), .inr (.inr (.inr rfl))⟩
  · rw [(show Dy.Got (Dy.cNeg 0 (Dy.E p)) s from h).uniq (Dy.got_neg hp), (show Dy.Got (Dy.cNeg 0 _) c1 from h1).uniq (Dy.got_neg p1), (show Dy.Got (Dy.cNeg 0 _) c4 from h4).uniq (Dy.got_neg p2)]
    exact ⟨.inl (.inr (.inr (.inr rfl))), .inl rfl⟩
  · rw [(show Dy.Got (Dy.cAbs 0 (Dy.E p)) s from h).uniq (Dy.got_abs hp), (show Dy.Got (Dy.cAbs 0 _) c1 from h1).uniq (Dy.got_abs p1), (show Dy.Got (Dy.cAbs 0 _) c4 from h4).uniq (Dy.got_abs p2)]
    unfold Dy.rBare Dy.rTurned
    dsimp only
    by_cases c : 0 ≤ p.1
    · rw [if_pos c, if_pos c, if_pos (by omega)]; exact ⟨.inl (.inl rfl), .inr (.inr (.inr rfl))⟩
    · by_cases d : p.2 ≤ 0
      · rw [if_neg c, if_pos d, if_neg c, if_pos (by omega)]
        by_cases f : 0 ≤ p.2
        · rw [if_pos f]; dsimp only; exact ⟨.inl (.inr (.inr (.inr (by omega)))), .inl rfl⟩
        · rw [if_neg f, if_pos d]; dsimp only; exact ⟨.inl (.inr (.inr (.inr rfl))), .inl rfl⟩
      · rw [if_neg c, if_neg d, if_neg c, if_pos (by omega), if_pos (by omega)]
        refine ⟨.inr ⟨.inr rfl, by omega, by omega⟩, ?_⟩
        dsimp only
        omega
  · cases h10
end Go.Proofs.Ytiphdhpacklboaa
