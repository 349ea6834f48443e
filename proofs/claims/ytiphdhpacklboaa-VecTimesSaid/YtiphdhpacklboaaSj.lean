/- Plain facts: turned unit vectors. -/
import Derived.Test.YtiphdhpacklboaaSa
namespace Go.Dy
theorem bare_neg (x : Int) : rBare (-x, -x) = rBare (x, x) := by
  unfold rBare rTurned
  dsimp only
  rcases Int.lt_trichotomy x 0 with h | h | h
  · rw [if_pos (by omega), if_neg (by omega), if_pos (by omega)]
  · subst h; rfl
  · rw [if_neg (by omega), if_pos (by omega), if_pos (by omega), Int.neg_neg]
theorem rk_pt {x : Int} (ox : ok x) : Rk (x, x) := ⟨ox, ox, Int.le_refl _⟩
theorem sqr_neg {x : Int} {s : Int × Int} (ox : ok x) (h : Got (cSqr 0 (E (x, x))) s) : Got (cSqr 0 (E (-x, -x))) s := by
  rw [cSqr_E (rk_pt ox)] at h
  rw [cSqr_E (rk_pt (ok_neg ox)), bare_neg]
  exact h
theorem divR_minus {x y : Int} (hy : 0 < y) (up : Bool) : divR (-x) y up = -divR x y (!up) := by
  rw [divR_pos hy, divR_pos hy, V_neg, Int.neg_mul, fl_neg]
theorem pin_neg (z : Int) : pin (-z) = -pin z := by
  have := top_eq
  unfold pin; omega
end Go.Dy
namespace Go.Proofs.Ytiphdhpacklboaa
open Go Go.RowKit

theorem div_turn {x : Int} {q d : Int × Int} (ox : Dy.ok x) (hq : Dy.Rk q) (q0 : 0 < q.1) (h : Dy.Got (Dy.cDiv 0 (Dy.E (x, x)) (Dy.E q)) d) : Dy.Got (Dy.cDiv 0 (Dy.E (-x, -x)) (Dy.E q)) (Dy.rTurned d) := by
  have hl := hq.le
  have h0 := nz_of (Dy.rk_pt ox) hq h
  rw [Dy.cDiv_E (Dy.rk_pt ox) hq h0] at h
  obtain ⟨_, c1, c2⟩ := Dy.res_err (congrArg (·.2) h.1)
  have lh : Dy.lo4 Dy.divR (x, x) q ≤ Dy.hi4 Dy.divR (x, x) q := by
    have := Dy.divR_le (a := x) (b := q.1) (by omega)
    unfold Dy.lo4 Dy.hi4; dsimp only; omega
  have hd := (Dy.got_of lh c1 c2).uniq h
  have m : ∀ up, Dy.divR (-x) q.1 up = -Dy.divR x q.1 (!up) := Dy.divR_minus q0
  have m' : ∀ up, Dy.divR (-x) q.2 up = -Dy.divR x q.2 (!up) := Dy.divR_minus (by omega)
  have e1 : Dy.lo4 Dy.divR (-x, -x) q = -Dy.hi4 Dy.divR (x, x) q := by
    unfold Dy.lo4 Dy.hi4; dsimp only; rw [m, m', Bool.not_false]; omega
  have e2 : Dy.hi4 Dy.divR (-x, -x) q = -Dy.lo4 Dy.divR (x, x) q := by
    unfold Dy.lo4 Dy.hi4; dsimp only; rw [m, m', Bool.not_true]; omega
  have g := Dy.got_of (z := -Dy.hi4 Dy.divR (x, x) q) (y := -Dy.lo4 Dy.divR (x, x) q) (by omega) (by omega) (by omega)
  rw [Dy.cDiv_E (Dy.rk_pt (Dy.ok_neg ox)) hq h0, e1, e2, ← hd]
  rw [Dy.pin_neg, Dy.pin_neg] at g
  exact g
theorem within_E {p : Int × Int} (hp : Dy.Rk p) (k1 : p.1 ≤ 4607182418800017408) (k2 : -4607182418800017408 ≤ p.2) : vWithin (Dy.E p) = Dy.E (rWithin p) := by
  have o1 : Dy.ok 4607182418800017408 := Dy.ok_B (by decide) (by decide)
  have om : Dy.ok (-4607182418800017408) := Dy.ok_neg o1
  have l := hp.le
  unfold vWithin iMeet
  show (if Dy.fgt (Dy.dmax (Dy.enc p.1) (Dy.enc (-4607182418800017408))) (Dy.dmin (Dy.enc p.2) (Dy.enc 4607182418800017408)) = true then ((0, 0), false) else ((Dy.dmax (Dy.enc p.1) (Dy.enc (-4607182418800017408)), Dy.dmin (Dy.enc p.2) (Dy.enc 4607182418800017408)), true)).1 = _
  rw [Dy.dmax_enc hp.lo om, Dy.dmin_enc hp.hi o1, Dy.fgt_enc (Dy.ok_max2 hp.lo om) (Dy.ok_min2 hp.hi o1), decide_eq_false (by omega), if_neg (by decide)]
  rfl
theorem rWithin_turn (p : Int × Int) : rWithin (Dy.rTurned p) = Dy.rTurned (rWithin p) := by
  unfold rWithin Dy.rTurned
  simp only [Prod.mk.injEq]
  omega
/-- A unit vector, by its steps. -/
theorem unit_of {x y z : Int} {p q r : Int × Int} (ox : Dy.ok x) (oy : Dy.ok y) (oz : Dy.ok z) (h : UnitSt x y z p q r) : unitM (Dy.enc x) (Dy.enc y) (Dy.enc z) 0 = ((Dy.E p, Dy.E q, Dy.E r), 0) := by
  obtain ⟨sx, sy, s, sz, t, n, dx, dy, dz, g1, g2, g3, g4, g5, g6, _, _, ⟨g7, r7, a7, b7, rfl⟩, ⟨g8, r8, a8, b8, rfl⟩, ⟨g9, r9, a9, b9, rfl⟩⟩ := h
  unfold unitM
  refine (Dy.cs_num (Dy.got_num ox).1).trans ?_
  refine (Dy.cs_num (Dy.got_num oy).1).trans ?_
  refine (Dy.cs_num (Dy.got_num oz).1).trans ?_
  refine (Dy.cs_sqr g1.1).trans ?_
  refine (Dy.cs_sqr g2.1).trans ?_
  refine (Dy.cs_add g3.1).trans ?_
  refine (Dy.cs_sqr g4.1).trans ?_
  refine (Dy.cs_add g5.1).trans ?_
  refine (Dy.cs_sqrt g6.1).trans ?_
  refine (Dy.cs_div g7.1).trans ?_
  refine (Dy.cm_p (within_E r7 a7 b7)).trans ?_
  refine (Dy.cs_div g8.1).trans ?_
  refine (Dy.cm_p (within_E r8 a8 b8)).trans ?_
  refine (Dy.cs_div g9.1).trans ?_
  refine (Dy.cm_p (within_E r9 a9 b9)).trans ?_
  exact rfl
theorem UnitSt.turnX {x y z : Int} {p q r : Int × Int} (ox : Dy.ok x) (h : UnitSt x y z p q r) : UnitSt (-x) y z (Dy.rTurned p) q r := by
  obtain ⟨sx, sy, s, sz, t, n, dx, dy, dz, g1, g2, g3, g4, g5, g6, k, k0, ⟨g7, r7, a7, b7, rfl⟩, c8, c9⟩ := h
  exact ⟨sx, sy, s, sz, t, n, Dy.rTurned dx, dy, dz, Dy.sqr_neg ox g1, g2, g3, g4, g5, g6, k, k0, ⟨div_turn ox k k0 g7, r7.turned, by show -dx.2 ≤ _; omega, by show _ ≤ -dx.1; omega, (rWithin_turn dx).symm⟩, c8, c9⟩
theorem UnitSt.turnY {x y z : Int} {p q r : Int × Int} (oy : Dy.ok y) (h : UnitSt x y z p q r) : UnitSt x (-y) z p (Dy.rTurned q) r := by
  obtain ⟨sx, sy, s, sz, t, n, dx, dy, dz, g1, g2, g3, g4, g5, g6, k, k0, c7, ⟨g8, r8, a8, b8, rfl⟩, c9⟩ := h
  exact ⟨sx, sy, s, sz, t, n, dx, Dy.rTurned dy, dz, g1, Dy.sqr_neg oy g2, g3, g4, g5, g6, k, k0, c7, ⟨div_turn oy k k0 g8, r8.turned, by show -dy.2 ≤ _; omega, by show _ ≤ -dy.1; omega, (rWithin_turn dy).symm⟩, c9⟩
theorem UnitSt.turnZ {x y z : Int} {p q r : Int × Int} (oz : Dy.ok z) (h : UnitSt x y z p q r) : UnitSt x y (-z) p q (Dy.rTurned r) := by
  obtain ⟨sx, sy, s, sz, t, n, dx, dy, dz, g1, g2, g3, g4, g5, g6, k, k0, c7, c8, ⟨g9, r9, a9, b9, rfl⟩⟩ := h
  exact ⟨sx, sy, s, sz, t, n, dx, dy, Dy.rTurned dz, g1, g2, g3, Dy.sqr_neg oz g4, g5, g6, k, k0, c7, c8, ⟨div_turn oz k k0 g9, r9.turned, by show -dz.2 ≤ _; omega, by show _ ≤ -dz.1; omega, (rWithin_turn dz).symm⟩⟩
theorem has_turn {p : Int × Int} {x : Rat} (h : Dy.Has p x) : Dy.Has (Dy.rTurned p) (-x) :=
  ⟨by show Dy.val (-p.2) ≤ -x; rw [Dy.val_neg]; have := h.hi; grind, by show -x ≤ Dy.val (-p.1); rw [Dy.val_neg]; have := h.lo; grind⟩
end Go.Proofs.Ytiphdhpacklboaa
