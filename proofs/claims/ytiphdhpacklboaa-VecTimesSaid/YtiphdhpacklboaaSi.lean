/- Plain facts: a triple times a power of two has the same unit vector: roots, quotients, all steps. -/
import Derived.Test.YtiphdhpacklboaaSh
import Derived.Test.YtiphdhpacklboaaSj
namespace Go.Dy
theorem root_scale {T T' : Int} {k : Nat} (t0 : 2 ^ 900 ≤ V T) (e : V T' = V T * 2 ^ (2 * k)) (up : Bool) : sqz T' up = sqz T up + (k : Int) * 4503599627370496 ∧ 9007199254740992 ≤ sqz T up := by
  have p900 : (0 : Int) < 2 ^ 900 := pow_pos2 900
  have hT : 0 ≤ T := V_nonneg.1 (by omega)
  have hT' : 0 ≤ T' := V_nonneg.1 (by rw [e]; exact Int.mul_nonneg (by omega) (Int.le_of_lt (pow_pos2 _)))
  have o1 : (1 : Int) ≤ (one : Int) := by have := one_pos'; omega
  have b0 : 9007199254740992 ≤ sqz T false := (sqz_down hT (by decide)).2 (by
    rw [V_53]
    have h1 := Int.mul_le_mul_of_nonneg_left o1 (show 0 ≤ V T by omega)
    have h2 : (9007199254740992 : Int) * 9007199254740992 ≤ 2 ^ 900 := by decide +kernel
    omega)
  have b : 9007199254740992 ≤ sqz T up := by have := sqz_le_up T; cases up <;> omega
  refine ⟨?_, b⟩
  have sq : ∀ z : Int, 4503599627370496 ≤ z → V (z + (k : Int) * 4503599627370496) * V (z + (k : Int) * 4503599627370496) = V z * V z * 2 ^ (2 * k) := fun z hz => by
    rw [V_shift hz, show 2 * k = k + k by omega, Int.pow_add]; grind
  have et : V T' * (one : Int) = V T * (one : Int) * 2 ^ (2 * k) := by rw [e]; grind
  have p := pow_pos2 (2 * k)
  generalize hn : sqz T up = n at *
  cases up with
  | false =>
    have k1 : V n * V n ≤ V T * one := (sqz_down hT (by omega)).1 (by omega)
    have k2 : V T * one < V (n + 1) * V (n + 1) := by
      rcases Int.lt_or_le (V T * one) (V (n + 1) * V (n + 1)) with c | c
      · exact c
      · have := (sqz_down hT (show 0 ≤ n + 1 by omega)).2 c; omega
    refine Int.le_antisymm ?_ ((sqz_down hT' (by omega)).2 (by rw [sq n (by omega), et]; exact Int.mul_le_mul_of_nonneg_right k1 (Int.le_of_lt p)))
    rcases Int.lt_or_le (n + (k : Int) * 4503599627370496) (sqz T' false) with c | c
    · have c' := (sqz_down hT' (show 0 ≤ (n + 1) + (k : Int) * 4503599627370496 by omega)).1 (by omega)
      rw [sq (n + 1) (by omega), et] at c'
      have := Int.mul_lt_mul_of_pos_right k2 p
      omega
    · exact c
  | true =>
    have k1 : V T * one ≤ V n * V n := (sqz_up hT (by omega)).1 (by omega)
    have k2 : V (n - 1) * V (n - 1) < V T * one := by
      rcases Int.lt_or_le (V (n - 1) * V (n - 1)) (V T * one) with c | c
      · exact c
      · have := (sqz_up hT (show 0 ≤ n - 1 by omega)).2 c; omega
    refine Int.le_antisymm ((sqz_up hT' (by omega)).2 (by rw [sq n (by omega), et]; exact Int.mul_le_mul_of_nonneg_right k1 (Int.le_of_lt p))) ?_
    rcases Int.lt_or_le (sqz T' true) (n + (k : Int) * 4503599627370496) with c | c
    · have c' := (sqz_up hT' (show 0 ≤ (n - 1) + (k : Int) * 4503599627370496 by omega)).1 (by omega)
      rw [sq (n - 1) (by omega), et] at c'
      have := Int.mul_lt_mul_of_pos_right k2 p
      omega
    · exact c
theorem fl_cancel {N : Int} {d c : Nat} (hd : 0 < d) (hc : 0 < c) (up : Bool) : fl (N * (c : Int)) (d * c) up = fl N d up := by
  have hdc : 0 < d * c := Nat.mul_pos hd hc
  have cp : (0 : Int) < (c : Int) := by omega
  have sw : ∀ z : Int, V z * ((d * c : Nat) : Int) = V z * (d : Int) * (c : Int) := fun z => by rw [Int.natCast_mul, Int.mul_assoc]
  cases up with
  | true =>
    refine Int.le_antisymm ((fl_up hdc).2 ?_) ((fl_up hd).2 ?_)
    · rw [sw]; exact Int.mul_le_mul_of_nonneg_right ((fl_up hd).1 (Int.le_refl _)) (Int.le_of_lt cp)
    · have := (@fl_up (fl (N * (c : Int)) (d * c) true) (N * (c : Int)) (d * c) hdc).1 (Int.le_refl _)
      rw [sw] at this
      exact Int.le_of_mul_le_mul_right this cp
  | false =>
    refine Int.le_antisymm ((fl_down hd).2 ?_) ((fl_down hdc).2 ?_)
    · have := (@fl_down (fl (N * (c : Int)) (d * c) false) (N * (c : Int)) (d * c) hdc).1 (Int.le_refl _)
      rw [sw] at this
      exact Int.le_of_mul_le_mul_right this cp
    · rw [sw]; exact Int.mul_le_mul_of_nonneg_right ((fl_down hd).1 (Int.le_refl _)) (Int.le_of_lt cp)
theorem div_sc {a b n n' : Int} {k : Nat} (n0 : 0 < n) (n0' : 0 < n') (ea : V b = V a * 2 ^ k) (en : V n' = V n * 2 ^ k) (up : Bool) : divR b n' up = divR a n up := by
  have vn := V_pos.2 n0
  rw [divR_pos n0', divR_pos n0]
  have e1 : (V n').toNat = (V n).toNat * 2 ^ k := by
    have : ((V n).toNat : Int) = V n := by omega
    have h2 : (((V n).toNat * 2 ^ k : Nat) : Int) = V n' := by rw [Int.natCast_mul, Int.natCast_pow, this, en]; rfl
    omega
  have e2 : V b * (one : Int) = V a * (one : Int) * ((2 ^ k : Nat) : Int) := by rw [ea, Int.natCast_pow]; show V a * 2 ^ k * (one : Int) = V a * (one : Int) * 2 ^ k; grind
  rw [e1, e2]
  exact fl_cancel (by omega) (Nat.two_pow_pos k) up
theorem sqr_eq {x : Int} {s : Int × Int} (ox : ok x) (h : Got (cSqr 0 (E (x, x))) s) : s = (mulR x x false, mulR x x true) := by
  have nn : ∀ up, mulR (-x) (-x) up = mulR x x up := fun up => by unfold mulR; rw [V_neg, Int.neg_mul_neg]
  rw [cSqr_E (rk_pt ox)] at h
  have hb : rBare (x, x) = (x, x) ∨ rBare (x, x) = (-x, -x) := by
    unfold rBare rTurned; dsimp only
    by_cases c : 0 ≤ x
    · rw [if_pos c]; exact .inl rfl
    · rw [if_neg c, if_pos (by omega)]; exact .inr rfl
  rcases hb with e | e
  · rw [e] at h; exact res_eq h (fl_le one_pos)
  · rw [e] at h; dsimp only at h; rw [nn, nn] at h; exact res_eq h (fl_le one_pos)
theorem add_eq {p q s : Int × Int} (hp : Rk p) (hq : Rk q) (h : Got (cAdd 0 (E p) (E q)) s) : s = (fl (V p.1 + V q.1) 1 false, fl (V p.2 + V q.2) 1 true) := by
  rw [cAdd_E hp hq] at h
  have a := V_le_iff.2 hp.le; have b := V_le_iff.2 hq.le
  exact res_eq h (Int.le_trans (fl_mono (by decide) (by omega)) (fl_le (by decide)))
theorem sqrt_eq {p s : Int × Int} (hp : Rk p) (h0 : 0 ≤ p.1) (h : Got (cSqrt 0 (E p)) s) : s = (sqz p.1 false, sqz p.2 true) := by
  rw [cSqrt_E hp h0] at h
  exact res_eq h (Int.le_trans (sqz_mono h0 hp.le) (sqz_le_up _))
theorem low_sq : V 4318952042648305664 = 2 ^ 1010 ∧ (2 : Int) ^ 900 * (one : Int) ≤ 2 ^ 1010 * 2 ^ 1010 := by decide +kernel
theorem sqr_big {a : Int} (h : (4318952042648305664 : Int) ≤ (a.natAbs : Int)) (up : Bool) : 2 ^ 900 ≤ V (mulR a a up) := by
  obtain ⟨l1, l2⟩ := low_sq
  have v := V_le_iff.2 h
  rw [l1] at v
  have p := pow_pos2 1010
  have m1 := Int.mul_le_mul_of_nonneg_right v (Int.le_of_lt p)
  have m2 := Int.mul_le_mul_of_nonneg_left v (show 0 ≤ V (a.natAbs : Int) by omega)
  obtain ⟨y, _, hy⟩ := scaled (z := 1) (by decide) 900
  rw [V_low (N := 1) (by decide) (by decide), Int.one_mul] at hy
  rw [← hy]
  refine V_le_iff.2 (le_fl one_pos ?_)
  rw [hy, V_sq_abs]
  omega
end Go.Dy
namespace Go.Proofs.Ytiphdhpacklboaa
open Go Go.RowKit

theorem mulR_nn (x : Int) (up : Bool) : 0 ≤ Dy.mulR x x up := Dy.fl_nonneg Dy.one_pos (Dy.sq_nn _)
/-- A sum of three squares, of two triples. -/
theorem sum_sc {x y z x' y' z' : Int} {k : Nat} (hk : k ≤ 100) (ex : Dy.V x' = Dy.V x * 2 ^ k) (ey : Dy.V y' = Dy.V y * 2 ^ k) (ez : Dy.V z' = Dy.V z * 2 ^ k) (big : (4318952042648305664 : Int) ≤ max (max (x.natAbs : Int) y.natAbs) z.natAbs) (up : Bool) :
    Dy.V (Dy.fl (Dy.V (Dy.fl (Dy.V (Dy.mulR x' x' up) + Dy.V (Dy.mulR y' y' up)) 1 up) + Dy.V (Dy.mulR z' z' up)) 1 up) = Dy.V (Dy.fl (Dy.V (Dy.fl (Dy.V (Dy.mulR x x up) + Dy.V (Dy.mulR y y up)) 1 up) + Dy.V (Dy.mulR z z up)) 1 up) * 2 ^ (2 * k) ∧
      2 ^ 900 ≤ Dy.V (Dy.fl (Dy.V (Dy.fl (Dy.V (Dy.mulR x x up) + Dy.V (Dy.mulR y y up)) 1 up) + Dy.V (Dy.mulR z z up)) 1 up) := by
  have a := Dy.V_nonneg.2 (mulR_nn x up); have b := Dy.V_nonneg.2 (mulR_nn y up)
  refine Dy.add_cl2 (Dy.add_cl (by omega) (Dy.sqr_cl ex hk up) (Dy.sqr_cl ey hk up)) (Dy.sqr_cl ez hk up) ?_
  rcases (by omega : (4318952042648305664 : Int) ≤ (x.natAbs : Int) ∨ (4318952042648305664 : Int) ≤ (y.natAbs : Int) ∨ (4318952042648305664 : Int) ≤ (z.natAbs : Int)) with h | h | h
  · exact .inl (Int.le_trans (Dy.sqr_big h up) (Dy.V_le_iff.2 (Dy.le_fl (by decide) (by omega))))
  · exact .inl (Int.le_trans (Dy.sqr_big h up) (Dy.V_le_iff.2 (Dy.le_fl (by decide) (by omega))))
  · exact .inr (Dy.sqr_big h up)
/-- A triple times a power of two has the same unit vector. -/
theorem unit_scale {x y z x' y' z' : Int} {p q r p' q' r' : Int × Int} {k : Nat} (hk : k ≤ 100) (ox : Dy.ok x) (oy : Dy.ok y) (oz : Dy.ok z) (ox' : Dy.ok x') (oy' : Dy.ok y') (oz' : Dy.ok z')
    (ex : Dy.V x' = Dy.V x * 2 ^ k) (ey : Dy.V y' = Dy.V y * 2 ^ k) (ez : Dy.V z' = Dy.V z * 2 ^ k) (big : (4318952042648305664 : Int) ≤ max (max (x.natAbs : Int) y.natAbs) z.natAbs) (st : UnitSt x y z p q r) (st' : UnitSt x' y' z' p' q' r') : p = p' ∧ q = q' ∧ r = r' := by
  obtain ⟨sx, sy, s, sz, t, n, dx, dy, dz, g1, g2, g3, g4, g5, g6, k6, n0, ⟨g7, r7, a7, b7, rfl⟩, ⟨g8, r8, a8, b8, rfl⟩, ⟨g9, r9, a9, b9, rfl⟩⟩ := st
  obtain ⟨sx', sy', s', sz', t', n', dx', dy', dz', g1', g2', g3', g4', g5', g6', k6', n0', ⟨g7', r7', a7', b7', rfl⟩, ⟨g8', r8', a8', b8', rfl⟩, ⟨g9', r9', a9', b9', rfl⟩⟩ := st'
  have f1 := Dy.sqr_eq ox g1; have f2 := Dy.sqr_eq oy g2; have f4 := Dy.sqr_eq oz g4
  have f1' := Dy.sqr_eq ox' g1'; have f2' := Dy.sqr_eq oy' g2'; have f4' := Dy.sqr_eq oz' g4'
  have f3 := Dy.add_eq g1.rk g2.rk g3; have f3' := Dy.add_eq g1'.rk g2'.rk g3'
  have f5 := Dy.add_eq g3.rk g4.rk g5; have f5' := Dy.add_eq g3'.rk g4'.rk g5'
  rw [f1, f2] at f3; rw [f1', f2'] at f3'
  rw [f3, f4] at f5; rw [f3', f4'] at f5'
  dsimp only at f5 f5'
  obtain ⟨u1, u2⟩ := sum_sc hk ex ey ez big false
  obtain ⟨v1, v2⟩ := sum_sc hk ex ey ez big true
  have p900 := Dy.pow_pos2 900
  have t1 : Dy.V t'.1 = Dy.V t.1 * 2 ^ (2 * k) ∧ 2 ^ 900 ≤ Dy.V t.1 := by rw [f5, f5']; exact ⟨u1, u2⟩
  have t2 : Dy.V t'.2 = Dy.V t.2 * 2 ^ (2 * k) ∧ 2 ^ 900 ≤ Dy.V t.2 := by rw [f5, f5']; exact ⟨v1, v2⟩
  have f6 := Dy.sqrt_eq g5.rk (Dy.V_nonneg.1 (by omega)) g6
  have f6' := Dy.sqrt_eq g5'.rk (Dy.V_nonneg.1 (by rw [t1.1]; exact Int.mul_nonneg (by omega) (Int.le_of_lt (Dy.pow_pos2 _)))) g6'
  obtain ⟨w1, x1⟩ := Dy.root_scale t1.2 t1.1 false
  obtain ⟨w2, x2⟩ := Dy.root_scale t2.2 t2.1 true
  have m1 : Dy.V n'.1 = Dy.V n.1 * 2 ^ k := by rw [f6, f6']; dsimp only; rw [w1, Dy.V_shift (by omega)]
  have m2 : Dy.V n'.2 = Dy.V n.2 * 2 ^ k := by rw [f6, f6']; dsimp only; rw [w2, Dy.V_shift (by omega)]
  have hl := k6.le; have hl' := k6'.le
  have dv : ∀ {a b : Int} {d d' : Int × Int}, Dy.ok a → Dy.ok b → Dy.V b = Dy.V a * 2 ^ k → Dy.Got (Dy.cDiv 0 (Dy.E (a, a)) (Dy.E n)) d → Dy.Got (Dy.cDiv 0 (Dy.E (b, b)) (Dy.E n')) d' → d = d' := fun {a b d d'} oa ob e h h' => by
    have z1 := nz_of (Dy.rk_pt oa) k6 h
    have z2 := nz_of (Dy.rk_pt ob) k6' h'
    rw [Dy.cDiv_E (Dy.rk_pt oa) k6 z1] at h
    rw [Dy.cDiv_E (Dy.rk_pt ob) k6' z2] at h'
    have e1 : Dy.lo4 Dy.divR (b, b) n' = Dy.lo4 Dy.divR (a, a) n := by
      unfold Dy.lo4; dsimp only; rw [Dy.div_sc n0 n0' e m1, Dy.div_sc (by omega) (by omega) e m2]
    have e2 : Dy.hi4 Dy.divR (b, b) n' = Dy.hi4 Dy.divR (a, a) n := by
      unfold Dy.hi4; dsimp only; rw [Dy.div_sc n0 n0' e m1, Dy.div_sc (by omega) (by omega) e m2]
    rw [e1, e2] at h'
    exact h.uniq h'
  exact ⟨congrArg rWithin (dv ox ox' ex g7 g7'), congrArg rWithin (dv oy oy' ey g8 g8'), congrArg rWithin (dv oz oz' ez g9 g9')⟩
end Go.Proofs.Ytiphdhpacklboaa
