/- Walks: burnishref25.may, bare, Inside. -/
import Derived.Test.YtakdeeknfcifpaaWe
import Derived.Test.YtakdeeknfcifpaaWf
import Derived.Test.YtakdeeknfcifpaaKh
namespace Go.Dy
theorem bare_abs {x : Nat} (hx : W x) (r : right x = true) : (flt x 0 = true → Op.negFloat .f64 x = abs x) ∧ (flt x 0 = false → x = abs x) := by
  rw [flt_dec hx W_zero r right_zero, dec_zero]
  have h := hx.lt
  unfold right at r
  rw [decide_eq_true_eq] at r
  unfold dec abs
  constructor
  · intro c
    rw [decide_eq_true_eq] at c
    split at c
    · omega
    · rw [neg_bits hx, if_neg (by omega)]; omega
  · intro c
    rw [decide_eq_false_iff_not] at c
    split at c <;> omega
theorem lt_of_one {X : Nat} (h : X < 4607182418800017408) : mag X < one := by
  have h := mag_lt h
  rw [mag_one] at h
  exact h
theorem mag_tiny : mag 4368491638549381120 * 2 ^ 53 = one ∧ mag 4607182418800017407 = (2 ^ 53 - 1) * mag 4368491638549381120 := by decide +kernel
theorem in_tiny {x y X Y : Nat} (h : Pt x y X Y) (h1 : X ≠ 4607182418800017408) (hY : Y < 4368491638549381120) : inB x y = true := by
  rw [inB_nat h]
  refine decide_eq_true ?_
  obtain ⟨e1, e2⟩ := mag_tiny
  have a : mag X ≤ mag 4607182418800017407 := mag_le_iff.2 (by have := h.one; omega)
  have b : mag Y < mag 4368491638549381120 := mag_lt hY
  rw [e2] at a
  rw [← e1]
  generalize mag 4368491638549381120 = u at *
  generalize mag X = p at *
  generalize mag Y = q at *
  have p1 : p * p ≤ (2 ^ 53 - 1) * u * ((2 ^ 53 - 1) * u) := Nat.mul_le_mul a a
  have p2 : q * q ≤ u * u := Nat.mul_le_mul (by omega) (by omega)
  have p3 : 0 < u * u := Nat.mul_pos (by omega) (by omega)
  have p4 : (2 ^ 53 - 1) * u * ((2 ^ 53 - 1) * u) = (2 ^ 53 - 1) * (2 ^ 53 - 1) * (u * u) := Nat.mul_mul_mul_comm ..
  have p5 : u * 2 ^ 53 * (u * 2 ^ 53) = 2 ^ 53 * 2 ^ 53 * (u * u) := by rw [Nat.mul_mul_mul_comm, Nat.mul_comm]
  rw [p4] at p1
  rw [p5]
  generalize u * u = v at *
  omega
end Go.Dy
namespace Go.Proofs.Ytakdeeknfcifpaa
open Go Go.RowKit

theorem refMay_any (x : Nat) (w : World) (hx : Dy.W x) :
    Calls Try.prog 27 #[.float .f64 x] w fun e w' => e = .returned (.bool (Dy.may x)) ∧ Below w.heap.size w w' := by
  have hr := rrT_right hx
  cases r : Dy.right x
  · rw [Dy.may_wrong r]
    exact may25_1 x w hx (hr.trans r)
  · have l := Dy.may_low hx r
    have g := Dy.may_high hx r
    have b := Dy.may_both r
    rw [← l, ← g] at b
    cases c : (Dy.fgt x 13830554455654793216 || Dy.feq x 13830554455654793216)
    · rw [c, Bool.false_and] at b
      rw [b]
      exact may25_2 x w hx (hr.trans r) c
    · rw [c, Bool.true_and] at b
      exact may25_0 x w hx (hr.trans r) c b.symm

theorem refBare_any (x : Nat) (w : World) (hx : Dy.W x) (r : Dy.right x = true) :
    Calls Try.prog 28 #[.float .f64 x] w fun e w' => e = .returned (.float .f64 (Dy.abs x)) ∧ Below w.heap.size w w' := by
  obtain ⟨a, b⟩ := Dy.bare_abs hx r
  cases c : Dy.flt x 0
  · rw [← b c]
    exact bare25_1 x w hx c
  · exact bare25_0 x w hx c (a c) (decide_eq_true (by show Op.negFloat .f64 x < W64; rw [a c]; exact (Dy.W_abs x).lt)) (Dy.W_abs x)

set_option maxRecDepth 100000 in
set_option maxHeartbeats 2000000 in
theorem refIn_wrong (x y : Nat) (w : World) (hx : Dy.W x) (hy : Dy.W y) (h : Dy.may x = false ∨ Dy.may x = true ∧ Dy.may y = false) :
    Calls Try.prog 6 #[.float .f64 x, .float .f64 y] w fun e w' => e = .returned (.tuple #[.bool false, .int .i64 2]) ∧ Below w.heap.size w w' := by
  have MX := hid (fun w => refMay_any x w hx)
  have MY := hid (fun w => refMay_any y w hy)
  rcases h with h | ⟨h, h'⟩
  all_goals
    rw [h] at MX
    try rw [h'] at MY
    clear h
    go_enter Try.func6, Try.ntmps6
    go_wp2_with (go_at_call 27; first | ((with_reducible refine (MX.out _).mono ?_); rintro e wa ⟨rfl, hba⟩) | ((with_reducible refine (MY.out _).mono ?_); rintro e wb ⟨rfl, hbb⟩))
    go_ret2
    first | exact ⟨rfl, hba⟩ | exact ⟨rfl, hba.trans (hbb.mono hba.size)⟩

set_option maxRecDepth 100000 in
set_option maxHeartbeats 2000000 in
theorem refIn_edge {x y ax ay X Y : Nat} {b : Bool} (w : World)
    (MX : Hid (∀ w, Calls Try.prog 27 #[.float .f64 x] w fun e w' => e = .returned (.bool true) ∧ Below w.heap.size w w'))
    (MY : Hid (∀ w, Calls Try.prog 27 #[.float .f64 y] w fun e w' => e = .returned (.bool true) ∧ Below w.heap.size w w'))
    (BX : Hid (∀ w, Calls Try.prog 28 #[.float .f64 x] w fun e w' => e = .returned (.float .f64 ax) ∧ Below w.heap.size w w'))
    (BY : Hid (∀ w, Calls Try.prog 28 #[.float .f64 y] w fun e w' => e = .returned (.float .f64 ay) ∧ Below w.heap.size w w'))
    (sw : Hid (Dy.flt ax ay = false ∧ X = ax ∧ Y = ay ∨ Dy.flt ax ay = true ∧ X = ay ∧ Y = ax))
    (h : Dy.feq X 4607182418800017408 = true ∧ b = false ∨ Dy.feq X 4607182418800017408 = false ∧ Dy.flt Y 4368491638549381120 = true ∧ b = true ∨ Dy.feq X 4607182418800017408 = false ∧ Dy.flt Y 4368491638549381120 = false ∧ Dy.flt X 4602678819172646912 = true ∧ b = true) :
    Calls Try.prog 6 #[.float .f64 x, .float .f64 y] w fun e w' => e = .returned (.tuple #[.bool b, .int .i64 0]) ∧ Below w.heap.size w w' := by
  rcases sw.out with ⟨s, rfl, rfl⟩ | ⟨s, rfl, rfl⟩
  all_goals
    clear sw
    rcases h with ⟨h1, rfl⟩ | ⟨h1, h2, rfl⟩ | ⟨h1, h2, h3, rfl⟩
    all_goals
      go_enter Try.func6, Try.ntmps6
      go_wp2_with (first | (go_at_call 27; first | ((with_reducible refine (MX.out _).mono ?_); rintro e wa ⟨rfl, hba⟩) | ((with_reducible refine (MY.out _).mono ?_); rintro e wb ⟨rfl, hbb⟩)) | (go_at_call 28; first | ((with_reducible refine (BX.out _).mono ?_); rintro e wg ⟨rfl, hbg⟩) | ((with_reducible refine (BY.out _).mono ?_); rintro e wh ⟨rfl, hbh⟩)))
      go_ret2
      have s1 := hba.size
      have s2 := hbb.size
      have s3 := hbg.size
      exact ⟨rfl, ((hba.trans (hbb.mono s1)).trans (hbg.mono (by omega))).trans (hbh.mono (by omega))⟩

/-- burnishref25.Inside: just what ray.Inside is. -/
theorem refInside_any (x y : Nat) (w : World) (hx : Dy.W x) (hy : Dy.W y) :
    Calls Try.prog 6 #[.float .f64 x, .float .f64 y] w fun e w' => e = .returned (.tuple #[.bool (Dy.dIn x y).1, .int .i64 (Dy.dIn x y).2]) ∧ Below w.heap.size w w' := by
  by_cases hm : Dy.may x = true ∧ Dy.may y = true
  · obtain ⟨mx, my⟩ := hm
    rw [Dy.dIn_may mx my]
    have P := Dy.pt_of hx hy mx my
    have MX := hid (fun w => refMay_any x w hx)
    have MY := hid (fun w => refMay_any y w hy)
    rw [mx] at MX
    rw [my] at MY
    have rx := (Dy.may_right mx).1
    have ry := (Dy.may_right my).1
    have BX := hid (fun w => refBare_any x w hx rx)
    have BY := hid (fun w => refBare_any y w hy ry)
    have sw : Dy.flt (Dy.abs x) (Dy.abs y) = false ∧ Dy.dmax (Dy.abs x) (Dy.abs y) = Dy.abs x ∧ Dy.dmin (Dy.abs x) (Dy.abs y) = Dy.abs y ∨ Dy.flt (Dy.abs x) (Dy.abs y) = true ∧ Dy.dmax (Dy.abs x) (Dy.abs y) = Dy.abs y ∧ Dy.dmin (Dy.abs x) (Dy.abs y) = Dy.abs x := by
      rw [Dy.flt_dec (Dy.W_abs x) (Dy.W_abs y) (Dy.right_abs rx) (Dy.right_abs ry)]
      unfold Dy.dmax Dy.dmin
      by_cases c : Dy.dec (Dy.abs x) < Dy.dec (Dy.abs y)
      · exact .inr ⟨decide_eq_true c, if_pos c, if_neg (by omega)⟩
      · refine .inl ⟨decide_eq_false c, if_neg c, ?_⟩
        by_cases d : Dy.dec (Dy.abs y) < Dy.dec (Dy.abs x)
        · exact if_pos d
        · rw [if_neg d]
          exact dec_inj (Dy.W_abs x) (Dy.W_abs y) (Dy.right_abs rx) (Dy.right_abs ry) (by omega)
    obtain ⟨X, hX⟩ : ∃ X, X = Dy.dmax (Dy.abs x) (Dy.abs y) := ⟨_, rfl⟩
    obtain ⟨Y, hY⟩ : ∃ Y, Y = Dy.dmin (Dy.abs x) (Dy.abs y) := ⟨_, rfl⟩
    rw [← hX, ← hY] at P sw
    clear hX hY
    obtain ⟨dX, wX, rX⟩ := Dy.dec_small P.one
    have Yle := P.le
    have Xle := P.one
    obtain ⟨dY, wY, rY⟩ := Dy.dec_small (b := Y) (by omega)
    obtain ⟨dT, wT, rT⟩ := Dy.dec_small (b := 4368491638549381120) (by omega)
    have f1 : Dy.feq X 4607182418800017408 = decide (X = 4607182418800017408) := by
      rw [Dy.feq_dec wX Dy.W_one rX Dy.right_one, dX, Dy.dec_one]; exact decide_eq_decide.2 (by omega)
    have f2 : Dy.flt X 4602678819172646912 = decide (X < 4602678819172646912) := by
      rw [Dy.flt_dec wX Dy.W_half rX Dy.right_half, dX, Dy.dec_half]; exact decide_eq_decide.2 (by omega)
    have f3 : Dy.flt Y 4368491638549381120 = decide (Y < 4368491638549381120) := by
      rw [Dy.flt_dec wY wT rY rT, dY, dT]; exact decide_eq_decide.2 (by omega)
    by_cases c1 : X = 4607182418800017408
    · have P' := P
      rw [c1] at P'
      rw [Dy.in_one P']
      exact refIn_edge w MX MY BX BY (hid sw) (.inl ⟨by rw [f1]; exact decide_eq_true c1, rfl⟩)
    · rw [decide_eq_false c1] at f1
      by_cases c2 : Y < 4368491638549381120
      · rw [Dy.in_tiny P c1 c2]
        rw [decide_eq_true c2] at f3
        exact refIn_edge w MX MY BX BY (hid sw) (.inr (.inl ⟨f1, f3, rfl⟩))
      · rw [decide_eq_false c2] at f3
        by_cases c3 : X < 4602678819172646912
        · rw [Dy.in_low P c3]
          rw [decide_eq_true c3] at f2
          exact refIn_edge w MX MY BX BY (hid sw) (.inr (.inr ⟨f1, f3, f2, rfl⟩))
        · rw [decide_eq_false c3] at f2
          rw [Dy.inB_nat P]
          have t1 := Dy.mag_tiny.1
          have oX : Dy.mag X < Dy.one := Dy.lt_of_one (by omega)
          have mY : Dy.mag 4368491638549381120 ≤ Dy.mag Y := Dy.mag_le_iff.2 (by omega)
          have mXY : Dy.mag Y ≤ Dy.mag X := Dy.mag_le_iff.2 Yle
          have lY : Dy.one ≤ Dy.mag Y * 2 ^ 53 := Nat.le_trans (Nat.le_of_eq t1.symm) (Nat.mul_le_mul_right _ mY)
          have lX : Dy.one ≤ Dy.mag X * 2 ^ 53 := Nat.le_trans lY (Nat.mul_le_mul_right _ mXY)
          obtain ⟨xX, yX, DX, EX, HA⟩ := Dy.digs lX oX
          obtain ⟨xY, yY, DY, EY, HB⟩ := Dy.digs lY (Nat.lt_of_le_of_lt mXY oX)
          have HA' : Dy.mag X * 65536 ^ 7 = Dy.digS DX * Dy.one := by unfold Dy.digS; exact HA
          have HB' : Dy.mag Y * 65536 ^ 7 = Dy.digS DY * Dy.one := by unfold Dy.digS; exact HB
          have G := refIn_loop w MX MY BX BY (hid sw) (hid f1) (hid f3) (hid f2) EX EY (hid HA') (hid HB')
          generalize decide (Dy.mag X * Dy.mag X + Dy.mag Y * Dy.mag Y < Dy.one * Dy.one) = R at *
          exact G
  · have h : Dy.may x = false ∨ Dy.may x = true ∧ Dy.may y = false := by
      revert hm
      generalize Dy.may x = a
      generalize Dy.may y = b
      cases a <;> cases b <;> decide
    rw [Dy.dIn_wrong h]
    exact refIn_wrong x y w hx hy h
end Go.Proofs.Ytakdeeknfcifpaa
