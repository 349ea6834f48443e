/- Walks: ray.Inside. -/
import Derived.Test.YtfjomcbbgnaaiaaWv
import Derived.Deep.RegionHeld3
import Derived.Outline
namespace Go.Proofs.Ytfjomcbbgnaaiaa
open Go.RowKit

theorem rayDown_any (h l : Nat) (k : Int) (w : World) (hh : Dy.W h) (hl : Dy.W l) (h0 : 0 ≤ k) (hk2 : k ≤ 100000) :
    Calls Try.prog 52 #[wv h l, .int .i64 k] w fun e w' => ∃ p q, e = .returned (wv p q) ∧ Dy.Wide p q (Dy.wd h l / 2 ^ k.toNat) ∧ Below w.heap.size w w' := by
  obtain ⟨n, rfl⟩ := Int.eq_ofNat_of_zero_le h0
  exact rayDown_nat h l n w hh hl (by omega)

theorem conv_up53 (b : Nat) (w : World) : (convert 22 50 (.float .f64 (Dy.up53 b))).run Try.prog w = .ok (.int .u64 (Dy.n53 b : Nat)) w :=
  run_convert_float_int w _ _ _ _ _ _ (by kernel_rfl) Try.underlying50 (Dy.toInt_up53 b)

theorem ret_tuple_bool {a b : Bool} {v : Value} (h : a = b) : Ending.returned (.tuple #[.bool a, v]) = .returned (.tuple #[.bool b, v]) := by rw [h]
theorem wd_of {p q n : Nat} (h : Dy.Wide p q n) : Dy.wd p q = n := h.eq

set_option maxRecDepth 100000 in
set_option maxHeartbeats 2000000 in
theorem inside_mid (x y X Y : Nat) (w : World) (hx : Dy.W x) (hy : Dy.W y) (mx : Dy.may x = true) (my : Dy.may y = true) (hX : X = Dy.dmax (Dy.abs x) (Dy.abs y)) (hY : Y = Dy.dmin (Dy.abs x) (Dy.abs y))
    (h1 : ¬ X < 4602678819172646912) (h2 : X ≠ 4607182418800017408) :
    Calls Try.prog 15 #[.float .f64 x, .float .f64 y] w fun e w' => e = .returned (.tuple #[.bool (Dy.inB x y), .int .i64 0]) ∧ Below w.heap.size w w' := by
  have P := Dy.pt_of hx hy mx my
  rw [← hX, ← hY] at P
  have rx := (Dy.may_right mx).1
  have ry := (Dy.may_right my).1
  have hmin := fun ats t w => run_min (P := Try.prog) (Dy.abs x) (Dy.abs y) ats t w (Dy.W_abs _) (Dy.W_abs _) (Dy.right_abs rx) (Dy.right_abs ry)
  have hmax := fun ats t w => run_max (P := Try.prog) (Dy.abs x) (Dy.abs y) ats t w (Dy.W_abs _) (Dy.W_abs _) (Dy.right_abs rx) (Dy.right_abs ry)
  rw [← hX] at hmax
  rw [← hY] at hmin
  have hone := P.one
  have hle := P.le
  obtain ⟨dX, wX, rX⟩ := Dy.dec_small hone
  obtain ⟨dY, wY, rY⟩ := Dy.dec_small (b := Y) (by omega)
  have f1 : Dy.feq X 4607182418800017408 = false := by rw [Dy.feq_dec wX Dy.W_one rX Dy.right_one, dX, Dy.dec_one]; exact decide_eq_false (by omega)
  have f2 : Dy.flt X 4602678819172646912 = false := by rw [Dy.flt_dec wX Dy.W_half rX Dy.right_half, dX, Dy.dec_half]; exact decide_eq_false (by omega)
  obtain ⟨k, e1, e2, e3⟩ := Dy.in_mid P h1 h2
  obtain ⟨wf, hf⟩ := Dy.up53_ok (b := Y) (by omega)
  have L1 := hid (fun w => ldexp_any X 53 w wX (by omega) (by omega))
  have L2 := hid (fun w => ldexp_any (Dy.frF Y) 53 w wf (by omega) (by omega))
  rw [Dy.ldx_up53 (Or.inr ⟨by omega, by omega⟩)] at L1
  rw [Dy.ldx_up53 hf] at L2
  have FR := hid (fun w => frexp_any Y w (by rw [Dy.top_eq]; omega))
  have C1 := fun w => conv_up53 X w
  have C2 := fun w => conv_up53 (Dy.frF Y) w
  have Q1 := hid (fun w => raySquare_any _ w (Dy.W_n53 X))
  have Q2 := hid (fun w => raySquare_any _ w (Dy.W_n53 (Dy.frF Y)))
  have s1 := Dy.n53_sq X
  rw [← e3]
  have he : Dy.frE Y = -(k : Int) := e1
  rw [he] at FR
  obtain ⟨M, hM⟩ : ∃ M : Int, M = 2 * (k : Int) := ⟨_, rfl⟩
  obtain ⟨ex, hex⟩ : ∃ ex : Int, ex = -(k : Int) := ⟨_, rfl⟩
  rw [← hex] at FR
  have m1 : -2 * ex = M := by rw [hex, hM]; omega
  have m2 : IntKind.i64.wrap M = M := IntWalk.i64_in _ (by omega)
  have m3 : 0 ≤ M := by omega
  have m4 : M ≤ 100000 := by omega
  have m5 : M.toNat = 2 * k := by omega
  have m6 : -100000 ≤ ex := by omega
  have m7 : ex ≤ 0 := by omega
  have M5 := hid m5
  clear hmax hmin
  have hmin := fun ats t w => run_min (P := Try.prog) (Dy.abs x) (Dy.abs y) ats t w (Dy.W_abs _) (Dy.W_abs _) (Dy.right_abs rx) (Dy.right_abs ry)
  have hmax := fun ats t w => run_max (P := Try.prog) (Dy.abs x) (Dy.abs y) ats t w (Dy.W_abs _) (Dy.W_abs _) (Dy.right_abs rx) (Dy.right_abs ry)
  rw [← hX] at hmax
  rw [← hY] at hmin
  clear m5 hM hex he e1 e3 P rx ry dX dY hf e2 h1 h2 hone hle rX rY hX hY
  generalize Dy.up53 X = u1 at *
  generalize Dy.n53 X = n1 at *
  generalize Dy.up53 (Dy.frF Y) = u2 at *
  generalize Dy.n53 (Dy.frF Y) = n2 at *
  generalize Dy.frF Y = fr at *
  generalize hab : Dy.abs x = ax at *
  generalize hcd : Dy.abs y = ay at *
  have AX := hid (fun w => abs_any x w hx)
  have AY := hid (fun w => abs_any y w hy)
  rw [hab] at AX
  rw [hcd] at AY
  clear hab hcd
  have MX := hid (fun w => rayMay_any x w hx)
  have MY := hid (fun w => rayMay_any y w hy)
  rw [mx] at MX
  rw [my] at MY
  clear mx my
  have hB : Below w.heap.size w w := Below.refl _ _
  go_enter Try.func15, Try.ntmps15
  go_wp2_with (first | (go_at_call 47; first | ((with_reducible refine (MX.out _).mono ?_); rintro e w' ⟨rfl, rfl⟩) | ((with_reducible refine (MY.out _).mono ?_); rintro e w' ⟨rfl, rfl⟩)) | (go_at_call 20; first | ((with_reducible refine (AX.out _).mono ?_); rintro e w' ⟨rfl, rfl⟩) | ((with_reducible refine (AY.out _).mono ?_); rintro e w' ⟨rfl, rfl⟩)) | (go_at_call 49; (with_reducible refine (L1.out _).mono ?_); rintro e w' ⟨rfl, rfl⟩) | (go_at_call 48; (with_reducible refine (Q1.out _).mono ?_); rintro e w1 ⟨p1, q1, rfl, r1, hb1⟩) | (go_at_call 50; (with_reducible refine (rayRest_any _ _ _ _ r1 s1).mono ?_); rintro e w2 ⟨p2, q2, rfl, r2, hb2⟩) | (go_at_call 51; (with_reducible refine (FR.out _).mono ?_); rintro e w' ⟨rfl, rfl⟩))
  have z1 := hb1.size
  have z2 := hb2.size
  have b0 : Below w.heap.size w (w2.alloc (Obj.cells #[Value.int IntKind.u64 ↑p2, Value.int IntKind.u64 ↑q2] 55)) := (hb1.trans (hb2.mono hb1.size)).alloc (by omega) _
  go_region_held3 (fun w' => w'.cell? ⟨w2.heap.size, 0, none⟩ = some (.int .u64 p2) ∧ w'.cell? ⟨w2.heap.size, 1, none⟩ = some (.int .u64 q2))
    (first | (refine ⟨?_, ?_⟩ <;> first | assumption | (simp [go_sem]; done) | (simp [go_sem, *]; done)) | done | trivial)
    (first | (go_at_call 49; (with_reducible refine (L2.out _).mono ?_); rintro e w' ⟨rfl, rfl⟩) | (go_at_call 48; refine (Q2.out _).mono ?_; rintro e w3 ⟨p3, q3, rfl, r3, hb3⟩; obtain ⟨hc3, hf3⟩ := bcell hb3; have z3 := hb3.size; simp at z3; have c30 : w3.cell? ⟨w2.heap.size, 0, none⟩ = some (.int .u64 p2) := (hc3 _ _ (by simp)).trans (by simp [go_sem]); have c31 : w3.cell? ⟨w2.heap.size, 1, none⟩ = some (.int .u64 q2) := (hc3 _ _ (by simp)).trans (by simp [go_sem]); clear hc3 hf3) | (go_at_call 52; refine (rayDown_any _ _ _ _ r3.hh r3.hl m3 m4).mono ?_; rintro e w4 ⟨p4, q4, rfl, r4, hb4⟩; obtain ⟨hc4, hf4⟩ := bcell hb4; have z4 := hb4.size; have c40 : w4.cell? ⟨w2.heap.size, 0, none⟩ = some (.int .u64 p2) := (hc4 _ _ (by omega)).trans c30; have c41 : w4.cell? ⟨w2.heap.size, 1, none⟩ = some (.int .u64 q2) := (hc4 _ _ (by omega)).trans c31; clear hc4 hf4) | (go_at_call 53; refine (rayLess_any _ _ _ _ _ r4.hl r2.hl).mono ?_; rintro e w5 ⟨rfl, hb5⟩; obtain ⟨hc5, hf5⟩ := bcell hb5; have z5 := hb5.size; have c50 : w5.cell? ⟨w2.heap.size, 0, none⟩ = some (.int .u64 p2) := (hc5 _ _ (by omega)).trans c40; have c51 : w5.cell? ⟨w2.heap.size, 1, none⟩ = some (.int .u64 q2) := (hc5 _ _ (by omega)).trans c41; clear hc5 hf5))
  go_wp2
  go_ret2
  refine ⟨ret_tuple_bool ?_, b0.drew.trans ((hb3.trans ((hb4.trans (hb5.mono hb4.size)).mono hb3.size)).mono (by have := b0.size; simp at this ⊢; omega))⟩
  rw [wd_of r4, wd_of r2, wd_of r3, M5.out]

set_option maxHeartbeats 2000000 in
theorem inside_edge (x y X : Nat) (w : World) (b : Bool) (hx : Dy.W x) (hy : Dy.W y) (mx : Dy.may x = true) (my : Dy.may y = true) (hX : Dy.dmax (Dy.abs x) (Dy.abs y) = X)
    (h : Dy.feq X 4607182418800017408 = true ∨ Dy.feq X 4607182418800017408 = false ∧ Dy.flt X 4602678819172646912 = true) (hb : Dy.flt X 4607182418800017408 = b) :
    Calls Try.prog 15 #[.float .f64 x, .float .f64 y] w fun e w' => e = .returned (.tuple #[.bool b, .int .i64 0]) ∧ Below w.heap.size w w' := by
  have rx := (Dy.may_right mx).1
  have ry := (Dy.may_right my).1
  have hmin := fun ats t w => run_min (P := Try.prog) (Dy.abs x) (Dy.abs y) ats t w (Dy.W_abs _) (Dy.W_abs _) (Dy.right_abs rx) (Dy.right_abs ry)
  have hmax := fun ats t w => run_max (P := Try.prog) (Dy.abs x) (Dy.abs y) ats t w (Dy.W_abs _) (Dy.W_abs _) (Dy.right_abs rx) (Dy.right_abs ry)
  rw [hX] at hmax
  clear hX rx ry
  generalize Dy.dmin (Dy.abs x) (Dy.abs y) = Y at *
  generalize hab : Dy.abs x = ax at *
  generalize hcd : Dy.abs y = ay at *
  have AX := hid (fun w => abs_any x w hx)
  have AY := hid (fun w => abs_any y w hy)
  rw [hab] at AX
  rw [hcd] at AY
  clear hab hcd
  have MX := hid (fun w => rayMay_any x w hx)
  have MY := hid (fun w => rayMay_any y w hy)
  rw [mx] at MX
  rw [my] at MY
  clear mx my
  rcases h with h | ⟨h, h'⟩
  all_goals
    go_enter Try.func15, Try.ntmps15
    go_wp2_with (first | (go_at_call 47; first | ((with_reducible refine (MX.out _).mono ?_); rintro e w' ⟨rfl, rfl⟩) | ((with_reducible refine (MY.out _).mono ?_); rintro e w' ⟨rfl, rfl⟩)) | (go_at_call 20; first | ((with_reducible refine (AX.out _).mono ?_); rintro e w' ⟨rfl, rfl⟩) | ((with_reducible refine (AY.out _).mono ?_); rintro e w' ⟨rfl, rfl⟩)))
    go_ret2
    exact ⟨rfl, Below.refl _ _⟩

theorem inside_wrong (x y : Nat) (w : World) (hx : Dy.W x) (hy : Dy.W y) (h : Dy.may x = false ∨ Dy.may x = true ∧ Dy.may y = false) :
    Calls Try.prog 15 #[.float .f64 x, .float .f64 y] w fun e w' => e = .returned (.tuple #[.bool false, .int .i64 2]) ∧ Below w.heap.size w w' := by
  have MX := hid (fun w => rayMay_any x w hx)
  have MY := hid (fun w => rayMay_any y w hy)
  rcases h with h | ⟨h, h'⟩
  all_goals
    rw [h] at MX
    try rw [h'] at MY
    clear h
    go_enter Try.func15, Try.ntmps15
    go_wp2_with (go_at_call 47; first | ((with_reducible refine (MX.out _).mono ?_); rintro e w' ⟨rfl, rfl⟩) | ((with_reducible refine (MY.out _).mono ?_); rintro e w' ⟨rfl, rfl⟩))
    go_ret2
    exact ⟨rfl, Below.refl _ _⟩

/-- ray.Inside: is a point within the ball, by real numbers; the error (2), where it may be none. -/
theorem inside_any (x y : Nat) (w : World) (hx : Dy.W x) (hy : Dy.W y) :
    Calls Try.prog 15 #[.float .f64 x, .float .f64 y] w fun e w' => e = .returned (.tuple #[.bool (Dy.dIn x y).1, .int .i64 (Dy.dIn x y).2]) ∧ Below w.heap.size w w' := by
  by_cases hm : Dy.may x = true ∧ Dy.may y = true
  · obtain ⟨mx, my⟩ := hm
    have e : Dy.dIn x y = (Dy.inB x y, 0) := by unfold Dy.dIn; rw [mx, my]; rfl
    rw [e]
    have P := Dy.pt_of hx hy mx my
    by_cases h1 : Dy.dmax (Dy.abs x) (Dy.abs y) = 4607182418800017408
    · have P' := P
      rw [h1] at P'
      rw [Dy.in_one P']
      exact inside_edge x y _ w false hx hy mx my h1 (Or.inl eq0) (by decide +kernel)
    · by_cases h2 : Dy.dmax (Dy.abs x) (Dy.abs y) < 4602678819172646912
      · rw [Dy.in_low P h2]
        obtain ⟨dX, wX, rX⟩ := Dy.dec_small P.one
        refine inside_edge x y _ w true hx hy mx my rfl (Or.inr ⟨?_, ?_⟩) ?_
        · rw [Dy.feq_dec wX Dy.W_one rX Dy.right_one, dX, Dy.dec_one]; exact decide_eq_false (by omega)
        · rw [Dy.flt_dec wX Dy.W_half rX Dy.right_half, dX, Dy.dec_half]; exact decide_eq_true (by omega)
        · rw [Dy.flt_dec wX Dy.W_one rX Dy.right_one, dX, Dy.dec_one]; exact decide_eq_true (by omega)
      · exact inside_mid x y _ _ w hx hy mx my rfl rfl h2 h1
  · have h : Dy.may x = false ∨ Dy.may x = true ∧ Dy.may y = false := by
      revert hm
      generalize Dy.may x = a
      generalize Dy.may y = b
      cases a <;> cases b <;> decide
    have e : Dy.dIn x y = (false, 2) := by
      unfold Dy.dIn
      rcases h with h | ⟨h, h'⟩
      · rw [h]; rfl
      · rw [h, h']; rfl
    rw [e]
    exact inside_wrong x y w hx hy h
end Go.Proofs.Ytfjomcbbgnaaiaa
