/- Walks: package ray. -/
import Derived.Test.YtakdeeknfcifpaaKj
import Derived.Test.YtakdeeknfcifpaaKb
import Derived.Deep.RegionHeld3
import Derived.Outline
/- Walks: package ray's whole numbers of 128 bits. -/
namespace Go.Proofs.Ytakdeeknfcifpaa
open Go.RowKit

set_option maxHeartbeats 1000000 in
theorem raySquare_any (x : Nat) (w : World) (hx : Dy.W x) :
    Calls Try.prog 21 #[.int .u64 (x : Int)] w fun e w' => ∃ p q, e = .returned (wv p q) ∧ Dy.Wide p q (x * x) ∧ Below w.heap.size w w' := by
  go_enter Try.func21, Try.ntmps21
  go_wp2_with (go_at_call 46; refine (mul64_any _ _ _ hx hx).mono ?_; rintro e w1 ⟨rfl, rfl⟩)
  refine bodyPost_ret (v := wv (Dy.hi64 (x * x)) (Dy.lo64 (x * x))) (by simp [results, Try.results21, go_sem]) rfl ⟨_, _, rfl, ?_, ?_⟩
  · have h := hx.lt
    exact ⟨Dy.W_hi64 (Nat.lt_of_le_of_lt (Nat.mul_le_mul (Nat.le_of_lt_succ h) (Nat.le_of_lt_succ h)) (by omega)), Dy.W_lo64 _, Dy.wd_hilo _⟩
  · exact (Below.refl _ _).alloc (Nat.le_refl _) _

set_option maxRecDepth 100000 in
set_option maxHeartbeats 1000000 in
theorem rayDown_nat (h l k : Nat) (w : World) (hh : Dy.W h) (hl : Dy.W l) (hk2 : k ≤ 100000) :
    Calls Try.prog 25 #[wv h l, .int .i64 (k : Int)] w fun e w' => ∃ p q, e = .returned (wv p q) ∧ Dy.Wide p q (Dy.wd h l / 2 ^ k) ∧ Below w.heap.size w w' := by
  by_cases hk3 : 128 ≤ k
  · have r : Dy.Wide 0 0 (Dy.wd h l / 2 ^ k) := by
      rw [Dy.div_out (Dy.wd_lt hh hl) hk3]; exact ⟨by unfold Dy.W; omega, by unfold Dy.W; omega, rfl⟩
    have e1 : (h : Int) / 2 ^ min (k - 64) 64 = 0 := by
      have := hh.lt
      rw [Nat.min_eq_right (by omega)]; omega
    go_enter Try.func25, Try.ntmps25
    go_wp2
    refine bodyPost_ret (v := wv 0 0) (by simp [results, Try.results25, go_sem]) rfl ⟨_, _, rfl, r, ?_⟩
    exact ((Below.refl _ _).alloc (Nat.le_refl _) _).alloc (by simp) _
  by_cases hk : 64 ≤ k
  · have hk4 : k < 128 := by omega
    clear hk3
    have r := Dy.down_great hh hl hk
    have e1 := shrN h (k - 64)
    go_enter Try.func25, Try.ntmps25
    go_wp2
    refine bodyPost_ret (v := wv 0 _) (by simp [results, Try.results25, go_sem]) rfl ⟨_, _, rfl, r, ?_⟩
    exact ((Below.refl _ _).alloc (Nat.le_refl _) _).alloc (by simp) _
  · have hk' : k < 64 := by omega
    clear hk
    have r := Dy.down_small hh hl hk'
    have e1 := shrN h k
    have e2 := shrN l k
    have e3 := shlN h (64 - k)
    have e4 := orN (Dy.W_shr hl k) (Dy.W_shl h (64 - k))
    go_enter Try.func25, Try.ntmps25
    go_wp2
    go_region
    go_wp2
    refine bodyPost_ret (v := wv _ _) (by simp [results, Try.results25, go_sem]) rfl ⟨_, _, rfl, r, ?_⟩
    exact (((Below.refl _ _).alloc (Nat.le_refl _) _).alloc (by simp) _).drew

set_option maxHeartbeats 400000 in
theorem rayRest_any (h l m : Nat) (w : World) (b : Dy.Wide h l m) (hs : m ≤ 2 ^ 106) :
    Calls Try.prog 23 #[wv h l] w fun e w' => ∃ p q, e = .returned (wv p q) ∧ Dy.Wide p q (2 ^ 106 - m) ∧ Below w.heap.size w w' := by
  have a : Dy.Wide 4398046511104 0 (2 ^ 106) := ⟨by unfold Dy.W; omega, by unfold Dy.W; omega, by unfold Dy.wd; omega⟩
  have r := Dy.sub_wide a b hs
  have HA : ∀ w, (callFunc 49 #[.int .u64 0, .int .u64 (l : Int), .int .u64 0]).run Try.prog w = .ok (.value (.tuple #[.int .u64 (Dy.subl 0 l 0 : Nat), .int .u64 (Dy.subb 0 l 0 : Nat)])) w := fun w => run_sub64a 0 l w
  have HB : ∀ w, (callFunc 49 #[.int .u64 4398046511104, .int .u64 (h : Int), .int .u64 (Dy.subb 0 l 0 : Nat)]).run Try.prog w = .ok (.value (.tuple #[.int .u64 (Dy.subl 4398046511104 h (Dy.subb 0 l 0) : Nat), .int .u64 (Dy.subb 4398046511104 h (Dy.subb 0 l 0) : Nat)])) w := fun w => run_sub64b 4398046511104 h 0 l 0 w
  generalize Dy.subl 4398046511104 h (Dy.subb 0 l 0) = Q at *
  generalize Dy.subb 4398046511104 h (Dy.subb 0 l 0) = d at *
  generalize Dy.subb 0 l 0 = c at *
  generalize Dy.subl 0 l 0 = P at *
  have R := hid r
  clear a b hs r
  go_enter Try.func23, Try.ntmps23
  go_wp2
  refine bodyPost_ret (v := wv Q P) (by simp [results, Try.results23, go_sem]) rfl ⟨_, _, rfl, R.out, ?_⟩
  exact ((((Below.refl _ _).alloc (Nat.le_refl _) _).alloc (by simp) _))

set_option maxRecDepth 100000 in
set_option maxHeartbeats 400000 in
theorem rayLess_any (h l h' l' : Nat) (w : World) (a : Dy.W l) (b : Dy.W l') :
    Calls Try.prog 26 #[wv h l, wv h' l'] w fun e w' => e = .returned (.bool (decide (Dy.wd h l < Dy.wd h' l'))) ∧ Below w.heap.size w w' := by
  have R := hid (Dy.wd_lt_iff (h := h) (h' := h') a b)
  have HE : Hid (((h : Int) == h' && (l : Int) == l') = decide (h = h' ∧ l = l')) := by
    show _ = _
    rw [Bool.eq_iff_iff]; simp; omega
  clear a b
  by_cases he : h = h' ∧ l = l'
  · obtain ⟨rfl, rfl⟩ := he
    have h1 : ((h : Int) == h && (l : Int) == l) = true := by simp
    clear HE
    go_enter Try.func26, Try.ntmps26
    go_wp2
    go_ret
    refine ⟨ret_bool ?_, ((Below.refl _ _).alloc (Nat.le_refl _) _).alloc (by simp) _⟩
    first | rfl | exact (decide_eq_false (Nat.lt_irrefl _)).symm
  · have h1 : ((h : Int) == h' && (l : Int) == l') = false := by rw [HE.out]; exact decide_eq_false he
    clear HE
    go_enter Try.func26, Try.ntmps26
    go_wp2
    all_goals (go_ret; refine ⟨ret_bool ?_, ((Below.refl _ _).alloc (Nat.le_refl _) _).alloc (by simp) _⟩; rw [Bool.eq_iff_iff]; have r := R.out; simp [r]; omega)
end Go.Proofs.Ytakdeeknfcifpaa

/- Walks: math.Frexp of a number from 0 on; ray.may. -/
namespace Go.Proofs.Ytakdeeknfcifpaa
open Go.RowKit

set_option maxRecDepth 100000 in
set_option maxHeartbeats 400000 in
theorem frexp_low (b : Nat) (w : World) (hb : b < Dy.top) :
    Calls Try.prog 51 #[.float .f64 b] w fun e w' => e = .returned (.tuple #[.float .f64 (Dy.frF b), .int .i64 (Dy.frE b)]) ∧ w = w' := by
  have hW : Dy.W b := by unfold Dy.W; rw [Dy.top_eq] at hb; omega
  have hm : b % 2 ^ 63 = b := by rw [Dy.top_eq] at hb; omega
  by_cases h0 : b = 0
  · subst h0
    have hz : Dy.feq 0 0 = true := eq7
    have e1 : Dy.frF 0 = 0 := rfl
    have e2 : Dy.frE 0 = 0 := rfl
    rw [e1, e2]
    clear e1 e2 hm hW hb
    go_enter Try.func51, Try.ntmps51
    go_wp2
    go_ret2
    exact ⟨rfl, rfl⟩
  · have hf : Dy.fin b := by unfold Dy.fin; rw [hm]; exact hb
    obtain ⟨hz, hn, hi, hN, hs⟩ := Dy.fin_facts hW hf (by omega)
    have hd := built_bits (E := -1) hW hf (by omega) (by omega) (by omega)
    have hx := and_field hN
    have e1 : Dy.frF b = Dy.built b (-1) := by unfold Dy.frF; rw [if_neg (by omega)]
    have e2 : Dy.frE b = Dy.norm2 b + ((Dy.field (Dy.norm1 b) : Nat) - 1023 + 1) := by
      unfold Dy.frE; rw [if_neg (by omega), Dy.lexp_field]; omega
    have hd' : bits BinOp.or IntKind.u64 (bits BinOp.andNot IntKind.u64 ((Dy.norm1 b : Nat) : Int) 9218868437227405312) 4602678819172646912 = ((Dy.built b (-1) : Nat) : Int) := hd
    rw [e1, e2]
    have b1 := Dy.norm2_bounds b
    have b2 := Dy.field_lt (Dy.norm1 b)
    have HN := hid (fun w => normalize_any b w hW hf)
    generalize Dy.norm2 b = n2 at *
    generalize Dy.norm1 b = N at *
    generalize Dy.field N = X at *
    generalize Dy.built b (-1) = B at *
    clear hd h0 hN hs e1 e2 hm hb hf
    go_enter Try.func51, Try.ntmps51
    go_wp2_with (first | (go_at_call 71; refine (isNaN_any b _ hW).mono ?_; rintro e w' ⟨rfl, rfl⟩) | (go_at_call 64; refine (isInf_any b _ hW).mono ?_; rintro e w' ⟨rfl, rfl⟩) | (go_at_call 73; refine (HN.out _).mono ?_; rintro e w' ⟨rfl, rfl⟩))
    go_ret2
    exact ⟨rfl, rfl⟩

theorem frexpK_any (b : Nat) (w : World) (hb : b < Dy.top) :
    Calls Try.prog 24 #[.float .f64 b] w fun e w' => e = .returned (.tuple #[.float .f64 (Dy.frF b), .int .i64 (Dy.frE b)]) ∧ w = w' := by
  have H := hid (fun w => frexp_low b w hb)
  clear hb
  generalize Dy.frF b = x at *
  generalize Dy.frE b = y at *
  go_enter Try.func24, Try.ntmps24
  go_wp2_with (go_at_call 51; refine (H.out _).mono ?_; rintro e w' ⟨rfl, rfl⟩)
  go_ret2
  exact ⟨rfl, rfl⟩

theorem rayMay_any (x : Nat) (w : World) (hx : Dy.W x) :
    Calls Try.prog 19 #[.float .f64 x] w fun e w' => e = .returned (.bool (Dy.may x)) ∧ w = w' := by
  cases hr : Dy.right x
  · rw [Dy.may_wrong hr]
    go_enter Try.func19, Try.ntmps19
    go_wp2_with (go_at_call 44; refine (right_any _ _ (by assumption)).mono ?_; rintro e w' ⟨rfl, rfl⟩)
    go_ret
    exact ⟨rfl, rfl⟩
  · have h := Dy.may_le hx hr
    generalize Dy.may x = m at *
    go_enter Try.func19, Try.ntmps19
    go_wp2_with (first | (go_at_call 44; refine (right_any _ _ (by assumption)).mono ?_; rintro e w' ⟨rfl, rfl⟩) | (go_at_call 20; refine (abs_any _ _ (by assumption)).mono ?_; rintro e w' ⟨rfl, rfl⟩))
    go_ret
    exact ⟨rfl, rfl⟩
end Go.Proofs.Ytakdeeknfcifpaa

/- Walks: ray.Inside. -/
namespace Go.Proofs.Ytakdeeknfcifpaa
open Go.RowKit

theorem rayDown_any (h l : Nat) (k : Int) (w : World) (hh : Dy.W h) (hl : Dy.W l) (h0 : 0 ≤ k) (hk2 : k ≤ 100000) :
    Calls Try.prog 25 #[wv h l, .int .i64 k] w fun e w' => ∃ p q, e = .returned (wv p q) ∧ Dy.Wide p q (Dy.wd h l / 2 ^ k.toNat) ∧ Below w.heap.size w w' := by
  obtain ⟨n, rfl⟩ := Int.eq_ofNat_of_zero_le h0
  exact rayDown_nat h l n w hh hl (by omega)

theorem conv_up53 (b : Nat) (w : World) : (convert 22 41 (.float .f64 (Dy.up53 b))).run Try.prog w = .ok (.int .u64 (Dy.n53 b : Nat)) w :=
  run_convert_float_int w _ _ _ _ _ _ (by kernel_rfl) Try.underlying41 (Dy.toInt_up53 b)

theorem ret_tuple_bool {a b : Bool} {v : Value} (h : a = b) : Ending.returned (.tuple #[.bool a, v]) = .returned (.tuple #[.bool b, v]) := by rw [h]
theorem wd_of {p q n : Nat} (h : Dy.Wide p q n) : Dy.wd p q = n := h.eq

set_option maxRecDepth 100000 in
set_option maxHeartbeats 2000000 in
theorem inside_mid (x y X Y : Nat) (w : World) (hx : Dy.W x) (hy : Dy.W y) (mx : Dy.may x = true) (my : Dy.may y = true) (hX : X = Dy.dmax (Dy.abs x) (Dy.abs y)) (hY : Y = Dy.dmin (Dy.abs x) (Dy.abs y))
    (h1 : ¬ X < 4602678819172646912) (h2 : X ≠ 4607182418800017408) :
    Calls Try.prog 5 #[.float .f64 x, .float .f64 y] w fun e w' => e = .returned (.tuple #[.bool (Dy.inB x y), .int .i64 0]) ∧ Below w.heap.size w w' := by
  have P := Dy.pt_of hx hy mx my
  rw [← hX, ← hY] at P
  have rx := (Dy.may_right mx).1
  have ry := (Dy.may_right my).1
  have hmin := fun ats t w => run_min (P := Try.prog) (Dy.abs x) (Dy.abs y) ats t w (Dy.W_abs _) (Dy.W_abs _) (Dy.right_abs rx) (Dy.right_abs ry)
  have hmax := fun ats t w => run_max (P := Try.prog) (Dy.abs x) (Dy.abs y) ats t w (Dy.W_abs _) (Dy.W_abs _) (Dy.right_abs rx) (Dy.right_abs ry)
  rw [← hX] at hmax
  rw [← hY] at hmin
  have hone := P.one
  have hle := P.le
  obtain ⟨dX, wX, rX⟩ := Dy.dec_small hone
  obtain ⟨dY, wY, rY⟩ := Dy.dec_small (b := Y) (by omega)
  have f1 : Dy.feq X 4607182418800017408 = false := by rw [Dy.feq_dec wX Dy.W_one rX Dy.right_one, dX, Dy.dec_one]; exact decide_eq_false (by omega)
  have f2 : Dy.flt X 4602678819172646912 = false := by rw [Dy.flt_dec wX Dy.W_half rX Dy.right_half, dX, Dy.dec_half]; exact decide_eq_false (by omega)
  obtain ⟨k, e1, e2, e3⟩ := Dy.in_mid P h1 h2
  obtain ⟨wf, hf⟩ := Dy.up53_ok (b := Y) (by omega)
  have L1 := hid (fun w => ldexp_any X 53 w wX (by omega) (by omega))
  have L2 := hid (fun w => ldexp_any (Dy.frF Y) 53 w wf (by omega) (by omega))
  rw [Dy.ldx_up53 (Or.inr ⟨by omega, by omega⟩)] at L1
  rw [Dy.ldx_up53 hf] at L2
  have FR := hid (fun w => frexpK_any Y w (by rw [Dy.top_eq]; omega))
  have C1 := fun w => conv_up53 X w
  have C2 := fun w => conv_up53 (Dy.frF Y) w
  have Q1 := hid (fun w => raySquare_any _ w (Dy.W_n53 X))
  have Q2 := hid (fun w => raySquare_any _ w (Dy.W_n53 (Dy.frF Y)))
  have s1 := Dy.n53_sq X
  rw [← e3]
  have he : Dy.frE Y = -(k : Int) := e1
  rw [he] at FR
  obtain ⟨M, hM⟩ : ∃ M : Int, M = 2 * (k : Int) := ⟨_, rfl⟩
  obtain ⟨ex, hex⟩ : ∃ ex : Int, ex = -(k : Int) := ⟨_, rfl⟩
  rw [← hex] at FR
  have m1 : -2 * ex = M := by rw [hex, hM]; omega
  have m2 : IntKind.i64.wrap M = M := IntWalk.i64_in _ (by omega)
  have m3 : 0 ≤ M := by omega
  have m4 : M ≤ 100000 := by omega
  have m5 : M.toNat = 2 * k := by omega
  have m6 : -100000 ≤ ex := by omega
  have m7 : ex ≤ 0 := by omega
  have M5 := hid m5
  clear hmax hmin
  have hmin := fun ats t w => run_min (P := Try.prog) (Dy.abs x) (Dy.abs y) ats t w (Dy.W_abs _) (Dy.W_abs _) (Dy.right_abs rx) (Dy.right_abs ry)
  have hmax := fun ats t w => run_max (P := Try.prog) (Dy.abs x) (Dy.abs y) ats t w (Dy.W_abs _) (Dy.W_abs _) (Dy.right_abs rx) (Dy.right_abs ry)
  rw [← hX] at hmax
  rw [← hY] at hmin
  clear m5 hM hex he e1 e3 P rx ry dX dY hf e2 h1 h2 hone hle rX rY hX hY
  generalize Dy.up53 X = u1 at *
  generalize Dy.n53 X = n1 at *
  generalize Dy.up53 (Dy.frF Y) = u2 at *
  generalize Dy.n53 (Dy.frF Y) = n2 at *
  generalize Dy.frF Y = fr at *
  generalize hab : Dy.abs x = ax at *
  generalize hcd : Dy.abs y = ay at *
  have AX := hid (fun w => abs_any x w hx)
  have AY := hid (fun w => abs_any y w hy)
  rw [hab] at AX
  rw [hcd] at AY
  clear hab hcd
  have MX := hid (fun w => rayMay_any x w hx)
  have MY := hid (fun w => rayMay_any y w hy)
  rw [mx] at MX
  rw [my] at MY
  clear mx my
  have hB : Below w.heap.size w w := Below.refl _ _
  go_enter Try.func5, Try.ntmps5
  go_wp2_with (first | (go_at_call 19; first | ((with_reducible refine (MX.out _).mono ?_); rintro e w' ⟨rfl, rfl⟩) | ((with_reducible refine (MY.out _).mono ?_); rintro e w' ⟨rfl, rfl⟩)) | (go_at_call 20; first | ((with_reducible refine (AX.out _).mono ?_); rintro e w' ⟨rfl, rfl⟩) | ((with_reducible refine (AY.out _).mono ?_); rintro e w' ⟨rfl, rfl⟩)) | (go_at_call 22; (with_reducible refine (L1.out _).mono ?_); rintro e w' ⟨rfl, rfl⟩) | (go_at_call 21; (with_reducible refine (Q1.out _).mono ?_); rintro e w1 ⟨p1, q1, rfl, r1, hb1⟩) | (go_at_call 23; (with_reducible refine (rayRest_any _ _ _ _ r1 s1).mono ?_); rintro e w2 ⟨p2, q2, rfl, r2, hb2⟩) | (go_at_call 24; (with_reducible refine (FR.out _).mono ?_); rintro e w' ⟨rfl, rfl⟩))
  have z1 := hb1.size
  have z2 := hb2.size
  have b0 : Below w.heap.size w (w2.alloc (Obj.cells #[Value.int IntKind.u64 ↑p2, Value.int IntKind.u64 ↑q2] 43)) := (hb1.trans (hb2.mono hb1.size)).alloc (by omega) _
  go_region_held3 (fun w' => w'.cell? ⟨w2.heap.size, 0, none⟩ = some (.int .u64 p2) ∧ w'.cell? ⟨w2.heap.size, 1, none⟩ = some (.int .u64 q2))
    (first | (refine ⟨?_, ?_⟩ <;> first | assumption | (simp [go_sem]; done) | (simp [go_sem, *]; done)) | done | trivial)
    (first | (go_at_call 22; (with_reducible refine (L2.out _).mono ?_); rintro e w' ⟨rfl, rfl⟩) | (go_at_call 21; refine (Q2.out _).mono ?_; rintro e w3 ⟨p3, q3, rfl, r3, hb3⟩; obtain ⟨hc3, hf3⟩ := bcell hb3; have z3 := hb3.size; simp at z3; have c30 : w3.cell? ⟨w2.heap.size, 0, none⟩ = some (.int .u64 p2) := (hc3 _ _ (by simp)).trans (by simp [go_sem]); have c31 : w3.cell? ⟨w2.heap.size, 1, none⟩ = some (.int .u64 q2) := (hc3 _ _ (by simp)).trans (by simp [go_sem]); clear hc3 hf3) | (go_at_call 25; refine (rayDown_any _ _ _ _ r3.hh r3.hl m3 m4).mono ?_; rintro e w4 ⟨p4, q4, rfl, r4, hb4⟩; obtain ⟨hc4, hf4⟩ := bcell hb4; have z4 := hb4.size; have c40 : w4.cell? ⟨w2.heap.size, 0, none⟩ = some (.int .u64 p2) := (hc4 _ _ (by omega)).trans c30; have c41 : w4.cell? ⟨w2.heap.size, 1, none⟩ = some (.int .u64 q2) := (hc4 _ _ (by omega)).trans c31; clear hc4 hf4) | (go_at_call 26; refine (rayLess_any _ _ _ _ _ r4.hl r2.hl).mono ?_; rintro e w5 ⟨rfl, hb5⟩; obtain ⟨hc5, hf5⟩ := bcell hb5; have z5 := hb5.size; have c50 : w5.cell? ⟨w2.heap.size, 0, none⟩ = some (.int .u64 p2) := (hc5 _ _ (by omega)).trans c40; have c51 : w5.cell? ⟨w2.heap.size, 1, none⟩ = some (.int .u64 q2) := (hc5 _ _ (by omega)).trans c41; clear hc5 hf5))
  go_wp2
  go_ret2
  refine ⟨ret_tuple_bool ?_, b0.drew.trans ((hb3.trans ((hb4.trans (hb5.mono hb4.size)).mono hb3.size)).mono (by have := b0.size; simp at this ⊢; omega))⟩
  rw [wd_of r4, wd_of r2, wd_of r3, M5.out]

set_option maxHeartbeats 2000000 in
theorem inside_edge (x y X : Nat) (w : World) (b : Bool) (hx : Dy.W x) (hy : Dy.W y) (mx : Dy.may x = true) (my : Dy.may y = true) (hX : Dy.dmax (Dy.abs x) (Dy.abs y) = X)
    (h : Dy.feq X 4607182418800017408 = true ∨ Dy.feq X 4607182418800017408 = false ∧ Dy.flt X 4602678819172646912 = true) (hb : Dy.flt X 4607182418800017408 = b) :
    Calls Try.prog 5 #[.float .f64 x, .float .f64 y] w fun e w' => e = .returned (.tuple #[.bool b, .int .i64 0]) ∧ Below w.heap.size w w' := by
  have rx := (Dy.may_right mx).1
  have ry := (Dy.may_right my).1
  have hmin := fun ats t w => run_min (P := Try.prog) (Dy.abs x) (Dy.abs y) ats t w (Dy.W_abs _) (Dy.W_abs _) (Dy.right_abs rx) (Dy.right_abs ry)
  have hmax := fun ats t w => run_max (P := Try.prog) (Dy.abs x) (Dy.abs y) ats t w (Dy.W_abs _) (Dy.W_abs _) (Dy.right_abs rx) (Dy.right_abs ry)
  rw [hX] at hmax
  clear hX rx ry
  generalize Dy.dmin (Dy.abs x) (Dy.abs y) = Y at *
  generalize hab : Dy.abs x = ax at *
  generalize hcd : Dy.abs y = ay at *
  have AX := hid (fun w => abs_any x w hx)
  have AY := hid (fun w => abs_any y w hy)
  rw [hab] at AX
  rw [hcd] at AY
  clear hab hcd
  have MX := hid (fun w => rayMay_any x w hx)
  have MY := hid (fun w => rayMay_any y w hy)
  rw [mx] at MX
  rw [my] at MY
  clear mx my
  rcases h with h | ⟨h, h'⟩
  all_goals
    go_enter Try.func5, Try.ntmps5
    go_wp2_with (first | (go_at_call 19; first | ((with_reducible refine (MX.out _).mono ?_); rintro e w' ⟨rfl, rfl⟩) | ((with_reducible refine (MY.out _).mono ?_); rintro e w' ⟨rfl, rfl⟩)) | (go_at_call 20; first | ((with_reducible refine (AX.out _).mono ?_); rintro e w' ⟨rfl, rfl⟩) | ((with_reducible refine (AY.out _).mono ?_); rintro e w' ⟨rfl, rfl⟩)))
    go_ret2
    exact ⟨rfl, Below.refl _ _⟩

theorem inside_wrong (x y : Nat) (w : World) (hx : Dy.W x) (hy : Dy.W y) (h : Dy.may x = false ∨ Dy.may x = true ∧ Dy.may y = false) :
    Calls Try.prog 5 #[.float .f64 x, .float .f64 y] w fun e w' => e = .returned (.tuple #[.bool false, .int .i64 2]) ∧ Below w.heap.size w w' := by
  have MX := hid (fun w => rayMay_any x w hx)
  have MY := hid (fun w => rayMay_any y w hy)
  rcases h with h | ⟨h, h'⟩
  all_goals
    rw [h] at MX
    try rw [h'] at MY
    clear h
    go_enter Try.func5, Try.ntmps5
    go_wp2_with (go_at_call 19; first | ((with_reducible refine (MX.out _).mono ?_); rintro e w' ⟨rfl, rfl⟩) | ((with_reducible refine (MY.out _).mono ?_); rintro e w' ⟨rfl, rfl⟩))
    go_ret2
    exact ⟨rfl, Below.refl _ _⟩

/-- ray.Inside: is a point within the ball, by real numbers; the error (2), where it may be none. -/
theorem inside_any (x y : Nat) (w : World) (hx : Dy.W x) (hy : Dy.W y) :
    Calls Try.prog 5 #[.float .f64 x, .float .f64 y] w fun e w' => e = .returned (.tuple #[.bool (Dy.dIn x y).1, .int .i64 (Dy.dIn x y).2]) ∧ Below w.heap.size w w' := by
  by_cases hm : Dy.may x = true ∧ Dy.may y = true
  · obtain ⟨mx, my⟩ := hm
    have e : Dy.dIn x y = (Dy.inB x y, 0) := by unfold Dy.dIn; rw [mx, my]; rfl
    rw [e]
    have P := Dy.pt_of hx hy mx my
    by_cases h1 : Dy.dmax (Dy.abs x) (Dy.abs y) = 4607182418800017408
    · have P' := P
      rw [h1] at P'
      rw [Dy.in_one P']
      exact inside_edge x y _ w false hx hy mx my h1 (Or.inl eq0) (by decide +kernel)
    · by_cases h2 : Dy.dmax (Dy.abs x) (Dy.abs y) < 4602678819172646912
      · rw [Dy.in_low P h2]
        obtain ⟨dX, wX, rX⟩ := Dy.dec_small P.one
        refine inside_edge x y _ w true hx hy mx my rfl (Or.inr ⟨?_, ?_⟩) ?_
        · rw [Dy.feq_dec wX Dy.W_one rX Dy.right_one, dX, Dy.dec_one]; exact decide_eq_false (by omega)
        · rw [Dy.flt_dec wX Dy.W_half rX Dy.right_half, dX, Dy.dec_half]; exact decide_eq_true (by omega)
        · rw [Dy.flt_dec wX Dy.W_one rX Dy.right_one, dX, Dy.dec_one]; exact decide_eq_true (by omega)
      · exact inside_mid x y _ _ w hx hy mx my rfl rfl h2 h1
  · have h : Dy.may x = false ∨ Dy.may x = true ∧ Dy.may y = false := by
      revert hm
      generalize Dy.may x = a
      generalize Dy.may y = b
      cases a <;> cases b <;> decide
    have e : Dy.dIn x y = (false, 2) := by
      unfold Dy.dIn
      rcases h with h | ⟨h, h'⟩
      · rw [h]; rfl
      · rw [h, h']; rfl
    rw [e]
    exact inside_wrong x y w hx hy h
end Go.Proofs.Ytakdeeknfcifpaa

/- Walks: ray.Hit. -/
namespace Go.Proofs.Ytakdeeknfcifpaa
open Go.RowKit

@[go_sem] theorem run_storeK_float {P : Program} {w : World} {a : Addr} {m : Mode} (k : FloatKind) (b : Nat) : (store a (.float k b) m).run P w = stored P w a (.float k b) m := run_store P w a _ m rfl

abbrev fv (x y z : Nat) : Value := .agg #[.float .f64 x, .float .f64 y, .float .f64 z]

set_option maxRecDepth 100000 in
set_option maxHeartbeats 2000000 in
theorem hit_any (x y : Nat) (w : World) (hx : Dy.W x) (hy : Dy.W y) :
    Calls Try.prog 7 #[.float .f64 x, .float .f64 y] w fun e w' => e = .returned (.tuple #[fv (Dy.hX x y) 0 (Dy.hZ x y), .bool (Dy.hits x y), .int .i64 (Dy.dIn x y).2]) ∧ Below w.heap.size w w' := by
  have I := hid (fun w => inside_any x y w hx hy)
  have hB : Below (w.alloc (.cells #[.float .f64 0, .float .f64 0, .float .f64 0] 27)).heap.size (w.alloc (.cells #[.float .f64 0, .float .f64 0, .float .f64 0] 27)) (w.alloc (.cells #[.float .f64 0, .float .f64 0, .float .f64 0] 27)) := Below.refl _ _
  cases h1 : (Dy.dIn x y).1
  · have h2 : Dy.hits x y = false := by unfold Dy.hits; rw [h1]; rfl
    have h3 : Dy.hX x y = 0 := by unfold Dy.hX; rw [h2]; rfl
    have h4 : Dy.hZ x y = 0 := by unfold Dy.hZ; rw [h2]; rfl
    rw [h1] at I
    rw [h2, h3, h4]
    generalize (Dy.dIn x y).2 = e at *
    clear h1 h2 h3 h4
    go_enter Try.func7, Try.ntmps7
    go_wp2_with (go_at_call 5; (with_reducible refine (chain I hB).mono ?_); clear hB; rintro e w' ⟨rfl, hB⟩; obtain ⟨hc, hf⟩ := bcell hB; have c0 : w'.cell? ⟨w.heap.size, 0, none⟩ = some (.float .f64 0) := (hc _ _ (by simp)).trans (by simp [go_sem]); have c1 : w'.cell? ⟨w.heap.size, 1, none⟩ = some (.float .f64 0) := (hc _ _ (by simp)).trans (by simp [go_sem]); have c2 : w'.cell? ⟨w.heap.size, 2, none⟩ = some (.float .f64 0) := (hc _ _ (by simp)).trans (by simp [go_sem]); have f0 : w'.frozen? ⟨w.heap.size, 0, none⟩ = false := (hf _ _ (by simp)).trans (by simp [go_sem]); have f1 : w'.frozen? ⟨w.heap.size, 1, none⟩ = false := (hf _ _ (by simp)).trans (by simp [go_sem]); have f2 : w'.frozen? ⟨w.heap.size, 2, none⟩ = false := (hf _ _ (by simp)).trans (by simp [go_sem]); clear hc hf; have hz := hB.size; simp at hz)
    refine bodyPost_ret (v := .tuple #[fv 0 0 0, .bool false, .int .i64 e]) (by simp [results, Try.results7, go_sem, c0, c1, c2]) rfl ⟨rfl, ?_⟩
    exact (((((Below.refl _ _).alloc (Nat.le_refl _) _).trans (hB.mono (by simp))).setCell (by simp) _).setCell (by simp) _).setCell (by simp) _
  · have he : (Dy.dIn x y).2 = 0 := by
      unfold Dy.dIn at h1 ⊢
      split at h1
      · rename_i h; rw [if_pos h]
      · cases h1
    rw [h1, he] at I
    rw [he]
    have M1 := hid (fun w => mul_any x x true w hx hx)
    have M2 := hid (fun w => mul_any y y true w hy hy)
    have A1 := hid (fun w => add_any _ _ true w (Dy.dMul_W x x true) (Dy.dMul_W y y true))
    have S1 := hid (fun w => sub_any Dy.o1 _ false w Dy.W_o1 (Dy.far_W x y))
    have Q1 := hid (fun w => sqrt_any _ false w (Dy.far_W x y))
    have Q2 := hid (fun w => sqrt_any _ false w (Dy.lft_W x y))
    have ef : (Dy.dAdd (Dy.dMul x x true).1 (Dy.dMul y y true).1 true).1 = Dy.far x y := rfl
    have el : (Dy.dSub Dy.o1 (Dy.far x y) false).1 = Dy.lft x y := rfl
    rw [ef] at A1
    rw [el] at S1
    generalize (Dy.dAdd (Dy.dMul x x true).1 (Dy.dMul y y true).1 true).2 = e3 at *
    generalize (Dy.dSub Dy.o1 (Dy.far x y) false).2 = e4 at *
    clear ef el
    have hh : Dy.hits x y = !(Dy.flt (Dy.lft x y) 0 || Dy.feq (Dy.lft x y) 0) := by unfold Dy.hits; rw [h1]; rfl
    cases hl : (Dy.flt (Dy.lft x y) 0 || Dy.feq (Dy.lft x y) 0)
    · have h2 : Dy.hits x y = true := by rw [hh, hl]; rfl
      have h3 : Dy.hX x y = (Dy.dSqrt (Dy.far x y) false).1 := by unfold Dy.hX; rw [h2]; rfl
      have h4 : Dy.hZ x y = (Dy.dSqrt (Dy.lft x y) false).1 := by unfold Dy.hZ; rw [h2]; rfl
      rw [h2, h3, h4]
      clear h1 h2 h3 h4 hh he
      generalize Dy.dSqrt (Dy.far x y) false = r5 at *
      generalize Dy.dSqrt (Dy.lft x y) false = r6 at *
      generalize Dy.dMul x x true = r1 at *
      generalize Dy.dMul y y true = r2 at *
      generalize Dy.far x y = f at *
      generalize Dy.lft x y = l at *
      obtain ⟨X, ex⟩ := r5
      obtain ⟨Z, ez⟩ := r6
      obtain ⟨a, ea⟩ := r1
      obtain ⟨b, eb⟩ := r2
      dsimp only at *
      unfold Dy.o1 at S1
      go_enter Try.func7, Try.ntmps7
      go_wp2_with (first | (go_at_call 5; (with_reducible refine (chain I hB).mono ?_); clear hB; rintro e w' ⟨rfl, hB⟩) | (go_at_call 30; first | ((with_reducible refine (chain M1 hB).mono ?_); clear hB M1; rintro e w' ⟨rfl, hB⟩) | ((with_reducible refine (chain M2 hB).mono ?_); clear hB M2; rintro e w' ⟨rfl, hB⟩)) | (go_at_call 31; (with_reducible refine (chain A1 hB).mono ?_); clear hB; rintro e w' ⟨rfl, hB⟩) | (go_at_call 32; (with_reducible refine (chain S1 hB).mono ?_); clear hB; rintro e w' ⟨rfl, hB⟩) | (go_at_call 33; first | ((with_reducible refine (chain Q1 hB).mono ?_); clear hB Q1; rintro e w' ⟨rfl, hB⟩) | ((with_reducible refine (chain Q2 hB).mono ?_); clear hB Q2; rintro e w' ⟨rfl, hB⟩; obtain ⟨hc, hf⟩ := bcell hB; have c0 : w'.cell? ⟨w.heap.size, 0, none⟩ = some (.float .f64 0) := (hc _ _ (by simp)).trans (by simp [go_sem]); have c1 : w'.cell? ⟨w.heap.size, 1, none⟩ = some (.float .f64 0) := (hc _ _ (by simp)).trans (by simp [go_sem]); have c2 : w'.cell? ⟨w.heap.size, 2, none⟩ = some (.float .f64 0) := (hc _ _ (by simp)).trans (by simp [go_sem]); have f0 : w'.frozen? ⟨w.heap.size, 0, none⟩ = false := (hf _ _ (by simp)).trans (by simp [go_sem]); have f1 : w'.frozen? ⟨w.heap.size, 1, none⟩ = false := (hf _ _ (by simp)).trans (by simp [go_sem]); have f2 : w'.frozen? ⟨w.heap.size, 2, none⟩ = false := (hf _ _ (by simp)).trans (by simp [go_sem]); clear hc hf; have hz := hB.size; simp at hz)))
      refine bodyPost_ret (v := .tuple #[fv X 0 Z, .bool true, .int .i64 0]) (by simp [results, Try.results7, go_sem, c0, c1, c2]) rfl ⟨rfl, ?_⟩
      exact (((((Below.refl _ _).alloc (Nat.le_refl _) _).trans (hB.mono (by simp))).setCell (by simp) _).setCell (by simp) _).setCell (by simp) _
    · have h2 : Dy.hits x y = false := by rw [hh, hl]; rfl
      have h3 : Dy.hX x y = 0 := by unfold Dy.hX; rw [h2]; rfl
      have h4 : Dy.hZ x y = 0 := by unfold Dy.hZ; rw [h2]; rfl
      rw [h2, h3, h4]
      clear h1 h2 h3 h4 hh he Q1 Q2
      generalize Dy.dMul x x true = r1 at *
      generalize Dy.dMul y y true = r2 at *
      generalize Dy.far x y = f at *
      generalize Dy.lft x y = l at *
      obtain ⟨a, ea⟩ := r1
      obtain ⟨b, eb⟩ := r2
      dsimp only at *
      unfold Dy.o1 at S1
      go_enter Try.func7, Try.ntmps7
      go_wp2_with (first | (go_at_call 5; (with_reducible refine (chain I hB).mono ?_); clear hB; rintro e w' ⟨rfl, hB⟩) | (go_at_call 30; first | ((with_reducible refine (chain M1 hB).mono ?_); clear hB M1; rintro e w' ⟨rfl, hB⟩) | ((with_reducible refine (chain M2 hB).mono ?_); clear hB M2; rintro e w' ⟨rfl, hB⟩)) | (go_at_call 31; (with_reducible refine (chain A1 hB).mono ?_); clear hB; rintro e w' ⟨rfl, hB⟩) | (go_at_call 32; (with_reducible refine (chain S1 hB).mono ?_); clear hB; rintro e w' ⟨rfl, hB⟩; obtain ⟨hc, hf⟩ := bcell hB; have c0 : w'.cell? ⟨w.heap.size, 0, none⟩ = some (.float .f64 0) := (hc _ _ (by simp)).trans (by simp [go_sem]); have c1 : w'.cell? ⟨w.heap.size, 1, none⟩ = some (.float .f64 0) := (hc _ _ (by simp)).trans (by simp [go_sem]); have c2 : w'.cell? ⟨w.heap.size, 2, none⟩ = some (.float .f64 0) := (hc _ _ (by simp)).trans (by simp [go_sem]); have f0 : w'.frozen? ⟨w.heap.size, 0, none⟩ = false := (hf _ _ (by simp)).trans (by simp [go_sem]); have f1 : w'.frozen? ⟨w.heap.size, 1, none⟩ = false := (hf _ _ (by simp)).trans (by simp [go_sem]); have f2 : w'.frozen? ⟨w.heap.size, 2, none⟩ = false := (hf _ _ (by simp)).trans (by simp [go_sem]); clear hc hf; have hz := hB.size; simp at hz))
      refine bodyPost_ret (v := .tuple #[fv 0 0 0, .bool false, .int .i64 0]) (by simp [results, Try.results7, go_sem, c0, c1, c2]) rfl ⟨rfl, ?_⟩
      exact (((((Below.refl _ _).alloc (Nat.le_refl _) _).trans (hB.mono (by simp))).setCell (by simp) _).setCell (by simp) _).setCell (by simp) _
end Go.Proofs.Ytakdeeknfcifpaa

