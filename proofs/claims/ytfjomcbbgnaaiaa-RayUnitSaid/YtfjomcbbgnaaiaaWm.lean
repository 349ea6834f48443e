/- Walks: dir.Div. -/
import Derived.Test.YtfjomcbbgnaaiaaWj
import Derived.Test.YtfjomcbbgnaaiaaWk
import Derived.Test.YtfjomcbbgnaaiaaDyM
namespace Go.Proofs.Ytfjomcbbgnaaiaa
open Go.RowKit

theorem shlK {m k : Nat} (_h : m * 2 ^ k < 2 ^ 64) : IntKind.u64.wrap ((m : Int) * 2 ^ k) = ((m * 2 ^ k : Nat) : Int) := by
  rw [IntKind.wrap_u64]
  have : (m : Int) * 2 ^ k = ((m * 2 ^ k : Nat) : Int) := by simp
  rw [this]
  omega

set_option maxRecDepth 100000 in
set_option maxHeartbeats 1000000 in
theorem div_any (a b : Nat) (up : Bool) (w : World) (ha : Dy.W a) (hb : Dy.W b) :
    Calls Try.prog 26 #[.float .f64 a, .float .f64 b, .bool up] w fun e w' => e = .returned (.tuple #[.float .f64 (Dy.dDiv a b up).1, .int .i64 (Dy.dDiv a b up).2]) ∧ Below w.heap.size w w' := by
  cases h1 : Dy.right a
  · have e1 : Dy.dDiv a b up = (0, 13) := by unfold Dy.dDiv; rw [h1]; rfl
    rw [e1]; clear e1
    go_enter Try.func26, Try.ntmps26
    go_wp2_with (go_at_call 25; refine (right_any _ _ (by assumption)).mono ?_; rintro e w' ⟨rfl, rfl⟩)
    go_ret2
    exact ⟨rfl, Below.refl _ _⟩
  cases h2 : Dy.right b
  · have e1 : Dy.dDiv a b up = (0, 13) := by unfold Dy.dDiv; rw [h1, h2]; rfl
    rw [e1]; clear e1
    go_enter Try.func26, Try.ntmps26
    go_wp2_with (go_at_call 25; refine (right_any _ _ (by assumption)).mono ?_; rintro e w' ⟨rfl, rfl⟩)
    go_ret2
    exact ⟨rfl, Below.refl _ _⟩
  have fb := Dy.feq_right hb h2
  have fa := Dy.feq_right ha h1
  by_cases hb0 : b = 0
  · have e1 : Dy.dDiv a b up = (0, 11) := by unfold Dy.dDiv; rw [h1, h2, if_neg (by decide), if_pos hb0]
    have fb' : Dy.feq b 0 = true := by rw [fb]; exact decide_eq_true hb0
    rw [e1]; clear e1 fb hb0
    go_enter Try.func26, Try.ntmps26
    go_wp2_with (go_at_call 25; refine (right_any _ _ (by assumption)).mono ?_; rintro e w' ⟨rfl, rfl⟩)
    go_ret2
    exact ⟨rfl, Below.refl _ _⟩
  have fb' : Dy.feq b 0 = false := by rw [fb]; exact decide_eq_false hb0
  clear fb
  by_cases ha0 : a = 0
  · have e1 : Dy.dDiv a b up = (0, 0) := by
      unfold Dy.dDiv
      rw [h1, h2, if_neg (by decide), if_neg hb0, ha0]
      exact Dy.out_divR_zero _ _
    have fa' : Dy.feq a 0 = true := by rw [fa]; exact decide_eq_true ha0
    rw [e1]; clear e1 fa hb0 ha0
    go_enter Try.func26, Try.ntmps26
    go_wp2_with (go_at_call 25; refine (right_any _ _ (by assumption)).mono ?_; rintro e w' ⟨rfl, rfl⟩)
    go_ret2
    exact ⟨rfl, Below.refl _ _⟩
  have fa' : Dy.feq a 0 = false := by rw [fa]; exact decide_eq_false ha0
  clear fa
  have HO := hid (Dy.quo_out (up := up) ha hb h1 h2 ha0 hb0)
  have na := Dy.nm_bounds (Dy.pm_ne ha h1 ha0) (Dy.pm_lt a)
  have nb := Dy.nm_bounds (Dy.pm_ne hb h2 hb0) (Dy.pm_lt b)
  have ma := Dy.pm_lt a
  have mb := Dy.pm_lt b
  have ba := Dy.pe_bounds a
  have bb := Dy.pe_bounds b
  have HA := hid (fun w => parts_any a w ha)
  have HB := hid (fun w => parts_any b w hb)
  generalize Dy.sgn a = sa at *
  generalize Dy.sgn b = sb at *
  generalize Dy.pm a = m at *
  generalize Dy.pm b = n at *
  generalize Dy.pe a = e at *
  generalize Dy.pe b = f at *
  generalize Dy.dDiv a b up = r at *
  have hm : Dy.W m := by unfold Dy.W; omega
  have hn : Dy.W n := by unfold Dy.W; omega
  have ZA := hid (fun w => leadingZeros64_any m w hm)
  have ZB := hid (fun w => leadingZeros64_any n w hn)
  have sA : IntKind.u64.wrap ((m : Int) * 2 ^ Dy.lz m) = (Dy.nm m : Int) := shlK na.2.1.lt
  have sB : IntKind.u64.wrap ((n : Int) * 2 ^ Dy.lz n) = (Dy.nm n : Int) := shlK nb.2.1.lt
  obtain ⟨na1, na2, na3⟩ := na
  obtain ⟨nb1, nb2, nb3⟩ := nb
  have hq := (Dy.dq_bounds na1 na2 nb1 nb2).2
  have D := hid (fun w => div64_any (Dy.nm m / 2) (Dy.lo64 (Dy.nm m * 2 ^ 63)) (Dy.nm n) w (Dy.W_lo64 _) nb2 nb1 (by have := na2.lt; omega) (by omega))
  change Hid (∀ w, Calls Try.prog 72 _ w fun e w' => e = .returned (.tuple #[.int .u64 (Dy.dq (Dy.nm m) (Dy.nm n) : Nat), .int .u64 (Dy.dr (Dy.nm m) (Dy.nm n) : Nat)]) ∧ w = w') at D
  change Hid (∀ w, Calls Try.prog 71 _ w fun e w' => e = .returned (.int .i64 (Dy.lz m : Nat)) ∧ w = w') at ZA
  change Hid (∀ w, Calls Try.prog 71 _ w fun e w' => e = .returned (.int .i64 (Dy.lz n : Nat)) ∧ w = w') at ZB
  have d1 : (Dy.nm m : Int) / 2 = ((Dy.nm m / 2 : Nat) : Int) := by omega
  have d2 : IntKind.u64.wrap ((Dy.nm m : Int) * 9223372036854775808) = (Dy.lo64 (Dy.nm m * 2 ^ 63) : Int) := by
    rw [IntKind.wrap_u64]; unfold Dy.lo64; omega
  generalize Dy.dq (Dy.nm m) (Dy.nm n) = x at *
  generalize Dy.dr (Dy.nm m) (Dy.nm n) = y at *
  generalize Dy.nm m / 2 = M1 at *
  generalize Dy.lo64 (Dy.nm m * 2 ^ 63) = M2 at *
  generalize Dy.nm m = M at *
  generalize Dy.nm n = N at *
  generalize Dy.lz m = i at *
  generalize Dy.lz n = k at *
  clear na1 nb1 hb0 ha0
  go_enter Try.func26, Try.ntmps26
  go_wp2_with (go_at_call 25; refine (right_any _ _ (by assumption)).mono ?_; rintro e w' ⟨rfl, rfl⟩)
  refine (HA.out _).mono ?_
  rintro e' w1 ⟨rfl, rfl⟩
  go_wp2_with fail
  refine (HB.out _).mono ?_
  rintro e' w1 ⟨rfl, rfl⟩
  go_wp2_with fail
  refine (ZA.out _).mono ?_
  rintro e' w1 ⟨rfl, rfl⟩
  go_wp2_with fail
  refine (ZB.out _).mono ?_
  rintro e' w1 ⟨rfl, rfl⟩
  go_wp2_with fail
  go_region
  go_wp2_with fail
  refine (D.out _).mono ?_
  rintro e' w1 ⟨rfl, rfl⟩
  go_wp2_with fail
  refine (rounded_to _ _ up 0 x _ _ W0 hq (by omega) (by omega) (Dy.wd_zero x) (by have := HO.out; revert this; cases sa <;> cases sb <;> exact id)).mono ?_
  rintro e' w1 ⟨rfl, hb1⟩
  go_wp2
  go_ret2
  exact ⟨rfl, (below_drewN (Below.refl _ _) 1).trans hb1⟩
end Go.Proofs.Ytfjomcbbgnaaiaa
