/- Walks: dir.parts, dir.Mul. -/
import Derived.Test.YtfjomcbbgnaaiaaWg
import Derived.Test.YtfjomcbbgnaaiaaDyI
namespace Go.Proofs.Ytfjomcbbgnaaiaa
open Go.RowKit

theorem and_frac {b : Nat} (hb : Dy.W b) : bits BinOp.and IntKind.u64 (b : Int) 4503599627370495 = ((b % 2 ^ 52 : Nat) : Int) := by
  have h := u64_and_nat b 4503599627370495 hb.lt (by omega)
  have e : b &&& 4503599627370495 = b % 2 ^ 52 := Nat.and_two_pow_sub_one_eq_mod b 52
  rw [e] at h
  exact h

theorem and_field {b : Nat} (hb : Dy.W b) : bits BinOp.and IntKind.u64 ((b : Int) / 4503599627370496) 2047 = ((Dy.field b : Nat) : Int) := by
  have h1 := hb.lt
  have h := u64_and_nat (b / 4503599627370496) 2047 (by omega) (by omega)
  have e : b / 4503599627370496 &&& 2047 = Dy.field b := by
    rw [nat_mask11]; rfl
  rw [e] at h
  exact h

theorem or_one {x : Nat} (h : x < 2 ^ 52) : bits BinOp.or IntKind.u64 (x : Int) 4503599627370496 = ((2 ^ 52 + x : Nat) : Int) := by
  have h2 := u64_or_nat x 4503599627370496 (by omega) (by omega)
  have e : x ||| 4503599627370496 = 2 ^ 52 + x := by
    rw [Nat.or_comm]
    have := Nat.two_pow_add_eq_or_of_lt h 1
    rw [Nat.mul_one] at this
    exact this.symm
  rw [e] at h2
  exact h2

theorem rounded_to (minus more up : Bool) (h l : Nat) (e : Int) (w : World) {N : Nat} {r : Nat × Int} (hh : Dy.W h) (hl : Dy.W l) (he1 : -5000 ≤ e) (he2 : e ≤ 5000) (hN : Dy.wd h l = N) (hr : Dy.rnd minus N more e up = r) :
    Calls Try.prog 56 #[xv minus h l more e, .bool up] w fun e' w' => e' = .returned (.tuple #[.float .f64 r.1, .int .i64 r.2]) ∧ Below w.heap.size w w' := by
  have h := rounded_any minus more up h l e w hh hl he1 he2
  rw [hN, hr] at h
  exact h

set_option maxHeartbeats 400000 in
theorem parts_any (b : Nat) (w : World) (hb : Dy.W b) :
    Calls Try.prog 54 #[.float .f64 b] w fun e w' => e = .returned (.tuple #[.bool (Dy.sgn b), .int .u64 (Dy.pm b : Nat), .int .i64 (Dy.pe b)]) ∧ w = w' := by
  have h1 := and_frac hb
  have h2 := and_field hb
  have h3 := or_one (x := b % 2 ^ 52) (by omega)
  have h4 := Dy.field_lt b
  have HS := hid (fun w => signbit_any b w hb)
  by_cases h : Dy.field b = 0
  · have e1 : Dy.pm b = b % 2 ^ 52 := by unfold Dy.pm; rw [if_pos h]
    have e2 : Dy.pe b = -1074 := by unfold Dy.pe; rw [if_pos h]
    rw [e1, e2]
    clear e1 e2 h3
    generalize b % 2 ^ 52 = x at *
    go_enter Try.func54, Try.ntmps54
    go_wp2_with (go_at_call 70; refine (HS.out _).mono ?_; rintro e w' ⟨rfl, rfl⟩)
    go_ret3
    exact ⟨rfl, rfl⟩
  · have e1 : Dy.pm b = 2 ^ 52 + b % 2 ^ 52 := by unfold Dy.pm; rw [if_neg h]
    have e2 : Dy.pe b = (Dy.field b : Int) + -1074 - 1 := by unfold Dy.pe; rw [if_neg h]
    rw [e1, e2]
    clear e1 e2
    generalize (2 ^ 52 + b % 2 ^ 52) = y at *
    generalize b % 2 ^ 52 = x at *
    generalize Dy.field b = F at *
    go_enter Try.func54, Try.ntmps54
    go_wp2_with (go_at_call 70; refine (HS.out _).mono ?_; rintro e w' ⟨rfl, rfl⟩)
    go_ret3
    exact ⟨rfl, rfl⟩

set_option maxRecDepth 100000 in
set_option maxHeartbeats 400000 in
theorem mul_wrong (a b : Nat) (up : Bool) (w : World) (ha : Dy.W a) (hb : Dy.W b) (h : Dy.right a = false ∨ Dy.right b = false) :
    Calls Try.prog 19 #[.float .f64 a, .float .f64 b, .bool up] w fun e w' => e = .returned (.tuple #[.float .f64 0, .int .i64 13]) ∧ w = w' := by
  cases h1 : Dy.right a
  · clear h
    go_enter Try.func19, Try.ntmps19
    go_wp2_with (go_at_call 25; refine (right_any _ _ (by assumption)).mono ?_; rintro e w' ⟨rfl, rfl⟩)
    go_ret2
    exact ⟨rfl, rfl⟩
  · have h2 : Dy.right b = false := by rw [h1] at h; simpa using h
    clear h
    go_enter Try.func19, Try.ntmps19
    go_wp2_with (go_at_call 25; refine (right_any _ _ (by assumption)).mono ?_; rintro e w' ⟨rfl, rfl⟩)
    go_ret2
    exact ⟨rfl, rfl⟩

set_option maxRecDepth 100000 in
set_option maxHeartbeats 1000000 in
theorem mul_right (a b : Nat) (up : Bool) (w : World) (ha : Dy.W a) (hb : Dy.W b) (h1 : Dy.right a = true) (h2 : Dy.right b = true) :
    Calls Try.prog 19 #[.float .f64 a, .float .f64 b, .bool up] w fun e w' => e = .returned (.tuple #[.float .f64 (Dy.dMul a b up).1, .int .i64 (Dy.dMul a b up).2]) ∧ Below w.heap.size w w' := by
  have HO := hid (Dy.mul_out (up := up) ha hb h1 h2)
  have ma := Dy.pm_lt a
  have mb := Dy.pm_lt b
  have ba := Dy.pe_bounds a
  have bb := Dy.pe_bounds b
  have HA := hid (fun w => parts_any a w ha)
  have HB := hid (fun w => parts_any b w hb)
  generalize Dy.sgn a = sa at *
  generalize Dy.sgn b = sb at *
  generalize Dy.pm a = m at *
  generalize Dy.pm b = n at *
  generalize Dy.pe a = e at *
  generalize Dy.pe b = f at *
  have hm : Dy.W m := by unfold Dy.W; omega
  have hn : Dy.W n := by unfold Dy.W; omega
  have hmn : m * n < 2 ^ 128 := Nat.lt_of_lt_of_le (Nat.mul_lt_mul'' ma mb) (by omega)
  go_enter Try.func19, Try.ntmps19
  go_wp2_with (go_at_call 25; refine (right_any _ _ (by assumption)).mono ?_; rintro e w' ⟨rfl, rfl⟩)
  refine (HA.out _).mono ?_
  rintro e' w1 ⟨rfl, rfl⟩
  go_wp2_with fail
  refine (HB.out _).mono ?_
  rintro e' w1 ⟨rfl, rfl⟩
  go_wp2_with (go_at_call 55; refine (mul64_any _ _ _ hm hn).mono ?_; rintro e w' ⟨rfl, rfl⟩)
  refine (rounded_to (N := m * n) (!(sa == sb)) false up _ _ (e + f) _ (Dy.W_hi64 hmn) (Dy.W_lo64 _) (by omega) (by omega) (Dy.wd_hilo _) HO.out).mono ?_
  rintro e' w1 ⟨rfl, hb1⟩
  go_wp2
  go_ret2
  exact ⟨rfl, (((Below.refl _ _).alloc (Nat.le_refl _) _)).trans (hb1.mono (by simp))⟩

theorem mul_any (a b : Nat) (up : Bool) (w : World) (ha : Dy.W a) (hb : Dy.W b) :
    Calls Try.prog 19 #[.float .f64 a, .float .f64 b, .bool up] w fun e w' => e = .returned (.tuple #[.float .f64 (Dy.dMul a b up).1, .int .i64 (Dy.dMul a b up).2]) ∧ Below w.heap.size w w' := by
  cases h1 : Dy.right a
  · rw [Dy.dMul_wrong (Or.inl h1)]
    exact (mul_wrong a b up w ha hb (Or.inl h1)).mono fun e w' h => ⟨h.1, h.2 ▸ Below.refl _ _⟩
  · cases h2 : Dy.right b
    · rw [Dy.dMul_wrong (Or.inr h2)]
      exact (mul_wrong a b up w ha hb (Or.inr h2)).mono fun e w' h => ⟨h.1, h.2 ▸ Below.refl _ _⟩
    · exact mul_right a b up w ha hb h1 h2
end Go.Proofs.Ytfjomcbbgnaaiaa
