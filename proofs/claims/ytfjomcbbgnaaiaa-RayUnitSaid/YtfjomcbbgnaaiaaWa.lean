/- Walks: what is a number: math.IsNaN, math.Signbit, math.Abs, math.IsInf, dir.Right. -/
import Derived.Test.YtfjomcbbgnaaiaaRows
import Derived.Test.YtfjomcbbgnaaiaaDyD
import Derived.WalkKit
import Derived.WalkSpells
import Derived.WalkLawsBesides
import Derived.Deep.QuietTactic
import Derived.BigQuiet
namespace Go.Proofs.Ytfjomcbbgnaaiaa
open Go.RowKit

@[go_sem] theorem g_eq (a b : Nat) : (FloatKind.f64.format.order a b == some .eq) = Dy.feq a b := rfl
@[go_sem] theorem g_ne (a b : Nat) : (FloatKind.f64.format.order a b != some .eq) = Dy.fne a b := rfl
@[go_sem] theorem g_lt (a b : Nat) : (FloatKind.f64.format.order a b == some .lt) = Dy.flt a b := rfl
@[go_sem] theorem g_gt (a b : Nat) : (FloatKind.f64.format.order a b == some .gt) = Dy.fgt a b := rfl

theorem hid {p : Prop} (h : p) : Hid p := h

theorem ret_bool {a b : Bool} (h : a = b) : Ending.returned (.bool a) = .returned (.bool b) := by rw [h]

theorem wrap_sgn {b : Nat} (hb : Dy.W b) : decide (wrap64 (b : Int) < 0) = Dy.sgn b := by
  have := hb.lt
  rw [Bool.eq_iff_iff]
  unfold Dy.sgn wrap64
  simp only [decide_eq_true_eq]
  omega

theorem bits_abs {b : Nat} (hb : Dy.W b) : (bits BinOp.andNot IntKind.u64 (b : Int) 9223372036854775808).toNat = Dy.abs b := by
  have h := u64_andNot_nat b 9223372036854775808 hb.lt (by omega)
  have e : b &&& (18446744073709551615 - 9223372036854775808) = b % 2 ^ 63 := Nat.and_two_pow_sub_one_eq_mod b 63
  rw [e] at h
  exact congrArg Int.toNat h

@[go_sem] theorem run_bits (b : Nat) (w : World) : (callFunc 58 #[.float .f64 b]).run Try.prog w = .ok (.value (.int .u64 b)) w := by
  rw [run_callFunc_extern Try.func58 (by kernel_rfl) (by kernel_rfl) (by kernel_rfl) (e := Extern.MathFloatBits.float64bits) (by kernel_rfl)]
  rfl

@[go_sem] theorem run_frombits (n : Int) (w : World) : (callFunc 57 #[.int .u64 n]).run Try.prog w = .ok (.value (.float .f64 n.toNat)) w := by
  rw [run_callFunc_extern Try.func57 (by kernel_rfl) (by kernel_rfl) (by kernel_rfl) (e := Extern.MathFloatBits.float64frombits) (by kernel_rfl)]
  rfl

set_option maxHeartbeats 400000 in
theorem isNaN_any (b : Nat) (w : World) (hb : Dy.W b) :
    Calls Try.prog 68 #[.float .f64 b] w fun e w' => e = .returned (.bool (Dy.nan b)) ∧ w = w' := by
  have h := Dy.fne_self (b := b) hb
  go_enter Try.func68, Try.ntmps68
  go_wp2
  go_ret
  exact ⟨rfl, rfl⟩

set_option maxHeartbeats 400000 in
theorem signbit_any (b : Nat) (w : World) (hb : Dy.W b) :
    Calls Try.prog 70 #[.float .f64 b] w fun e w' => e = .returned (.bool (Dy.sgn b)) ∧ w = w' := by
  have hs : decide (wrap64 ↑b < 0) = Dy.sgn b := wrap_sgn hb
  go_enter Try.func70, Try.ntmps70
  go_wp2
  go_ret
  exact ⟨rfl, rfl⟩

set_option maxHeartbeats 400000 in
theorem abs_any (b : Nat) (w : World) (hb : Dy.W b) :
    Calls Try.prog 20 #[.float .f64 b] w fun e w' => e = .returned (.float .f64 (Dy.abs b)) ∧ w = w' := by
  have h := bits_abs hb
  go_enter Try.func20, Try.ntmps20
  go_wp2
  go_ret
  exact ⟨rfl, rfl⟩

set_option maxHeartbeats 400000 in
theorem isInf_any (b : Nat) (w : World) (hb : Dy.W b) :
    Calls Try.prog 69 #[.float .f64 b, .int .i64 0] w fun e w' => e = .returned (.bool (Dy.inf b)) ∧ w = w' := by
  have h2 := Dy.fgt_abs_max (b := b) hb
  go_enter Try.func69, Try.ntmps69
  go_wp2_with (go_at_call 20; refine (abs_any b _ hb).mono ?_; rintro e w' ⟨rfl, rfl⟩)
  go_ret
  exact ⟨rfl, rfl⟩

set_option maxHeartbeats 400000 in
theorem right_any (b : Nat) (w : World) (hb : Dy.W b) :
    Calls Try.prog 25 #[.float .f64 b] w fun e w' => e = .returned (.bool (Dy.right b)) ∧ w = w' := by
  have hr := Dy.right_parts (b := b) hb
  have hz := Dy.feq_zero (b := b) hb
  go_enter Try.func25, Try.ntmps25
  go_wp2_with (first | (go_at_call 68; refine (isNaN_any b _ hb).mono ?_; rintro e w' ⟨rfl, rfl⟩) | (go_at_call 69; refine (isInf_any b _ hb).mono ?_; rintro e w' ⟨rfl, rfl⟩) | (go_at_call 70; refine (signbit_any b _ hb).mono ?_; rintro e w' ⟨rfl, rfl⟩))
  all_goals (go_ret; refine ⟨ret_bool ?_, rfl⟩; rw [hr]; simp_all)
end Go.Proofs.Ytfjomcbbgnaaiaa
