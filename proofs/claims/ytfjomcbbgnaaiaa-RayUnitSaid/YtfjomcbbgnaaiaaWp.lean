/- Walks: burnishlaw01: power, step, awake. -/
import Derived.Test.YtfjomcbbgnaaiaaWo
import Derived.Test.YtfjomcbbgnaaiaaDyQ
namespace Go.Proofs.Ytfjomcbbgnaaiaa
open Go.RowKit

theorem W_lit {n : Nat} (h : n < 18446744073709551616) : Dy.W n := h

theorem step_any (x : Nat) (up : Bool) (w : World) (hx : Dy.W x) :
    Calls Try.prog 24 #[.float .f64 x, .bool up] w fun e w' => e = .returned (.tuple #[.float .f64 (Dy.dNext x up).1, .bool ((Dy.dNext x up).2 == 0)]) ∧ Below w.heap.size w w' := by
  have HN := hid (fun w => next_any x up w hx)
  generalize Dy.dNext x up = r at *
  go_enter Try.func24, Try.ntmps24
  go_wp2_with fail
  refine (HN.out _).mono ?_
  rintro e' w1 ⟨rfl, hb1⟩
  go_wp2
  go_ret2
  exact ⟨rfl, hb1⟩

theorem power_any (e : Int) (w : World) (he1 : -1000000 ≤ e) (he2 : e ≤ 1000000) :
    Calls Try.prog 30 #[.int .i64 e] w fun e' w' => e' = .returned (.float .f64 (Dy.ldx 4607182418800017408 e)) ∧ w = w' := by
  go_enter Try.func30, Try.ntmps30
  go_wp2_with fail
  refine (ldexp_any _ _ _ (by unfold Dy.W; omega) he1 he2).mono ?_
  rintro e' w1 ⟨rfl, rfl⟩
  go_wp2
  go_ret
  exact ⟨rfl, rfl⟩


theorem awake_lit1 (up : Bool) (w : World) :
    Calls Try.prog 63 #[.bool up] w fun e w' => e = .returned (.tuple #[.float .f64 (Dy.dAdd 4607182418800017408 4336966441157787648 up).1, .int .i64 (Dy.dAdd 4607182418800017408 4336966441157787648 up).2]) ∧ Below w.heap.size w w' := by
  have HF := hid (fun w => add_any 4607182418800017408 4336966441157787648 up w (W_lit (by omega)) (W_lit (by omega)))
  generalize Dy.dAdd 4607182418800017408 4336966441157787648 up = r at *
  go_enter Try.func63, Try.ntmps63
  go_wp2_with (first | (go_at_call 21; refine (HF.out _).mono ?_; rintro e w1 ⟨rfl, hb1⟩) | (go_at_call 30; refine (power_any _ _ (by omega) (by omega)).mono ?_; rintro e w1 ⟨rfl, rfl⟩; rw [Dy.p60]))
  go_ret2
  exact ⟨rfl, hb1⟩

theorem awake_lit2 (up : Bool) (w : World) :
    Calls Try.prog 64 #[.bool up] w fun e w' => e = .returned (.tuple #[.float .f64 (Dy.dMul 4613937818241073152 4617315517961601024 up).1, .int .i64 (Dy.dMul 4613937818241073152 4617315517961601024 up).2]) ∧ Below w.heap.size w w' := by
  have HF := hid (fun w => mul_any 4613937818241073152 4617315517961601024 up w (W_lit (by omega)) (W_lit (by omega)))
  generalize Dy.dMul 4613937818241073152 4617315517961601024 up = r at *
  go_enter Try.func64, Try.ntmps64
  go_wp2_with (first | (go_at_call 19; refine (HF.out _).mono ?_; rintro e w1 ⟨rfl, hb1⟩))
  go_ret2
  exact ⟨rfl, hb1⟩

theorem awake_lit3 (up : Bool) (w : World) :
    Calls Try.prog 65 #[.bool up] w fun e w' => e = .returned (.tuple #[.float .f64 (Dy.dDiv 4607182418800017408 4613937818241073152 up).1, .int .i64 (Dy.dDiv 4607182418800017408 4613937818241073152 up).2]) ∧ Below w.heap.size w w' := by
  have HF := hid (fun w => div_any 4607182418800017408 4613937818241073152 up w (W_lit (by omega)) (W_lit (by omega)))
  generalize Dy.dDiv 4607182418800017408 4613937818241073152 up = r at *
  go_enter Try.func65, Try.ntmps65
  go_wp2_with (first | (go_at_call 26; refine (HF.out _).mono ?_; rintro e w1 ⟨rfl, hb1⟩))
  go_ret2
  exact ⟨rfl, hb1⟩

theorem awake_lit4 (up : Bool) (w : World) :
    Calls Try.prog 66 #[.bool up] w fun e w' => e = .returned (.tuple #[.float .f64 (Dy.dSqrt 4611686018427387904 up).1, .int .i64 (Dy.dSqrt 4611686018427387904 up).2]) ∧ Below w.heap.size w w' := by
  have HF := hid (fun w => sqrt_any 4611686018427387904 up w (W_lit (by omega)))
  generalize Dy.dSqrt 4611686018427387904 up = r at *
  go_enter Try.func66, Try.ntmps66
  go_wp2_with (first | (go_at_call 27; refine (HF.out _).mono ?_; rintro e w1 ⟨rfl, hb1⟩))
  go_ret2
  exact ⟨rfl, hb1⟩

theorem awake_lit5 (up : Bool) (w : World) :
    Calls Try.prog 67 #[.bool up] w fun e w' => e = .returned (.tuple #[.float .f64 (Dy.dMul 1905022642377719808 1905022642377719808 up).1, .int .i64 (Dy.dMul 1905022642377719808 1905022642377719808 up).2]) ∧ Below w.heap.size w w' := by
  have HF := hid (fun w => mul_any 1905022642377719808 1905022642377719808 up w (W_lit (by omega)) (W_lit (by omega)))
  generalize Dy.dMul 1905022642377719808 1905022642377719808 up = r at *
  go_enter Try.func67, Try.ntmps67
  go_wp2_with (first | (go_at_call 19; refine (HF.out _).mono ?_; rintro e w1 ⟨rfl, hb1⟩) | (go_at_call 30; refine (power_any _ _ (by omega) (by omega)).mono ?_; rintro e w1 ⟨rfl, rfl⟩; rw [Dy.p600]))
  go_ret2
  exact ⟨rfl, hb1⟩

end Go.Proofs.Ytfjomcbbgnaaiaa
