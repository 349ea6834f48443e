/- Walks: package ival: a root, as an operation of two numbers. -/
import Derived.Test.YthfgdhobldejmaaMq
namespace Go.Proofs.Ythfgdhobldejmaa
open Go.RowKit

theorem opc_sqrt : OpC 65 (fun x _ up => Dy.dSqrt x up) := by
  intro x y up w hx _
  have H := hid (fun w => sqrt_any x up w hx)
  show Calls Try.prog 65 #[.float .f64 x, .float .f64 y, .bool up] w fun e w' => e = .returned (.tuple #[.float .f64 (Dy.dSqrt x up).1, .int .i64 (Dy.dSqrt x up).2]) ∧ Below w.heap.size w w'
  generalize Dy.dSqrt x up = r at *
  go_enter Try.func65, Try.ntmps65
  go_wp2_with fail
  refine (H.out _).mono ?_
  rintro e w1 ⟨rfl, h1⟩
  go_wp2_with fail
  go_ret2
  exact ⟨rfl, h1⟩
end Go.Proofs.Ythfgdhobldejmaa
