/- The law IvalPi: closed ways, on. -/
import Derived.Test.YthfgdhobldejmaaLw
namespace Go.Proofs.Ythfgdhobldejmaa
open Go Go.RowKit
set_option maxRecDepth 100000 in
theorem pi_9 (n : Int) : lawR (piT3 []) [.i n, .i 9, .i 9] = true := by kernel_rfl
set_option maxRecDepth 100000 in
theorem pi_10 (n : Int) : lawR (piT3 []) [.i n, .i 10, .i 10] = true := by kernel_rfl
set_option maxRecDepth 100000 in
theorem pi_11 (n : Int) : lawR (piT3 []) [.i n, .i 11, .i 11] = true := by kernel_rfl
set_option maxRecDepth 100000 in
theorem pi_12 (n : Int) : lawR (piT3 []) [.i n, .i 12, .i 12] = true := by kernel_rfl
set_option maxRecDepth 100000 in
theorem pi_13 (n : Int) : lawR (piT3 []) [.i n, .i 13, .i 13] = true := by kernel_rfl
set_option maxRecDepth 100000 in
theorem pi_14 (n : Int) : lawR (piT3 []) [.i n, .i 14, .i 14] = true := by kernel_rfl
end Go.Proofs.Ythfgdhobldejmaa
