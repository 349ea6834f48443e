/- The law IvalPi: closed ways, on. -/
import Derived.Test.YthfgdhobldejmaaLw
namespace Go.Proofs.Ythfgdhobldejmaa
open Go Go.RowKit
set_option maxRecDepth 100000 in
theorem pi_15 (n : Int) : lawR (piT3 []) [.i n, .i 15, .i 15] = true := by kernel_rfl
set_option maxRecDepth 100000 in
theorem pi_16 (n : Int) : lawR (piT3 []) [.i n, .i 16, .i 16] = true := by kernel_rfl
set_option maxRecDepth 100000 in
theorem pi_17 (n : Int) : lawR (piT3 []) [.i n, .i 17, .i 17] = true := by kernel_rfl
set_option maxRecDepth 100000 in
theorem pi_18 (n : Int) : lawR (piT3 []) [.i n, .i 18, .i 18] = true := by kernel_rfl
set_option maxRecDepth 100000 in
theorem pi_19 (n : Int) : lawR (piT3 []) [.i n, .i 19, .i 19] = true := by kernel_rfl
set_option maxRecDepth 100000 in
theorem pi_20 (n : Int) : lawR (piT3 []) [.i n, .i 20, .i 20] = true := by kernel_rfl
end Go.Proofs.Ythfgdhobldejmaa
