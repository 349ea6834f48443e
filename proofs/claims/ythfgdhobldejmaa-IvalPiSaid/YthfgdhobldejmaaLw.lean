/- The law IvalPi: closed ways. -/
import Derived.Test.YthfgdhobldejmaaYn
namespace Go.Proofs.Ythfgdhobldejmaa
open Go Go.RowKit

/-- A tree's closed way from given numbers. -/
def lawR (t : T) (ρ : List U) : Bool := match t.exec ρ with
  | some (ρ, _, st) => match st.tm with
    | [.bo e] => match e.ev ρ with
      | some (.b x) => x
      | _ => false
    | _ => false
  | none => false
theorem lawR_holds {t : T} {ρ : List U} (h : lawR t ρ = true) : t.holds LawQ ρ := by
  unfold lawR at h
  split at h
  · rename_i ρ' x st hex
    split at h
    · rename_i e hst
      split at h
      · rename_i y hy
        subst h
        refine T.exec_holds t hex ?_
        unfold LawQ
        rw [hst]; exact hy
      · simp at h
    · simp at h
  · simp at h
def tail1 : T → T
  | .bind _ t => t
  | .need _ t => t
  | t => t
noncomputable def piT (lh : List (Nat × LHint)) : T := evF Try.prog n2 (drD Try.prog n2) lh 400 Try.f7 1 [] [vi .u8 0] none
noncomputable def piT3 (lh : List (Nat × LHint)) : T := tail1 (tail1 (tail1 (piT lh)))
set_option maxRecDepth 100000 in
theorem pi_0 (n : Int) : lawR (piT3 []) [.i n, .i 0, .i 0] = true := by kernel_rfl
set_option maxRecDepth 100000 in
theorem pi_1 (n : Int) : lawR (piT3 []) [.i n, .i 1, .i 1] = true := by kernel_rfl
set_option maxRecDepth 100000 in
theorem pi_2 (n : Int) : lawR (piT3 []) [.i n, .i 2, .i 2] = true := by kernel_rfl
set_option maxRecDepth 100000 in
theorem pi_3 (n : Int) : lawR (piT3 []) [.i n, .i 3, .i 3] = true := by kernel_rfl
set_option maxRecDepth 100000 in
theorem pi_4 (n : Int) : lawR (piT3 []) [.i n, .i 4, .i 4] = true := by kernel_rfl
set_option maxRecDepth 100000 in
theorem pi_5 (n : Int) : lawR (piT3 []) [.i n, .i 5, .i 5] = true := by kernel_rfl
set_option maxRecDepth 100000 in
theorem pi_6 (n : Int) : lawR (piT3 []) [.i n, .i 6, .i 6] = true := by kernel_rfl
set_option maxRecDepth 100000 in
theorem pi_7 (n : Int) : lawR (piT3 []) [.i n, .i 7, .i 7] = true := by kernel_rfl
set_option maxRecDepth 100000 in
theorem pi_8 (n : Int) : lawR (piT3 []) [.i n, .i 8, .i 8] = true := by kernel_rfl
end Go.Proofs.Ythfgdhobldejmaa
