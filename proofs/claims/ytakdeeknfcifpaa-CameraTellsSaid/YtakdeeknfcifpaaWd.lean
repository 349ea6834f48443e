/- Walks: burnishref25.digits: seven digits of a float64. -/
import Derived.Test.YtakdeeknfcifpaaKj
import Derived.Test.YtakdeeknfcifpaaMR
import Derived.WalkKit
import Derived.LoopTactic
namespace Go.Proofs.Ytakdeeknfcifpaa
open Go Go.RowKit

theorem u64_info : (Try.prog.info? 41).map (fun i => (i.zero, i.size, i.bytes)) = some (some (.int .u64 0), 1, 8) := by kernel_rfl

/-- The first digits, as values. -/
def digs7 (D : Nat → Nat) (k : Nat) : List Value := (List.range k).map fun i => .int .u64 (D i : Int)
theorem digs7_succ (D : Nat → Nat) (k : Nat) : digs7 D (k + 1) = digs7 D k ++ [.int .u64 (D k : Int)] := by
  unfold digs7; rw [List.range_succ, List.map_append]; rfl

set_option maxRecDepth 100000 in
set_option maxHeartbeats 2000000 in
theorem digits_any {x : Nat} {X Y D : Nat → Nat} (h : Dy.Digits x X Y D) (w : World) :
    Calls Try.prog 29 #[.float .f64 x] w fun e w' => ∃ v, e = .returned v ∧ w'.ownsRow w.heap.size 41 1 v 7 (digs7 D 7) ∧ Below w.heap.size w w' := by
  obtain ⟨i0, hi, hz0, hz1, hz2⟩ := info_parts u64_info
  go_enter Try.func29, Try.ntmps29
  go_wp2
  go_loopw [0, 3, 4] (fun a v i wr => ∃ k : Nat, k ≤ 7 ∧ i = .int .i64 k ∧ a = .float .f64 (X k) ∧ wr.ownsRow w.heap.size 41 1 v k (digs7 D k) ∧ Below w.heap.size w wr) (fun _ _ i _ => 7 - (intOf i).toNat)
  case atStart => exact ⟨0, Nat.zero_le _, rfl, by rw [h.x0], World.ownsRow_nil _ _ _ _, Below.refl _ _⟩
  case round =>
    obtain ⟨k, hk, rfl, rfl, hown, hnx⟩ := hrel
    by_cases h7 : k < 7
    · have st := h.st k h7
      have e1 := fun w => run_float_arith (P := Try.prog) w .mul 22 .f64 _ _ _ st.y
      have e2 : ∀ w, (binOp .sub 22 (.float .f64 (Y k)) (.float .f64 (floatOfInt .f64 (D k : Int)))).run Try.prog w = .ok (.float .f64 (X (k + 1))) w := fun w => run_float_arith (P := Try.prog) w .sub 22 .f64 _ _ _ st.s
      have e3 : ∀ w, (convert 22 41 (.float .f64 (Y k))).run Try.prog w = .ok (.int .u64 (D k : Int)) w := fun w => run_convert_float_int w _ _ _ _ _ _ (by kernel_rfl) Try.underlying41 st.d
      go_wp2_with (at_builtin; refine wpList_append_own _ rfl _ _ 51 rfl w.heap.size 41 i0 (.int .u64 0) 1 8 Try.underlying51 hi hz0 hz1 hz2 rfl (by decide) _ _ _ rfl (hown.alloc _) ⟨wr.heap.size, 0, none⟩ 1 1 [.int .u64 (D k : Int)] rfl rfl ?c1 ?c2 ?c3 ?c4 ?c5 ?_)
      case c1 =>
        intro j u hj
        match j, hj with
        | 0, hj => simp at hj; subst hj; simp [Addr.add]
      case c2 => intro u hu; simp at hu; subst hu; rfl
      case c3 => unfold maxLen; omega
      case c4 => omega
      case c5 => have := hnx.size; simp; omega
      intro v' w1 hown' hgrow _
      rw [← digs7_succ] at hown'
      have hb1 : Below w.heap.size w w1 := (hnx.alloc hnx.size _).grown hgrow (by have := hnx.size; simp; omega) (fun j hj => (hown.lt j hj).1)
      clear hown hnx hgrow
      go_wp2
      go_roundw
      case rel => exact ⟨k + 1, by omega, by go_num, rfl, hown', hb1⟩
      case measure => simp [intOf]; omega
    · have h7' : k = 7 := by omega
      subst h7'
      go_wp2
      go_ret
      exact ⟨_, rfl, hown, hnx⟩
end Go.Proofs.Ytakdeeknfcifpaa
