/- Walks: math.Frexp of a number from 0 on; ray.may. -/
import Derived.Test.YtfjomcbbgnaaiaaWu
import Derived.Test.YtfjomcbbgnaaiaaDyX
namespace Go.Proofs.Ytfjomcbbgnaaiaa
open Go.RowKit

set_option maxRecDepth 100000 in
set_option maxHeartbeats 400000 in
theorem frexp_low (b : Nat) (w : World) (hb : b < Dy.top) :
    Calls Try.prog 90 #[.float .f64 b] w fun e w' => e = .returned (.tuple #[.float .f64 (Dy.frF b), .int .i64 (Dy.frE b)]) ∧ w = w' := by
  have hW : Dy.W b := by unfold Dy.W; rw [Dy.top_eq] at hb; omega
  have hm : b % 2 ^ 63 = b := by rw [Dy.top_eq] at hb; omega
  by_cases h0 : b = 0
  · subst h0
    have hz : Dy.feq 0 0 = true := eq7
    have e1 : Dy.frF 0 = 0 := rfl
    have e2 : Dy.frE 0 = 0 := rfl
    rw [e1, e2]
    clear e1 e2 hm hW hb
    go_enter Try.func90, Try.ntmps90
    go_wp2
    go_ret2
    exact ⟨rfl, rfl⟩
  · have hf : Dy.fin b := by unfold Dy.fin; rw [hm]; exact hb
    obtain ⟨hz, hn, hi, hN, hs⟩ := Dy.fin_facts hW hf (by omega)
    have hd := built_bits (E := -1) hW hf (by omega) (by omega) (by omega)
    have hx := and_field hN
    have e1 : Dy.frF b = Dy.built b (-1) := by unfold Dy.frF; rw [if_neg (by omega)]
    have e2 : Dy.frE b = Dy.norm2 b + ((Dy.field (Dy.norm1 b) : Nat) - 1023 + 1) := by
      unfold Dy.frE; rw [if_neg (by omega), Dy.lexp_field]; omega
    have hd' : bits BinOp.or IntKind.u64 (bits BinOp.andNot IntKind.u64 ((Dy.norm1 b : Nat) : Int) 9218868437227405312) 4602678819172646912 = ((Dy.built b (-1) : Nat) : Int) := hd
    rw [e1, e2]
    have b1 := Dy.norm2_bounds b
    have b2 := Dy.field_lt (Dy.norm1 b)
    have HN := hid (fun w => normalize_any b w hW hf)
    generalize Dy.norm2 b = n2 at *
    generalize Dy.norm1 b = N at *
    generalize Dy.field N = X at *
    generalize Dy.built b (-1) = B at *
    clear hd h0 hN hs e1 e2 hm hb hf
    go_enter Try.func90, Try.ntmps90
    go_wp2_with (first | (go_at_call 68; refine (isNaN_any b _ hW).mono ?_; rintro e w' ⟨rfl, rfl⟩) | (go_at_call 69; refine (isInf_any b _ hW).mono ?_; rintro e w' ⟨rfl, rfl⟩) | (go_at_call 98; refine (HN.out _).mono ?_; rintro e w' ⟨rfl, rfl⟩))
    go_ret2
    exact ⟨rfl, rfl⟩

theorem frexp_any (b : Nat) (w : World) (hb : b < Dy.top) :
    Calls Try.prog 51 #[.float .f64 b] w fun e w' => e = .returned (.tuple #[.float .f64 (Dy.frF b), .int .i64 (Dy.frE b)]) ∧ w = w' := by
  have H := hid (fun w => frexp_low b w hb)
  clear hb
  generalize Dy.frF b = x at *
  generalize Dy.frE b = y at *
  go_enter Try.func51, Try.ntmps51
  go_wp2_with (go_at_call 90; refine (H.out _).mono ?_; rintro e w' ⟨rfl, rfl⟩)
  go_ret2
  exact ⟨rfl, rfl⟩

theorem rayMay_any (x : Nat) (w : World) (hx : Dy.W x) :
    Calls Try.prog 47 #[.float .f64 x] w fun e w' => e = .returned (.bool (Dy.may x)) ∧ w = w' := by
  cases hr : Dy.right x
  · rw [Dy.may_wrong hr]
    go_enter Try.func47, Try.ntmps47
    go_wp2_with (go_at_call 25; refine (right_any _ _ (by assumption)).mono ?_; rintro e w' ⟨rfl, rfl⟩)
    go_ret
    exact ⟨rfl, rfl⟩
  · have h := Dy.may_le hx hr
    generalize Dy.may x = m at *
    go_enter Try.func47, Try.ntmps47
    go_wp2_with (first | (go_at_call 25; refine (right_any _ _ (by assumption)).mono ?_; rintro e w' ⟨rfl, rfl⟩) | (go_at_call 20; refine (abs_any _ _ (by assumption)).mono ?_; rintro e w' ⟨rfl, rfl⟩))
    go_ret
    exact ⟨rfl, rfl⟩
end Go.Proofs.Ytfjomcbbgnaaiaa
