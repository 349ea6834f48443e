/- Walks: package ray's whole numbers of 128 bits. -/
import Derived.Test.YtfjomcbbgnaaiaaWt
import Derived.Test.YtfjomcbbgnaaiaaDyV
namespace Go.Proofs.Ytfjomcbbgnaaiaa
open Go.RowKit

set_option maxHeartbeats 1000000 in
theorem raySquare_any (x : Nat) (w : World) (hx : Dy.W x) :
    Calls Try.prog 48 #[.int .u64 (x : Int)] w fun e w' => ∃ p q, e = .returned (wv p q) ∧ Dy.Wide p q (x * x) ∧ Below w.heap.size w w' := by
  go_enter Try.func48, Try.ntmps48
  go_wp2_with (go_at_call 55; refine (mul64_any _ _ _ hx hx).mono ?_; rintro e w1 ⟨rfl, rfl⟩)
  refine bodyPost_ret (v := wv (Dy.hi64 (x * x)) (Dy.lo64 (x * x))) (by simp [results, Try.results48, go_sem]) rfl ⟨_, _, rfl, ?_, ?_⟩
  · have h := hx.lt
    exact ⟨Dy.W_hi64 (Nat.lt_of_le_of_lt (Nat.mul_le_mul (Nat.le_of_lt_succ h) (Nat.le_of_lt_succ h)) (by omega)), Dy.W_lo64 _, Dy.wd_hilo _⟩
  · exact (Below.refl _ _).alloc (Nat.le_refl _) _

set_option maxRecDepth 100000 in
set_option maxHeartbeats 1000000 in
theorem rayDown_nat (h l k : Nat) (w : World) (hh : Dy.W h) (hl : Dy.W l) (hk2 : k ≤ 100000) :
    Calls Try.prog 52 #[wv h l, .int .i64 (k : Int)] w fun e w' => ∃ p q, e = .returned (wv p q) ∧ Dy.Wide p q (Dy.wd h l / 2 ^ k) ∧ Below w.heap.size w w' := by
  by_cases hk3 : 128 ≤ k
  · have r : Dy.Wide 0 0 (Dy.wd h l / 2 ^ k) := by
      rw [Dy.div_out (Dy.wd_lt hh hl) hk3]; exact ⟨by unfold Dy.W; omega, by unfold Dy.W; omega, rfl⟩
    have e1 : (h : Int) / 2 ^ min (k - 64) 64 = 0 := by
      have := hh.lt
      rw [Nat.min_eq_right (by omega)]; omega
    go_enter Try.func52, Try.ntmps52
    go_wp2
    refine bodyPost_ret (v := wv 0 0) (by simp [results, Try.results52, go_sem]) rfl ⟨_, _, rfl, r, ?_⟩
    exact ((Below.refl _ _).alloc (Nat.le_refl _) _).alloc (by simp) _
  by_cases hk : 64 ≤ k
  · have hk4 : k < 128 := by omega
    clear hk3
    have r := Dy.down_great hh hl hk
    have e1 := shrN h (k - 64)
    go_enter Try.func52, Try.ntmps52
    go_wp2
    refine bodyPost_ret (v := wv 0 _) (by simp [results, Try.results52, go_sem]) rfl ⟨_, _, rfl, r, ?_⟩
    exact ((Below.refl _ _).alloc (Nat.le_refl _) _).alloc (by simp) _
  · have hk' : k < 64 := by omega
    clear hk
    have r := Dy.down_small hh hl hk'
    have e1 := shrN h k
    have e2 := shrN l k
    have e3 := shlN h (64 - k)
    have e4 := orN (Dy.W_shr hl k) (Dy.W_shl h (64 - k))
    go_enter Try.func52, Try.ntmps52
    go_wp2
    go_region
    go_wp2
    refine bodyPost_ret (v := wv _ _) (by simp [results, Try.results52, go_sem]) rfl ⟨_, _, rfl, r, ?_⟩
    exact (((Below.refl _ _).alloc (Nat.le_refl _) _).alloc (by simp) _).drew

set_option maxHeartbeats 400000 in
theorem rayRest_any (h l m : Nat) (w : World) (b : Dy.Wide h l m) (hs : m ≤ 2 ^ 106) :
    Calls Try.prog 50 #[wv h l] w fun e w' => ∃ p q, e = .returned (wv p q) ∧ Dy.Wide p q (2 ^ 106 - m) ∧ Below w.heap.size w w' := by
  have a : Dy.Wide 4398046511104 0 (2 ^ 106) := ⟨by unfold Dy.W; omega, by unfold Dy.W; omega, by unfold Dy.wd; omega⟩
  have r := Dy.sub_wide a b hs
  have HA : ∀ w, (callFunc 88 #[.int .u64 0, .int .u64 (l : Int), .int .u64 0]).run Try.prog w = .ok (.value (.tuple #[.int .u64 (Dy.subl 0 l 0 : Nat), .int .u64 (Dy.subb 0 l 0 : Nat)])) w := fun w => run_sub64a 0 l w
  have HB : ∀ w, (callFunc 88 #[.int .u64 4398046511104, .int .u64 (h : Int), .int .u64 (Dy.subb 0 l 0 : Nat)]).run Try.prog w = .ok (.value (.tuple #[.int .u64 (Dy.subl 4398046511104 h (Dy.subb 0 l 0) : Nat), .int .u64 (Dy.subb 4398046511104 h (Dy.subb 0 l 0) : Nat)])) w := fun w => run_sub64b 4398046511104 h 0 l 0 w
  generalize Dy.subl 4398046511104 h (Dy.subb 0 l 0) = Q at *
  generalize Dy.subb 4398046511104 h (Dy.subb 0 l 0) = d at *
  generalize Dy.subb 0 l 0 = c at *
  generalize Dy.subl 0 l 0 = P at *
  have R := hid r
  clear a b hs r
  go_enter Try.func50, Try.ntmps50
  go_wp2
  refine bodyPost_ret (v := wv Q P) (by simp [results, Try.results50, go_sem]) rfl ⟨_, _, rfl, R.out, ?_⟩
  exact ((((Below.refl _ _).alloc (Nat.le_refl _) _).alloc (by simp) _))

set_option maxRecDepth 100000 in
set_option maxHeartbeats 400000 in
theorem rayLess_any (h l h' l' : Nat) (w : World) (a : Dy.W l) (b : Dy.W l') :
    Calls Try.prog 53 #[wv h l, wv h' l'] w fun e w' => e = .returned (.bool (decide (Dy.wd h l < Dy.wd h' l'))) ∧ Below w.heap.size w w' := by
  have R := hid (Dy.wd_lt_iff (h := h) (h' := h') a b)
  have HE : Hid (((h : Int) == h' && (l : Int) == l') = decide (h = h' ∧ l = l')) := by
    show _ = _
    rw [Bool.eq_iff_iff]; simp; omega
  clear a b
  by_cases he : h = h' ∧ l = l'
  · obtain ⟨rfl, rfl⟩ := he
    have h1 : ((h : Int) == h && (l : Int) == l) = true := by simp
    clear HE
    go_enter Try.func53, Try.ntmps53
    go_wp2
    go_ret
    refine ⟨ret_bool ?_, ((Below.refl _ _).alloc (Nat.le_refl _) _).alloc (by simp) _⟩
    first | rfl | exact (decide_eq_false (Nat.lt_irrefl _)).symm
  · have h1 : ((h : Int) == h' && (l : Int) == l') = false := by rw [HE.out]; exact decide_eq_false he
    clear HE
    go_enter Try.func53, Try.ntmps53
    go_wp2
    all_goals (go_ret; refine ⟨ret_bool ?_, ((Below.refl _ _).alloc (Nat.le_refl _) _).alloc (by simp) _⟩; rw [Bool.eq_iff_iff]; have r := R.out; simp [r]; omega)
end Go.Proofs.Ytfjomcbbgnaaiaa
