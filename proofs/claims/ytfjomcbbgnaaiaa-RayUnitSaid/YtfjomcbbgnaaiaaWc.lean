/- Walks: whole numbers of 128 bits (package dir's wide). -/
import Derived.Test.YtfjomcbbgnaaiaaWb
import Derived.Test.YtfjomcbbgnaaiaaWe
import Derived.RegionTactic
import Derived.BigRegion
namespace Go.Proofs.Ytfjomcbbgnaaiaa
open Go.RowKit

abbrev wv (h l : Nat) : Value := .agg #[.int .u64 (h : Int), .int .u64 (l : Int)]

@[go_sem] theorem run_add64a (x y : Nat) (w : World) : (callFunc 95 #[.int .u64 (x : Int), .int .u64 (y : Int), .int .u64 0]).run Try.prog w = .ok (.value (.tuple #[.int .u64 (Dy.lo64 (x + y) : Nat), .int .u64 (Dy.hi64 (x + y) : Nat)])) w := by
  rw [run_callFunc_extern Try.func95 (by kernel_rfl) (by kernel_rfl) (by kernel_rfl) (e := add64Entry) (by kernel_rfl)]
  rfl
@[go_sem] theorem run_add64b (x y u v : Nat) (w : World) (hu : Dy.W u) (hv : Dy.W v) : (callFunc 95 #[.int .u64 (x : Int), .int .u64 (y : Int), .int .u64 (Dy.hi64 (u + v) : Nat)]).run Try.prog w = .ok (.value (.tuple #[.int .u64 (Dy.lo64 (x + y + Dy.hi64 (u + v)) : Nat), .int .u64 (Dy.hi64 (x + y + Dy.hi64 (u + v)) : Nat)])) w := by
  rw [run_callFunc_extern Try.func95 (by kernel_rfl) (by kernel_rfl) (by kernel_rfl) (e := add64Entry) (by kernel_rfl)]
  have h := Dy.hi64_le hu hv
  generalize Dy.hi64 (u + v) = c at h ⊢
  have : c = 0 ∨ c = 1 := by omega
  rcases this with rfl | rfl <;> rfl

def sub64Entry : Array Value → Sem Value := fun args => do
  let (x, y, b) ← Extern.MathBitsCarry.three "Sub64" args
  pure (Extern.MathBitsCarry.pair ((x + Extern.MathBitsCarry.m64 - y - b) % Extern.MathBitsCarry.m64) (if x < y + b then 1 else 0))

@[go_sem] theorem run_sub64a (x y : Nat) (w : World) : (callFunc 88 #[.int .u64 (x : Int), .int .u64 (y : Int), .int .u64 0]).run Try.prog w = .ok (.value (.tuple #[.int .u64 (Dy.subl x y 0 : Nat), .int .u64 (Dy.subb x y 0 : Nat)])) w := by
  rw [run_callFunc_extern Try.func88 (by kernel_rfl) (by kernel_rfl) (by kernel_rfl) (e := sub64Entry) (by kernel_rfl)]
  rfl
@[go_sem] theorem run_sub64b (x y u v c : Nat) (w : World) : (callFunc 88 #[.int .u64 (x : Int), .int .u64 (y : Int), .int .u64 (Dy.subb u v c : Nat)]).run Try.prog w = .ok (.value (.tuple #[.int .u64 (Dy.subl x y (Dy.subb u v c) : Nat), .int .u64 (Dy.subb x y (Dy.subb u v c) : Nat)])) w := by
  rw [run_callFunc_extern Try.func88 (by kernel_rfl) (by kernel_rfl) (by kernel_rfl) (e := sub64Entry) (by kernel_rfl)]
  have h := Dy.subb_le u v c
  generalize Dy.subb u v c = c at h ⊢
  have : c = 0 ∨ c = 1 := by omega
  rcases this with rfl | rfl <;> rfl

theorem ret_int {k : IntKind} {a b : Int} (h : a = b) : Ending.returned (.int k a) = .returned (.int k b) := by rw [h]

set_option maxHeartbeats 400000 in
theorem wideIs_any (h l : Nat) (w : World) :
    Calls Try.prog 93 #[wv h l] w fun e w' => e = .returned (.bool (decide (Dy.wd h l ≠ 0))) ∧ Below w.heap.size w w' := by
  go_enter Try.func93, Try.ntmps93
  go_wp2
  go_ret
  exact ⟨ret_bool (by rw [Bool.eq_iff_iff]; simp [Dy.wd_eq_zero]), (Below.refl _ _).alloc (Nat.le_refl _) _⟩

set_option maxHeartbeats 400000 in
theorem wideSize_any (h l : Nat) (w : World) (hh : Dy.W h) (hl : Dy.W l) :
    Calls Try.prog 91 #[wv h l] w fun e w' => e = .returned (.int .i64 (Dy.blen (Dy.wd h l) : Nat)) ∧ Below w.heap.size w w' := by
  have hb := (Dy.blen_le (x := h) (k := 64)).2 hh.lt
  have hb2 := (Dy.blen_le (x := l) (k := 64)).2 hl.lt
  go_enter Try.func91, Try.ntmps91
  go_wp2_with (go_at_call 92; refine (len64_any _ _ (by assumption)).mono ?_; rintro e w' ⟨rfl, rfl⟩)
  · go_ret
    rename_i hp
    exact ⟨ret_int (by rw [Dy.blen_wd hl hp]; omega), (Below.refl _ _).alloc (Nat.le_refl _) _⟩
  · go_ret
    rename_i hp
    have h0 : h = 0 := by omega
    exact ⟨ret_int (by rw [h0, Dy.wd_zero]), (Below.refl _ _).alloc (Nat.le_refl _) _⟩

set_option maxHeartbeats 400000 in
theorem wideAdd_any (h l h' l' n m : Nat) (w : World) (a : Dy.Wide h l n) (b : Dy.Wide h' l' m) (hs : n + m < 2 ^ 128) :
    Calls Try.prog 60 #[wv h l, wv h' l'] w fun e w' => ∃ p q, e = .returned (wv p q) ∧ Dy.Wide p q (n + m) ∧ Below w.heap.size w w' := by
  have r := Dy.add_wide a b hs
  have a1 := a.hh; have a2 := a.hl; have b1 := b.hh; have b2 := b.hl
  clear a b hs
  go_enter Try.func60, Try.ntmps60
  go_wp2
  refine bodyPost_ret (v := wv _ _) (by simp [results, Try.results60, go_sem]) rfl ⟨_, _, rfl, r, ?_⟩
  exact ((((Below.refl _ _).alloc (Nat.le_refl _) _).alloc (by simp) _).alloc (by simp; omega) _)

set_option maxHeartbeats 400000 in
theorem wideSub_any (h l h' l' n m : Nat) (w : World) (a : Dy.Wide h l n) (b : Dy.Wide h' l' m) (hs : m ≤ n) :
    Calls Try.prog 61 #[wv h l, wv h' l'] w fun e w' => ∃ p q, e = .returned (wv p q) ∧ Dy.Wide p q (n - m) ∧ Below w.heap.size w w' := by
  have r := Dy.sub_wide a b hs
  clear a b hs
  go_enter Try.func61, Try.ntmps61
  go_wp2
  refine bodyPost_ret (v := wv _ _) (by simp [results, Try.results61, go_sem]) rfl ⟨_, _, rfl, r, ?_⟩
  exact ((((Below.refl _ _).alloc (Nat.le_refl _) _).alloc (by simp) _).alloc (by simp; omega) _)

set_option maxHeartbeats 400000 in
theorem wideLess_any (h l h' l' : Nat) (w : World) (a : Dy.W l) (b : Dy.W l') :
    Calls Try.prog 73 #[wv h l, wv h' l'] w fun e w' => e = .returned (.bool (decide (Dy.wd h l < Dy.wd h' l'))) ∧ Below w.heap.size w w' := by
  have r := Dy.wd_lt_iff (h := h) (h' := h') a b
  go_enter Try.func73, Try.ntmps73
  go_wp2
  all_goals (go_ret; refine ⟨ret_bool ?_, ((Below.refl _ _).alloc (Nat.le_refl _) _).alloc (by simp) _⟩; rw [Bool.eq_iff_iff]; simp [r]; omega)

end Go.Proofs.Ytfjomcbbgnaaiaa
