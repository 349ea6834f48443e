/- Walks: package ival: Has, Pi, turned, bare, known. -/
import Derived.Test.YthfgdhobldejmaaMf
namespace Go.Proofs.Ythfgdhobldejmaa
open Go.RowKit

set_option maxHeartbeats 1000000 in
theorem ivHas_any (a : Nat × Nat) (x : Nat) (w : World) (ha : Dy.WW a) :
    Calls Try.prog 22 #[iv a, .float .f64 x] w fun e w' => e = .returned (.bool (Dy.ivHas a x)) ∧ Below w.heap.size w w' := by
  have HR := hid (fun w => ivRight_any a w ha)
  have hE : Dy.ivHas a x = (Dy.ivR a && (Dy.fgt x a.1 || Dy.feq x a.1) && (Dy.flt x a.2 || Dy.feq x a.2)) := rfl
  rw [hE]
  clear hE
  generalize Dy.ivR a = ra at *
  generalize h1 : (Dy.fgt x a.1 || Dy.feq x a.1) = r1
  generalize h2 : (Dy.flt x a.2 || Dy.feq x a.2) = r2
  obtain ⟨lo, hi⟩ := a
  dsimp only at *
  cases ra
  · clear h1 h2
    go_enter Try.func22, Try.ntmps22
    go_wp2_with (go_at_call 17; refine (HR.out _).mono ?_; rintro e w1 ⟨rfl, hb⟩)
    go_ret
    exact ⟨rfl, ((Below.refl _ _).alloc (Nat.le_refl _) _).trans (hb.mono (by simp))⟩
  · cases r1
    · clear h2
      go_enter Try.func22, Try.ntmps22
      go_wp2_with (go_at_call 17; refine (HR.out _).mono ?_; rintro e w1 ⟨rfl, hb⟩; have c0 : w1.cell? ⟨w.heap.size, 0, none⟩ = some (.float .f64 lo) := carry hb (by simp) (by simp [go_sem]))
      go_ret
      exact ⟨rfl, ((Below.refl _ _).alloc (Nat.le_refl _) _).trans (hb.mono (by simp))⟩
    · go_enter Try.func22, Try.ntmps22
      go_wp2_with (go_at_call 17; refine (HR.out _).mono ?_; rintro e w1 ⟨rfl, hb⟩; have c0 : w1.cell? ⟨w.heap.size, 0, none⟩ = some (.float .f64 lo) := carry hb (by simp) (by simp [go_sem]); have c1 : w1.cell? ⟨w.heap.size, 1, none⟩ = some (.float .f64 hi) := carry hb (by simp) (by simp [go_sem]))
      go_ret
      exact ⟨rfl, ((Below.refl _ _).alloc (Nat.le_refl _) _).trans (hb.mono (by simp))⟩
end Go.Proofs.Ythfgdhobldejmaa
