/- Walks: burnishlaw25.may; the law RayUnit. -/
import Derived.Test.YtfjomcbbgnaaiaaWy
import Derived.Test.YtfjomcbbgnaaiaaKb
namespace Go.Proofs.Ytfjomcbbgnaaiaa
open Go.RowKit

set_option maxHeartbeats 400000 in
theorem may25_any (x : Nat) (w : World) (hx : Dy.W x) :
    Calls Try.prog 16 #[.float .f64 x] w fun e w' => e = .returned (.bool (Dy.may x)) ∧ w = w' := by
  cases hr : Dy.right x
  · rw [Dy.may_wrong hr]
    go_enter Try.func16, Try.ntmps16
    go_wp2_with (go_at_call 25; refine (right_any _ _ (by assumption)).mono ?_; rintro e w' ⟨rfl, rfl⟩)
    go_ret
    exact ⟨rfl, rfl⟩
  · have h1 := Dy.may_low hx hr
    have h2 := Dy.may_high hx hr
    rw [Dy.may_both hr]
    generalize decide (-Dy.I1 ≤ Dy.dec x) = u at *
    generalize decide (Dy.dec x ≤ Dy.I1) = v at *
    cases u
    · clear h2
      go_enter Try.func16, Try.ntmps16
      go_wp2_with (go_at_call 25; refine (right_any _ _ (by assumption)).mono ?_; rintro e w' ⟨rfl, rfl⟩)
      go_ret
      exact ⟨rfl, rfl⟩
    · go_enter Try.func16, Try.ntmps16
      go_wp2_with (go_at_call 25; refine (right_any _ _ (by assumption)).mono ?_; rintro e w' ⟨rfl, rfl⟩)
      go_ret
      exact ⟨rfl, rfl⟩

theorem awakes25 : Hid (∀ w, Calls Try.prog 18 #[] w fun e w' => e = .returned (.bool true) ∧ Below w.heap.size w w') := hid awake25_any

set_option maxRecDepth 100000 in
set_option maxHeartbeats 4000000 in
theorem rayUnit_no (x y : Nat) (w : World) (hx : Dy.W x) (hy : Dy.W y) (h : Dy.hits x y = false) :
    Calls Try.prog 3 #[.float .f64 x, .float .f64 y] w fun e w' => e = .returned (.bool true) ∧ Below w.heap.size w w' := by
  have AW := awakes25
  have H := hid (fun w => hit_any x y w hx hy)
  have I := hid (fun w => inside_any x y w hx hy)
  rw [h, Dy.hX_no h, Dy.hZ_no h] at H
  have hc : Dy.may x = true ∧ Dy.may y = true ∨ Dy.may x = false ∨ Dy.may x = true ∧ Dy.may y = false := by
    generalize Dy.may x = a
    generalize Dy.may y = b
    cases a <;> cases b <;> decide
  have MX := hid (fun w => may25_any x w hx)
  have MY := hid (fun w => may25_any y w hy)
  clear h
  rcases hc with ⟨m1, m2⟩ | m1 | ⟨m1, m2⟩
  · rw [Dy.dIn_may m1 m2] at H I
    rw [m1] at MX
    rw [m2] at MY
    clear m1 m2
    generalize Dy.inB x y = b at *
    go_enter Try.func3, Try.ntmps3
    go_wp2_with fail
    refine (H.out _).mono ?_
    rintro e w1 ⟨rfl, b1⟩
    have z1 := b1.size
    have hB := b1.alloc z1 (.cells #[.float .f64 0, .float .f64 0, .float .f64 0] 24)
    go_wp2_with fail
    refine (I.out _).mono ?_
    rintro e w2 ⟨rfl, b2⟩
    obtain ⟨hc2, hf2⟩ := bcell b2
    have z2 := b2.size
    simp at z2
    have c0 : w2.cell? ⟨w1.heap.size, 0, none⟩ = some (.float .f64 0) := (hc2 _ _ (by simp)).trans (by simp [go_sem])
    have c1 : w2.cell? ⟨w1.heap.size, 1, none⟩ = some (.float .f64 0) := (hc2 _ _ (by simp)).trans (by simp [go_sem])
    have c2 : w2.cell? ⟨w1.heap.size, 2, none⟩ = some (.float .f64 0) := (hc2 _ _ (by simp)).trans (by simp [go_sem])
    clear hc2 hf2
    have hB2 : Below w.heap.size w w2 := hB.trans (b2.mono (by simp; omega))
    clear hB b1 b2
    go_wp2_with (first | (go_at_call 16; first | ((with_reducible refine (MX.out _).mono ?_); rintro e w' ⟨rfl, rfl⟩) | ((with_reducible refine (MY.out _).mono ?_); rintro e w' ⟨rfl, rfl⟩)) | (go_at_call 17; refine (same3_any _ _ _ _).mono ?_; rintro e w3 ⟨rfl, b3⟩) | (go_at_call 18; refine (AW.out _).mono ?_; rintro e w4 ⟨rfl, b4⟩))
    go_ret
    exact ⟨rfl, hB2.trans ((b3.trans (b4.mono b3.size)).mono hB2.size)⟩
  all_goals
    rw [Dy.dIn_wrong (by first | exact Or.inl m1 | exact Or.inr ⟨m1, m2⟩)] at H I
    rw [m1] at MX
    try rw [m2] at MY
    clear m1
    go_enter Try.func3, Try.ntmps3
    go_wp2_with fail
    refine (H.out _).mono ?_
    rintro e w1 ⟨rfl, b1⟩
    have z1 := b1.size
    have hB := b1.alloc z1 (.cells #[.float .f64 0, .float .f64 0, .float .f64 0] 24)
    go_wp2_with fail
    refine (I.out _).mono ?_
    rintro e w2 ⟨rfl, b2⟩
    obtain ⟨hc2, hf2⟩ := bcell b2
    have z2 := b2.size
    simp at z2
    have c0 : w2.cell? ⟨w1.heap.size, 0, none⟩ = some (.float .f64 0) := (hc2 _ _ (by simp)).trans (by simp [go_sem])
    have c1 : w2.cell? ⟨w1.heap.size, 1, none⟩ = some (.float .f64 0) := (hc2 _ _ (by simp)).trans (by simp [go_sem])
    have c2 : w2.cell? ⟨w1.heap.size, 2, none⟩ = some (.float .f64 0) := (hc2 _ _ (by simp)).trans (by simp [go_sem])
    clear hc2 hf2
    have hB2 : Below w.heap.size w w2 := hB.trans (b2.mono (by simp; omega))
    clear hB b1 b2
    go_wp2_with (first | (go_at_call 16; first | ((with_reducible refine (MX.out _).mono ?_); rintro e w' ⟨rfl, rfl⟩) | ((with_reducible refine (MY.out _).mono ?_); rintro e w' ⟨rfl, rfl⟩)) | (go_at_call 17; refine (same3_any _ _ _ _).mono ?_; rintro e w3 ⟨rfl, b3⟩) | (go_at_call 18; refine (AW.out _).mono ?_; rintro e w4 ⟨rfl, b4⟩))
    go_ret
    exact ⟨rfl, hB2.trans ((b3.trans (b4.mono b3.size)).mono hB2.size)⟩

set_option maxRecDepth 100000 in
set_option maxHeartbeats 4000000 in
theorem rayUnit_yes (x y : Nat) (w : World) (hx : Dy.W x) (hy : Dy.W y) (h : Dy.hits x y = true) :
    Calls Try.prog 3 #[.float .f64 x, .float .f64 y] w fun e w' => e = .returned (.bool true) ∧ Below w.heap.size w w' := by
  have AW := awakes25
  have H := hid (fun w => hit_any x y w hx hy)
  have I := hid (fun w => inside_any x y w hx hy)
  have MX := hid (fun w => may25_any x w hx)
  have MY := hid (fun w => may25_any y w hy)
  obtain ⟨X, Z, a, b, c, d, s1, s2, s3, s4, U⟩ := Dy.unit_of h
  obtain ⟨m1, m2, hin, _⟩ := Dy.hits_may h
  rw [h, U.eX, U.eZ] at H
  rw [Dy.dIn_may m1 m2, hin] at I
  rw [Dy.dIn_may m1 m2] at H
  rw [m1] at MX
  rw [m2] at MY
  have A1 := hid (fun w => mul_any X X true w U.wX U.wX)
  have A2 := hid (fun w => mul_any Z Z true w U.wZ U.wZ)
  have A3 := hid (fun w => mul_any x x true w hx hx)
  have A4 := hid (fun w => mul_any y y true w hy hy)
  rw [U.ma] at A1
  rw [U.mb] at A2
  rw [U.mc] at A3
  rw [U.md] at A4
  have t1 := U.x0
  have t2 := U.x1
  have t3 := U.z0
  have t4 := U.z1
  have t5 := U.t2
  have t6 := U.t4
  have p1 : ∀ t w, (binOp .add t (.float .f64 a) (.float .f64 b)).run Try.prog w = .ok (.float .f64 s1) w := fun t w => run_float_arith w .add t .f64 _ _ _ U.p1
  have p2 : ∀ t w, (binOp .sub t (.float .f64 s1) (.float .f64 4607182418800017408)).run Try.prog w = .ok (.float .f64 s2) w := fun t w => run_float_arith w .sub t .f64 _ _ _ U.p2
  have p3 : ∀ t w, (binOp .sub t (.float .f64 a) (.float .f64 c)).run Try.prog w = .ok (.float .f64 s3) w := fun t w => run_float_arith w .sub t .f64 _ _ _ U.p3
  have p4 : ∀ t w, (binOp .sub t (.float .f64 s3) (.float .f64 d)).run Try.prog w = .ok (.float .f64 s4) w := fun t w => run_float_arith w .sub t .f64 _ _ _ U.p4
  have B2 := hid (fun w => abs_any s2 w U.w2)
  have B4 := hid (fun w => abs_any s4 w U.w4)
  generalize Dy.abs s2 = u2 at *
  generalize Dy.abs s4 = u4 at *
  clear U h m1 m2 hin
  go_enter Try.func3, Try.ntmps3
  go_wp2_with fail
  refine (H.out _).mono ?_
  rintro e w1 ⟨rfl, b1⟩
  have z1 := b1.size
  have hB0 := b1.alloc z1 (.cells #[.float .f64 X, .float .f64 0, .float .f64 Z] 24)
  go_wp2_with fail
  have hB : Below (w1.alloc (.cells #[.float .f64 X, .float .f64 0, .float .f64 Z] 24)).heap.size (w1.alloc (.cells #[.float .f64 X, .float .f64 0, .float .f64 Z] 24)) (w1.alloc (.cells #[.float .f64 X, .float .f64 0, .float .f64 Z] 24)) := Below.refl _ _
  go_wp2_with (first | (go_at_call 15; (with_reducible refine (chain I hB).mono ?_); clear hB I; rintro e w2 ⟨rfl, hB⟩; have c0 : w2.cell? ⟨w1.heap.size, 0, none⟩ = some (.float .f64 X) := (hB.cell (p := ⟨w1.heap.size, 0, none⟩) (by simp)).trans (by simp [go_sem]); have c1 : w2.cell? ⟨w1.heap.size, 1, none⟩ = some (.float .f64 0) := (hB.cell (p := ⟨w1.heap.size, 1, none⟩) (by simp)).trans (by simp [go_sem]); have c2 : w2.cell? ⟨w1.heap.size, 2, none⟩ = some (.float .f64 Z) := (hB.cell (p := ⟨w1.heap.size, 2, none⟩) (by simp)).trans (by simp [go_sem])) | (go_at_call 19; first | ((with_reducible refine (chain A1 hB).mono ?_); clear hB A1 c0 c1 c2; rintro e w2 ⟨rfl, hB⟩; have c0 : w2.cell? ⟨w1.heap.size, 0, none⟩ = some (.float .f64 X) := (hB.cell (p := ⟨w1.heap.size, 0, none⟩) (by simp)).trans (by simp [go_sem]); have c1 : w2.cell? ⟨w1.heap.size, 1, none⟩ = some (.float .f64 0) := (hB.cell (p := ⟨w1.heap.size, 1, none⟩) (by simp)).trans (by simp [go_sem]); have c2 : w2.cell? ⟨w1.heap.size, 2, none⟩ = some (.float .f64 Z) := (hB.cell (p := ⟨w1.heap.size, 2, none⟩) (by simp)).trans (by simp [go_sem])) | ((with_reducible refine (chain A2 hB).mono ?_); clear hB A2 c0 c1 c2; rintro e w2 ⟨rfl, hB⟩; have c0 : w2.cell? ⟨w1.heap.size, 0, none⟩ = some (.float .f64 X) := (hB.cell (p := ⟨w1.heap.size, 0, none⟩) (by simp)).trans (by simp [go_sem]); have c1 : w2.cell? ⟨w1.heap.size, 1, none⟩ = some (.float .f64 0) := (hB.cell (p := ⟨w1.heap.size, 1, none⟩) (by simp)).trans (by simp [go_sem]); have c2 : w2.cell? ⟨w1.heap.size, 2, none⟩ = some (.float .f64 Z) := (hB.cell (p := ⟨w1.heap.size, 2, none⟩) (by simp)).trans (by simp [go_sem])) | ((with_reducible refine (chain A3 hB).mono ?_); clear hB A3 c0 c1 c2; rintro e w2 ⟨rfl, hB⟩; have c0 : w2.cell? ⟨w1.heap.size, 0, none⟩ = some (.float .f64 X) := (hB.cell (p := ⟨w1.heap.size, 0, none⟩) (by simp)).trans (by simp [go_sem]); have c1 : w2.cell? ⟨w1.heap.size, 1, none⟩ = some (.float .f64 0) := (hB.cell (p := ⟨w1.heap.size, 1, none⟩) (by simp)).trans (by simp [go_sem]); have c2 : w2.cell? ⟨w1.heap.size, 2, none⟩ = some (.float .f64 Z) := (hB.cell (p := ⟨w1.heap.size, 2, none⟩) (by simp)).trans (by simp [go_sem])) | ((with_reducible refine (chain A4 hB).mono ?_); clear hB A4 c0 c1 c2; rintro e w2 ⟨rfl, hB⟩; have c0 : w2.cell? ⟨w1.heap.size, 0, none⟩ = some (.float .f64 X) := (hB.cell (p := ⟨w1.heap.size, 0, none⟩) (by simp)).trans (by simp [go_sem]); have c1 : w2.cell? ⟨w1.heap.size, 1, none⟩ = some (.float .f64 0) := (hB.cell (p := ⟨w1.heap.size, 1, none⟩) (by simp)).trans (by simp [go_sem]); have c2 : w2.cell? ⟨w1.heap.size, 2, none⟩ = some (.float .f64 Z) := (hB.cell (p := ⟨w1.heap.size, 2, none⟩) (by simp)).trans (by simp [go_sem]))) | (go_at_call 16; first | ((with_reducible refine (MX.out _).mono ?_); rintro e w' ⟨rfl, rfl⟩) | ((with_reducible refine (MY.out _).mono ?_); rintro e w' ⟨rfl, rfl⟩)) | (go_at_call 20; first | ((with_reducible refine (B2.out _).mono ?_); rintro e w' ⟨rfl, rfl⟩) | ((with_reducible refine (B4.out _).mono ?_); rintro e w' ⟨rfl, rfl⟩)) | (go_at_call 17; (with_reducible refine (chain (hid (fun w => same3_any 0 0 0 w)) hB).mono ?_); clear hB c0 c1 c2; rintro e w2 ⟨rfl, hB⟩; have c0 : w2.cell? ⟨w1.heap.size, 0, none⟩ = some (.float .f64 X) := (hB.cell (p := ⟨w1.heap.size, 0, none⟩) (by simp)).trans (by simp [go_sem]); have c1 : w2.cell? ⟨w1.heap.size, 1, none⟩ = some (.float .f64 0) := (hB.cell (p := ⟨w1.heap.size, 1, none⟩) (by simp)).trans (by simp [go_sem]); have c2 : w2.cell? ⟨w1.heap.size, 2, none⟩ = some (.float .f64 Z) := (hB.cell (p := ⟨w1.heap.size, 2, none⟩) (by simp)).trans (by simp [go_sem])) | (go_at_call 18; (with_reducible refine (chain AW hB).mono ?_); clear hB AW c0 c1 c2; rintro e w2 ⟨rfl, hB⟩))
  go_ret
  exact ⟨rfl, hB0.trans (hB.mono (by simp; omega))⟩

theorem rayUnit_walk (x y : Nat) (w : World) (hx : Dy.W x) (hy : Dy.W y) :
    Calls Try.prog 3 #[.float .f64 x, .float .f64 y] w fun e w' => e = .returned (.bool true) ∧ Below w.heap.size w w' := by
  cases h : Dy.hits x y
  · exact rayUnit_no x y w hx hy h
  · exact rayUnit_yes x y w hx hy h
end Go.Proofs.Ytfjomcbbgnaaiaa
