/- Walks: burnishlaw01: awake: it is true. -/
import Derived.Test.YtfjomcbbgnaaiaaWq
namespace Go.Proofs.Ytfjomcbbgnaaiaa
open Go.RowKit

theorem eq0 : Dy.feq 4607182418800017408 4607182418800017408 = true := by decide +kernel
theorem eq1 : Dy.feq 4607182418800017409 4607182418800017409 = true := by decide +kernel
theorem eq2 : Dy.feq 4624633867356078080 4624633867356078080 = true := by decide +kernel
theorem eq3 : Dy.feq 4599676419421066581 4599676419421066581 = true := by decide +kernel
theorem eq4 : Dy.feq 4599676419421066582 4599676419421066582 = true := by decide +kernel
theorem eq5 : Dy.feq 4609047870845172684 4609047870845172684 = true := by decide +kernel
theorem eq6 : Dy.feq 4609047870845172685 4609047870845172685 = true := by decide +kernel
theorem eq7 : Dy.feq 0 0 = true := by decide +kernel
theorem eq8 : Dy.feq 1 1 = true := by decide +kernel
theorem eq9 : Dy.feq 9218868437227405311 9218868437227405311 = true := by decide +kernel
theorem eq10 : Dy.feq 9223372036854775809 9223372036854775809 = true := by decide +kernel
theorem ld0 : Dy.ldx 4842870799299073365 (-54) = 4599676419421066581 := by decide +kernel
theorem ld1 : Dy.ldx 4842870799299073366 (-54) = 4599676419421066582 := by decide +kernel
theorem ld2 : Dy.ldx 4843235051468438476 (-52) = 4609047870845172684 := by decide +kernel
theorem ld3 : Dy.ldx 4843235051468438477 (-52) = 4609047870845172685 := by decide +kernel

theorem same_any (a b : Nat) (w : World) :
    Calls Try.prog 29 #[.float .f64 a, .float .f64 b] w fun e w' => e = .returned (.bool ((a : Int) == (b : Int))) ∧ w = w' := by
  go_enter Try.func29, Try.ntmps29
  go_wp2
  go_ret
  exact ⟨rfl, rfl⟩

set_option maxRecDepth 100000 in
set_option maxHeartbeats 1000000 in
theorem awake_any (w : World) :
    Calls Try.prog 22 #[] w fun e w' => e = .returned (.bool true) ∧ Below w.heap.size w w' := by
  have M1 := hid (fun w => mul_any 7309342195222315008 7309342195222315008 false w (W_lit (by omega)) (W_lit (by omega)))
  have M2 := hid (fun w => mul_any 7309342195222315008 7309342195222315008 true w (W_lit (by omega)) (W_lit (by omega)))
  have D1 := hid (fun w => div_any 4607182418800017408 0 true w (W_lit (by omega)) (W_lit (by omega)))
  have S1 := hid (fun w => sub_any 4607182418800017408 4607182418800017408 false w (W_lit (by omega)) (W_lit (by omega)))
  have N1 := hid (fun w => next_any 0 false w (W_lit (by omega)))
  rw [Dy.x6.1] at M1
  rw [Dy.x6.2] at M2
  rw [Dy.x7] at D1
  rw [Dy.x8] at S1
  rw [Dy.x9] at N1
  go_enter Try.func22, Try.ntmps22
  go_wp2_with fail
  refine (both1 _).mono ?_
  rintro e' w1 ⟨rfl, hb1⟩
  go_wp2_with fail
  refine (both2 _).mono ?_
  rintro e' w2 ⟨rfl, hb2⟩
  go_wp2_with fail
  refine (both3 _).mono ?_
  rintro e' w3 ⟨rfl, hb3⟩
  go_wp2_with fail
  refine (both4 _).mono ?_
  rintro e' w4 ⟨rfl, hb4⟩
  go_wp2_with fail
  refine (both5 _).mono ?_
  rintro e' w5 ⟨rfl, hb5⟩
  have hB5 : Below w.heap.size w w5 := hb1.trans ((hb2.trans ((hb3.trans ((hb4.trans (hb5.mono hb4.size)).mono hb3.size)).mono hb2.size)).mono hb1.size)
  have hz5 := hB5.size
  clear hb1 hb2 hb3 hb4 hb5
  go_wp2_with (go_at_call 30; refine (power_any _ _ (by omega) (by omega)).mono ?_; rintro e w1 ⟨rfl, rfl⟩; rw [Dy.q600])
  refine (M1.out _).mono ?_
  rintro e' w6 ⟨rfl, hb6⟩
  go_wp2_with (go_at_call 30; refine (power_any _ _ (by omega) (by omega)).mono ?_; rintro e w1 ⟨rfl, rfl⟩; rw [Dy.q600])
  refine (M2.out _).mono ?_
  rintro e' w7 ⟨rfl, hb7⟩
  go_wp2_with fail
  refine (D1.out _).mono ?_
  rintro e' w8 ⟨rfl, hb8⟩
  go_wp2_with fail
  refine (S1.out _).mono ?_
  rintro e' w9 ⟨rfl, hb9⟩
  go_wp2_with fail
  refine (N1.out _).mono ?_
  rintro e' w10 ⟨rfl, hb10⟩
  have hB10 : Below w.heap.size w w10 := hB5.trans ((hb6.trans ((hb7.trans ((hb8.trans ((hb9.trans (hb10.mono hb9.size)).mono hb8.size)).mono hb7.size)).mono hb6.size)).mono hz5)
  clear hb6 hb7 hb8 hb9 hb10 hB5 hz5
  have hop : ∀ t w, (binOp .add t (.float .f64 4607182418800017408) (.float .f64 4372995238176751616)).run Try.prog w = .ok (.float .f64 4607182418800017409) w := fun t w => run_float_arith w .add t .f64 _ _ _ (by decide +kernel)
  have hflip : Dy.flip 1 = 9223372036854775809 := by decide +kernel
  have he0 := eq0
  have he1 := eq1
  have he2 := eq2
  have he3 := eq3
  have he4 := eq4
  have he5 := eq5
  have he6 := eq6
  have he7 := eq7
  have he8 := eq8
  have he9 := eq9
  have he10 := eq10
  go_wp2_with (first | (go_at_call 30; refine (power_any _ _ (by omega) (by omega)).mono ?_; rintro e w1 ⟨rfl, rfl⟩; (first | rw [Dy.p52] | rw [Dy.p1074])) | (go_at_call 49; refine (ldexp_any _ _ _ (W_lit (by omega)) (by omega) (by omega)).mono ?_; rintro e w1 ⟨rfl, rfl⟩; (first | rw [ld0] | rw [ld1] | rw [ld2] | rw [ld3])))
  refine (same_any 0 0 _).mono ?_
  rintro e' w11 ⟨rfl, rfl⟩
  go_wp2_with (first | (go_at_call 30; refine (power_any _ _ (by omega) (by omega)).mono ?_; rintro e w1 ⟨rfl, rfl⟩; (first | rw [Dy.p52] | rw [Dy.p1074])) | (go_at_call 49; refine (ldexp_any _ _ _ (W_lit (by omega)) (by omega) (by omega)).mono ?_; rintro e w1 ⟨rfl, rfl⟩; (first | rw [ld0] | rw [ld1] | rw [ld2] | rw [ld3])))
  go_ret
  exact ⟨rfl, hB10⟩
end Go.Proofs.Ytfjomcbbgnaaiaa
