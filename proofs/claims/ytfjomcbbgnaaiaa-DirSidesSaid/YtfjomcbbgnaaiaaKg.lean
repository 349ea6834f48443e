/- Walks: burnishlaw01: power, step, awake; calls that make memory; min, max. -/
import Derived.Test.YtfjomcbbgnaaiaaKf
import Derived.Test.YtfjomcbbgnaaiaaKa
import Derived.Test.YtfjomcbbgnaaiaaKb
/- Walks: burnishlaw01: power, step, awake. -/
namespace Go.Proofs.Ytfjomcbbgnaaiaa
open Go.RowKit

theorem W_lit {n : Nat} (h : n < 18446744073709551616) : Dy.W n := h

theorem step_any (x : Nat) (up : Bool) (w : World) (hx : Dy.W x) :
    Calls Try.prog 24 #[.float .f64 x, .bool up] w fun e w' => e = .returned (.tuple #[.float .f64 (Dy.dNext x up).1, .bool ((Dy.dNext x up).2 == 0)]) ∧ Below w.heap.size w w' := by
  have HN := hid (fun w => next_any x up w hx)
  generalize Dy.dNext x up = r at *
  go_enter Try.func24, Try.ntmps24
  go_wp2_with fail
  refine (HN.out _).mono ?_
  rintro e' w1 ⟨rfl, hb1⟩
  go_wp2
  go_ret2
  exact ⟨rfl, hb1⟩

theorem power_any (e : Int) (w : World) (he1 : -1000000 ≤ e) (he2 : e ≤ 1000000) :
    Calls Try.prog 30 #[.int .i64 e] w fun e' w' => e' = .returned (.float .f64 (Dy.ldx 4607182418800017408 e)) ∧ w = w' := by
  go_enter Try.func30, Try.ntmps30
  go_wp2_with fail
  refine (ldexp_any _ _ _ (by unfold Dy.W; omega) he1 he2).mono ?_
  rintro e' w1 ⟨rfl, rfl⟩
  go_wp2
  go_ret
  exact ⟨rfl, rfl⟩


theorem awake_lit1 (up : Bool) (w : World) :
    Calls Try.prog 63 #[.bool up] w fun e w' => e = .returned (.tuple #[.float .f64 (Dy.dAdd 4607182418800017408 4336966441157787648 up).1, .int .i64 (Dy.dAdd 4607182418800017408 4336966441157787648 up).2]) ∧ Below w.heap.size w w' := by
  have HF := hid (fun w => add_any 4607182418800017408 4336966441157787648 up w (W_lit (by omega)) (W_lit (by omega)))
  generalize Dy.dAdd 4607182418800017408 4336966441157787648 up = r at *
  go_enter Try.func63, Try.ntmps63
  go_wp2_with (first | (go_at_call 21; refine (HF.out _).mono ?_; rintro e w1 ⟨rfl, hb1⟩) | (go_at_call 30; refine (power_any _ _ (by omega) (by omega)).mono ?_; rintro e w1 ⟨rfl, rfl⟩; rw [Dy.p60]))
  go_ret2
  exact ⟨rfl, hb1⟩

theorem awake_lit2 (up : Bool) (w : World) :
    Calls Try.prog 64 #[.bool up] w fun e w' => e = .returned (.tuple #[.float .f64 (Dy.dMul 4613937818241073152 4617315517961601024 up).1, .int .i64 (Dy.dMul 4613937818241073152 4617315517961601024 up).2]) ∧ Below w.heap.size w w' := by
  have HF := hid (fun w => mul_any 4613937818241073152 4617315517961601024 up w (W_lit (by omega)) (W_lit (by omega)))
  generalize Dy.dMul 4613937818241073152 4617315517961601024 up = r at *
  go_enter Try.func64, Try.ntmps64
  go_wp2_with (first | (go_at_call 19; refine (HF.out _).mono ?_; rintro e w1 ⟨rfl, hb1⟩))
  go_ret2
  exact ⟨rfl, hb1⟩

theorem awake_lit3 (up : Bool) (w : World) :
    Calls Try.prog 65 #[.bool up] w fun e w' => e = .returned (.tuple #[.float .f64 (Dy.dDiv 4607182418800017408 4613937818241073152 up).1, .int .i64 (Dy.dDiv 4607182418800017408 4613937818241073152 up).2]) ∧ Below w.heap.size w w' := by
  have HF := hid (fun w => div_any 4607182418800017408 4613937818241073152 up w (W_lit (by omega)) (W_lit (by omega)))
  generalize Dy.dDiv 4607182418800017408 4613937818241073152 up = r at *
  go_enter Try.func65, Try.ntmps65
  go_wp2_with (first | (go_at_call 26; refine (HF.out _).mono ?_; rintro e w1 ⟨rfl, hb1⟩))
  go_ret2
  exact ⟨rfl, hb1⟩

theorem awake_lit4 (up : Bool) (w : World) :
    Calls Try.prog 66 #[.bool up] w fun e w' => e = .returned (.tuple #[.float .f64 (Dy.dSqrt 4611686018427387904 up).1, .int .i64 (Dy.dSqrt 4611686018427387904 up).2]) ∧ Below w.heap.size w w' := by
  have HF := hid (fun w => sqrt_any 4611686018427387904 up w (W_lit (by omega)))
  generalize Dy.dSqrt 4611686018427387904 up = r at *
  go_enter Try.func66, Try.ntmps66
  go_wp2_with (first | (go_at_call 27; refine (HF.out _).mono ?_; rintro e w1 ⟨rfl, hb1⟩))
  go_ret2
  exact ⟨rfl, hb1⟩

theorem awake_lit5 (up : Bool) (w : World) :
    Calls Try.prog 67 #[.bool up] w fun e w' => e = .returned (.tuple #[.float .f64 (Dy.dMul 1905022642377719808 1905022642377719808 up).1, .int .i64 (Dy.dMul 1905022642377719808 1905022642377719808 up).2]) ∧ Below w.heap.size w w' := by
  have HF := hid (fun w => mul_any 1905022642377719808 1905022642377719808 up w (W_lit (by omega)) (W_lit (by omega)))
  generalize Dy.dMul 1905022642377719808 1905022642377719808 up = r at *
  go_enter Try.func67, Try.ntmps67
  go_wp2_with (first | (go_at_call 19; refine (HF.out _).mono ?_; rintro e w1 ⟨rfl, hb1⟩) | (go_at_call 30; refine (power_any _ _ (by omega) (by omega)).mono ?_; rintro e w1 ⟨rfl, rfl⟩; rw [Dy.p600]))
  go_ret2
  exact ⟨rfl, hb1⟩

end Go.Proofs.Ytfjomcbbgnaaiaa

/- Walks: burnishlaw01: both, of the examples. -/
namespace Go.Proofs.Ytfjomcbbgnaaiaa
open Go.RowKit

theorem both1 (w : World) :
    Calls Try.prog 62 #[.func (.func 63) #[] #[]] w fun e w' => e = .returned (.tuple #[.float .f64 4607182418800017408, .float .f64 4607182418800017409, .bool true]) ∧ Below w.heap.size w w' := by
  have H1 := hid (fun w => awake_lit1 false w)
  have H2 := hid (fun w => awake_lit1 true w)
  rw [Dy.x1.1] at H1
  rw [Dy.x1.2] at H2
  go_enter Try.func62, Try.ntmps62
  go_wp2_with fail
  refine (H1.out _).mono ?_
  rintro e' w1 ⟨rfl, hb1⟩
  go_wp2_with fail
  refine (H2.out _).mono ?_
  rintro e' w2 ⟨rfl, hb2⟩
  go_wp2_with fail
  refine bodyPost_ret (v := .tuple #[.float .f64 4607182418800017408, .float .f64 4607182418800017409, .bool true]) (by simp [results, Try.results62, go_sem]) rfl ⟨rfl, ?_⟩
  exact hb1.trans (hb2.mono (by have := hb1.size; simp at this ⊢; omega))

theorem both2 (w : World) :
    Calls Try.prog 62 #[.func (.func 64) #[] #[]] w fun e w' => e = .returned (.tuple #[.float .f64 4624633867356078080, .float .f64 4624633867356078080, .bool true]) ∧ Below w.heap.size w w' := by
  have H1 := hid (fun w => awake_lit2 false w)
  have H2 := hid (fun w => awake_lit2 true w)
  rw [Dy.x2.1] at H1
  rw [Dy.x2.2] at H2
  go_enter Try.func62, Try.ntmps62
  go_wp2_with fail
  refine (H1.out _).mono ?_
  rintro e' w1 ⟨rfl, hb1⟩
  go_wp2_with fail
  refine (H2.out _).mono ?_
  rintro e' w2 ⟨rfl, hb2⟩
  go_wp2_with fail
  refine bodyPost_ret (v := .tuple #[.float .f64 4624633867356078080, .float .f64 4624633867356078080, .bool true]) (by simp [results, Try.results62, go_sem]) rfl ⟨rfl, ?_⟩
  exact hb1.trans (hb2.mono (by have := hb1.size; simp at this ⊢; omega))

theorem both3 (w : World) :
    Calls Try.prog 62 #[.func (.func 65) #[] #[]] w fun e w' => e = .returned (.tuple #[.float .f64 4599676419421066581, .float .f64 4599676419421066582, .bool true]) ∧ Below w.heap.size w w' := by
  have H1 := hid (fun w => awake_lit3 false w)
  have H2 := hid (fun w => awake_lit3 true w)
  rw [Dy.x3.1] at H1
  rw [Dy.x3.2] at H2
  go_enter Try.func62, Try.ntmps62
  go_wp2_with fail
  refine (H1.out _).mono ?_
  rintro e' w1 ⟨rfl, hb1⟩
  go_wp2_with fail
  refine (H2.out _).mono ?_
  rintro e' w2 ⟨rfl, hb2⟩
  go_wp2_with fail
  refine bodyPost_ret (v := .tuple #[.float .f64 4599676419421066581, .float .f64 4599676419421066582, .bool true]) (by simp [results, Try.results62, go_sem]) rfl ⟨rfl, ?_⟩
  exact hb1.trans (hb2.mono (by have := hb1.size; simp at this ⊢; omega))

theorem both4 (w : World) :
    Calls Try.prog 62 #[.func (.func 66) #[] #[]] w fun e w' => e = .returned (.tuple #[.float .f64 4609047870845172684, .float .f64 4609047870845172685, .bool true]) ∧ Below w.heap.size w w' := by
  have H1 := hid (fun w => awake_lit4 false w)
  have H2 := hid (fun w => awake_lit4 true w)
  rw [Dy.x4.1] at H1
  rw [Dy.x4.2] at H2
  go_enter Try.func62, Try.ntmps62
  go_wp2_with fail
  refine (H1.out _).mono ?_
  rintro e' w1 ⟨rfl, hb1⟩
  go_wp2_with fail
  refine (H2.out _).mono ?_
  rintro e' w2 ⟨rfl, hb2⟩
  go_wp2_with fail
  refine bodyPost_ret (v := .tuple #[.float .f64 4609047870845172684, .float .f64 4609047870845172685, .bool true]) (by simp [results, Try.results62, go_sem]) rfl ⟨rfl, ?_⟩
  exact hb1.trans (hb2.mono (by have := hb1.size; simp at this ⊢; omega))

theorem both5 (w : World) :
    Calls Try.prog 62 #[.func (.func 67) #[] #[]] w fun e w' => e = .returned (.tuple #[.float .f64 0, .float .f64 1, .bool true]) ∧ Below w.heap.size w w' := by
  have H1 := hid (fun w => awake_lit5 false w)
  have H2 := hid (fun w => awake_lit5 true w)
  rw [Dy.x5.1] at H1
  rw [Dy.x5.2] at H2
  go_enter Try.func62, Try.ntmps62
  go_wp2_with fail
  refine (H1.out _).mono ?_
  rintro e' w1 ⟨rfl, hb1⟩
  go_wp2_with fail
  refine (H2.out _).mono ?_
  rintro e' w2 ⟨rfl, hb2⟩
  go_wp2_with fail
  refine bodyPost_ret (v := .tuple #[.float .f64 0, .float .f64 1, .bool true]) (by simp [results, Try.results62, go_sem]) rfl ⟨rfl, ?_⟩
  exact hb1.trans (hb2.mono (by have := hb1.size; simp at this ⊢; omega))
end Go.Proofs.Ytfjomcbbgnaaiaa

/- Walks: burnishlaw01: awake: it is true. -/
namespace Go.Proofs.Ytfjomcbbgnaaiaa
open Go.RowKit

theorem eq0 : Dy.feq 4607182418800017408 4607182418800017408 = true := by decide +kernel
theorem eq1 : Dy.feq 4607182418800017409 4607182418800017409 = true := by decide +kernel
theorem eq2 : Dy.feq 4624633867356078080 4624633867356078080 = true := by decide +kernel
theorem eq3 : Dy.feq 4599676419421066581 4599676419421066581 = true := by decide +kernel
theorem eq4 : Dy.feq 4599676419421066582 4599676419421066582 = true := by decide +kernel
theorem eq5 : Dy.feq 4609047870845172684 4609047870845172684 = true := by decide +kernel
theorem eq6 : Dy.feq 4609047870845172685 4609047870845172685 = true := by decide +kernel
theorem eq7 : Dy.feq 0 0 = true := by decide +kernel
theorem eq8 : Dy.feq 1 1 = true := by decide +kernel
theorem eq9 : Dy.feq 9218868437227405311 9218868437227405311 = true := by decide +kernel
theorem eq10 : Dy.feq 9223372036854775809 9223372036854775809 = true := by decide +kernel
theorem ld0 : Dy.ldx 4842870799299073365 (-54) = 4599676419421066581 := by decide +kernel
theorem ld1 : Dy.ldx 4842870799299073366 (-54) = 4599676419421066582 := by decide +kernel
theorem ld2 : Dy.ldx 4843235051468438476 (-52) = 4609047870845172684 := by decide +kernel
theorem ld3 : Dy.ldx 4843235051468438477 (-52) = 4609047870845172685 := by decide +kernel

theorem same_any (a b : Nat) (w : World) :
    Calls Try.prog 29 #[.float .f64 a, .float .f64 b] w fun e w' => e = .returned (.bool ((a : Int) == (b : Int))) ∧ w = w' := by
  go_enter Try.func29, Try.ntmps29
  go_wp2
  go_ret
  exact ⟨rfl, rfl⟩

set_option maxRecDepth 100000 in
set_option maxHeartbeats 1000000 in
theorem awake_any (w : World) :
    Calls Try.prog 22 #[] w fun e w' => e = .returned (.bool true) ∧ Below w.heap.size w w' := by
  have M1 := hid (fun w => mul_any 7309342195222315008 7309342195222315008 false w (W_lit (by omega)) (W_lit (by omega)))
  have M2 := hid (fun w => mul_any 7309342195222315008 7309342195222315008 true w (W_lit (by omega)) (W_lit (by omega)))
  have D1 := hid (fun w => div_any 4607182418800017408 0 true w (W_lit (by omega)) (W_lit (by omega)))
  have S1 := hid (fun w => sub_any 4607182418800017408 4607182418800017408 false w (W_lit (by omega)) (W_lit (by omega)))
  have N1 := hid (fun w => next_any 0 false w (W_lit (by omega)))
  rw [Dy.x6.1] at M1
  rw [Dy.x6.2] at M2
  rw [Dy.x7] at D1
  rw [Dy.x8] at S1
  rw [Dy.x9] at N1
  go_enter Try.func22, Try.ntmps22
  go_wp2_with fail
  refine (both1 _).mono ?_
  rintro e' w1 ⟨rfl, hb1⟩
  go_wp2_with fail
  refine (both2 _).mono ?_
  rintro e' w2 ⟨rfl, hb2⟩
  go_wp2_with fail
  refine (both3 _).mono ?_
  rintro e' w3 ⟨rfl, hb3⟩
  go_wp2_with fail
  refine (both4 _).mono ?_
  rintro e' w4 ⟨rfl, hb4⟩
  go_wp2_with fail
  refine (both5 _).mono ?_
  rintro e' w5 ⟨rfl, hb5⟩
  have hB5 : Below w.heap.size w w5 := hb1.trans ((hb2.trans ((hb3.trans ((hb4.trans (hb5.mono hb4.size)).mono hb3.size)).mono hb2.size)).mono hb1.size)
  have hz5 := hB5.size
  clear hb1 hb2 hb3 hb4 hb5
  go_wp2_with (go_at_call 30; refine (power_any _ _ (by omega) (by omega)).mono ?_; rintro e w1 ⟨rfl, rfl⟩; rw [Dy.q600])
  refine (M1.out _).mono ?_
  rintro e' w6 ⟨rfl, hb6⟩
  go_wp2_with (go_at_call 30; refine (power_any _ _ (by omega) (by omega)).mono ?_; rintro e w1 ⟨rfl, rfl⟩; rw [Dy.q600])
  refine (M2.out _).mono ?_
  rintro e' w7 ⟨rfl, hb7⟩
  go_wp2_with fail
  refine (D1.out _).mono ?_
  rintro e' w8 ⟨rfl, hb8⟩
  go_wp2_with fail
  refine (S1.out _).mono ?_
  rintro e' w9 ⟨rfl, hb9⟩
  go_wp2_with fail
  refine (N1.out _).mono ?_
  rintro e' w10 ⟨rfl, hb10⟩
  have hB10 : Below w.heap.size w w10 := hB5.trans ((hb6.trans ((hb7.trans ((hb8.trans ((hb9.trans (hb10.mono hb9.size)).mono hb8.size)).mono hb7.size)).mono hb6.size)).mono hz5)
  clear hb6 hb7 hb8 hb9 hb10 hB5 hz5
  have hop : ∀ t w, (binOp .add t (.float .f64 4607182418800017408) (.float .f64 4372995238176751616)).run Try.prog w = .ok (.float .f64 4607182418800017409) w := fun t w => run_float_arith w .add t .f64 _ _ _ (by decide +kernel)
  have hflip : Dy.flip 1 = 9223372036854775809 := by decide +kernel
  have he0 := eq0
  have he1 := eq1
  have he2 := eq2
  have he3 := eq3
  have he4 := eq4
  have he5 := eq5
  have he6 := eq6
  have he7 := eq7
  have he8 := eq8
  have he9 := eq9
  have he10 := eq10
  go_wp2_with (first | (go_at_call 30; refine (power_any _ _ (by omega) (by omega)).mono ?_; rintro e w1 ⟨rfl, rfl⟩; (first | rw [Dy.p52] | rw [Dy.p1074])) | (go_at_call 49; refine (ldexp_any _ _ _ (W_lit (by omega)) (by omega) (by omega)).mono ?_; rintro e w1 ⟨rfl, rfl⟩; (first | rw [ld0] | rw [ld1] | rw [ld2] | rw [ld3])))
  refine (same_any 0 0 _).mono ?_
  rintro e' w11 ⟨rfl, rfl⟩
  go_wp2_with (first | (go_at_call 30; refine (power_any _ _ (by omega) (by omega)).mono ?_; rintro e w1 ⟨rfl, rfl⟩; (first | rw [Dy.p52] | rw [Dy.p1074])) | (go_at_call 49; refine (ldexp_any _ _ _ (W_lit (by omega)) (by omega) (by omega)).mono ?_; rintro e w1 ⟨rfl, rfl⟩; (first | rw [ld0] | rw [ld1] | rw [ld2] | rw [ld3])))
  go_ret
  exact ⟨rfl, hB10⟩
end Go.Proofs.Ytfjomcbbgnaaiaa

/- Walks: calls that make memory, one behind the other. -/
namespace Go.Proofs.Ytfjomcbbgnaaiaa
open Go.RowKit

theorem chain {P : Program} {f : FuncId} {args : Array Value} {r : Ending} {w0 w1 : World}
    (A : Hid (∀ w, Calls P f args w fun e w' => e = r ∧ Below w.heap.size w w')) (hB : Below w0.heap.size w0 w1) :
    Calls P f args w1 fun e w' => e = r ∧ Below w0.heap.size w0 w' :=
  (A.out w1).mono fun _ _ ⟨h1, h2⟩ => ⟨h1, hB.trans (h2.mono hB.size)⟩

theorem awakes : Hid (∀ w, Calls Try.prog 22 #[] w fun e w' => e = .returned (.bool true) ∧ Below w.heap.size w w') := hid awake_any
end Go.Proofs.Ytfjomcbbgnaaiaa

/- Walks: min, max of two float64 that are numbers. -/
namespace Go.Proofs.Ytfjomcbbgnaaiaa
open Go.RowKit

theorem order_right {a b : Nat} (ha : Dy.W a) (hb : Dy.W b) (ra : Dy.right a = true) (rb : Dy.right b = true) : FloatKind.f64.format.order a b = some (compare (Dy.dec a) (Dy.dec b)) := by
  have e := Dy.order_eq ha.lt hb.lt
  rw [Dy.right_nan ra, Dy.right_nan rb] at e
  exact e
theorem dec_inj {a b : Nat} (ha : Dy.W a) (hb : Dy.W b) (ra : Dy.right a = true) (rb : Dy.right b = true) (h : Dy.dec a = Dy.dec b) : a = b := by
  rw [← Dy.enc_of_dec ha ra, ← Dy.enc_of_dec hb rb, h]
theorem run_min {P : Program} (a b : Nat) (ats : Array TypeId) (t : TypeId) (w : World) (ha : Dy.W a) (hb : Dy.W b) (ra : Dy.right a = true) (rb : Dy.right b = true) :
    (Builtin.min_ ats t #[.float .f64 a, .float .f64 b]).run P w = .ok (.float .f64 (Dy.dmin a b)) w := by
  have e := order_right ha hb ra rb
  have hi := dec_inj ha hb ra rb
  by_cases h1 : Dy.dec a < Dy.dec b
  · rw [Dy.cmp_int, if_pos h1] at e
    simp [Builtin.min_, Builtin.min2, e, Dy.dmin, if_neg (show ¬ (Dy.dec b < Dy.dec a) by omega), go_sem]
  · by_cases h2 : Dy.dec a = Dy.dec b
    · rw [Dy.cmp_int, if_neg h1, if_pos h2] at e
      obtain rfl := hi h2
      simp [Builtin.min_, Builtin.min2, e, Dy.dmin, go_sem]
    · rw [Dy.cmp_int, if_neg h1, if_neg h2] at e
      simp [Builtin.min_, Builtin.min2, e, Dy.dmin, if_pos (show Dy.dec b < Dy.dec a by omega), go_sem]
theorem run_max {P : Program} (a b : Nat) (ats : Array TypeId) (t : TypeId) (w : World) (ha : Dy.W a) (hb : Dy.W b) (ra : Dy.right a = true) (rb : Dy.right b = true) :
    (Builtin.max_ ats t #[.float .f64 a, .float .f64 b]).run P w = .ok (.float .f64 (Dy.dmax a b)) w := by
  have e := order_right ha hb ra rb
  have hi := dec_inj ha hb ra rb
  by_cases h1 : Dy.dec a < Dy.dec b
  · rw [Dy.cmp_int, if_pos h1] at e
    simp [Builtin.max_, Builtin.max2, e, Dy.dmax, if_pos h1, go_sem]
  · by_cases h2 : Dy.dec a = Dy.dec b
    · rw [Dy.cmp_int, if_neg h1, if_pos h2] at e
      obtain rfl := hi h2
      simp [Builtin.max_, Builtin.max2, e, Dy.dmax, go_sem]
    · rw [Dy.cmp_int, if_neg h1, if_neg h2] at e
      simp [Builtin.max_, Builtin.max2, e, Dy.dmax, if_neg h1, go_sem]
end Go.Proofs.Ytfjomcbbgnaaiaa

