/- Walks: burnishlaw01: both, of the examples. -/
import Derived.Test.YtfjomcbbgnaaiaaWp
namespace Go.Proofs.Ytfjomcbbgnaaiaa
open Go.RowKit

theorem both1 (w : World) :
    Calls Try.prog 62 #[.func (.func 63) #[] #[]] w fun e w' => e = .returned (.tuple #[.float .f64 4607182418800017408, .float .f64 4607182418800017409, .bool true]) ∧ Below w.heap.size w w' := by
  have H1 := hid (fun w => awake_lit1 false w)
  have H2 := hid (fun w => awake_lit1 true w)
  rw [Dy.x1.1] at H1
  rw [Dy.x1.2] at H2
  go_enter Try.func62, Try.ntmps62
  go_wp2_with fail
  refine (H1.out _).mono ?_
  rintro e' w1 ⟨rfl, hb1⟩
  go_wp2_with fail
  refine (H2.out _).mono ?_
  rintro e' w2 ⟨rfl, hb2⟩
  go_wp2_with fail
  refine bodyPost_ret (v := .tuple #[.float .f64 4607182418800017408, .float .f64 4607182418800017409, .bool true]) (by simp [results, Try.results62, go_sem]) rfl ⟨rfl, ?_⟩
  exact hb1.trans (hb2.mono (by have := hb1.size; simp at this ⊢; omega))

theorem both2 (w : World) :
    Calls Try.prog 62 #[.func (.func 64) #[] #[]] w fun e w' => e = .returned (.tuple #[.float .f64 4624633867356078080, .float .f64 4624633867356078080, .bool true]) ∧ Below w.heap.size w w' := by
  have H1 := hid (fun w => awake_lit2 false w)
  have H2 := hid (fun w => awake_lit2 true w)
  rw [Dy.x2.1] at H1
  rw [Dy.x2.2] at H2
  go_enter Try.func62, Try.ntmps62
  go_wp2_with fail
  refine (H1.out _).mono ?_
  rintro e' w1 ⟨rfl, hb1⟩
  go_wp2_with fail
  refine (H2.out _).mono ?_
  rintro e' w2 ⟨rfl, hb2⟩
  go_wp2_with fail
  refine bodyPost_ret (v := .tuple #[.float .f64 4624633867356078080, .float .f64 4624633867356078080, .bool true]) (by simp [results, Try.results62, go_sem]) rfl ⟨rfl, ?_⟩
  exact hb1.trans (hb2.mono (by have := hb1.size; simp at this ⊢; omega))

theorem both3 (w : World) :
    Calls Try.prog 62 #[.func (.func 65) #[] #[]] w fun e w' => e = .returned (.tuple #[.float .f64 4599676419421066581, .float .f64 4599676419421066582, .bool true]) ∧ Below w.heap.size w w' := by
  have H1 := hid (fun w => awake_lit3 false w)
  have H2 := hid (fun w => awake_lit3 true w)
  rw [Dy.x3.1] at H1
  rw [Dy.x3.2] at H2
  go_enter Try.func62, Try.ntmps62
  go_wp2_with fail
  refine (H1.out _).mono ?_
  rintro e' w1 ⟨rfl, hb1⟩
  go_wp2_with fail
  refine (H2.out _).mono ?_
  rintro e' w2 ⟨rfl, hb2⟩
  go_wp2_with fail
  refine bodyPost_ret (v := .tuple #[.float .f64 4599676419421066581, .float .f64 4599676419421066582, .bool true]) (by simp [results, Try.results62, go_sem]) rfl ⟨rfl, ?_⟩
  exact hb1.trans (hb2.mono (by have := hb1.size; simp at this ⊢; omega))

theorem both4 (w : World) :
    Calls Try.prog 62 #[.func (.func 66) #[] #[]] w fun e w' => e = .returned (.tuple #[.float .f64 4609047870845172684, .float .f64 4609047870845172685, .bool true]) ∧ Below w.heap.size w w' := by
  have H1 := hid (fun w => awake_lit4 false w)
  have H2 := hid (fun w => awake_lit4 true w)
  rw [Dy.x4.1] at H1
  rw [Dy.x4.2] at H2
  go_enter Try.func62, Try.ntmps62
  go_wp2_with fail
  refine (H1.out _).mono ?_
  rintro e' w1 ⟨rfl, hb1⟩
  go_wp2_with fail
  refine (H2.out _).mono ?_
  rintro e' w2 ⟨rfl, hb2⟩
  go_wp2_with fail
  refine bodyPost_ret (v := .tuple #[.float .f64 4609047870845172684, .float .f64 4609047870845172685, .bool true]) (by simp [results, Try.results62, go_sem]) rfl ⟨rfl, ?_⟩
  exact hb1.trans (hb2.mono (by have := hb1.size; simp at this ⊢; omega))

theorem both5 (w : World) :
    Calls Try.prog 62 #[.func (.func 67) #[] #[]] w fun e w' => e = .returned (.tuple #[.float .f64 0, .float .f64 1, .bool true]) ∧ Below w.heap.size w w' := by
  have H1 := hid (fun w => awake_lit5 false w)
  have H2 := hid (fun w => awake_lit5 true w)
  rw [Dy.x5.1] at H1
  rw [Dy.x5.2] at H2
  go_enter Try.func62, Try.ntmps62
  go_wp2_with fail
  refine (H1.out _).mono ?_
  rintro e' w1 ⟨rfl, hb1⟩
  go_wp2_with fail
  refine (H2.out _).mono ?_
  rintro e' w2 ⟨rfl, hb2⟩
  go_wp2_with fail
  refine bodyPost_ret (v := .tuple #[.float .f64 0, .float .f64 1, .bool true]) (by simp [results, Try.results62, go_sem]) rfl ⟨rfl, ?_⟩
  exact hb1.trans (hb2.mono (by have := hb1.size; simp at this ⊢; omega))
end Go.Proofs.Ytfjomcbbgnaaiaa
