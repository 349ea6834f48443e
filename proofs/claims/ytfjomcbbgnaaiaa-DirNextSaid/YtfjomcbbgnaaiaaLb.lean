/- Walks: the law DirNext. -/
import Derived.Test.YtfjomcbbgnaaiaaWs
import Derived.Test.YtfjomcbbgnaaiaaDyS
namespace Go.Proofs.Ytfjomcbbgnaaiaa
open Go.RowKit

set_option maxRecDepth 100000 in
set_option maxHeartbeats 1000000 in
theorem dirNext_walk (x : Nat) (w : World) (hx : Dy.W x) :
    Calls Try.prog 8 #[.float .f64 x] w fun e w' => e = .returned (.bool true) ∧ Below w.heap.size w w' := by
  cases hr : Dy.right x
  · have A1 := hid (fun w => next_any x true w hx)
    have A2 := hid (fun w => add_any x 4607182418800017408 true w hx (W_lit (by omega)))
    have A3 := hid (fun w => sqrt_any x true w hx)
    have A4 := hid (fun w => div_any 4607182418800017408 x true w (W_lit (by omega)) hx)
    rw [Dy.wrong_next hr] at A1
    rw [Dy.wrong_add hr] at A2
    rw [Dy.wrong_sqrt hr] at A3
    rw [Dy.wrong_div hr] at A4
    go_enter Try.func8, Try.ntmps8
    go_wp2_with (go_at_call 25; refine (right_any _ _ (by assumption)).mono ?_; rintro e w' ⟨rfl, rfl⟩)
    refine (A1.out _).mono ?_
    rintro e' w1 ⟨rfl, hb1⟩
    go_wp2_with fail
    refine (A2.out _).mono ?_
    rintro e' w2 ⟨rfl, hb2⟩
    go_wp2_with fail
    refine (A3.out _).mono ?_
    rintro e' w3 ⟨rfl, hb3⟩
    go_wp2_with fail
    refine (A4.out _).mono ?_
    rintro e' w4 ⟨rfl, hb4⟩
    go_wp2_with fail
    refine (awake_any _).mono ?_
    rintro e' w5 ⟨rfl, hb5⟩
    go_wp2
    go_ret
    exact ⟨rfl, hb1.trans ((hb2.trans ((hb3.trans ((hb4.trans (hb5.mono hb4.size)).mono hb3.size)).mono hb2.size)).mono hb1.size)⟩
  by_cases h : (Dy.dNext x true).2 = 0
  · obtain ⟨n, e1, hn, rn, e2, hlt, ⟨a, e3, ha, wa⟩, ⟨b, e4, hb, wb⟩⟩ := Dy.next_yes hx hr h
    have A1 := hid (fun w => step_any x true w hx)
    have A2 := hid (fun w => step_any n false w hn)
    have A3 := hid (fun w => add_any x 1 false w hx (W_lit (by omega)))
    have A4 := hid (fun w => add_any x 1 true w hx (W_lit (by omega)))
    have A5 := hid (fun w => div_any 1 4611686018427387904 false w (W_lit (by omega)) (W_lit (by omega)))
    have A6 := hid (fun w => div_any 1 4611686018427387904 true w (W_lit (by omega)) (W_lit (by omega)))
    rw [e1] at A1
    rw [e2] at A2
    rw [e3] at A3
    rw [e4] at A4
    rw [Dy.half1.1] at A5
    rw [Dy.half1.2] at A6
    have he1 := eq8
    clear h e1 e2 e3 e4
    have hB : Below w.heap.size w w := Below.refl _ _
    have AW := awakes
    go_enter Try.func8, Try.ntmps8
    go_wp2_with (first | (go_at_call 25; refine (right_any _ _ (by assumption)).mono ?_; rintro e w' ⟨rfl, rfl⟩) | (go_at_call 29; refine (same_any _ _ _).mono ?_; rintro e w1 ⟨rfl, rfl⟩) | (go_at_call 30; refine (power_any _ _ (by omega) (by omega)).mono ?_; rintro e w1 ⟨rfl, rfl⟩; rw [Dy.p1074]) | (go_at_call 24; first | ((with_reducible refine (chain A1 hB).mono ?_); clear hB A1; rintro e w' ⟨rfl, hB⟩) | ((with_reducible refine (chain A2 hB).mono ?_); clear hB A2; rintro e w' ⟨rfl, hB⟩)) | (go_at_call 21; first | ((with_reducible refine (chain A3 hB).mono ?_); clear hB A3; rintro e w' ⟨rfl, hB⟩) | ((with_reducible refine (chain A4 hB).mono ?_); clear hB A4; rintro e w' ⟨rfl, hB⟩)) | (go_at_call 26; first | ((with_reducible refine (chain A5 hB).mono ?_); clear hB A5; rintro e w' ⟨rfl, hB⟩) | ((with_reducible refine (chain A6 hB).mono ?_); clear hB A6; rintro e w' ⟨rfl, hB⟩)) | (go_at_call 22; first | ((with_reducible refine (chain AW hB).mono ?_); clear hB AW; rintro e w' ⟨rfl, hB⟩)))
    go_ret
    exact ⟨rfl, hB⟩
  · have hm := Dy.next_no hx hr h
    have A1 := hid (fun w => step_any x true w hx)
    have hg : ((Dy.dNext x true).2 == 0) = false := by simpa using h
    generalize Dy.dNext x true = r at *
    clear h
    go_enter Try.func8, Try.ntmps8
    go_wp2_with (go_at_call 25; refine (right_any _ _ (by assumption)).mono ?_; rintro e w' ⟨rfl, rfl⟩)
    refine (A1.out _).mono ?_
    rintro e' w1 ⟨rfl, hb1⟩
    go_wp2_with fail
    refine (awake_any _).mono ?_
    rintro e' w5 ⟨rfl, hb5⟩
    go_wp2
    go_ret
    exact ⟨rfl, hb1.trans (hb5.mono hb1.size)⟩
end Go.Proofs.Ytfjomcbbgnaaiaa
