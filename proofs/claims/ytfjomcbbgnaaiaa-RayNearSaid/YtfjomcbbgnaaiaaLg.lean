/- Walks: the law RayNear. -/
import Derived.Test.YtfjomcbbgnaaiaaLe
import Derived.Test.YtfjomcbbgnaaiaaDd
namespace Go.Proofs.Ytfjomcbbgnaaiaa
open Go.RowKit

set_option maxRecDepth 100000 in
set_option maxHeartbeats 4000000 in
theorem rayNear_walk (x : Nat) (w : World) (hx : Dy.W x) :
    Calls Try.prog 9 #[.float .f64 x] w fun e w' => e = .returned (.bool true) ∧ Below w.heap.size w w' := by
  have AW := awakes25
  have hB : Below w.heap.size w w := Below.refl _ _
  have MX := hid (fun w => may25_any x w hx)
  cases hm : Dy.may x
  · rw [hm] at MX
    clear hm
    go_enter Try.func9, Try.ntmps9
    go_wp2_with (first | (go_at_call 16; (with_reducible refine (MX.out _).mono ?_); rintro e w' ⟨rfl, rfl⟩) | (go_at_call 18; first | ((with_reducible refine (chain AW hB).mono ?_); clear hB AW; rintro e w' ⟨rfl, hB⟩)))
    go_ret
    exact ⟨rfl, hB⟩
  · rw [hm] at MX
    cases hl : Dy.flt x 0
    · obtain ⟨a, b, u, c, d, l, n, N⟩ := Dy.near_of hm
      have A1 := hid (fun w => mul_any x x false w hx hx)
      have A2 := hid (fun w => sub_any 4607182418800017408 a true w Dy.W_o1 N.wa)
      have A3 := hid (fun w => sqrt_any b true w N.wb)
      have A4 := hid (fun w => mul_any x x true w hx hx)
      have A5 := hid (fun w => sub_any 4607182418800017408 c false w Dy.W_o1 N.wc)
      have A6 := hid (fun w => sqrt_any d false w N.wd)
      have A7 := hid (fun w => inside_any x u w hx N.wu)
      have A8 := hid (fun w => next_any l false w N.wl)
      have A9 := hid (fun w => inside_any x n w hx N.wn)
      rw [N.ea] at A1
      rw [show Dy.dSub 4607182418800017408 a true = (b, 0) from N.eb] at A2
      rw [N.eu] at A3
      rw [N.ec] at A4
      rw [show Dy.dSub 4607182418800017408 c false = (d, 0) from N.ed] at A5
      rw [N.el] at A6
      rw [N.iu] at A7
      rw [N.en] at A8
      have hmin := fun ats t w => run_min (P := Try.prog) 4607182418800017408 u ats t w Dy.W_o1 N.wu Dy.right_o1 N.ru
      rw [show Dy.dmin 4607182418800017408 u = u from N.mn] at hmin
      have d0 := N.d0
      have hi := N.inn
      clear N hm
      rcases hi with hi | ⟨hi, hj⟩
      all_goals
        try rw [hj] at A9
        try clear hj
        go_enter Try.func9, Try.ntmps9
        go_wp2_with (first | (go_at_call 16; (with_reducible refine (MX.out _).mono ?_); rintro e w' ⟨rfl, rfl⟩) | (go_at_call 19; first | ((with_reducible refine (chain A1 hB).mono ?_); clear hB A1; rintro e w' ⟨rfl, hB⟩) | ((with_reducible refine (chain A4 hB).mono ?_); clear hB A4; rintro e w' ⟨rfl, hB⟩)) | (go_at_call 23; first | ((with_reducible refine (chain A2 hB).mono ?_); clear hB A2; rintro e w' ⟨rfl, hB⟩) | ((with_reducible refine (chain A5 hB).mono ?_); clear hB A5; rintro e w' ⟨rfl, hB⟩)) | (go_at_call 27; first | ((with_reducible refine (chain A3 hB).mono ?_); clear hB A3; rintro e w' ⟨rfl, hB⟩) | ((with_reducible refine (chain A6 hB).mono ?_); clear hB A6; rintro e w' ⟨rfl, hB⟩)) | (go_at_call 15; first | ((with_reducible refine (chain A7 hB).mono ?_); clear hB A7; rintro e w' ⟨rfl, hB⟩) | ((with_reducible refine (chain A9 hB).mono ?_); clear hB A9; rintro e w' ⟨rfl, hB⟩)) | (go_at_call 28; first | ((with_reducible refine (chain A8 hB).mono ?_); clear hB A8; rintro e w' ⟨rfl, hB⟩)) | (go_at_call 18; first | ((with_reducible refine (chain AW hB).mono ?_); clear hB AW; rintro e w' ⟨rfl, hB⟩)))
        go_ret
        exact ⟨rfl, hB⟩
    · clear hm
      go_enter Try.func9, Try.ntmps9
      go_wp2_with (first | (go_at_call 16; (with_reducible refine (MX.out _).mono ?_); rintro e w' ⟨rfl, rfl⟩) | (go_at_call 18; first | ((with_reducible refine (chain AW hB).mono ?_); clear hB AW; rintro e w' ⟨rfl, hB⟩)))
      go_ret
      exact ⟨rfl, hB⟩
end Go.Proofs.Ytfjomcbbgnaaiaa
