/- Walks: the law DirParts. -/
import Derived.Test.YtfjomcbbgnaaiaaWs
import Derived.Test.YtfjomcbbgnaaiaaDyT
namespace Go.Proofs.Ytfjomcbbgnaaiaa
open Go.RowKit

theorem true_zero : ((0 : Int) == 0) = true := rfl

set_option maxRecDepth 100000 in
set_option maxHeartbeats 4000000 in
theorem dirParts_walk (a b : Nat) (w : World) (ha : Dy.W a) (hb : Dy.W b) :
    Calls Try.prog 6 #[.float .f64 a, .float .f64 b] w fun e w' => e = .returned (.bool true) ∧ Below w.heap.size w w' := by
  have AW := awakes
  have hB : Below w.heap.size w w := Below.refl _ _
  by_cases hc : Dy.right a = true ∧ Dy.right b = true ∧ (Dy.flt a 0 || Dy.feq a 0) = false ∧ (Dy.flt b 0 || Dy.feq b 0) = false
  · obtain ⟨ra, rb, pa, pb⟩ := hc
    obtain ⟨q, e1, wq, H1⟩ := Dy.quo_part ha hb ra rb pa pb
    obtain ⟨p, e2, wp, H2⟩ := Dy.mul_part ha hb ra rb pa pb
    have D1 := hid (fun w => div_any a b false w ha hb)
    have N1 := hid (fun w => step_any q true w wq)
    have P1 := hid (fun w => mul_any q b true w wq hb)
    have M1 := hid (fun w => mul_any a b false w ha hb)
    have N2 := hid (fun w => step_any p true w wp)
    have Q1 := hid (fun w => div_any p b true w wp hb)
    rw [e1] at D1
    rw [e2] at M1
    clear e1 e2
    rcases H1 with h1 | ⟨h1, n, e3, wn, ⟨x, e4, h4, _⟩, e5 | ⟨y, e5, h5, _⟩⟩ <;> rcases H2 with h2 | ⟨h2, m, e6, wm, ⟨u, e7, _, h7⟩, e8 | ⟨v, e8, _, h8⟩⟩
    all_goals
      try have P2 := hid (fun w => mul_any n b true w wn hb)
      try have Q2 := hid (fun w => div_any m b true w wm hb)
      try rw [e3] at N1
      try rw [e4] at P1
      try rw [e5] at P2
      try rw [e6] at N2
      try rw [e7] at Q1
      try rw [e8] at Q2
      try clear e3 e4
      try clear e5
      try clear e6 e7
      try clear e8
      go_enter Try.func6, Try.ntmps6
      go_wp2_with (first | (go_at_call 25; refine (right_any _ _ (by assumption)).mono ?_; rintro e w' ⟨rfl, rfl⟩) | (go_at_call 26; first | ((with_reducible refine (chain D1 hB).mono ?_); clear hB D1; rintro e w' ⟨rfl, hB⟩) | ((with_reducible refine (chain Q1 hB).mono ?_); clear hB Q1; rintro e w' ⟨rfl, hB⟩) | ((with_reducible refine (chain Q2 hB).mono ?_); clear hB Q2; rintro e w' ⟨rfl, hB⟩)) | (go_at_call 19; first | ((with_reducible refine (chain M1 hB).mono ?_); clear hB M1; rintro e w' ⟨rfl, hB⟩) | ((with_reducible refine (chain P1 hB).mono ?_); clear hB P1; rintro e w' ⟨rfl, hB⟩) | ((with_reducible refine (chain P2 hB).mono ?_); clear hB P2; rintro e w' ⟨rfl, hB⟩)) | (go_at_call 24; first | ((with_reducible refine (chain N1 hB).mono ?_); clear hB N1; rintro e w' ⟨rfl, hB⟩) | ((with_reducible refine (chain N2 hB).mono ?_); clear hB N2; rintro e w' ⟨rfl, hB⟩)) | (go_at_call 22; (with_reducible refine (chain AW hB).mono ?_); clear hB AW; rintro e w' ⟨rfl, hB⟩))
      go_ret
      exact ⟨rfl, hB⟩
  · have hc2 : Dy.right a = false ∨ Dy.right a = true ∧ Dy.right b = false ∨ Dy.right a = true ∧ Dy.right b = true ∧ (Dy.flt a 0 || Dy.feq a 0) = true ∨ Dy.right a = true ∧ Dy.right b = true ∧ (Dy.flt a 0 || Dy.feq a 0) = false ∧ (Dy.flt b 0 || Dy.feq b 0) = true := by
      revert hc
      generalize (Dy.flt a 0 || Dy.feq a 0) = u
      generalize (Dy.flt b 0 || Dy.feq b 0) = v
      generalize Dy.right a = x
      generalize Dy.right b = y
      cases x <;> cases y <;> cases u <;> cases v <;> decide
    clear hc
    rcases hc2 with h1 | ⟨h1, h2⟩ | ⟨h1, h2, h3⟩ | ⟨h1, h2, h3, h4⟩
    all_goals
      go_enter Try.func6, Try.ntmps6
      go_wp2_with (first | (go_at_call 25; refine (right_any _ _ (by assumption)).mono ?_; rintro e w' ⟨rfl, rfl⟩) | (go_at_call 22; (with_reducible refine (chain AW hB).mono ?_); clear hB AW; rintro e w' ⟨rfl, hB⟩))
      go_ret
      exact ⟨rfl, hB⟩
end Go.Proofs.Ytfjomcbbgnaaiaa
