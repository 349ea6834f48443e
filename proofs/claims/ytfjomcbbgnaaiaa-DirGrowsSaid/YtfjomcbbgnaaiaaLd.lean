/- Walks: the law DirGrows. -/
import Derived.Test.YtfjomcbbgnaaiaaWt
namespace Go.Proofs.Ytfjomcbbgnaaiaa
open Go.RowKit

set_option maxRecDepth 100000 in
set_option maxHeartbeats 8000000 in
theorem dirGrows_walk (a b c : Nat) (up : Bool) (w : World) (ha : Dy.W a) (hb : Dy.W b) (hc : Dy.W c) :
    Calls Try.prog 7 #[.float .f64 a, .float .f64 b, .float .f64 c, .bool up] w fun e w' => e = .returned (.bool true) ∧ Below w.heap.size w w' := by
  have AW := awakes
  have hB : Below w.heap.size w w := Below.refl _ _
  by_cases hr : Dy.right a = true ∧ Dy.right b = true ∧ Dy.right c = true
  · obtain ⟨ra, rb, rc⟩ := hr
    have hmin := fun ats t w => run_min (P := Try.prog) a b ats t w ha hb ra rb
    have hmax := fun ats t w => run_max (P := Try.prog) a b ats t w ha hb ra rb
    have rp := Dy.dmin_right ra rb
    have rq := Dy.dmax_right ra rb
    have wp := Dy.dmin_W ha hb
    have wq := Dy.dmax_W ha hb
    have hle : Dy.dec (Dy.dmin a b) ≤ Dy.dec (Dy.dmax a b) := by rw [Dy.dec_dmin, Dy.dec_dmax]; omega
    generalize Dy.dmin a b = p at *
    generalize Dy.dmax a b = q at *
    have wc := Dy.W_abs c
    have A1 := hid (fun w => add_any p c up w wp hc)
    have A2 := hid (fun w => add_any q c up w wq hc)
    have M1 := hid (fun w => mul_any p (Dy.abs c) up w wp wc)
    have M2 := hid (fun w => mul_any q (Dy.abs c) up w wq wc)
    have S1 := hid (fun w => sqrt_any p up w wp)
    have S2 := hid (fun w => sqrt_any q up w wq)
    have G1 := Dy.grow_add (up := up) rp rq rc hle
    have G2 := Dy.grow_mul (up := up) hc rp rq rc hle
    have G3 := Dy.grow_sqrt (up := up) wp wq rp rq hle
    generalize Dy.dAdd p c up = r1 at *
    generalize Dy.dAdd q c up = r2 at *
    generalize Dy.dMul p (Dy.abs c) up = r3 at *
    generalize Dy.dMul q (Dy.abs c) up = r4 at *
    generalize Dy.dSqrt p up = r5 at *
    generalize Dy.dSqrt q up = r6 at *
    clear hle rp rq
    rcases G1 with ⟨x1, y1, rfl, rfl, g1⟩ | ⟨x1, e1, rfl, g1⟩ | ⟨x1, y1, e1, rfl, rfl, g1⟩ <;>
    rcases G2 with ⟨x2, y2, rfl, rfl, g2⟩ | ⟨x2, e2, rfl, g2⟩ | ⟨x2, y2, e2, rfl, rfl, g2⟩ <;>
    rcases G3 with ⟨x3, y3, rfl, rfl, g3⟩ | ⟨x3, e3, rfl, g3⟩
    all_goals
      go_enter Try.func7, Try.ntmps7
      go_wp2_with (first | (go_at_call 25; refine (right_any _ _ (by assumption)).mono ?_; rintro e w' ⟨rfl, rfl⟩) | (go_at_call 20; refine (abs_any _ _ (by assumption)).mono ?_; rintro e w' ⟨rfl, rfl⟩) | (go_at_call 21; first | ((with_reducible refine (chain A1 hB).mono ?_); clear hB A1; rintro e w' ⟨rfl, hB⟩) | ((with_reducible refine (chain A2 hB).mono ?_); clear hB A2; rintro e w' ⟨rfl, hB⟩)) | (go_at_call 19; first | ((with_reducible refine (chain M1 hB).mono ?_); clear hB M1; rintro e w' ⟨rfl, hB⟩) | ((with_reducible refine (chain M2 hB).mono ?_); clear hB M2; rintro e w' ⟨rfl, hB⟩)) | (go_at_call 27; first | ((with_reducible refine (chain S1 hB).mono ?_); clear hB S1; rintro e w' ⟨rfl, hB⟩) | ((with_reducible refine (chain S2 hB).mono ?_); clear hB S2; rintro e w' ⟨rfl, hB⟩)) | (go_at_call 22; first | ((with_reducible refine (chain AW hB).mono ?_); clear hB AW; rintro e w' ⟨rfl, hB⟩)))
      go_ret
      exact ⟨rfl, hB⟩
  · have hc2 : Dy.right a = false ∨ Dy.right a = true ∧ Dy.right b = false ∨ Dy.right a = true ∧ Dy.right b = true ∧ Dy.right c = false := by
      revert hr
      generalize Dy.right a = x
      generalize Dy.right b = y
      generalize Dy.right c = z
      cases x <;> cases y <;> cases z <;> decide
    clear hr
    rcases hc2 with h1 | ⟨h1, h2⟩ | ⟨h1, h2, h3⟩
    all_goals
      go_enter Try.func7, Try.ntmps7
      go_wp2_with (first | (go_at_call 25; refine (right_any _ _ (by assumption)).mono ?_; rintro e w' ⟨rfl, rfl⟩) | (go_at_call 22; first | ((with_reducible refine (chain AW hB).mono ?_); clear hB AW; rintro e w' ⟨rfl, hB⟩)))
      go_ret
      exact ⟨rfl, hB⟩
end Go.Proofs.Ytfjomcbbgnaaiaa
