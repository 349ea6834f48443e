/- Plain facts: microfacets (ggx): values. Plain facts: what is seen (ggx): widths and values. -/
import Derived.Test.YtikiegcncliocaaR1
import Derived.Test.YtikiegcncliocaaC1
/-! Plain facts: microfacets (ggx): values. -/
namespace Go.Proofs.Ytikiegcncliocaa
open Go Go.RowKit

theorem sq_le1 {c : Rat} (h0 : 0 < c) (h1 : c ≤ 1) : 0 ≤ (1 - c * c) / (c * c) := by
  have p := Rat.mul_pos h0 h0
  have := Dy.mul_abs_le (x := c) (y := c) (m := 1) (w := 1) (by grind) h1 (by grind) h1
  exact Dy.le_quo p (by grind)
end Go.Proofs.Ytikiegcncliocaa
/-! Plain facts: what is seen (ggx): widths and values. -/
namespace Go.Proofs.Ytikiegcncliocaa
open Go Go.RowKit

theorem alpha_num {a : Int} (la : 4584664420663164928 ≤ a) (ua : a ≤ 4607182418800017408) : ∃ s : Int × Int, Dy.Got (Dy.cSqr 0 (Dy.E (a, a))) s ∧ Dy.Bd s (39614081257123161597517234175 / 40564819207303340847894502572032) (37778931862957170098177 / 37778931862957161709568) (19342813113834066795298817 / 43556142965880123323311949751266331066368) ∧ Dy.Has s (Dy.val a * Dy.val a) := by
  have ca : Dy.Bd (a, a) (1 / 32) 1 0 := (Dy.bd_in (x := 4584664420663164928) (y := 4607182418800017408) (nx := 1) (dx := 32) (ny := 1) (dy := 1) la ua (Dy.ok_B (by unfold Dy.B10; omega) (by unfold Dy.B10; omega)) (by decide +kernel)).mono (by decide +kernel)
  have ea : Dy.Has (a, a) (Dy.val a) := Dy.Has.pt a
  obtain ⟨s1, g1, b1⟩ := Dy.bd_sqr 1 (39614081257123161597517234175 / 40564819207303340847894502572032) (37778931862957170098177 / 37778931862957161709568) (19342813113834066795298817 / 43556142965880123323311949751266331066368) 1 ca (by decide +kernel)
  have h1 : Dy.Has s1 ((Dy.val a) * (Dy.val a)) := Dy.has_sqr ca.rk g1 ea
  exact ⟨s1, g1, b1, h1⟩
end Go.Proofs.Ytikiegcncliocaa
