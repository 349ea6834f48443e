/- The law RayTells: its join. -/
import Derived.Test.YtakdeeknfcifpaaWj
namespace Go.Proofs.Ytakdeeknfcifpaa
open Go Go.RowKit
theorem hitR_eq (x y : Nat) : hitR x y = hitC x y := by
  have ef : (Dy.dAdd (Dy.dMul x x true).1 (Dy.dMul y y true).1 true).1 = Dy.far x y := rfl
  have el : (Dy.dSub 4607182418800017408 (Dy.far x y) false).1 = Dy.lft x y := rfl
  unfold hitR hitC
  rw [ef, el]
  cases h1 : (Dy.dIn x y).1
  · have h2 : Dy.hits x y = false := by unfold Dy.hits; rw [h1]; rfl
    have h3 : Dy.hX x y = 0 := by unfold Dy.hX; rw [h2]; rfl
    have h4 : Dy.hZ x y = 0 := by unfold Dy.hZ; rw [h2]; rfl
    rw [h2, h3, h4]; rfl
  · have he : (Dy.dIn x y).2 = 0 := by
      unfold Dy.dIn at h1 ⊢
      split at h1
      · rename_i h; rw [if_pos h]
      · cases h1
    rw [he, if_pos rfl]
    have hh : Dy.hits x y = !(Dy.flt (Dy.lft x y) 0 || Dy.feq (Dy.lft x y) 0) := by unfold Dy.hits; rw [h1]; rfl
    cases hl : (Dy.flt (Dy.lft x y) 0 || Dy.feq (Dy.lft x y) 0)
    · rw [hl] at hh
      have h2 : Dy.hits x y = true := hh
      have h3 : Dy.hX x y = (Dy.dSqrt (Dy.far x y) false).1 := by unfold Dy.hX; rw [h2]; rfl
      have h4 : Dy.hZ x y = (Dy.dSqrt (Dy.lft x y) false).1 := by unfold Dy.hZ; rw [h2]; rfl
      rw [h2, h3, h4, if_neg (by decide)]
    · rw [hl] at hh
      have h2 : Dy.hits x y = false := hh
      have h3 : Dy.hX x y = 0 := by unfold Dy.hX; rw [h2]; rfl
      have h4 : Dy.hZ x y = 0 := by unfold Dy.hZ; rw [h2]; rfl
      rw [h2, h3, h4, if_pos rfl]
theorem raytells_ok (x y : Nat) (w : World) (hx : Dy.W x) (hy : Dy.W y) : Calls Try.prog 3 #[.float .f64 x, .float .f64 y] w fun e w' => e = .returned (.bool true) ∧ Below w.heap.size w w' := by
  have h0 : Dy.dIn x y = ((Dy.dIn x y).1, (Dy.dIn x y).2) := rfl
  have h1 : hitC x y = (((hitC x y).1.1, (hitC x y).1.2), ((hitC x y).2.1, (hitC x y).2.2)) := rfl
  have h2 : hitR x y = (((hitC x y).1.1, (hitC x y).1.2), ((hitC x y).2.1, (hitC x y).2.2)) := (hitR_eq x y).trans h1
  exact raytells x y w hx hy h0 h1 h2 (by simp) (by simp) (by simp) (by simp) (by simp)
end Go.Proofs.Ytakdeeknfcifpaa
