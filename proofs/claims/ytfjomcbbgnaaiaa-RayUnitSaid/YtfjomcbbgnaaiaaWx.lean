/- Walks: ray.Hit. -/
import Derived.Test.YtfjomcbbgnaaiaaWw
import Derived.Test.YtfjomcbbgnaaiaaDyZ
namespace Go.Proofs.Ytfjomcbbgnaaiaa
open Go.RowKit

@[go_sem] theorem run_store_float {P : Program} {w : World} {a : Addr} {m : Mode} (k : FloatKind) (b : Nat) : (store a (.float k b) m).run P w = stored P w a (.float k b) m := run_store P w a _ m rfl

abbrev fv (x y z : Nat) : Value := .agg #[.float .f64 x, .float .f64 y, .float .f64 z]

set_option maxRecDepth 100000 in
set_option maxHeartbeats 2000000 in
theorem hit_any (x y : Nat) (w : World) (hx : Dy.W x) (hy : Dy.W y) :
    Calls Try.prog 14 #[.float .f64 x, .float .f64 y] w fun e w' => e = .returned (.tuple #[fv (Dy.hX x y) 0 (Dy.hZ x y), .bool (Dy.hits x y), .int .i64 (Dy.dIn x y).2]) ∧ Below w.heap.size w w' := by
  have I := hid (fun w => inside_any x y w hx hy)
  have hB : Below (w.alloc (.cells #[.float .f64 0, .float .f64 0, .float .f64 0] 24)).heap.size (w.alloc (.cells #[.float .f64 0, .float .f64 0, .float .f64 0] 24)) (w.alloc (.cells #[.float .f64 0, .float .f64 0, .float .f64 0] 24)) := Below.refl _ _
  cases h1 : (Dy.dIn x y).1
  · have h2 : Dy.hits x y = false := by unfold Dy.hits; rw [h1]; rfl
    have h3 : Dy.hX x y = 0 := by unfold Dy.hX; rw [h2]; rfl
    have h4 : Dy.hZ x y = 0 := by unfold Dy.hZ; rw [h2]; rfl
    rw [h1] at I
    rw [h2, h3, h4]
    generalize (Dy.dIn x y).2 = e at *
    clear h1 h2 h3 h4
    go_enter Try.func14, Try.ntmps14
    go_wp2_with (go_at_call 15; (with_reducible refine (chain I hB).mono ?_); clear hB; rintro e w' ⟨rfl, hB⟩; obtain ⟨hc, hf⟩ := bcell hB; have c0 : w'.cell? ⟨w.heap.size, 0, none⟩ = some (.float .f64 0) := (hc _ _ (by simp)).trans (by simp [go_sem]); have c1 : w'.cell? ⟨w.heap.size, 1, none⟩ = some (.float .f64 0) := (hc _ _ (by simp)).trans (by simp [go_sem]); have c2 : w'.cell? ⟨w.heap.size, 2, none⟩ = some (.float .f64 0) := (hc _ _ (by simp)).trans (by simp [go_sem]); have f0 : w'.frozen? ⟨w.heap.size, 0, none⟩ = false := (hf _ _ (by simp)).trans (by simp [go_sem]); have f1 : w'.frozen? ⟨w.heap.size, 1, none⟩ = false := (hf _ _ (by simp)).trans (by simp [go_sem]); have f2 : w'.frozen? ⟨w.heap.size, 2, none⟩ = false := (hf _ _ (by simp)).trans (by simp [go_sem]); clear hc hf; have hz := hB.size; simp at hz)
    refine bodyPost_ret (v := .tuple #[fv 0 0 0, .bool false, .int .i64 e]) (by simp [results, Try.results14, go_sem, c0, c1, c2]) rfl ⟨rfl, ?_⟩
    exact (((((Below.refl _ _).alloc (Nat.le_refl _) _).trans (hB.mono (by simp))).setCell (by simp) _).setCell (by simp) _).setCell (by simp) _
  · have he : (Dy.dIn x y).2 = 0 := by
      unfold Dy.dIn at h1 ⊢
      split at h1
      · rename_i h; rw [if_pos h]
      · cases h1
    rw [h1, he] at I
    rw [he]
    have M1 := hid (fun w => mul_any x x true w hx hx)
    have M2 := hid (fun w => mul_any y y true w hy hy)
    have A1 := hid (fun w => add_any _ _ true w (Dy.dMul_W x x true) (Dy.dMul_W y y true))
    have S1 := hid (fun w => sub_any Dy.o1 _ false w Dy.W_o1 (Dy.far_W x y))
    have Q1 := hid (fun w => sqrt_any _ false w (Dy.far_W x y))
    have Q2 := hid (fun w => sqrt_any _ false w (Dy.lft_W x y))
    have ef : (Dy.dAdd (Dy.dMul x x true).1 (Dy.dMul y y true).1 true).1 = Dy.far x y := rfl
    have el : (Dy.dSub Dy.o1 (Dy.far x y) false).1 = Dy.lft x y := rfl
    rw [ef] at A1
    rw [el] at S1
    generalize (Dy.dAdd (Dy.dMul x x true).1 (Dy.dMul y y true).1 true).2 = e3 at *
    generalize (Dy.dSub Dy.o1 (Dy.far x y) false).2 = e4 at *
    clear ef el
    have hh : Dy.hits x y = !(Dy.flt (Dy.lft x y) 0 || Dy.feq (Dy.lft x y) 0) := by unfold Dy.hits; rw [h1]; rfl
    cases hl : (Dy.flt (Dy.lft x y) 0 || Dy.feq (Dy.lft x y) 0)
    · have h2 : Dy.hits x y = true := by rw [hh, hl]; rfl
      have h3 : Dy.hX x y = (Dy.dSqrt (Dy.far x y) false).1 := by unfold Dy.hX; rw [h2]; rfl
      have h4 : Dy.hZ x y = (Dy.dSqrt (Dy.lft x y) false).1 := by unfold Dy.hZ; rw [h2]; rfl
      rw [h2, h3, h4]
      clear h1 h2 h3 h4 hh he
      generalize Dy.dSqrt (Dy.far x y) false = r5 at *
      generalize Dy.dSqrt (Dy.lft x y) false = r6 at *
      generalize Dy.dMul x x true = r1 at *
      generalize Dy.dMul y y true = r2 at *
      generalize Dy.far x y = f at *
      generalize Dy.lft x y = l at *
      obtain ⟨X, ex⟩ := r5
      obtain ⟨Z, ez⟩ := r6
      obtain ⟨a, ea⟩ := r1
      obtain ⟨b, eb⟩ := r2
      dsimp only at *
      unfold Dy.o1 at S1
      go_enter Try.func14, Try.ntmps14
      go_wp2_with (first | (go_at_call 15; (with_reducible refine (chain I hB).mono ?_); clear hB; rintro e w' ⟨rfl, hB⟩) | (go_at_call 19; first | ((with_reducible refine (chain M1 hB).mono ?_); clear hB M1; rintro e w' ⟨rfl, hB⟩) | ((with_reducible refine (chain M2 hB).mono ?_); clear hB M2; rintro e w' ⟨rfl, hB⟩)) | (go_at_call 21; (with_reducible refine (chain A1 hB).mono ?_); clear hB; rintro e w' ⟨rfl, hB⟩) | (go_at_call 23; (with_reducible refine (chain S1 hB).mono ?_); clear hB; rintro e w' ⟨rfl, hB⟩) | (go_at_call 27; first | ((with_reducible refine (chain Q1 hB).mono ?_); clear hB Q1; rintro e w' ⟨rfl, hB⟩) | ((with_reducible refine (chain Q2 hB).mono ?_); clear hB Q2; rintro e w' ⟨rfl, hB⟩; obtain ⟨hc, hf⟩ := bcell hB; have c0 : w'.cell? ⟨w.heap.size, 0, none⟩ = some (.float .f64 0) := (hc _ _ (by simp)).trans (by simp [go_sem]); have c1 : w'.cell? ⟨w.heap.size, 1, none⟩ = some (.float .f64 0) := (hc _ _ (by simp)).trans (by simp [go_sem]); have c2 : w'.cell? ⟨w.heap.size, 2, none⟩ = some (.float .f64 0) := (hc _ _ (by simp)).trans (by simp [go_sem]); have f0 : w'.frozen? ⟨w.heap.size, 0, none⟩ = false := (hf _ _ (by simp)).trans (by simp [go_sem]); have f1 : w'.frozen? ⟨w.heap.size, 1, none⟩ = false := (hf _ _ (by simp)).trans (by simp [go_sem]); have f2 : w'.frozen? ⟨w.heap.size, 2, none⟩ = false := (hf _ _ (by simp)).trans (by simp [go_sem]); clear hc hf; have hz := hB.size; simp at hz)))
      refine bodyPost_ret (v := .tuple #[fv X 0 Z, .bool true, .int .i64 0]) (by simp [results, Try.results14, go_sem, c0, c1, c2]) rfl ⟨rfl, ?_⟩
      exact (((((Below.refl _ _).alloc (Nat.le_refl _) _).trans (hB.mono (by simp))).setCell (by simp) _).setCell (by simp) _).setCell (by simp) _
    · have h2 : Dy.hits x y = false := by rw [hh, hl]; rfl
      have h3 : Dy.hX x y = 0 := by unfold Dy.hX; rw [h2]; rfl
      have h4 : Dy.hZ x y = 0 := by unfold Dy.hZ; rw [h2]; rfl
      rw [h2, h3, h4]
      clear h1 h2 h3 h4 hh he Q1 Q2
      generalize Dy.dMul x x true = r1 at *
      generalize Dy.dMul y y true = r2 at *
      generalize Dy.far x y = f at *
      generalize Dy.lft x y = l at *
      obtain ⟨a, ea⟩ := r1
      obtain ⟨b, eb⟩ := r2
      dsimp only at *
      unfold Dy.o1 at S1
      go_enter Try.func14, Try.ntmps14
      go_wp2_with (first | (go_at_call 15; (with_reducible refine (chain I hB).mono ?_); clear hB; rintro e w' ⟨rfl, hB⟩) | (go_at_call 19; first | ((with_reducible refine (chain M1 hB).mono ?_); clear hB M1; rintro e w' ⟨rfl, hB⟩) | ((with_reducible refine (chain M2 hB).mono ?_); clear hB M2; rintro e w' ⟨rfl, hB⟩)) | (go_at_call 21; (with_reducible refine (chain A1 hB).mono ?_); clear hB; rintro e w' ⟨rfl, hB⟩) | (go_at_call 23; (with_reducible refine (chain S1 hB).mono ?_); clear hB; rintro e w' ⟨rfl, hB⟩; obtain ⟨hc, hf⟩ := bcell hB; have c0 : w'.cell? ⟨w.heap.size, 0, none⟩ = some (.float .f64 0) := (hc _ _ (by simp)).trans (by simp [go_sem]); have c1 : w'.cell? ⟨w.heap.size, 1, none⟩ = some (.float .f64 0) := (hc _ _ (by simp)).trans (by simp [go_sem]); have c2 : w'.cell? ⟨w.heap.size, 2, none⟩ = some (.float .f64 0) := (hc _ _ (by simp)).trans (by simp [go_sem]); have f0 : w'.frozen? ⟨w.heap.size, 0, none⟩ = false := (hf _ _ (by simp)).trans (by simp [go_sem]); have f1 : w'.frozen? ⟨w.heap.size, 1, none⟩ = false := (hf _ _ (by simp)).trans (by simp [go_sem]); have f2 : w'.frozen? ⟨w.heap.size, 2, none⟩ = false := (hf _ _ (by simp)).trans (by simp [go_sem]); clear hc hf; have hz := hB.size; simp at hz))
      refine bodyPost_ret (v := .tuple #[fv 0 0 0, .bool false, .int .i64 0]) (by simp [results, Try.results14, go_sem, c0, c1, c2]) rfl ⟨rfl, ?_⟩
      exact (((((Below.refl _ _).alloc (Nat.le_refl _) _).trans (hB.mono (by simp))).setCell (by simp) _).setCell (by simp) _).setCell (by simp) _
end Go.Proofs.Ytfjomcbbgnaaiaa
