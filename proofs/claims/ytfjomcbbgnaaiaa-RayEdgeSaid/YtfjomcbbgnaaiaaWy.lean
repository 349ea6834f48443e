/- Walks: burnishlaw25: Same, may, awake. -/
import Derived.Test.YtfjomcbbgnaaiaaKh
namespace Go.Proofs.Ytfjomcbbgnaaiaa
open Go.RowKit

theorem h1 : Dy.hits 0 0 = true ∧ Dy.hX 0 0 = 0 ∧ Dy.hZ 0 0 = 4607182418800017408 ∧ (Dy.dIn 0 0).2 = 0 := by decide +kernel
theorem h2 : Dy.hits 4603579539098121011 0 = true ∧ Dy.hX 4603579539098121011 0 = 4603579539098121011 ∧ Dy.hZ 4603579539098121011 0 = 4605380978949069209 ∧ (Dy.dIn 4603579539098121011 0).2 = 0 := by decide +kernel
theorem h3 : Dy.hits 4607182418800017408 0 = false ∧ Dy.hX 4607182418800017408 0 = 0 ∧ Dy.hZ 4607182418800017408 0 = 0 ∧ (Dy.dIn 4607182418800017408 0).2 = 0 := by decide +kernel
theorem h4 : Dy.hits 4605380978949069210 4604480259023595110 = false ∧ Dy.hX 4605380978949069210 4604480259023595110 = 0 ∧ Dy.hZ 4605380978949069210 4604480259023595110 = 0 ∧ (Dy.dIn 4605380978949069210 4604480259023595110).2 = 0 := by decide +kernel
theorem h5 : Dy.hits 4611686018427387904 0 = false ∧ Dy.hX 4611686018427387904 0 = 0 ∧ Dy.hZ 4611686018427387904 0 = 0 ∧ (Dy.dIn 4611686018427387904 0).2 = 2 := by decide +kernel

theorem carry {n : Nat} {W W' : World} {b o : Nat} {v : Value} (hB : Below n W W') (hb : b < n) (h : W.cell? ⟨b, o, none⟩ = some v) : W'.cell? ⟨b, o, none⟩ = some v :=
  (hB.cell (p := ⟨b, o, none⟩) hb).trans h
theorem below_of_alloc {n : Nat} {W W' : World} {O : Obj} (hB : Below n (W.alloc O) W') : Below (min n W.heap.size) W W' :=
  ((Below.refl _ _).alloc (Nat.min_le_right _ _) _).trans (hB.mono (Nat.min_le_left _ _))

theorem same3_any (a b c : Nat) (w : World) :
    Calls Try.prog 17 #[fv a b c, fv a b c] w fun e w' => e = .returned (.bool true) ∧ Below w.heap.size w w' := by
  have ha : ((a : Int) == a) = true := by simp
  have hb : ((b : Int) == b) = true := by simp
  have hc : ((c : Int) == c) = true := by simp
  go_enter Try.func17, Try.ntmps17
  go_wp2_with (go_at_call 29; refine (same_any _ _ _).mono ?_; rintro e w1 ⟨rfl, rfl⟩)
  go_ret
  exact ⟨rfl, ((Below.refl _ _).alloc (Nat.le_refl _) _).alloc (by simp) _⟩

set_option maxRecDepth 100000 in
set_option maxHeartbeats 2000000 in
theorem awake25_any (w : World) :
    Calls Try.prog 18 #[] w fun e w' => e = .returned (.bool true) ∧ Below w.heap.size w w' := by
  have H1 := hid (fun w => hit_any 0 0 w (W_lit (by omega)) (W_lit (by omega)))
  have H2 := hid (fun w => hit_any 4603579539098121011 0 w (W_lit (by omega)) (W_lit (by omega)))
  have H3 := hid (fun w => hit_any 4607182418800017408 0 w (W_lit (by omega)) (W_lit (by omega)))
  have H4 := hid (fun w => hit_any 4605380978949069210 4604480259023595110 w (W_lit (by omega)) (W_lit (by omega)))
  have H5 := hid (fun w => hit_any 4611686018427387904 0 w (W_lit (by omega)) (W_lit (by omega)))
  rw [h1.1, h1.2.1, h1.2.2.1, h1.2.2.2] at H1
  rw [h2.1, h2.2.1, h2.2.2.1, h2.2.2.2] at H2
  rw [h3.1, h3.2.1, h3.2.2.1, h3.2.2.2] at H3
  rw [h4.1, h4.2.1, h4.2.2.1, h4.2.2.2] at H4
  rw [h5.1, h5.2.1, h5.2.2.1, h5.2.2.2] at H5
  have s1 : ∀ t w, (binOp .sub t (.float .f64 4603579539098121011) (.float .f64 4603579539098121011)).run Try.prog w = .ok (.float .f64 0) w := fun t w => run_float_arith w .sub t .f64 _ _ _ (by decide +kernel)
  have s2 : ∀ t w, (binOp .sub t (.float .f64 4605380978949069209) (.float .f64 4605380978949069210)).run Try.prog w = .ok (.float .f64 13591863675404156928) w := fun t w => run_float_arith w .sub t .f64 _ _ _ (by decide +kernel)
  have q1 : ∀ w, (Op.equalIn 10000 24 (.agg #[.float .f64 0, .float .f64 0, .float .f64 4607182418800017408]) (.agg #[.float .f64 0, .float .f64 0, .float .f64 4607182418800017408])).run Try.prog w = .ok true w := fun w => by kernel_rfl
  have q2 : ∀ w, (Op.equalIn 10000 24 (.agg #[.float .f64 0, .float .f64 0, .float .f64 0]) (.agg #[.float .f64 0, .float .f64 0, .float .f64 0])).run Try.prog w = .ok true w := fun w => by kernel_rfl
  have a1 : Dy.abs 0 = 0 := by decide
  have a2 : Dy.abs 13591863675404156928 = 4368491638549381120 := by decide
  have t1 : Dy.flt 0 4382569440205035030 = true := by decide +kernel
  have t2 : Dy.flt 4368491638549381120 4382569440205035030 = true := by decide +kernel
  go_enter Try.func18, Try.ntmps18
  go_wp2_with fail
  refine (H1.out _).mono ?_
  rintro e w1 ⟨rfl, b1⟩
  go_wp2_with fail
  refine (H2.out _).mono ?_
  rintro e w2 ⟨rfl, b2⟩
  go_wp2_with fail
  refine (H3.out _).mono ?_
  rintro e w3 ⟨rfl, b3⟩
  go_wp2_with fail
  refine (H4.out _).mono ?_
  rintro e w4 ⟨rfl, b4⟩
  go_wp2_with fail
  refine (H5.out _).mono ?_
  rintro e w5 ⟨rfl, b5⟩
  have z1 := b1.size
  have z2 := b2.size
  have z3 := b3.size
  have z4 := b4.size
  have z5 := b5.size
  simp at z2 z3 z4 z5
  have A4 : Below (w4.heap.size + 1) _ w5 := b5.mono (by simp)
  have A3 : Below (w3.heap.size + 1) _ w5 := (b4.mono (by simp)).trans ((below_of_alloc A4).mono (by simp; omega))
  have A2 : Below (w2.heap.size + 1) _ w5 := (b3.mono (by simp)).trans ((below_of_alloc A3).mono (by simp; omega))
  have A1 : Below (w1.heap.size + 1) _ w5 := (b2.mono (by simp)).trans ((below_of_alloc A2).mono (by simp; omega))
  have c10 : w5.cell? ⟨w1.heap.size, 0, none⟩ = _ := carry A1 (by omega) (by simp [go_sem]; rfl)
  have c11 : w5.cell? ⟨w1.heap.size, 1, none⟩ = _ := carry A1 (by omega) (by simp [go_sem]; rfl)
  have c12 : w5.cell? ⟨w1.heap.size, 2, none⟩ = _ := carry A1 (by omega) (by simp [go_sem]; rfl)
  have c20 : w5.cell? ⟨w2.heap.size, 0, none⟩ = _ := carry A2 (by omega) (by simp [go_sem]; rfl)
  have c22 : w5.cell? ⟨w2.heap.size, 2, none⟩ = _ := carry A2 (by omega) (by simp [go_sem]; rfl)
  have c30 : w5.cell? ⟨w3.heap.size, 0, none⟩ = _ := carry A3 (by omega) (by simp [go_sem]; rfl)
  have c31 : w5.cell? ⟨w3.heap.size, 1, none⟩ = _ := carry A3 (by omega) (by simp [go_sem]; rfl)
  have c32 : w5.cell? ⟨w3.heap.size, 2, none⟩ = _ := carry A3 (by omega) (by simp [go_sem]; rfl)
  have c40 : w5.cell? ⟨w4.heap.size, 0, none⟩ = _ := carry A4 (by omega) (by simp [go_sem]; rfl)
  have c41 : w5.cell? ⟨w4.heap.size, 1, none⟩ = _ := carry A4 (by omega) (by simp [go_sem]; rfl)
  have c42 : w5.cell? ⟨w4.heap.size, 2, none⟩ = _ := carry A4 (by omega) (by simp [go_sem]; rfl)
  have n1 : w1.heap.size < w5.heap.size := by omega
  have n2 : w2.heap.size < w5.heap.size := by omega
  have n3 : w3.heap.size < w5.heap.size := by omega
  have n4 : w4.heap.size < w5.heap.size := by omega
  have HB : Below w.heap.size w w5 := b1.trans ((below_of_alloc A1).mono (by simp; omega))
  have zz : w.heap.size ≤ w5.heap.size := by omega
  clear b1 b2 b3 b4 b5 A1 A2 A3 A4 z1 z2 z3 z4 z5
  go_wp2_with (go_at_call 20; refine (abs_any _ _ (W_lit (by omega))).mono ?_; rintro e w' ⟨rfl, rfl⟩)
  go_ret
  exact ⟨rfl, HB.alloc zz _⟩
end Go.Proofs.Ytfjomcbbgnaaiaa
