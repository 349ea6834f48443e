/- Walks: package ival: Pi, turned, bare; what is known. -/
import Derived.Test.YthfgdhobldejmaaMh
import Derived.Test.YthfgdhobldejmaaDc
namespace Go.Proofs.Ythfgdhobldejmaa
open Go.RowKit

theorem piUp : Dy.dNext 4614256656552045848 true = (4614256656552045849, 0) := by decide +kernel
/-- The interval of pi. -/
def piIv : Nat × Nat := (4614256656552045848, 4614256656552045849)

theorem ivPi_any (w : World) :
    Calls Try.prog 27 #[] w fun e w' => e = .returned (iv piIv) ∧ Below w.heap.size w w' := by
  have H := hid (fun w => next_any 4614256656552045848 true w (W_lit (by omega)))
  rw [piUp] at H
  go_enter Try.func27, Try.ntmps27
  go_wp2_with fail
  refine (H.out _).mono ?_
  rintro e w1 ⟨rfl, b1⟩
  have c0 : w1.cell? ⟨w.heap.size, 0, none⟩ = some (.float .f64 0) := carry b1 (by simp) (by simp [go_sem])
  have c1 : w1.cell? ⟨w.heap.size, 1, none⟩ = some (.float .f64 0) := carry b1 (by simp) (by simp [go_sem])
  have f0 : w1.frozen? ⟨w.heap.size, 0, none⟩ = false := (b1.frozen (p := ⟨w.heap.size, 0, none⟩) (by simp)).trans (by simp [go_sem])
  have f1 : w1.frozen? ⟨w.heap.size, 1, none⟩ = false := (b1.frozen (p := ⟨w.heap.size, 1, none⟩) (by simp)).trans (by simp [go_sem])
  go_wp2_with fail
  refine bodyPost_ret (v := iv piIv) (by simp [results, Try.results27, go_sem, c0, c1]; exact ⟨rfl, rfl⟩) rfl ⟨rfl, ?_⟩
  exact ((((Below.refl _ _).alloc (Nat.le_refl _) _).trans (b1.mono (by simp))).setCell (by simp) _).setCell (by simp) _

theorem turned_any (a : Nat × Nat) (w : World) (ha : Dy.WW a) (ra : Dy.ivR a = true) :
    Calls Try.prog 97 #[iv a] w fun e w' => e = .returned (iv (Dy.iTurned a)) ∧ Below w.heap.size w w' := by
  obtain ⟨r1, r2, _⟩ := Dy.ivR_of ra
  obtain ⟨lo, hi⟩ := a
  obtain ⟨wl, wh⟩ := ha
  have n1 : ∀ t w, (binOp .sub t (.float .f64 0) (.float .f64 lo)).run Try.prog w = .ok (.float .f64 (Dy.minus lo)) w := fun t w => run_float_arith w .sub t .f64 _ _ _ (Dy.zero_sub wl r1)
  have n2 : ∀ t w, (binOp .sub t (.float .f64 0) (.float .f64 hi)).run Try.prog w = .ok (.float .f64 (Dy.minus hi)) w := fun t w => run_float_arith w .sub t .f64 _ _ _ (Dy.zero_sub wh r2)
  unfold Dy.iTurned
  dsimp only at *
  generalize Dy.minus lo = ml at *
  generalize Dy.minus hi = mh at *
  clear ra r1 r2 wl wh
  go_enter Try.func97, Try.ntmps97
  go_wp2
  refine bodyPost_ret (v := iv (mh, ml)) (by simp [results, Try.results97, go_sem]) rfl ⟨rfl, ?_⟩
  exact ((Below.refl _ _).alloc (Nat.le_refl _) _).alloc (by simp) _

set_option maxHeartbeats 1000000 in
theorem bare_any (a : Nat × Nat) (w : World) (ha : Dy.WW a) (ra : Dy.ivR a = true) :
    Calls Try.prog 75 #[iv a] w fun e w' => e = .returned (iv (Dy.iBare a)) ∧ Below w.heap.size w w' := by
  have HT := hid (fun w => turned_any a w ha ra)
  obtain ⟨r1, r2, _⟩ := Dy.ivR_of ra
  have g1 := Dy.fge_dec ha.1 Dy.W_zero r1 Dy.right_zero
  have g2 := Dy.fle_dec ha.2 Dy.W_zero r2 Dy.right_zero
  rw [Dy.dec_zero] at g1 g2
  obtain ⟨m1, m2, m3⟩ := Dy.minus_dec ha.1 r1
  have hmax := fun ats t w => run_max (P := Try.prog) a.2 (Dy.minus a.1) ats t w ha.2 m3 r2 m1
  unfold Dy.iBare
  by_cases c : 0 ≤ Dy.dec a.1
  · rw [if_pos c]
    rw [decide_eq_true c] at g1
    obtain ⟨lo, hi⟩ := a
    dsimp only at *
    clear ha ra r1 r2 m1 m2 m3 hmax g2 c
    go_enter Try.func75, Try.ntmps75
    go_wp2
    refine bodyPost_ret (v := iv (lo, hi)) (by simp [results, Try.results75, go_sem]) rfl ⟨rfl, ?_⟩
    exact ((Below.refl _ _).alloc (Nat.le_refl _) _).alloc (by simp) _
  · rw [if_neg c]
    rw [decide_eq_false c] at g1
    by_cases d : Dy.dec a.2 ≤ 0
    · rw [if_pos d]
      rw [decide_eq_true d] at g2
      generalize Dy.iTurned a = t at *
      obtain ⟨t1, t2⟩ := t
      obtain ⟨lo, hi⟩ := a
      dsimp only at *
      clear ha ra r1 r2 m1 m2 m3 hmax c d
      go_enter Try.func75, Try.ntmps75
      go_wp2_with fail
      refine (HT.out _).mono ?_
      rintro e w1 ⟨rfl, b1⟩
      have c0 : w1.cell? ⟨w.heap.size + 1, 0, none⟩ = some (.float .f64 0) := carry b1 (by simp) (by simp [go_sem])
      have c1 : w1.cell? ⟨w.heap.size + 1, 1, none⟩ = some (.float .f64 0) := carry b1 (by simp) (by simp [go_sem])
      have f0 : w1.frozen? ⟨w.heap.size + 1, 0, none⟩ = false := (b1.frozen (p := ⟨w.heap.size + 1, 0, none⟩) (by simp)).trans (by simp [go_sem])
      have f1 : w1.frozen? ⟨w.heap.size + 1, 1, none⟩ = false := (b1.frozen (p := ⟨w.heap.size + 1, 1, none⟩) (by simp)).trans (by simp [go_sem])
      go_wp2_with fail
      refine bodyPost_ret (v := iv (t1, t2)) (by simp [results, Try.results75, go_sem, c0, c1]) rfl ⟨rfl, ?_⟩
      exact (((((Below.refl _ _).alloc (Nat.le_refl _) _).alloc (by simp) _).trans (b1.mono (by simp; omega))).setCell (by simp) _).setCell (by simp) _
    · rw [if_neg d]
      rw [decide_eq_false d] at g2
      have hf : Dy.flip a.1 = Dy.minus a.1 := (Dy.minus_flip ha.1 r1 (fun h => c (by rw [h, Dy.dec_zero]; exact Int.le_refl _))).symm
      generalize Dy.minus a.1 = ml at *
      generalize Dy.dmax a.2 ml = mx at *
      obtain ⟨lo, hi⟩ := a
      dsimp only at *
      clear ha ra r1 r2 m1 m2 m3 c d
      go_enter Try.func75, Try.ntmps75
      go_wp2
      refine bodyPost_ret (v := iv (0, mx)) (by simp [results, Try.results75, go_sem]) rfl ⟨rfl, ?_⟩
      exact ((Below.refl _ _).alloc (Nat.le_refl _) _).alloc (by simp) _

/-- What is known: the closure answers the interval that it has. -/
theorem known_ans (a : Nat × Nat) (p : Nat) (w : World) (hp : p < w.heap.size) (c0 : w.cell? ⟨p, 0, none⟩ = some (.float .f64 a.1)) (c1 : w.cell? ⟨p, 1, none⟩ = some (.float .f64 a.2)) :
    Ans 105 #[.pointer (some ⟨p, 0, none⟩)] (a, 0) w := by
  intro w' hb
  have k0 := carry hb hp c0
  have k1 := carry hb hp c1
  have hp' : p < w'.heap.size := Nat.lt_of_lt_of_le hp hb.size
  obtain ⟨lo, hi⟩ := a
  dsimp only at *
  clear c0 c1 hb
  go_enter Try.func105, Try.ntmps105
  go_wp2
  refine bodyPost_ret (v := .tuple #[iv (lo, hi), .int .i64 0]) (by simp [results, Try.results105, go_sem]) rfl ⟨rfl, ?_⟩
  exact (Below.refl _ _).alloc (Nat.le_refl _) _
end Go.Proofs.Ythfgdhobldejmaa
