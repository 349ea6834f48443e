/- Walks: package burnishlow: numbers within others; intervals within others. -/
import Derived.Test.YthfgdhobldejmaaMc
import Derived.Test.YthfgdhobldejmaaEc
namespace Go.Proofs.Ythfgdhobldejmaa
open Go.RowKit

theorem frac_any (u : Nat) (w : World) (hu : u ≤ 4294967295) :
    Calls Try.prog 24 #[.int .u32 (u : Int)] w fun e w' => ∃ r, r ≤ 4607182418800017408 ∧ e = .returned (.float .f64 r) ∧ w = w' := by
  obtain ⟨r, e, hr⟩ := Dy.frq_of hu
  have d1 : ∀ t w, (binOp .quo t (.float .f64 (Dy.fi u)) (.float .f64 4751297606873776128)).run Try.prog w = .ok (.float .f64 r) w := fun t w => run_float_arith w .quo t .f64 _ _ _ e
  have k1 := fi_conv u
  clear e hu
  have hr := hid hr
  go_enter Try.func24, Try.ntmps24
  go_wp2
  go_ret
  exact ⟨r, hr.out, rfl, rfl⟩

/-- A number within two others. -/
theorem between_any (l h : Int) (u : Nat) (w : World) (hl : -Dy.B10 ≤ l) (hlh : l ≤ h) (hh : h ≤ Dy.B10) (hu : u ≤ 4294967295) :
    Calls Try.prog 41 #[.float .f64 (Dy.enc l), .float .f64 (Dy.enc h), .int .u32 (u : Int)] w fun e w' => ∃ z, l ≤ z ∧ z ≤ h ∧ e = .returned (.float .f64 (Dy.enc z)) ∧ w = w' := by
  have HF := hid (fun w => frac_any u w hu)
  have BT := hid (fun r hr => Dy.btw_of (r := r) hl hlh hh hr)
  have ol : Dy.ok l := Dy.ok_B (by unfold Dy.B10 at *; omega) (by unfold Dy.B10 at *; omega)
  have oh : Dy.ok h := Dy.ok_B (by unfold Dy.B10 at *; omega) (by unfold Dy.B10 at *; omega)
  have FL := hid (fun t (ot : Dy.ok t) => Dy.flt_enc ot ol)
  have FG := hid (fun t (ot : Dy.ok t) => Dy.fgt_enc ot oh)
  have hlh := hid hlh
  clear hl hh hu ol oh
  have hs : ∃ d, Ieee.double.sub (Dy.enc h) (Dy.enc l) = some d := by
    obtain ⟨d, m, t, ot, e1, e2, e3⟩ := BT.out 0 (by omega)
    exact ⟨d, e1⟩
  obtain ⟨d, ed⟩ := hs
  have d1 : ∀ t w, (binOp .sub t (.float .f64 (Dy.enc h)) (.float .f64 (Dy.enc l))).run Try.prog w = .ok (.float .f64 d) w := fun t w => run_float_arith w .sub t .f64 _ _ _ ed
  have ed := hid ed
  generalize hA : Dy.enc l = A at *
  generalize hB : Dy.enc h = B at *
  have hA := hid hA
  have hB := hid hB
  go_enter Try.func41, Try.ntmps41
  go_wp2_with fail
  refine (HF.out _).mono ?_
  rintro e w1 ⟨r, hr, rfl, rfl⟩
  obtain ⟨d', m, t, ot, e1, e2, e3⟩ := BT.out r hr
  have e1 := hid e1
  have : d' = d := Option.some.inj (e1.out.symm.trans ed.out)
  subst this
  have d2 : ∀ t w, (binOp .mul t (.float .f64 d') (.float .f64 r)).run Try.prog w = .ok (.float .f64 m) w := fun t w => run_float_arith w .mul t .f64 _ _ _ e2
  have d3 : ∀ t' w, (binOp .add t' (.float .f64 A) (.float .f64 m)).run Try.prog w = .ok (.float .f64 (Dy.enc t)) w := fun t' w => run_float_arith w .add t' .f64 _ _ _ e3
  have f1 := FL.out t ot
  have f2 := FG.out t ot
  have ot := hid ot
  have e2 := hid e2
  have e3 := hid e3
  clear e2 e3 e1 HF BT FL FG ed
  generalize hT : Dy.enc t = T at *
  have hT := hid hT
  by_cases c1 : t < l
  · rw [decide_eq_true c1] at f1
    have c1 := hid c1
    clear f2
    go_wp2
    go_ret
    exact ⟨l, Int.le_refl _, hlh.out, by rw [hA.out]; rfl, rfl⟩
  · rw [decide_eq_false c1] at f1
    by_cases c2 : h < t
    · rw [decide_eq_true c2] at f2
      have c2 := hid c2
      have c1 := hid c1
      go_wp2
      go_ret
      exact ⟨h, hlh.out, Int.le_refl _, by rw [hB.out]; rfl, rfl⟩
    · rw [decide_eq_false c2] at f2
      have c2 := hid c2
      have c1 := hid c1
      go_wp2
      go_ret
      exact ⟨t, by have := c1.out; omega, by have := c2.out; omega, by rw [hT.out]; rfl, rfl⟩

/-- An interval within two numbers. -/
theorem span_any (l h : Int) (u v : Nat) (w : World) (hl : -Dy.B10 ≤ l) (hlh : l ≤ h) (hh : h ≤ Dy.B10) (hu : u ≤ 4294967295) (hv : v ≤ 4294967295) :
    Calls Try.prog 11 #[.float .f64 (Dy.enc l), .float .f64 (Dy.enc h), .int .u32 (u : Int), .int .u32 (v : Int)] w fun e w' => ∃ p, Dy.Rk p ∧ Dy.Wi p (l, h) ∧ e = .returned (iv (Dy.E p)) ∧ Below w.heap.size w w' := by
  have H1 := hid (fun w => between_any l h u w hl hlh hh hu)
  have H2 := hid (fun w => between_any l h v w hl hlh hh hv)
  have OK := hid (fun z (h1 : l ≤ z) (h2 : z ≤ h) => (Dy.ok_B (by unfold Dy.B10 at *; omega) (by unfold Dy.B10 at *; omega) : Dy.ok z))
  clear hl hlh hh hu hv
  go_enter Try.func11, Try.ntmps11
  go_wp2_with fail
  refine (H1.out _).mono ?_
  rintro e w1 ⟨y, y1, y2, rfl, rfl⟩
  go_wp2_with fail
  refine (H2.out _).mono ?_
  rintro e w1 ⟨z, z1, z2, rfl, rfl⟩
  have oy := OK.out y y1 y2
  have oz := OK.out z z1 z2
  have f1 := Dy.fgt_enc oy oz
  have oy := hid oy
  have oz := hid oz
  have y1 := hid y1
  have y2 := hid y2
  have z1 := hid z1
  have z2 := hid z2
  generalize hY : Dy.enc y = Y at *
  generalize hZ : Dy.enc z = Z at *
  have hY := hid hY
  have hZ := hid hZ
  by_cases c : z < y
  · rw [decide_eq_true c] at f1
    have c := hid c
    go_wp2
    refine bodyPost_ret (v := iv (Z, Y)) (by simp [results, Try.results11, go_sem]) rfl ⟨(z, y), ⟨oz.out, oy.out, by have := c.out; dsimp only; omega⟩, ⟨z1.out, y2.out⟩, ?_, ?_⟩
    · rw [← hY.out, ← hZ.out]; rfl
    · exact ((Below.refl _ _).alloc (Nat.le_refl _) _)
  · rw [decide_eq_false c] at f1
    have c := hid c
    go_wp2
    refine bodyPost_ret (v := iv (Y, Z)) (by simp [results, Try.results11, go_sem]) rfl ⟨(y, z), ⟨oy.out, oz.out, by have := c.out; dsimp only; omega⟩, ⟨y1.out, z2.out⟩, ?_, ?_⟩
    · rw [← hY.out, ← hZ.out]; rfl
    · exact ((Below.refl _ _).alloc (Nat.le_refl _) _)

/-- The interval of one number. -/
theorem point_any (z : Int) (w : World) (hz : Dy.ok z) :
    Calls Try.prog 46 #[.float .f64 (Dy.enc z)] w fun e w' => e = .returned (iv (Dy.E (z, z))) ∧ Below w.heap.size w w' := by
  have d1 : ∀ t w, (binOp .add t (.float .f64 (Dy.enc z)) (.float .f64 0)).run Try.prog w = .ok (.float .f64 (Dy.enc z)) w := fun t w => run_float_arith w .add t .f64 _ _ _ (Dy.add_zero hz)
  clear hz
  show Calls Try.prog 46 #[.float .f64 (Dy.enc z)] w fun e w' => e = .returned (iv (Dy.enc z, Dy.enc z)) ∧ Below w.heap.size w w'
  generalize Dy.enc z = Z at *
  go_enter Try.func46, Try.ntmps46
  go_wp2
  exact bodyPost_ret (v := iv (Z, Z)) (by simp [results, Try.results46, go_sem]) rfl ⟨rfl, (Below.refl _ _).alloc (Nat.le_refl _) _⟩

theorem p07_any (z : Int) (w : World) (hz : Dy.ok z) :
    Calls Try.prog 14 #[.float .f64 (Dy.enc z)] w fun e w' => e = .returned (iv (Dy.E (z, z))) ∧ Below w.heap.size w w' := by
  have H := hid (fun w => point_any z w hz)
  clear hz
  show Calls Try.prog 14 #[.float .f64 (Dy.enc z)] w fun e w' => e = .returned (iv (Dy.enc z, Dy.enc z)) ∧ Below w.heap.size w w'
  have hE : Dy.E (z, z) = (Dy.enc z, Dy.enc z) := rfl
  rw [hE] at H
  clear hE
  generalize Dy.enc z = Z at *
  go_enter Try.func14, Try.ntmps14
  go_wp2_with fail
  refine (H.out _).mono ?_
  rintro e w1 ⟨rfl, b1⟩
  have c0 : w1.cell? ⟨w.heap.size, 0, none⟩ = some (.float .f64 0) := carry b1 (by simp) (by simp [go_sem])
  have c1 : w1.cell? ⟨w.heap.size, 1, none⟩ = some (.float .f64 0) := carry b1 (by simp) (by simp [go_sem])
  have f0 : w1.frozen? ⟨w.heap.size, 0, none⟩ = false := (b1.frozen (p := ⟨w.heap.size, 0, none⟩) (by simp)).trans (by simp [go_sem])
  have f1 : w1.frozen? ⟨w.heap.size, 1, none⟩ = false := (b1.frozen (p := ⟨w.heap.size, 1, none⟩) (by simp)).trans (by simp [go_sem])
  go_wp2_with fail
  exact bodyPost_ret (v := iv (Z, Z)) (by simp [results, Try.results14, go_sem, c0, c1]) rfl ⟨rfl, ((((Below.refl _ _).alloc (Nat.le_refl _) _).trans (b1.mono (by simp))).setCell (by simp) _).setCell (by simp) _⟩

/-- Is one within another one? -/
theorem in_any (p q : Int × Int) (w : World) (hp : Dy.Rk p) (hq : Dy.Rk q) :
    Calls Try.prog 15 #[iv (Dy.E p), iv (Dy.E q)] w fun e w' => e = .returned (.bool (decide (q.1 ≤ p.1) && decide (p.2 ≤ q.2))) ∧ Below w.heap.size w w' := by
  have g1 := Dy.fle_dec hq.w1 hp.w1 hq.r1 hp.r1
  have g2 := Dy.fle_dec hp.w2 hq.w2 hp.r2 hq.r2
  rw [hp.d1, hq.d1] at g1
  rw [hp.d2, hq.d2] at g2
  rw [← g1, ← g2]
  generalize Dy.E p = a at *
  generalize Dy.E q = b at *
  clear hp hq
  obtain ⟨a1, a2⟩ := a
  obtain ⟨b1, b2⟩ := b
  dsimp only at *
  clear g1 g2
  generalize h1 : (Dy.flt b1 a1 || Dy.feq b1 a1) = r1
  generalize h2 : (Dy.flt a2 b2 || Dy.feq a2 b2) = r2
  cases r1
  · clear h2
    go_enter Try.func15, Try.ntmps15
    go_wp2
    go_ret
    exact ⟨rfl, (((Below.refl _ _).alloc (Nat.le_refl _) _).alloc (by simp) _)⟩
  · go_enter Try.func15, Try.ntmps15
    go_wp2
    go_ret
    exact ⟨rfl, (((Below.refl _ _).alloc (Nat.le_refl _) _).alloc (by simp) _)⟩

/-- Have two a number in common? -/
theorem meets_any (p q : Int × Int) (w : World) (hp : Dy.Rk p) (hq : Dy.Rk q) :
    Calls Try.prog 32 #[iv (Dy.E p), iv (Dy.E q)] w fun e w' => e = .returned (.bool (decide (p.1 ≤ q.2) && decide (q.1 ≤ p.2))) ∧ Below w.heap.size w w' := by
  have g1 := Dy.fle_dec hp.w1 hq.w2 hp.r1 hq.r2
  have g2 := Dy.fle_dec hq.w1 hp.w2 hq.r1 hp.r2
  rw [hp.d1, hq.d2] at g1
  rw [hp.d2, hq.d1] at g2
  rw [← g1, ← g2]
  generalize Dy.E p = a at *
  generalize Dy.E q = b at *
  clear hp hq
  obtain ⟨a1, a2⟩ := a
  obtain ⟨b1, b2⟩ := b
  dsimp only at *
  clear g1 g2
  generalize h1 : (Dy.flt a1 b2 || Dy.feq a1 b2) = r1
  generalize h2 : (Dy.flt b1 a2 || Dy.feq b1 a2) = r2
  cases r1
  · clear h2
    go_enter Try.func32, Try.ntmps32
    go_wp2
    go_ret
    exact ⟨rfl, (((Below.refl _ _).alloc (Nat.le_refl _) _).alloc (by simp) _)⟩
  · go_enter Try.func32, Try.ntmps32
    go_wp2
    go_ret
    exact ⟨rfl, (((Below.refl _ _).alloc (Nat.le_refl _) _).alloc (by simp) _)⟩
end Go.Proofs.Ythfgdhobldejmaa
