/- Walks: dir.Add, dir.Sub, dir.Next. -/
import Derived.Test.YtinhbebjlbnejaaDoorKd
import Derived.Test.YtinhbebjlbnejaaDoorKa
/- Walks: dir.Add, dir.Sub. (By a program: genWi.py.) -/
namespace Go.Proofs.YtinhbebjlbnejaaDoor
open Go.RowKit

theorem W0 : Dy.W 0 := by unfold Dy.W; omega
theorem W1 : Dy.W 1 := by unfold Dy.W; omega
theorem wide_up {m : Nat} (h : m < 2 ^ 53) : Dy.Wide m 0 (m * 2 ^ 64) := ⟨by unfold Dy.W; omega, W0, by unfold Dy.wd; omega⟩
theorem wide_one : Dy.Wide 0 1 1 := ⟨W0, W1, rfl⟩
theorem wd_up (m : Nat) : Dy.wd m 0 = m * 2 ^ 64 := by unfold Dy.wd; omega
theorem low_lt {n d : Nat} (h : n < 2 ^ 53) : n * 2 ^ 64 / 2 ^ d < 2 ^ 117 := Nat.lt_of_le_of_lt (Nat.div_le_self _ _) (by omega)

/-- Down of what stands in the upper word. -/
theorem down_up (n : Nat) (k : Int) (w : World) (hn : n < 2 ^ 53) (h0 : 0 ≤ k) :
    Calls Tryd.prog 50 #[wv n 0, .int .i64 k] w fun e w' => ∃ p q, e = .returned (.tuple #[wv p q, .bool (Dy.lost (n * 2 ^ 64) k.toNat)]) ∧ Dy.Wide p q (Dy.low n k.toNat) ∧ Below w.heap.size w w' := by
  have h := wideDown_any n 0 k w (by unfold Dy.W; omega) W0 h0
  rw [wd_up] at h
  exact h

set_option maxRecDepth 100000 in
set_option maxHeartbeats 400000 in
theorem add_wrong (a b : Nat) (up : Bool) (w : World) (ha : Dy.W a) (hb : Dy.W b) (h : Dy.right a = false ∨ Dy.right b = false) :
    Calls Tryd.prog 36 #[.float .f64 a, .float .f64 b, .bool up] w fun e w' => e = .returned (.tuple #[.float .f64 0, .int .i64 13]) ∧ w = w' := by
  cases h1 : Dy.right a
  · clear h
    go_enter Tryd.func36, Tryd.ntmps36
    go_wp2_with (go_at_call 38; refine (right_any _ _ (by assumption)).mono ?_; rintro e w' ⟨rfl, rfl⟩)
    go_ret2
    exact ⟨rfl, rfl⟩
  · have h2 : Dy.right b = false := by rw [h1] at h; simpa using h
    clear h
    go_enter Tryd.func36, Tryd.ntmps36
    go_wp2_with (go_at_call 38; refine (right_any _ _ (by assumption)).mono ?_; rintro e w' ⟨rfl, rfl⟩)
    go_ret2
    exact ⟨rfl, rfl⟩

set_option maxRecDepth 100000 in
set_option maxHeartbeats 2000000 in
theorem add_gt (a b : Nat) (up : Bool) (w : World) (ha : Dy.W a) (hb : Dy.W b) (h1 : Dy.right a = true) (h2 : Dy.right b = true) (hfe : Dy.pe b < Dy.pe a) :
    Calls Tryd.prog 36 #[.float .f64 a, .float .f64 b, .bool up] w fun e w' => e = .returned (.tuple #[.float .f64 (Dy.dAdd a b up).1, .int .i64 (Dy.dAdd a b up).2]) ∧ Below w.heap.size w w' := by
  have HO := hid (Dy.sum_straight (up := up) ha hb h1 h2 (by unfold Dy.swapped; omega))
  have ma := Dy.pm_lt a
  have mb := Dy.pm_lt b
  have ba := Dy.pe_bounds a
  have bb := Dy.pe_bounds b
  have HA := hid (fun w => parts_any a w ha)
  have HB := hid (fun w => parts_any b w hb)
  generalize Dy.sgn a = sa at *
  generalize Dy.sgn b = sb at *
  generalize Dy.pm a = ma' at *
  generalize Dy.pm b = mb' at *
  generalize Dy.pe a = ea at *
  generalize Dy.pe b = eb at *
  generalize Dy.dAdd a b up = r at *
  have hd0 : 0 ≤ ea - eb := by omega
  have hg := wide_up ma
  go_enter Tryd.func36, Tryd.ntmps36
  go_wp2_with (go_at_call 38; refine (right_any _ _ (by assumption)).mono ?_; rintro e w' ⟨rfl, rfl⟩)
  refine (HA.out _).mono ?_
  rintro e' w1 ⟨rfl, rfl⟩
  go_wp2_with fail
  refine (HB.out _).mono ?_
  rintro e' w1 ⟨rfl, rfl⟩
  go_wp2_with fail
  refine (down_up mb' (ea - eb) _ mb hd0).mono ?_
  rintro e' w1 ⟨p, q, rfl, hpq, hb1⟩
  have hB1 : Below w.heap.size w w1 := ((Below.refl _ _).alloc (Nat.le_refl _) _).trans (hb1.mono (by simp))
  obtain ⟨hc1, _hf1⟩ := bcell hb1
  have hz1 : w.heap.size < w1.heap.size := by have := hb1.size; simp at this; omega
  have g0 : w1.cell? ⟨w.heap.size, 0, none⟩ = some (.int .u64 (ma' : Nat)) := by rw [hc1 _ _ (by simp)]; simp [go_sem]
  have g1 : w1.cell? ⟨w.heap.size, 1, none⟩ = some (.int .u64 0) := by rw [hc1 _ _ (by simp)]; simp [go_sem]
  clear hc1
  obtain ⟨L, hL⟩ : ∃ L, Dy.lost (mb' * 2 ^ 64) (ea - eb).toNat = L := ⟨_, rfl⟩
  have hlow : Dy.low mb' (ea - eb).toNat < 2 ^ 117 := low_lt mb
  have HL := hid hL
  rw [hL]
  clear hL hb1
  by_cases hs : sa = sb
  · subst hs
    go_wp2_with fail
    refine (wideAdd_any _ _ _ _ _ _ _ hg hpq (by omega)).mono ?_
    rintro e' w2 ⟨p2, q2, rfl, hw2, hb2⟩
    obtain ⟨hc2, hf2⟩ := bcell hb2
    have hz2 := hb2.size
    simp at hz2
    have HR := HO.out.same rfl
    rw [HL.out] at HR
    have HRR := hid HR
    clear HR
    go_wp2_with fail
    refine (rounded_to _ _ up _ _ _ _ hw2.hh hw2.hl (by omega) (by omega) hw2.eq HRR.out).mono ?_
    rintro e' w3 ⟨rfl, hb3⟩
    go_wp2
    go_ret2
    exact ⟨rfl, (((((hB1.alloc (by omega) _).alloc (by simp; omega) _).trans (hb2.mono (by simp; omega))).setCell (by simp; omega) _).setCell (by simp; omega) _).trans (hb3.mono (by simp; omega))⟩
  · have hs2 : (sa == sb) = false := by simpa using hs
    cases L
    · have HRR := hid (HO.out.diff hs HL.out)
      have hle := HO.out.two.diff_facts.1
      clear hs
      go_wp2_with fail
      refine (wideSub_any _ _ _ _ _ _ _ hg hpq hle).mono ?_
      rintro e' w2 ⟨p2, q2, rfl, hw2, hb2⟩
      obtain ⟨hc2, hf2⟩ := bcell hb2
      have hz2 := hb2.size
      simp at hz2
      go_wp2_with fail
      refine (rounded_to _ _ up _ _ _ _ hw2.hh hw2.hl (by omega) (by omega) hw2.eq HRR.out).mono ?_
      rintro e' w3 ⟨rfl, hb3⟩
      go_wp2
      go_ret2
      exact ⟨rfl, (((((hB1.alloc (by omega) _).alloc (by simp; omega) _).trans (hb2.mono (by simp; omega))).setCell (by simp; omega) _).setCell (by simp; omega) _).trans (hb3.mono (by simp; omega))⟩
    · have HRR := hid (HO.out.less hs HL.out)
      have hle := HO.out.two.diff_facts.1
      have hlt := HO.out.two.diff_facts.2.1 HL.out
      clear hs
      go_wp2_with fail
      refine (wideSub_any _ _ _ _ _ _ _ hg hpq hle).mono ?_
      rintro e' w2 ⟨p2, q2, rfl, hw2, hb2⟩
      obtain ⟨hc2, hf2⟩ := bcell hb2
      have hz2 := hb2.size
      simp at hz2
      have g0 : w2.cell? ⟨w1.heap.size + 1, 0, none⟩ = some (.bool sa) := by rw [hc2 _ _ (by simp)]; simp [go_sem]
      have g1 : w2.cell? ⟨w1.heap.size + 1, 1, none⟩ = some (.int .u64 0) := by rw [hc2 _ _ (by simp)]; simp [go_sem]
      have g2 : w2.cell? ⟨w1.heap.size + 1, 2, none⟩ = some (.int .u64 0) := by rw [hc2 _ _ (by simp)]; simp [go_sem]
      have g3 : w2.cell? ⟨w1.heap.size + 1, 3, none⟩ = some (.bool true) := by rw [hc2 _ _ (by simp)]; simp [go_sem]
      have g4 : w2.cell? ⟨w1.heap.size + 1, 4, none⟩ = some (.int .i64 (ea - 64)) := by rw [hc2 _ _ (by simp)]; simp [go_sem]
      have f1 : w2.frozen? ⟨w1.heap.size + 1, 1, none⟩ = false := by rw [hf2 _ _ (by simp)]; simp [go_sem]
      have f2 : w2.frozen? ⟨w1.heap.size + 1, 2, none⟩ = false := by rw [hf2 _ _ (by simp)]; simp [go_sem]
      clear hc2 hf2
      have hB2 : Below w.heap.size w w2 := ((hB1.alloc (by omega) _).alloc (by simp; omega) _).trans (hb2.mono (by simp; omega))
      clear hb2 hB1
      go_wp2_with fail
      refine (wideSub_any _ _ 0 1 _ 1 _ hw2 wide_one (by omega)).mono ?_
      rintro e' w3 ⟨p3, q3, rfl, hw3, hb3⟩
      obtain ⟨hc3, hf3⟩ := bcell hb3
      have hz3 := hb3.size
      have k0 : w3.cell? ⟨w1.heap.size + 1, 0, none⟩ = some (.bool sa) := by rw [hc3 _ _ (by omega), g0]
      have k1 : w3.cell? ⟨w1.heap.size + 1, 1, none⟩ = some (.int .u64 0) := by rw [hc3 _ _ (by omega), g1]
      have k2 : w3.cell? ⟨w1.heap.size + 1, 2, none⟩ = some (.int .u64 0) := by rw [hc3 _ _ (by omega), g2]
      have k3 : w3.cell? ⟨w1.heap.size + 1, 3, none⟩ = some (.bool true) := by rw [hc3 _ _ (by omega), g3]
      have k4 : w3.cell? ⟨w1.heap.size + 1, 4, none⟩ = some (.int .i64 (ea - 64)) := by rw [hc3 _ _ (by omega), g4]
      have l1 : w3.frozen? ⟨w1.heap.size + 1, 1, none⟩ = false := by rw [hf3 _ _ (by omega), f1]
      have l2 : w3.frozen? ⟨w1.heap.size + 1, 2, none⟩ = false := by rw [hf3 _ _ (by omega), f2]
      clear hc3 hf3 g0 g1 g2 g3 g4 f1 f2
      go_wp2_with fail
      refine (rounded_to _ _ up _ _ _ _ hw3.hh hw3.hl (by omega) (by omega) hw3.eq HRR.out).mono ?_
      rintro e' w4 ⟨rfl, hb4⟩
      go_wp2
      go_ret2
      exact ⟨rfl, (((hB2.trans (hb3.mono (by omega))).setCell (by simp; omega) _).setCell (by simp; omega) _).trans (hb4.mono (by simp; omega))⟩

set_option maxRecDepth 100000 in
set_option maxHeartbeats 2000000 in
theorem add_lt (a b : Nat) (up : Bool) (w : World) (ha : Dy.W a) (hb : Dy.W b) (h1 : Dy.right a = true) (h2 : Dy.right b = true) (hfe : Dy.pe a < Dy.pe b) :
    Calls Tryd.prog 36 #[.float .f64 a, .float .f64 b, .bool up] w fun e w' => e = .returned (.tuple #[.float .f64 (Dy.dAdd a b up).1, .int .i64 (Dy.dAdd a b up).2]) ∧ Below w.heap.size w w' := by
  have HO := hid (Dy.sum_swapped (up := up) ha hb h1 h2 (by unfold Dy.swapped; omega))
  have ma := Dy.pm_lt a
  have mb := Dy.pm_lt b
  have ba := Dy.pe_bounds a
  have bb := Dy.pe_bounds b
  have HA := hid (fun w => parts_any a w ha)
  have HB := hid (fun w => parts_any b w hb)
  generalize Dy.sgn a = sa at *
  generalize Dy.sgn b = sb at *
  generalize Dy.pm a = ma' at *
  generalize Dy.pm b = mb' at *
  generalize Dy.pe a = ea at *
  generalize Dy.pe b = eb at *
  generalize Dy.dAdd a b up = r at *
  have hd0 : 0 ≤ eb - ea := by omega
  have hg := wide_up mb
  go_enter Tryd.func36, Tryd.ntmps36
  go_wp2_with (go_at_call 38; refine (right_any _ _ (by assumption)).mono ?_; rintro e w' ⟨rfl, rfl⟩)
  refine (HA.out _).mono ?_
  rintro e' w1 ⟨rfl, rfl⟩
  go_wp2_with fail
  refine (HB.out _).mono ?_
  rintro e' w1 ⟨rfl, rfl⟩
  go_wp2_with fail
  refine (down_up ma' (eb - ea) _ ma hd0).mono ?_
  rintro e' w1 ⟨p, q, rfl, hpq, hb1⟩
  have hB1 : Below w.heap.size w w1 := ((Below.refl _ _).alloc (Nat.le_refl _) _).trans (hb1.mono (by simp))
  obtain ⟨hc1, _hf1⟩ := bcell hb1
  have hz1 : w.heap.size < w1.heap.size := by have := hb1.size; simp at this; omega
  have g0 : w1.cell? ⟨w.heap.size, 0, none⟩ = some (.int .u64 (mb' : Nat)) := by rw [hc1 _ _ (by simp)]; simp [go_sem]
  have g1 : w1.cell? ⟨w.heap.size, 1, none⟩ = some (.int .u64 0) := by rw [hc1 _ _ (by simp)]; simp [go_sem]
  clear hc1
  obtain ⟨L, hL⟩ : ∃ L, Dy.lost (ma' * 2 ^ 64) (eb - ea).toNat = L := ⟨_, rfl⟩
  have hlow : Dy.low ma' (eb - ea).toNat < 2 ^ 117 := low_lt ma
  have HL := hid hL
  rw [hL]
  clear hL hb1
  by_cases hs : sb = sa
  · subst hs
    go_wp2_with fail
    refine (wideAdd_any _ _ _ _ _ _ _ hg hpq (by omega)).mono ?_
    rintro e' w2 ⟨p2, q2, rfl, hw2, hb2⟩
    obtain ⟨hc2, hf2⟩ := bcell hb2
    have hz2 := hb2.size
    simp at hz2
    have HR := HO.out.same rfl
    rw [HL.out] at HR
    have HRR := hid HR
    clear HR
    go_wp2_with fail
    refine (rounded_to _ _ up _ _ _ _ hw2.hh hw2.hl (by omega) (by omega) hw2.eq HRR.out).mono ?_
    rintro e' w3 ⟨rfl, hb3⟩
    go_wp2
    go_ret2
    exact ⟨rfl, (((((hB1.alloc (by omega) _).alloc (by simp; omega) _).trans (hb2.mono (by simp; omega))).setCell (by simp; omega) _).setCell (by simp; omega) _).trans (hb3.mono (by simp; omega))⟩
  · have hs2 : (sb == sa) = false := by simpa using hs
    cases L
    · have HRR := hid (HO.out.diff hs HL.out)
      have hle := HO.out.two.diff_facts.1
      clear hs
      go_wp2_with fail
      refine (wideSub_any _ _ _ _ _ _ _ hg hpq hle).mono ?_
      rintro e' w2 ⟨p2, q2, rfl, hw2, hb2⟩
      obtain ⟨hc2, hf2⟩ := bcell hb2
      have hz2 := hb2.size
      simp at hz2
      go_wp2_with fail
      refine (rounded_to _ _ up _ _ _ _ hw2.hh hw2.hl (by omega) (by omega) hw2.eq HRR.out).mono ?_
      rintro e' w3 ⟨rfl, hb3⟩
      go_wp2
      go_ret2
      exact ⟨rfl, (((((hB1.alloc (by omega) _).alloc (by simp; omega) _).trans (hb2.mono (by simp; omega))).setCell (by simp; omega) _).setCell (by simp; omega) _).trans (hb3.mono (by simp; omega))⟩
    · have HRR := hid (HO.out.less hs HL.out)
      have hle := HO.out.two.diff_facts.1
      have hlt := HO.out.two.diff_facts.2.1 HL.out
      clear hs
      go_wp2_with fail
      refine (wideSub_any _ _ _ _ _ _ _ hg hpq hle).mono ?_
      rintro e' w2 ⟨p2, q2, rfl, hw2, hb2⟩
      obtain ⟨hc2, hf2⟩ := bcell hb2
      have hz2 := hb2.size
      simp at hz2
      have g0 : w2.cell? ⟨w1.heap.size + 1, 0, none⟩ = some (.bool sb) := by rw [hc2 _ _ (by simp)]; simp [go_sem]
      have g1 : w2.cell? ⟨w1.heap.size + 1, 1, none⟩ = some (.int .u64 0) := by rw [hc2 _ _ (by simp)]; simp [go_sem]
      have g2 : w2.cell? ⟨w1.heap.size + 1, 2, none⟩ = some (.int .u64 0) := by rw [hc2 _ _ (by simp)]; simp [go_sem]
      have g3 : w2.cell? ⟨w1.heap.size + 1, 3, none⟩ = some (.bool true) := by rw [hc2 _ _ (by simp)]; simp [go_sem]
      have g4 : w2.cell? ⟨w1.heap.size + 1, 4, none⟩ = some (.int .i64 (eb - 64)) := by rw [hc2 _ _ (by simp)]; simp [go_sem]
      have f1 : w2.frozen? ⟨w1.heap.size + 1, 1, none⟩ = false := by rw [hf2 _ _ (by simp)]; simp [go_sem]
      have f2 : w2.frozen? ⟨w1.heap.size + 1, 2, none⟩ = false := by rw [hf2 _ _ (by simp)]; simp [go_sem]
      clear hc2 hf2
      have hB2 : Below w.heap.size w w2 := ((hB1.alloc (by omega) _).alloc (by simp; omega) _).trans (hb2.mono (by simp; omega))
      clear hb2 hB1
      go_wp2_with fail
      refine (wideSub_any _ _ 0 1 _ 1 _ hw2 wide_one (by omega)).mono ?_
      rintro e' w3 ⟨p3, q3, rfl, hw3, hb3⟩
      obtain ⟨hc3, hf3⟩ := bcell hb3
      have hz3 := hb3.size
      have k0 : w3.cell? ⟨w1.heap.size + 1, 0, none⟩ = some (.bool sb) := by rw [hc3 _ _ (by omega), g0]
      have k1 : w3.cell? ⟨w1.heap.size + 1, 1, none⟩ = some (.int .u64 0) := by rw [hc3 _ _ (by omega), g1]
      have k2 : w3.cell? ⟨w1.heap.size + 1, 2, none⟩ = some (.int .u64 0) := by rw [hc3 _ _ (by omega), g2]
      have k3 : w3.cell? ⟨w1.heap.size + 1, 3, none⟩ = some (.bool true) := by rw [hc3 _ _ (by omega), g3]
      have k4 : w3.cell? ⟨w1.heap.size + 1, 4, none⟩ = some (.int .i64 (eb - 64)) := by rw [hc3 _ _ (by omega), g4]
      have l1 : w3.frozen? ⟨w1.heap.size + 1, 1, none⟩ = false := by rw [hf3 _ _ (by omega), f1]
      have l2 : w3.frozen? ⟨w1.heap.size + 1, 2, none⟩ = false := by rw [hf3 _ _ (by omega), f2]
      clear hc3 hf3 g0 g1 g2 g3 g4 f1 f2
      go_wp2_with fail
      refine (rounded_to _ _ up _ _ _ _ hw3.hh hw3.hl (by omega) (by omega) hw3.eq HRR.out).mono ?_
      rintro e' w4 ⟨rfl, hb4⟩
      go_wp2
      go_ret2
      exact ⟨rfl, (((hB2.trans (hb3.mono (by omega))).setCell (by simp; omega) _).setCell (by simp; omega) _).trans (hb4.mono (by simp; omega))⟩

set_option maxRecDepth 100000 in
set_option maxHeartbeats 2000000 in
theorem add_ge (a b : Nat) (up : Bool) (w : World) (ha : Dy.W a) (hb : Dy.W b) (h1 : Dy.right a = true) (h2 : Dy.right b = true) (hfe : Dy.pe b = Dy.pe a) (hmn : Dy.pm b ≤ Dy.pm a) :
    Calls Tryd.prog 36 #[.float .f64 a, .float .f64 b, .bool up] w fun e w' => e = .returned (.tuple #[.float .f64 (Dy.dAdd a b up).1, .int .i64 (Dy.dAdd a b up).2]) ∧ Below w.heap.size w w' := by
  have HO := hid (Dy.sum_straight (up := up) ha hb h1 h2 (by unfold Dy.swapped; omega))
  have ma := Dy.pm_lt a
  have mb := Dy.pm_lt b
  have ba := Dy.pe_bounds a
  have bb := Dy.pe_bounds b
  have HA := hid (fun w => parts_any a w ha)
  have HB := hid (fun w => parts_any b w hb)
  generalize Dy.sgn a = sa at *
  generalize Dy.sgn b = sb at *
  generalize Dy.pm a = ma' at *
  generalize Dy.pm b = mb' at *
  generalize Dy.pe a = ea at *
  generalize Dy.pe b = eb at *
  generalize Dy.dAdd a b up = r at *
  have hq1 : ea ≤ eb := by omega
  have hq2 : eb ≤ ea := by omega
  have hq3 : (eb == ea) = true := by simpa using hfe
  clear hfe
  have hd0 : 0 ≤ ea - eb := by omega
  have hg := wide_up ma
  go_enter Tryd.func36, Tryd.ntmps36
  go_wp2_with (go_at_call 38; refine (right_any _ _ (by assumption)).mono ?_; rintro e w' ⟨rfl, rfl⟩)
  refine (HA.out _).mono ?_
  rintro e' w1 ⟨rfl, rfl⟩
  go_wp2_with fail
  refine (HB.out _).mono ?_
  rintro e' w1 ⟨rfl, rfl⟩
  go_wp2_with fail
  refine (down_up mb' (ea - eb) _ mb hd0).mono ?_
  rintro e' w1 ⟨p, q, rfl, hpq, hb1⟩
  have hB1 : Below w.heap.size w w1 := ((Below.refl _ _).alloc (Nat.le_refl _) _).trans (hb1.mono (by simp))
  obtain ⟨hc1, _hf1⟩ := bcell hb1
  have hz1 : w.heap.size < w1.heap.size := by have := hb1.size; simp at this; omega
  have g0 : w1.cell? ⟨w.heap.size, 0, none⟩ = some (.int .u64 (ma' : Nat)) := by rw [hc1 _ _ (by simp)]; simp [go_sem]
  have g1 : w1.cell? ⟨w.heap.size, 1, none⟩ = some (.int .u64 0) := by rw [hc1 _ _ (by simp)]; simp [go_sem]
  clear hc1
  obtain ⟨L, hL⟩ : ∃ L, Dy.lost (mb' * 2 ^ 64) (ea - eb).toNat = L := ⟨_, rfl⟩
  have hlow : Dy.low mb' (ea - eb).toNat < 2 ^ 117 := low_lt mb
  have HL := hid hL
  rw [hL]
  clear hL hb1
  by_cases hs : sa = sb
  · subst hs
    go_wp2_with fail
    refine (wideAdd_any _ _ _ _ _ _ _ hg hpq (by omega)).mono ?_
    rintro e' w2 ⟨p2, q2, rfl, hw2, hb2⟩
    obtain ⟨hc2, hf2⟩ := bcell hb2
    have hz2 := hb2.size
    simp at hz2
    have HR := HO.out.same rfl
    rw [HL.out] at HR
    have HRR := hid HR
    clear HR
    go_wp2_with fail
    refine (rounded_to _ _ up _ _ _ _ hw2.hh hw2.hl (by omega) (by omega) hw2.eq HRR.out).mono ?_
    rintro e' w3 ⟨rfl, hb3⟩
    go_wp2
    go_ret2
    exact ⟨rfl, (((((hB1.alloc (by omega) _).alloc (by simp; omega) _).trans (hb2.mono (by simp; omega))).setCell (by simp; omega) _).setCell (by simp; omega) _).trans (hb3.mono (by simp; omega))⟩
  · have hs2 : (sa == sb) = false := by simpa using hs
    cases L
    · have HRR := hid (HO.out.diff hs HL.out)
      have hle := HO.out.two.diff_facts.1
      clear hs
      go_wp2_with fail
      refine (wideSub_any _ _ _ _ _ _ _ hg hpq hle).mono ?_
      rintro e' w2 ⟨p2, q2, rfl, hw2, hb2⟩
      obtain ⟨hc2, hf2⟩ := bcell hb2
      have hz2 := hb2.size
      simp at hz2
      go_wp2_with fail
      refine (rounded_to _ _ up _ _ _ _ hw2.hh hw2.hl (by omega) (by omega) hw2.eq HRR.out).mono ?_
      rintro e' w3 ⟨rfl, hb3⟩
      go_wp2
      go_ret2
      exact ⟨rfl, (((((hB1.alloc (by omega) _).alloc (by simp; omega) _).trans (hb2.mono (by simp; omega))).setCell (by simp; omega) _).setCell (by simp; omega) _).trans (hb3.mono (by simp; omega))⟩
    · have HRR := hid (HO.out.less hs HL.out)
      have hle := HO.out.two.diff_facts.1
      have hlt := HO.out.two.diff_facts.2.1 HL.out
      clear hs
      go_wp2_with fail
      refine (wideSub_any _ _ _ _ _ _ _ hg hpq hle).mono ?_
      rintro e' w2 ⟨p2, q2, rfl, hw2, hb2⟩
      obtain ⟨hc2, hf2⟩ := bcell hb2
      have hz2 := hb2.size
      simp at hz2
      have g0 : w2.cell? ⟨w1.heap.size + 1, 0, none⟩ = some (.bool sa) := by rw [hc2 _ _ (by simp)]; simp [go_sem]
      have g1 : w2.cell? ⟨w1.heap.size + 1, 1, none⟩ = some (.int .u64 0) := by rw [hc2 _ _ (by simp)]; simp [go_sem]
      have g2 : w2.cell? ⟨w1.heap.size + 1, 2, none⟩ = some (.int .u64 0) := by rw [hc2 _ _ (by simp)]; simp [go_sem]
      have g3 : w2.cell? ⟨w1.heap.size + 1, 3, none⟩ = some (.bool true) := by rw [hc2 _ _ (by simp)]; simp [go_sem]
      have g4 : w2.cell? ⟨w1.heap.size + 1, 4, none⟩ = some (.int .i64 (ea - 64)) := by rw [hc2 _ _ (by simp)]; simp [go_sem]
      have f1 : w2.frozen? ⟨w1.heap.size + 1, 1, none⟩ = false := by rw [hf2 _ _ (by simp)]; simp [go_sem]
      have f2 : w2.frozen? ⟨w1.heap.size + 1, 2, none⟩ = false := by rw [hf2 _ _ (by simp)]; simp [go_sem]
      clear hc2 hf2
      have hB2 : Below w.heap.size w w2 := ((hB1.alloc (by omega) _).alloc (by simp; omega) _).trans (hb2.mono (by simp; omega))
      clear hb2 hB1
      go_wp2_with fail
      refine (wideSub_any _ _ 0 1 _ 1 _ hw2 wide_one (by omega)).mono ?_
      rintro e' w3 ⟨p3, q3, rfl, hw3, hb3⟩
      obtain ⟨hc3, hf3⟩ := bcell hb3
      have hz3 := hb3.size
      have k0 : w3.cell? ⟨w1.heap.size + 1, 0, none⟩ = some (.bool sa) := by rw [hc3 _ _ (by omega), g0]
      have k1 : w3.cell? ⟨w1.heap.size + 1, 1, none⟩ = some (.int .u64 0) := by rw [hc3 _ _ (by omega), g1]
      have k2 : w3.cell? ⟨w1.heap.size + 1, 2, none⟩ = some (.int .u64 0) := by rw [hc3 _ _ (by omega), g2]
      have k3 : w3.cell? ⟨w1.heap.size + 1, 3, none⟩ = some (.bool true) := by rw [hc3 _ _ (by omega), g3]
      have k4 : w3.cell? ⟨w1.heap.size + 1, 4, none⟩ = some (.int .i64 (ea - 64)) := by rw [hc3 _ _ (by omega), g4]
      have l1 : w3.frozen? ⟨w1.heap.size + 1, 1, none⟩ = false := by rw [hf3 _ _ (by omega), f1]
      have l2 : w3.frozen? ⟨w1.heap.size + 1, 2, none⟩ = false := by rw [hf3 _ _ (by omega), f2]
      clear hc3 hf3 g0 g1 g2 g3 g4 f1 f2
      go_wp2_with fail
      refine (rounded_to _ _ up _ _ _ _ hw3.hh hw3.hl (by omega) (by omega) hw3.eq HRR.out).mono ?_
      rintro e' w4 ⟨rfl, hb4⟩
      go_wp2
      go_ret2
      exact ⟨rfl, (((hB2.trans (hb3.mono (by omega))).setCell (by simp; omega) _).setCell (by simp; omega) _).trans (hb4.mono (by simp; omega))⟩

set_option maxRecDepth 100000 in
set_option maxHeartbeats 2000000 in
theorem add_le (a b : Nat) (up : Bool) (w : World) (ha : Dy.W a) (hb : Dy.W b) (h1 : Dy.right a = true) (h2 : Dy.right b = true) (hfe : Dy.pe b = Dy.pe a) (hmn : Dy.pm a < Dy.pm b) :
    Calls Tryd.prog 36 #[.float .f64 a, .float .f64 b, .bool up] w fun e w' => e = .returned (.tuple #[.float .f64 (Dy.dAdd a b up).1, .int .i64 (Dy.dAdd a b up).2]) ∧ Below w.heap.size w w' := by
  have HO := hid (Dy.sum_swapped (up := up) ha hb h1 h2 (by unfold Dy.swapped; omega))
  have ma := Dy.pm_lt a
  have mb := Dy.pm_lt b
  have ba := Dy.pe_bounds a
  have bb := Dy.pe_bounds b
  have HA := hid (fun w => parts_any a w ha)
  have HB := hid (fun w => parts_any b w hb)
  generalize Dy.sgn a = sa at *
  generalize Dy.sgn b = sb at *
  generalize Dy.pm a = ma' at *
  generalize Dy.pm b = mb' at *
  generalize Dy.pe a = ea at *
  generalize Dy.pe b = eb at *
  generalize Dy.dAdd a b up = r at *
  have hq1 : ea ≤ eb := by omega
  have hq2 : eb ≤ ea := by omega
  have hq3 : (eb == ea) = true := by simpa using hfe
  clear hfe
  have hd0 : 0 ≤ eb - ea := by omega
  have hg := wide_up mb
  go_enter Tryd.func36, Tryd.ntmps36
  go_wp2_with (go_at_call 38; refine (right_any _ _ (by assumption)).mono ?_; rintro e w' ⟨rfl, rfl⟩)
  refine (HA.out _).mono ?_
  rintro e' w1 ⟨rfl, rfl⟩
  go_wp2_with fail
  refine (HB.out _).mono ?_
  rintro e' w1 ⟨rfl, rfl⟩
  go_wp2_with fail
  refine (down_up ma' (eb - ea) _ ma hd0).mono ?_
  rintro e' w1 ⟨p, q, rfl, hpq, hb1⟩
  have hB1 : Below w.heap.size w w1 := ((Below.refl _ _).alloc (Nat.le_refl _) _).trans (hb1.mono (by simp))
  obtain ⟨hc1, _hf1⟩ := bcell hb1
  have hz1 : w.heap.size < w1.heap.size := by have := hb1.size; simp at this; omega
  have g0 : w1.cell? ⟨w.heap.size, 0, none⟩ = some (.int .u64 (mb' : Nat)) := by rw [hc1 _ _ (by simp)]; simp [go_sem]
  have g1 : w1.cell? ⟨w.heap.size, 1, none⟩ = some (.int .u64 0) := by rw [hc1 _ _ (by simp)]; simp [go_sem]
  clear hc1
  obtain ⟨L, hL⟩ : ∃ L, Dy.lost (ma' * 2 ^ 64) (eb - ea).toNat = L := ⟨_, rfl⟩
  have hlow : Dy.low ma' (eb - ea).toNat < 2 ^ 117 := low_lt ma
  have HL := hid hL
  rw [hL]
  clear hL hb1
  by_cases hs : sb = sa
  · subst hs
    go_wp2_with fail
    refine (wideAdd_any _ _ _ _ _ _ _ hg hpq (by omega)).mono ?_
    rintro e' w2 ⟨p2, q2, rfl, hw2, hb2⟩
    obtain ⟨hc2, hf2⟩ := bcell hb2
    have hz2 := hb2.size
    simp at hz2
    have HR := HO.out.same rfl
    rw [HL.out] at HR
    have HRR := hid HR
    clear HR
    go_wp2_with fail
    refine (rounded_to _ _ up _ _ _ _ hw2.hh hw2.hl (by omega) (by omega) hw2.eq HRR.out).mono ?_
    rintro e' w3 ⟨rfl, hb3⟩
    go_wp2
    go_ret2
    exact ⟨rfl, (((((hB1.alloc (by omega) _).alloc (by simp; omega) _).trans (hb2.mono (by simp; omega))).setCell (by simp; omega) _).setCell (by simp; omega) _).trans (hb3.mono (by simp; omega))⟩
  · have hs2 : (sb == sa) = false := by simpa using hs
    cases L
    · have HRR := hid (HO.out.diff hs HL.out)
      have hle := HO.out.two.diff_facts.1
      clear hs
      go_wp2_with fail
      refine (wideSub_any _ _ _ _ _ _ _ hg hpq hle).mono ?_
      rintro e' w2 ⟨p2, q2, rfl, hw2, hb2⟩
      obtain ⟨hc2, hf2⟩ := bcell hb2
      have hz2 := hb2.size
      simp at hz2
      go_wp2_with fail
      refine (rounded_to _ _ up _ _ _ _ hw2.hh hw2.hl (by omega) (by omega) hw2.eq HRR.out).mono ?_
      rintro e' w3 ⟨rfl, hb3⟩
      go_wp2
      go_ret2
      exact ⟨rfl, (((((hB1.alloc (by omega) _).alloc (by simp; omega) _).trans (hb2.mono (by simp; omega))).setCell (by simp; omega) _).setCell (by simp; omega) _).trans (hb3.mono (by simp; omega))⟩
    · have HRR := hid (HO.out.less hs HL.out)
      have hle := HO.out.two.diff_facts.1
      have hlt := HO.out.two.diff_facts.2.1 HL.out
      clear hs
      go_wp2_with fail
      refine (wideSub_any _ _ _ _ _ _ _ hg hpq hle).mono ?_
      rintro e' w2 ⟨p2, q2, rfl, hw2, hb2⟩
      obtain ⟨hc2, hf2⟩ := bcell hb2
      have hz2 := hb2.size
      simp at hz2
      have g0 : w2.cell? ⟨w1.heap.size + 1, 0, none⟩ = some (.bool sb) := by rw [hc2 _ _ (by simp)]; simp [go_sem]
      have g1 : w2.cell? ⟨w1.heap.size + 1, 1, none⟩ = some (.int .u64 0) := by rw [hc2 _ _ (by simp)]; simp [go_sem]
      have g2 : w2.cell? ⟨w1.heap.size + 1, 2, none⟩ = some (.int .u64 0) := by rw [hc2 _ _ (by simp)]; simp [go_sem]
      have g3 : w2.cell? ⟨w1.heap.size + 1, 3, none⟩ = some (.bool true) := by rw [hc2 _ _ (by simp)]; simp [go_sem]
      have g4 : w2.cell? ⟨w1.heap.size + 1, 4, none⟩ = some (.int .i64 (eb - 64)) := by rw [hc2 _ _ (by simp)]; simp [go_sem]
      have f1 : w2.frozen? ⟨w1.heap.size + 1, 1, none⟩ = false := by rw [hf2 _ _ (by simp)]; simp [go_sem]
      have f2 : w2.frozen? ⟨w1.heap.size + 1, 2, none⟩ = false := by rw [hf2 _ _ (by simp)]; simp [go_sem]
      clear hc2 hf2
      have hB2 : Below w.heap.size w w2 := ((hB1.alloc (by omega) _).alloc (by simp; omega) _).trans (hb2.mono (by simp; omega))
      clear hb2 hB1
      go_wp2_with fail
      refine (wideSub_any _ _ 0 1 _ 1 _ hw2 wide_one (by omega)).mono ?_
      rintro e' w3 ⟨p3, q3, rfl, hw3, hb3⟩
      obtain ⟨hc3, hf3⟩ := bcell hb3
      have hz3 := hb3.size
      have k0 : w3.cell? ⟨w1.heap.size + 1, 0, none⟩ = some (.bool sb) := by rw [hc3 _ _ (by omega), g0]
      have k1 : w3.cell? ⟨w1.heap.size + 1, 1, none⟩ = some (.int .u64 0) := by rw [hc3 _ _ (by omega), g1]
      have k2 : w3.cell? ⟨w1.heap.size + 1, 2, none⟩ = some (.int .u64 0) := by rw [hc3 _ _ (by omega), g2]
      have k3 : w3.cell? ⟨w1.heap.size + 1, 3, none⟩ = some (.bool true) := by rw [hc3 _ _ (by omega), g3]
      have k4 : w3.cell? ⟨w1.heap.size + 1, 4, none⟩ = some (.int .i64 (eb - 64)) := by rw [hc3 _ _ (by omega), g4]
      have l1 : w3.frozen? ⟨w1.heap.size + 1, 1, none⟩ = false := by rw [hf3 _ _ (by omega), f1]
      have l2 : w3.frozen? ⟨w1.heap.size + 1, 2, none⟩ = false := by rw [hf3 _ _ (by omega), f2]
      clear hc3 hf3 g0 g1 g2 g3 g4 f1 f2
      go_wp2_with fail
      refine (rounded_to _ _ up _ _ _ _ hw3.hh hw3.hl (by omega) (by omega) hw3.eq HRR.out).mono ?_
      rintro e' w4 ⟨rfl, hb4⟩
      go_wp2
      go_ret2
      exact ⟨rfl, (((hB2.trans (hb3.mono (by omega))).setCell (by simp; omega) _).setCell (by simp; omega) _).trans (hb4.mono (by simp; omega))⟩

theorem add_any (a b : Nat) (up : Bool) (w : World) (ha : Dy.W a) (hb : Dy.W b) :
    Calls Tryd.prog 36 #[.float .f64 a, .float .f64 b, .bool up] w fun e w' => e = .returned (.tuple #[.float .f64 (Dy.dAdd a b up).1, .int .i64 (Dy.dAdd a b up).2]) ∧ Below w.heap.size w w' := by
  cases h1 : Dy.right a
  · rw [Dy.dAdd_wrong (Or.inl h1)]
    exact (add_wrong a b up w ha hb (Or.inl h1)).mono fun e w' h => ⟨h.1, h.2 ▸ Below.refl _ _⟩
  · cases h2 : Dy.right b
    · rw [Dy.dAdd_wrong (Or.inr h2)]
      exact (add_wrong a b up w ha hb (Or.inr h2)).mono fun e w' h => ⟨h.1, h.2 ▸ Below.refl _ _⟩
    · by_cases g : Dy.pe b < Dy.pe a
      · exact add_gt a b up w ha hb h1 h2 g
      · by_cases l : Dy.pe a < Dy.pe b
        · exact add_lt a b up w ha hb h1 h2 l
        · by_cases m : Dy.pm b ≤ Dy.pm a
          · exact add_ge a b up w ha hb h1 h2 (by omega) m
          · exact add_le a b up w ha hb h1 h2 (by omega) (by omega)

end Go.Proofs.YtinhbebjlbnejaaDoor

/- Walks: dir.Next. -/
namespace Go.Proofs.YtinhbebjlbnejaaDoor
open Go.RowKit

end Go.Proofs.YtinhbebjlbnejaaDoor

