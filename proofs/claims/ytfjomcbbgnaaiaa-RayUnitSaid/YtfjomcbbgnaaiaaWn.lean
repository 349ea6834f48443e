/- Walks: dir.Sqrt. -/
import Derived.Test.YtfjomcbbgnaaiaaWm
import Derived.Test.YtfjomcbbgnaaiaaDyO
import Derived.LoopTactic
import Derived.Deep.LoopGhost
namespace Go.Proofs.Ytfjomcbbgnaaiaa
open Go.RowKit

/-- What holds at the head of a round: the digits, and the wide number where it was. -/
def SqInv (H : Nat) (w0 : World) (N R : Nat) (p q : Int) (a b : Value) (w : World) : Prop :=
  ∃ X B : Nat, a = .int .u64 (X : Int) ∧ b = .int .u64 (B : Int) ∧ Hid (Dy.SqAt N R X B) ∧ Dy.W X ∧ Dy.W B ∧
    w.cell? ⟨H, 0, none⟩ = some (.int .u64 p) ∧ w.cell? ⟨H, 1, none⟩ = some (.int .u64 q) ∧ Hid (Below H w0 w) ∧ H < w.heap.size

/-- The comparison of the two wide numbers is the comparison of what they are. -/
theorem sq_more {M K p q N X : Nat} {g : Int} {up : Bool} {r : Nat × Int} (h : Dy.Wide M K N) (h2 : Dy.Wide p q (X * X)) (hr : Dy.rnd false X (decide (X * X ≠ N)) g up = r) :
    Dy.rnd false X (!((p : Int) == (M : Int)) || !((q : Int) == (K : Int))) g up = r := by
  rw [← hr]
  congr 1
  have e := Dy.wd_inj h2.hl h.hl (h := p) (h' := M)
  rw [h2.eq, h.eq] at e
  by_cases hc : X * X = N
  · obtain ⟨h1, h3⟩ := e.1 hc
    subst h1 h3
    simp [hc]
  · have hn : ¬ (p = M ∧ q = K) := fun h => hc (e.2 h)
    have e1 : decide (X * X ≠ N) = true := by simpa using hc
    rw [e1]
    by_cases h1 : p = M
    · have h3 : ¬ ((q : Int) = (K : Int)) := fun h => hn ⟨h1, by omega⟩
      simp [h3]
    · have h3 : ¬ ((p : Int) = (M : Int)) := by omega
      simp [h3]

set_option maxRecDepth 100000 in
set_option maxHeartbeats 1000000 in
theorem sqrt_even (a : Nat) (up : Bool) (w : World) (ha : Dy.W a) (h1 : Dy.right a = true) (h2 : Dy.flt a 0 = false) (h3 : Dy.feq a 0 = false) (hp : a < 2 ^ 63)
    (hpar : (Dy.pe a - Dy.lz (Dy.pm a) - 64) % 2 = 0) :
    Calls Try.prog 27 #[.float .f64 a, .bool up] w fun e w' => e = .returned (.tuple #[.float .f64 (Dy.dSqrt a up).1, .int .i64 (Dy.dSqrt a up).2]) ∧ Below w.heap.size w w' := by
  have HA := hid (fun w => parts_any a w ha)
  have hz0 : a ≠ 0 := by
    intro h; rw [h] at h3; revert h3; decide
  have HO := Dy.sq_out (up := up) ha h1 hp hz0
  have hN : Dy.sqN (Dy.pm a) (Dy.pe a) = Dy.nm (Dy.pm a) * 2 ^ 64 := by unfold Dy.sqN; rw [if_neg (by omega)]
  have hE : Dy.sqE (Dy.pm a) (Dy.pe a) = (Dy.pe a - Dy.lz (Dy.pm a) - 64) / 2 := by unfold Dy.sqE; rw [if_neg (by omega)]
  rw [hN, hE] at HO
  clear hN hE
  obtain ⟨na1, na2, na3⟩ := Dy.nm_bounds (Dy.pm_ne ha h1 hz0) (Dy.pm_lt a)
  have ma := Dy.pm_lt a
  have ba := Dy.pe_bounds a
  clear hz0
  generalize Dy.sgn a = sa at *
  generalize Dy.pm a = m at *
  generalize Dy.pe a = e at *
  have hm : Dy.W m := by unfold Dy.W; omega
  have ZA := hid (fun w => leadingZeros64_any m w hm)
  have sA : IntKind.u64.wrap ((m : Int) * 2 ^ Dy.lz m) = (Dy.nm m : Int) := shlK na2.lt
  change Hid (∀ w, Calls Try.prog 71 _ w fun e w' => e = .returned (.int .i64 (Dy.lz m : Nat)) ∧ w = w') at ZA
  generalize Dy.nm m = M at *
  generalize Dy.lz m = i at *
  generalize Dy.dSqrt a up = r at *
  have hNW : Dy.Wide M 0 (M * 2 ^ 64) := ⟨na2, W0, by unfold Dy.wd; omega⟩
  have hSt := hid (Dy.sqAt_start (N := M * 2 ^ 64) (by have := na2.lt; omega))
  have HOO := hid HO
  clear na1 HO
  obtain ⟨g, hg⟩ : ∃ g : Int, e - i - 64 = 2 * g := ⟨(e - i - 64) / 2, by omega⟩
  have ht1 : (2 * g).tmod 2 = 0 := by rw [Int.mul_tmod_right]
  have ht2 : (2 * g).tdiv 2 = g := Int.mul_tdiv_cancel_left _ (by omega)
  have ht3 : (2 * g) / 2 = g := by omega
  rw [hg, ht3] at HOO
  clear hpar ht3
  go_enter Try.func27, Try.ntmps27
  go_wp2_with (go_at_call 25; refine (right_any _ _ (by assumption)).mono ?_; rintro e w' ⟨rfl, rfl⟩)
  refine (HA.out _).mono ?_
  rintro e' w1 ⟨rfl, rfl⟩
  go_wp2_with fail
  refine (ZA.out _).mono ?_
  rintro e' w1 ⟨rfl, rfl⟩
  go_wp2_with fail
  go_loopw [11, 12] (fun a b wr => SqInv w.heap.size w (M * 2 ^ 64) (Dy.isq (M * 2 ^ 64)) M 0 a b wr) (fun _ b _ => (intOf b).toNat)
  case atStart =>
    exact ⟨0, 9223372036854775808, rfl, rfl, hSt, W0, by unfold Dy.W; omega, by simp [go_sem], by simp [go_sem], hid ((Below.refl _ _).alloc (Nat.le_refl _) _), by simp⟩
  case round =>
    obtain ⟨X, B, rfl, rfl, hS, hX, hB, c0, c1, hBel, hsz⟩ := hrel
    by_cases hb0 : B = 0
    · have hXR := hid (Dy.sqAt_end (R := Dy.isq (M * 2 ^ 64)) (N := M * 2 ^ 64) (X := X) (by have := hS.out; rwa [hb0] at this))
      rw [← hXR.out] at HOO
      have hg1 : -5000 ≤ g := by omega
      have hg2 : g ≤ 5000 := by omega
      have ht4 : IntKind.i64.wrap g = g := IntWalk.i64_in _ (by omega)
      clear hS hg hSt ZA HA sA ba na3 ma hm h1 h2 h3
      go_wp2_with fail
      go_region_held3 (fun w' => w'.cell? ⟨w.heap.size, 0, none⟩ = some (.int .u64 (M : Int)) ∧ w'.cell? ⟨w.heap.size, 1, none⟩ = some (.int .u64 0))
        (refine ⟨?_, ?_⟩ <;> first | (simp [go_sem, c0, c1]; done) | (rw [hc _ _ (by first | omega | (simp; omega))]; simp [go_sem, c0, c1]; done) | (rw [hc2 _ _ (by first | omega | (simp; omega))]; simp [go_sem, k0, k1]; done))
        (first
          | (go_at_call 74; refine (square_any _ _ hX).mono ?_; rintro e w1 ⟨p', q', rfl, r1, hb⟩; obtain ⟨hc, hf⟩ := bcell hb; have hz := hb.size; simp at hz; have k0 : w1.cell? ⟨w.heap.size, 0, none⟩ = some (.int .u64 (M : Int)) := by rw [hc _ _ (by first | omega | (simp; omega))]; simp [go_sem, c0]
             have k1 : w1.cell? ⟨w.heap.size, 1, none⟩ = some (.int .u64 0) := by rw [hc _ _ (by first | omega | (simp; omega))]; simp [go_sem, c1])
          | (go_at_call 56; refine (rounded_to false _ up 0 X g _ W0 hX hg1 hg2 (Dy.wd_zero X) (sq_more hNW r1 HOO.out)).mono ?_; rintro e w2 ⟨rfl, hb2⟩; obtain ⟨hc2, hf2⟩ := bcell hb2; have hz2 := hb2.size; try simp at hz2))
      go_wp2
      go_ret2
      exact ⟨rfl, (hBel.out.drew.trans (hb.mono (by simp; omega))).trans (hb2.mono (by omega))⟩
    · have hb1 : 0 < B := by omega
      have hor := orN hX hB
      have hWor := Dy.sqAt_or hS.out hb1
      have hin := hid (Dy.sqAt_in hS.out hb1)
      have hout := hid (Dy.sqAt_out hS.out hb1)
      clear hb0
      generalize hU : (X ||| B) = U at *
      clear hU
      go_wp2_with fail
      go_region_held3 (fun w' => w'.cell? ⟨w.heap.size, 0, none⟩ = some (.int .u64 (M : Int)) ∧ w'.cell? ⟨w.heap.size, 1, none⟩ = some (.int .u64 0))
        (refine ⟨?_, ?_⟩ <;> first | (simp [go_sem, c0, c1]; done) | (rw [hc _ _ (by first | omega | (simp; omega))]; simp [go_sem, c0, c1]; done) | (rw [hc2 _ _ (by first | omega | (simp; omega))]; simp [go_sem, k0, k1]; done))
        (first
          | (go_at_call 74; refine (square_any _ _ hWor).mono ?_; rintro e w1 ⟨p', q', rfl, r1, hb⟩; obtain ⟨hc, hf⟩ := bcell hb; have hz := hb.size; simp at hz; have k0 : w1.cell? ⟨w.heap.size, 0, none⟩ = some (.int .u64 (M : Int)) := by rw [hc _ _ (by first | omega | (simp; omega))]; simp [go_sem, c0]
             have k1 : w1.cell? ⟨w.heap.size, 1, none⟩ = some (.int .u64 0) := by rw [hc _ _ (by first | omega | (simp; omega))]; simp [go_sem, c1])
          | (go_at_call 73; refine (wideLess_any _ 0 _ _ _ hNW.hl r1.hl).mono ?_; rintro e w2 ⟨rfl, hb2⟩; obtain ⟨hc2, hf2⟩ := bcell hb2; have hz2 := hb2.size; try simp at hz2))
      have k2 : w2.cell? ⟨w.heap.size, 0, none⟩ = some (.int .u64 (M : Int)) := by rw [hc2 _ _ (by first | omega | (simp; omega))]; simp [go_sem, k0]
      have k3 : w2.cell? ⟨w.heap.size, 1, none⟩ = some (.int .u64 0) := by rw [hc2 _ _ (by first | omega | (simp; omega))]; simp [go_sem, k1]
      clear hc hf hc2 hf2 k0 k1 c0 c1
      have hBel2 : Below w.heap.size w w2 := (hBel.out.drew.trans (hb.mono (by simp; omega))).trans (hb2.mono (by omega))
      have hB2 : Dy.W (B / 2) := by have := hB.lt; unfold Dy.W; omega
      by_cases hlt : Dy.wd M 0 < Dy.wd p' q'
      · have hn := hid (hout.out (by have := hlt; rw [hNW.eq, r1.eq] at this; exact this))
        have hd1 : (!decide (Dy.wd M 0 < Dy.wd p' q')) = false := by rw [decide_eq_true hlt]; rfl
        clear hlt
        go_wp2
        · rename_i hc; rw [hd1] at hc; cases hc
        refine ⟨⟨X, B / 2, rfl, by rw [Int.natCast_ediv]; rfl, hn, hX, hB2, k2, k3, hid hBel2, by omega⟩, ?_⟩
        show ((B : Int) / 2).toNat < (B : Int).toNat
        omega
      · have hn := hid (hin.out (by have := hlt; rw [hNW.eq, r1.eq] at this; omega))
        have hd1 : (!decide (Dy.wd M 0 < Dy.wd p' q')) = true := by rw [decide_eq_false hlt]; rfl
        clear hlt
        go_wp2
        · refine ⟨⟨U, B / 2, rfl, by rw [Int.natCast_ediv]; rfl, hn, hWor, hB2, k2, k3, hid hBel2, by omega⟩, ?_⟩
          show ((B : Int) / 2).toNat < (B : Int).toNat
          omega
        · rename_i hc; rw [hd1] at hc; cases hc
set_option maxRecDepth 100000 in
set_option maxHeartbeats 1000000 in
theorem sqrt_odd (a : Nat) (up : Bool) (w : World) (ha : Dy.W a) (h1 : Dy.right a = true) (h2 : Dy.flt a 0 = false) (h3 : Dy.feq a 0 = false) (hp : a < 2 ^ 63)
    (hpar : (Dy.pe a - Dy.lz (Dy.pm a) - 64) % 2 ≠ 0) :
    Calls Try.prog 27 #[.float .f64 a, .bool up] w fun e w' => e = .returned (.tuple #[.float .f64 (Dy.dSqrt a up).1, .int .i64 (Dy.dSqrt a up).2]) ∧ Below w.heap.size w w' := by
  have HA := hid (fun w => parts_any a w ha)
  have hz0 : a ≠ 0 := by
    intro h; rw [h] at h3; revert h3; decide
  have HO := Dy.sq_out (up := up) ha h1 hp hz0
  have hN : Dy.sqN (Dy.pm a) (Dy.pe a) = Dy.nm (Dy.pm a) * 2 ^ 63 := by unfold Dy.sqN; rw [if_pos (by omega)]
  have hE : Dy.sqE (Dy.pm a) (Dy.pe a) = (Dy.pe a - Dy.lz (Dy.pm a) - 64 + 1) / 2 := by unfold Dy.sqE; rw [if_pos (by omega)]
  rw [hN, hE] at HO
  clear hN hE
  obtain ⟨na1, na2, na3⟩ := Dy.nm_bounds (Dy.pm_ne ha h1 hz0) (Dy.pm_lt a)
  have ma := Dy.pm_lt a
  have ba := Dy.pe_bounds a
  clear hz0
  generalize Dy.sgn a = sa at *
  generalize Dy.pm a = m at *
  generalize Dy.pe a = e at *
  have hm : Dy.W m := by unfold Dy.W; omega
  have ZA := hid (fun w => leadingZeros64_any m w hm)
  have sA : IntKind.u64.wrap ((m : Int) * 2 ^ Dy.lz m) = (Dy.nm m : Int) := shlK na2.lt
  change Hid (∀ w, Calls Try.prog 71 _ w fun e w' => e = .returned (.int .i64 (Dy.lz m : Nat)) ∧ w = w') at ZA
  generalize Dy.nm m = M at *
  generalize Dy.lz m = i at *
  generalize Dy.dSqrt a up = r at *
  have hSt := hid (Dy.sqAt_start (N := M * 2 ^ 63) (by have := na2.lt; omega))
  have HOO := hid HO
  clear na1 HO
  obtain ⟨g, hg⟩ : ∃ g : Int, e - i - 64 + 1 = 2 * g := ⟨(e - i - 64 + 1) / 2, by omega⟩
  have ht0 : ((e - i - 64).tmod 2 != 0) = true := by
    have : (e - i - 64).tmod 2 ≠ 0 := fun h => by have := Int.dvd_of_tmod_eq_zero h; omega
    simpa using this
  have ht2 : (2 * g).tdiv 2 = g := Int.mul_tdiv_cancel_left _ (by omega)
  have ht3 : (2 * g) / 2 = g := by omega
  rw [hg, ht3] at HOO
  clear hpar ht3
  go_enter Try.func27, Try.ntmps27
  go_wp2_with (go_at_call 25; refine (right_any _ _ (by assumption)).mono ?_; rintro e w' ⟨rfl, rfl⟩)
  refine (HA.out _).mono ?_
  rintro e' w1 ⟨rfl, rfl⟩
  go_wp2_with fail
  refine (ZA.out _).mono ?_
  rintro e' w1 ⟨rfl, rfl⟩
  go_wp2_with fail
  refine (wideDown_any M 0 1 _ na2 W0 (by omega)).mono ?_
  rintro e' w1 ⟨p0, q0, rfl, hNW', hb1⟩
  have hNW : Dy.Wide p0 q0 (M * 2 ^ 63) := by
    have e63 : Dy.wd M 0 / 2 ^ (1 : Int).toNat = M * 2 ^ 63 := by
      have : (1 : Int).toNat = 1 := rfl
      rw [this]; unfold Dy.wd; omega
    rw [e63] at hNW'; exact hNW'
  obtain ⟨hc1, hf1⟩ := bcell hb1
  have hz1 : w.heap.size < w1.heap.size := by have := hb1.size; simp at this; omega
  have g0 : w1.cell? ⟨w.heap.size, 0, none⟩ = some (.int .u64 (M : Int)) := by rw [hc1 _ _ (by simp)]; simp [go_sem]
  have g1 : w1.cell? ⟨w.heap.size, 1, none⟩ = some (.int .u64 0) := by rw [hc1 _ _ (by simp)]; simp [go_sem]
  have f0 : w1.frozen? ⟨w.heap.size, 0, none⟩ = false := by rw [hf1 _ _ (by simp)]; simp [go_sem]
  have f1 : w1.frozen? ⟨w.heap.size, 1, none⟩ = false := by rw [hf1 _ _ (by simp)]; simp [go_sem]
  have hB1 : Below w.heap.size w w1 := ((Below.refl _ _).alloc (Nat.le_refl _) _).trans (hb1.mono (by simp))
  have HB1 := hid hB1
  clear hc1 hf1 hb1 hB1 hNW'
  go_wp2_with fail
  go_loopw [11, 12] (fun a b wr => SqInv w.heap.size w (M * 2 ^ 63) (Dy.isq (M * 2 ^ 63)) p0 (q0 : Int) a b wr) (fun _ b _ => (intOf b).toNat)
  case atStart =>
    exact ⟨0, 9223372036854775808, rfl, rfl, hSt, W0, by unfold Dy.W; omega, by simp [go_sem, *], by simp [go_sem, *], hid ((HB1.out.setCell (by simp) _).setCell (by simp) _), by simpa using hz1⟩
  case round =>
    obtain ⟨X, B, rfl, rfl, hS, hX, hB, c0, c1, hBel, hsz⟩ := hrel
    by_cases hb0 : B = 0
    · have hXR := hid (Dy.sqAt_end (R := Dy.isq (M * 2 ^ 63)) (N := M * 2 ^ 63) (X := X) (by have := hS.out; rwa [hb0] at this))
      rw [← hXR.out] at HOO
      have hg1 : -5000 ≤ g := by omega
      have hg2 : g ≤ 5000 := by omega
      have ht4 : IntKind.i64.wrap g = g := IntWalk.i64_in _ (by omega)
      clear hS hg hSt ZA HA sA ba na3 ma hm h1 h2 h3
      go_wp2_with fail
      go_region_held3 (fun w' => w'.cell? ⟨w.heap.size, 0, none⟩ = some (.int .u64 (p0 : Int)) ∧ w'.cell? ⟨w.heap.size, 1, none⟩ = some (.int .u64 (q0 : Int)))
        (refine ⟨?_, ?_⟩ <;> first | (simp [go_sem, c0, c1]; done) | (rw [hc _ _ (by first | omega | (simp; omega))]; simp [go_sem, c0, c1]; done) | (rw [hc2 _ _ (by first | omega | (simp; omega))]; simp [go_sem, k0, k1]; done))
        (first
          | (go_at_call 74; refine (square_any _ _ hX).mono ?_; rintro e w1 ⟨p', q', rfl, r1, hb⟩; obtain ⟨hc, hf⟩ := bcell hb; have hz := hb.size; simp at hz; have k0 : w1.cell? ⟨w.heap.size, 0, none⟩ = some (.int .u64 (p0 : Int)) := by rw [hc _ _ (by first | omega | (simp; omega))]; simp [go_sem, c0]
             have k1 : w1.cell? ⟨w.heap.size, 1, none⟩ = some (.int .u64 (q0 : Int)) := by rw [hc _ _ (by first | omega | (simp; omega))]; simp [go_sem, c1])
          | (go_at_call 56; refine (rounded_to false _ up 0 X g _ W0 hX hg1 hg2 (Dy.wd_zero X) (sq_more hNW r1 HOO.out)).mono ?_; rintro e w2 ⟨rfl, hb2⟩; obtain ⟨hc2, hf2⟩ := bcell hb2; have hz2 := hb2.size; try simp at hz2))
      go_wp2
      go_ret2
      exact ⟨rfl, (hBel.out.drew.trans (hb.mono (by simp; omega))).trans (hb2.mono (by omega))⟩
    · have hb1 : 0 < B := by omega
      have hor := orN hX hB
      have hWor := Dy.sqAt_or hS.out hb1
      have hin := hid (Dy.sqAt_in hS.out hb1)
      have hout := hid (Dy.sqAt_out hS.out hb1)
      clear hb0
      generalize hU : (X ||| B) = U at *
      clear hU
      go_wp2_with fail
      go_region_held3 (fun w' => w'.cell? ⟨w.heap.size, 0, none⟩ = some (.int .u64 (p0 : Int)) ∧ w'.cell? ⟨w.heap.size, 1, none⟩ = some (.int .u64 (q0 : Int)))
        (refine ⟨?_, ?_⟩ <;> first | (simp [go_sem, c0, c1]; done) | (rw [hc _ _ (by first | omega | (simp; omega))]; simp [go_sem, c0, c1]; done) | (rw [hc2 _ _ (by first | omega | (simp; omega))]; simp [go_sem, k0, k1]; done))
        (first
          | (go_at_call 74; refine (square_any _ _ hWor).mono ?_; rintro e w1 ⟨p', q', rfl, r1, hb⟩; obtain ⟨hc, hf⟩ := bcell hb; have hz := hb.size; simp at hz; have k0 : w1.cell? ⟨w.heap.size, 0, none⟩ = some (.int .u64 (p0 : Int)) := by rw [hc _ _ (by first | omega | (simp; omega))]; simp [go_sem, c0]
             have k1 : w1.cell? ⟨w.heap.size, 1, none⟩ = some (.int .u64 (q0 : Int)) := by rw [hc _ _ (by first | omega | (simp; omega))]; simp [go_sem, c1])
          | (go_at_call 73; refine (wideLess_any _ q0 _ _ _ hNW.hl r1.hl).mono ?_; rintro e w2 ⟨rfl, hb2⟩; obtain ⟨hc2, hf2⟩ := bcell hb2; have hz2 := hb2.size; try simp at hz2))
      have k2 : w2.cell? ⟨w.heap.size, 0, none⟩ = some (.int .u64 (p0 : Int)) := by rw [hc2 _ _ (by first | omega | (simp; omega))]; simp [go_sem, k0]
      have k3 : w2.cell? ⟨w.heap.size, 1, none⟩ = some (.int .u64 (q0 : Int)) := by rw [hc2 _ _ (by first | omega | (simp; omega))]; simp [go_sem, k1]
      clear hc hf hc2 hf2 k0 k1 c0 c1
      have hBel2 : Below w.heap.size w w2 := (hBel.out.drew.trans (hb.mono (by simp; omega))).trans (hb2.mono (by omega))
      have hB2 : Dy.W (B / 2) := by have := hB.lt; unfold Dy.W; omega
      by_cases hlt : Dy.wd p0 q0 < Dy.wd p' q'
      · have hn := hid (hout.out (by have := hlt; rw [hNW.eq, r1.eq] at this; exact this))
        have hd1 : (!decide (Dy.wd p0 q0 < Dy.wd p' q')) = false := by rw [decide_eq_true hlt]; rfl
        clear hlt
        go_wp2
        · rename_i hc; rw [hd1] at hc; cases hc
        refine ⟨⟨X, B / 2, rfl, by rw [Int.natCast_ediv]; rfl, hn, hX, hB2, k2, k3, hid hBel2, by omega⟩, ?_⟩
        show ((B : Int) / 2).toNat < (B : Int).toNat
        omega
      · have hn := hid (hin.out (by have := hlt; rw [hNW.eq, r1.eq] at this; omega))
        have hd1 : (!decide (Dy.wd p0 q0 < Dy.wd p' q')) = true := by rw [decide_eq_false hlt]; rfl
        clear hlt
        go_wp2
        · refine ⟨⟨U, B / 2, rfl, by rw [Int.natCast_ediv]; rfl, hn, hWor, hB2, k2, k3, hid hBel2, by omega⟩, ?_⟩
          show ((B : Int) / 2).toNat < (B : Int).toNat
          omega
        · rename_i hc; rw [hd1] at hc; cases hc
end Go.Proofs.Ytfjomcbbgnaaiaa
