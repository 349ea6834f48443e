/- The law CameraMirror: its join . -/
import Derived.Test.YtpnjfinkhafglaaLd2
namespace Go.Proofs.Ytpnjfinkhafglaa
open Go Go.RowKit
set_option linter.unusedSimpArgs false
set_option linter.unusedVariables false
theorem look_at {n i j : Int} {X Y : Nat} (T : there n i j) (hX : partF (2 * i + 1 - n) n.toNat = X) (hY : partF (n - 1 - 2 * j) n.toNat = Y) (mX : Dy.may X = true) (mY : Dy.may Y = true) : pointF n i j = ((X, Y), 0) ∧ lookA n i j = ((Dy.hX X Y, Dy.hZ X Y), (Dy.hits X Y, 0)) := by
  have es : ((n.toNat : Nat) : Int) = n := by have := T.1.1; omega
  constructor
  · unfold pointF; rw [if_pos T, hX, hY]
  · unfold lookA; rw [if_pos T]; unfold lookF; rw [es, hX, hY, Dy.dIn_may mX mY]
theorem cammirror_ok (a b c : Nat) (w : World) (ha : a < 256) (hb : b < 65536) (hc : c < 65536) : Calls Try.prog 3 #[.int .u8 (a : Int), .int .u16 (b : Int), .int .u16 (c : Int)] w fun e w' => e = .returned (.bool true) ∧ Below w.heap.size w w' := by
  obtain ⟨n, hn⟩ : ∃ n : Nat, n = 1 + a := ⟨_, rfl⟩
  obtain ⟨i, hi⟩ : ∃ i : Nat, i = b % n := ⟨_, rfl⟩
  obtain ⟨j, hj⟩ : ∃ j : Nat, j = c % n := ⟨_, rfl⟩
  have li : i < n := by rw [hi]; exact Nat.mod_lt _ (by omega)
  have lj : j < n := by rw [hj]; exact Nat.mod_lt _ (by omega)
  have e0 : IntKind.i64.wrap (a : Int) = (a : Int) := by rw [IntKind.wrap_i64]; omega
  have e1 : IntKind.i64.wrap (1 + (a : Int)) = (n : Int) := by rw [IntKind.wrap_i64]; omega
  have e2 : IntKind.i64.wrap (b : Int) = (b : Int) := by rw [IntKind.wrap_i64]; omega
  have e3 : (b : Int).tmod (n : Int) = (i : Int) := by rw [Int.tmod_eq_emod_of_nonneg (by omega), hi]; simp
  have e5 : IntKind.i64.wrap (c : Int) = (c : Int) := by rw [IntKind.wrap_i64]; omega
  have e6 : (c : Int).tmod (n : Int) = (j : Int) := by rw [Int.tmod_eq_emod_of_nonneg (by omega), hj]; simp
  have e9 : IntKind.i64.wrap ((n : Int) - 1) = (n : Int) - 1 := by rw [IntKind.wrap_i64]; omega
  have e10 : IntKind.i64.wrap ((n : Int) - 1 - i) = (n : Int) - 1 - i := by rw [IntKind.wrap_i64]; omega
  have e11 : IntKind.i64.wrap ((n : Int) - 1 - j) = (n : Int) - 1 - j := by rw [IntKind.wrap_i64]; omega
  obtain ⟨X, hX⟩ : ∃ X, partF (2 * (i : Int) + 1 - n) n = X := ⟨_, rfl⟩
  obtain ⟨Y, hY⟩ : ∃ Y, partF ((n : Int) - 1 - 2 * j) n = Y := ⟨_, rfl⟩
  have mX : Dy.may X = true := by rw [← hX]; exact part_may (by omega) (by omega) (by omega)
  have mY : Dy.may Y = true := by rw [← hY]; exact part_may (by omega) (by omega) (by omega)
  have wX : Dy.W X := by rw [← hX]; exact W_part _ _
  have wY : Dy.W Y := by rw [← hY]; exact W_part _ _
  have hX' : partF (2 * ((n : Int) - 1 - i) + 1 - n) n = Dy.minus X := by rw [← hX, ← part_neg (by omega) (by omega) (by omega)]; congr 1; omega
  have hY' : partF ((n : Int) - 1 - 2 * ((n : Int) - 1 - j)) n = Dy.minus Y := by rw [← hY, ← part_neg (by omega) (by omega) (by omega)]; congr 1; omega
  have hXj : partF (2 * (j : Int) + 1 - n) n = Dy.minus Y := by rw [← hY, ← part_neg (by omega) (by omega) (by omega)]; congr 1; omega
  have hYi : partF ((n : Int) - 1 - 2 * i) n = Dy.minus X := by rw [← hX, ← part_neg (by omega) (by omega) (by omega)]; congr 1; omega
  have rX : Dy.right X = true := (Dy.may_right mX).1
  have rY : Dy.right Y = true := (Dy.may_right mY).1
  obtain ⟨rX', dX', wX'⟩ := Dy.minus_dec wX rX
  obtain ⟨rY', dY', wY'⟩ := Dy.minus_dec wY rY
  have mX' : Dy.may (Dy.minus X) = true := Dy.may_of_dec rX' mX (by rw [dX']; omega)
  have mY' : Dy.may (Dy.minus Y) = true := Dy.may_of_dec rY' mY (by rw [dY']; omega)
  have T0 : there (n : Int) i j := ⟨⟨by omega, by omega⟩, ⟨by omega, by omega⟩, ⟨by omega, by omega⟩⟩
  have T1 : there (n : Int) ((n : Int) - 1 - i) ((n : Int) - 1 - j) := ⟨⟨by omega, by omega⟩, ⟨by omega, by omega⟩, ⟨by omega, by omega⟩⟩
  have T2 : there (n : Int) ((n : Int) - 1 - i) j := ⟨⟨by omega, by omega⟩, ⟨by omega, by omega⟩, ⟨by omega, by omega⟩⟩
  have T3 : there (n : Int) i ((n : Int) - 1 - j) := ⟨⟨by omega, by omega⟩, ⟨by omega, by omega⟩, ⟨by omega, by omega⟩⟩
  have T4 : there (n : Int) j i := ⟨⟨by omega, by omega⟩, ⟨by omega, by omega⟩, ⟨by omega, by omega⟩⟩
  have P0 := look_at T0 hX hY mX mY
  have P1 := look_at T1 hX' hY' mX' mY'
  have P2 := look_at T2 hX' hY mX' mY
  have P3 := look_at T3 hX hY' mX mY'
  have P4 := look_at T4 hXj hYi mY' mX'
  have S2 : Dy.SameHit X Y (Dy.minus X) Y := same_neg mX mY wX wY (.inr rfl) (.inl rfl)
  have S3 : Dy.SameHit X Y X (Dy.minus Y) := same_neg mX mY wX wY (.inl rfl) (.inr rfl)
  have S5 : Dy.SameHit X Y (Dy.minus X) (Dy.minus Y) := same_neg mX mY wX wY (.inr rfl) (.inr rfl)
  have S6 : Dy.SameHit (Dy.minus X) (Dy.minus Y) (Dy.minus Y) (Dy.minus X) := Dy.same_swap mX' mY'
  have zX : Ieee.double.sub 0 (Dy.minus X) = some X := by rw [Dy.zero_sub wX' rX', minus_minus wX rX]
  have zY : Ieee.double.sub 0 (Dy.minus Y) = some Y := by rw [Dy.zero_sub wY' rY', minus_minus wY rY]
  have hh : hitC X Y = ((Dy.hX X Y, Dy.hZ X Y), (Dy.hits X Y, 0)) := by unfold hitC; rw [Dy.dIn_may mX mY]
  have ne : ∀ x : Int, iN [.i x, .i (n : Int)] = true := fun x => decide_eq_true (show (n : Int) ≠ 0 by omega)
  have fn : ∀ x r : Nat, Ieee.double.sub 0 x = some r → Dy.W r → fN Ieee.double.sub [.f 0, .f x] = true := fun x r h hr => by
    show okF (Ieee.double.sub 0 x) = true
    rw [h]; exact decide_eq_true hr.lt
  have fe : ∀ x : Nat, Dy.W x → Dy.right x = true → Dy.fne x x = false := fun x hx rx => by
    have h := Dy.feq_dec hx hx rx rx
    unfold Dy.feq at h
    unfold Dy.fne
    rw [bne, h]; simp
  have w0 : IntKind.i64.wrap (0 + 0) = 0 := by decide
  refine cammirror a b c w e0 e1 e2 e3 (ne _) e5 e6 (ne _) P0.1 e9 e10 e11 P1.1 P0.2 hh w0 w0 w0 rfl (by rw [zX]; rfl) (fn _ _ zX wX) (fe X wX rX) (by rw [zY]; rfl) (fn _ _ zY wY) (fe Y wY rY) (by simp) (by simp) P2.2 rfl (by rw [S2.h]; simp) (by rw [S2.X, S2.Z]; simp) P3.2 rfl (by rw [S3.h]; simp) (by rw [S3.X, S3.Z]; simp) P4.2 rfl (by rw [S6.h, S5.h]; simp) (by rw [S6.X, S6.Z, S5.X, S5.Z]; simp)
end Go.Proofs.Ytpnjfinkhafglaa
