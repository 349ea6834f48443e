/- Walks: bits.Div64, dir.Div, dir.Sqrt. -/
import Derived.Test.YtkhplflbcgjkcaaGreatKc
import Derived.Test.YtkhplflbcgjkcaaGreatKa
import Derived.LoopTactic
import Derived.Deep.LoopGhost
import Derived.Test.YtkhplflbcgjkcaaGreatKe
/- Walks: math/bits.Div64, where the divisor's upper bit is set. -/
namespace Go.Proofs.YtkhplflbcgjkcaaGreat
open Go.RowKit
theorem ret_quo {a b c : Int} (h : a = b) : Ending.returned (.tuple #[.int .u64 a, .int .u64 c]) = .returned (.tuple #[.int .u64 b, .int .u64 c]) := by rw [h]
def DivInv (y1 h qt : Nat) (a b : Value) : Prop := ∃ Q R : Int, a = .int .u64 Q ∧ b = .int .u64 R ∧ 0 ≤ Q ∧ 0 ≤ R ∧ Hid (Q.toNat * y1 + R.toNat = h) ∧ (qt : Int) ≤ Q ∧ Q ≤ 4294967297 ∧ R < 4294967296
set_option maxRecDepth 100000 in
set_option maxHeartbeats 4000000 in
theorem div64_any (h l y : Nat) (w : World) (hl : Dy.W l) (hy : Dy.W y) (hy2 : 9223372036854775808 ≤ y) (hh : h < y) (h0 : 0 < h) :
  Calls Tryz.prog 159 #[.int .u64 (h : Int), .int .u64 (l : Int), .int .u64 (y : Int)] w fun e w' => e = .returned (.tuple #[.int .u64 (Dy.quo64 h l y : Nat), .int .u64 (Dy.rem64 h l y : Nat)]) ∧ w = w' := by
 have hlz : Dy.blen y = 64 := by
  have a := (Dy.blen_le (x := y) (k := 64)).2 hy.lt
  have b := (Dy.lt_blen (x := y) (k := 63)).2 hy2
  omega
 have HZ := hid (fun w => leadingZeros64_any y w hy)
 rw [hlz] at HZ
 clear hlz
 have hlW := hl.lt
 have hyW := hy.lt
 have hwy : IntKind.u64.wrap (y : Int) = (y : Int) := IntWalk.u64_in _ (by omega)
 have hwh : IntKind.u64.wrap (h : Int) = (h : Int) := IntWalk.u64_in _ (by omega)
 have hwl : IntKind.u64.wrap (l : Int) = (l : Int) := IntWalk.u64_in _ (by omega)
 obtain ⟨y1, hy1⟩ : ∃ y1, y1 = y / 4294967296 := ⟨_, rfl⟩
 obtain ⟨y0, hy0⟩ : ∃ y0, y0 = y % 4294967296 := ⟨_, rfl⟩
 obtain ⟨l1, hl1⟩ : ∃ l1, l1 = l / 4294967296 := ⟨_, rfl⟩
 obtain ⟨l0, hl0⟩ : ∃ l0, l0 = l % 4294967296 := ⟨_, rfl⟩
 have ey1 : (y : Int) / 4294967296 = (y1 : Int) := by rw [hy1]; omega
 have ey0 : bits .and .u64 (y : Int) 4294967295 = (y0 : Int) := by rw [hy0]; exact maskN y hyW
 have el1 : (l : Int) / 4294967296 = (l1 : Int) := by rw [hl1]; omega
 have el0 : bits .and .u64 (l : Int) 4294967295 = (l0 : Int) := by rw [hl0]; exact maskN l hlW
 have elz : (l : Int) / 18446744073709551616 = 0 := by omega
 have eor : bits .or .u64 (h : Int) 0 = (h : Int) := by
  have := u64_or_nat h 0 (by omega) (by omega)
  rw [Nat.or_zero] at this
  exact this
 obtain ⟨Q0, hQ0⟩ : ∃ Q0, Q0 = h / y1 := ⟨_, rfl⟩
 have hy1a : 2147483648 ≤ y1 := by omega
 have hy1b : y1 < 4294967296 := by omega
 have hy0b : y0 < 4294967296 := by omega
 have hl1b : l1 < 4294967296 := by omega
 have hl0b : l0 < 4294967296 := by omega
 obtain ⟨qt, hqt⟩ : ∃ qt, qt = (h * 4294967296 + l1) / y := ⟨_, rfl⟩
 obtain ⟨r1, hr1⟩ : ∃ r1, r1 = (h * 4294967296 + l1) % y := ⟨_, rfl⟩
 have hg := Dy.guess (u := l1) hy2 hyW hh hl1b
 rw [← hy1, ← hqt, ← hQ0] at hg
 have eQ0 : (h : Int) / (y1 : Int) = (Q0 : Int) := by rw [hQ0]; omega
 have hP0 : Q0 * y1 ≤ h := by rw [hQ0]; exact Nat.div_mul_le_self _ _
 obtain ⟨P0, hP0e⟩ : ∃ P0, P0 = Q0 * y1 := ⟨_, rfl⟩
 rw [← hP0e] at hP0
 have eP0 : IntKind.u64.wrap ((Q0 : Int) * (y1 : Int)) = (P0 : Int) := by
  have : (Q0 : Int) * (y1 : Int) = (P0 : Int) := by rw [hP0e]; simp
  rw [this]; exact IntWalk.u64_in _ (by omega)
 obtain ⟨R0, hR0⟩ : ∃ R0, P0 + R0 = h := ⟨h - P0, by omega⟩
 have eR0 : IntKind.u64.wrap ((h : Int) - (P0 : Int)) = (R0 : Int) := (IntWalk.u64_in _ (by omega)).trans (by omega)
 have hR0b : R0 < y1 := by
  have := Nat.mod_lt h (show 0 < y1 by omega)
  have e := Nat.div_add_mod h y1
  rw [← hQ0, Nat.mul_comm] at e
  omega
 have HT := hid (fun Q R => @Dy.guess_test h l1 y Q R hy2 hh hl1b)
 have HS := hid (fun Q R => @Dy.guess_stop h l1 y Q R hy2)
 have HY := hid (And.intro hy1 hy0)
 have HLL := hid (And.intro hl1 hl0)
 have HQ := hid (And.intro hqt hr1)
 have HP := hid hP0e
 clear hy1 hy0 hl1 hl0 hqt hr1 hQ0 hP0e hlW hyW
 have hr1b : r1 < y := by rw [HQ.out.2]; exact Nat.mod_lt _ (by omega)
 obtain ⟨st, hst⟩ : ∃ st, st = (r1 * 4294967296 + l0) / y := ⟨_, rfl⟩
 obtain ⟨r0, hr0⟩ : ∃ r0, r0 = (r1 * 4294967296 + l0) % y := ⟨_, rfl⟩
 have HQ2 := hid (And.intro hst hr0)
 have HT2 := hid (fun Q R => @Dy.guess_test r1 l0 y Q R hy2 hr1b hl0b)
 have HS2 := hid (fun Q R => @Dy.guess_stop r1 l0 y Q R hy2)
 have hyW := hy.lt
 have hg2 := Dy.guess (u := l0) hy2 hyW hr1b hl0b
 rw [← HY.out.1, ← hst] at hg2
 obtain ⟨S0, hS0⟩ : ∃ S0, S0 = r1 / y1 := ⟨_, rfl⟩
 rw [← hS0] at hg2
 have eS0 : (r1 : Int) / (y1 : Int) = (S0 : Int) := by rw [hS0]; omega
 have hP1 : S0 * y1 ≤ r1 := by rw [hS0]; exact Nat.div_mul_le_self _ _
 obtain ⟨P1, hP1e⟩ : ∃ P1, P1 = S0 * y1 := ⟨_, rfl⟩
 rw [← hP1e] at hP1
 have eP1 : IntKind.u64.wrap ((S0 : Int) * (y1 : Int)) = (P1 : Int) := by
  have : (S0 : Int) * (y1 : Int) = (P1 : Int) := by rw [hP1e]; simp
  rw [this]; exact IntWalk.u64_in _ (by omega)
 obtain ⟨T0, hT0⟩ : ∃ T0, P1 + T0 = r1 := ⟨r1 - P1, by omega⟩
 have eT0 : IntKind.u64.wrap ((r1 : Int) - (P1 : Int)) = (T0 : Int) := (IntWalk.u64_in _ (by omega)).trans (by omega)
 have hT0b : T0 < y1 := by
  have := Nat.mod_lt r1 (show 0 < y1 by omega)
  have e := Nat.div_add_mod r1 y1
  rw [← hS0, Nat.mul_comm] at e
  omega
 have HI2 := hid (show (S0 : Int).toNat * y1 + (T0 : Int).toNat = r1 by rw [Int.toNat_natCast, Int.toNat_natCast, ← hP1e]; exact hT0)
 have hd1 := Nat.div_add_mod (h * 4294967296 + l1) y
 rw [← HQ.out.1, ← HQ.out.2, Nat.mul_comm] at hd1
 have HU1 : Hid (IntKind.u64.wrap (IntKind.u64.wrap (IntKind.u64.wrap ((h : Int) * 4294967296) + (l1 : Int)) - IntKind.u64.wrap ((qt : Int) * (y : Int))) = (r1 : Int)) := by
  refine hid ?_
  rw [← Int.natCast_mul, IntKind.wrap_u64, IntKind.wrap_u64, IntKind.wrap_u64, IntKind.wrap_u64]
  generalize qt * y = A at hd1 ⊢
  omega
 have hd2 := Nat.div_add_mod (r1 * 4294967296 + l0) y
 rw [← hst, ← hr0, Nat.mul_comm] at hd2
 have hr0b : r0 < y := by rw [hr0]; exact Nat.mod_lt _ (by omega)
 have h2d := @Dy.two_digits h l y (by omega)
 rw [← HLL.out.1, ← HLL.out.2, ← HQ.out.1, ← HQ.out.2, ← hst, ← hr0] at h2d
 have hqtb : qt < 4294967296 := by
  rw [HQ.out.1, Nat.div_lt_iff_lt_mul (by omega)]; omega
 have hstb : st < 4294967296 := by
  rw [hst, Nat.div_lt_iff_lt_mul (by omega)]; omega
 have HV1 : Hid ((qt : Int) * 4294967296 + (st : Int) = (Dy.quo64 h l y : Int)) := by
  refine hid ?_
  unfold Dy.quo64
  rw [h2d.1]
  omega
 have HV2 : Hid (IntKind.u64.wrap (IntKind.u64.wrap (IntKind.u64.wrap ((r1 : Int) * 4294967296) + (l0 : Int)) - IntKind.u64.wrap ((st : Int) * (y : Int))) = (Dy.rem64 h l y : Int)) := by
  refine hid ?_
  rw [← Int.natCast_mul, IntKind.wrap_u64, IntKind.wrap_u64, IntKind.wrap_u64, IntKind.wrap_u64]
  unfold Dy.rem64
  rw [h2d.2]
  generalize st * y = A at hd2 ⊢
  omega
 clear hst hr0 hS0 hP1e hT0 hd1 hd2 h2d hyW
 go_enter Tryz.func159, Tryz.ntmps159
 go_wp2_with (go_at_call 158; refine (HZ.out _).mono ?_; rintro e w' ⟨rfl, rfl⟩)
 have HI1 := hid (show (Q0 : Int).toNat * y1 + (R0 : Int).toNat = h by rw [Int.toNat_natCast, Int.toNat_natCast, ← HP.out]; exact hR0)
 have HT1 := HT
 have HS1 := HS
 have HQ1 := HQ
 clear HT HS HQ HZ hR0 eQ0 eP0 eR0 hwy hwh hwl ey1 ey0 el1 el0 elz eor
 go_loop [15, 16] (fun a b => DivInv y1 h qt a b) (fun a _ => (intOf a).toNat)
 case atStart => exact ⟨_, _, rfl, rfl, by omega, by omega, HI1, by omega, by omega, by omega⟩
 case round =>
  obtain ⟨Q, R, rfl, rfl, hQ0, hR0, hQR, hq1, hq2, hR⟩ := hrel
  have hT := HT1.out Q.toNat R.toNat
  rw [← HY.out.1, ← HY.out.2, ← HQ1.out.1] at hT
  obtain ⟨X, hX⟩ : ∃ X, X = Q.toNat * y0 := ⟨_, rfl⟩
  obtain ⟨Z1, hZ1⟩ : ∃ Z1, Z1 = 4294967296 * R.toNat + l1 := ⟨_, rfl⟩
  rw [← hX, ← hZ1] at hT
  have hT1 := hid (hT hQR.out).1
  have hT2 := hid (hT hQR.out).2
  clear hT
  have eX : Q < 4294967296 → IntKind.u64.wrap (Q * (y0 : Int)) = (X : Int) := by
   intro hb
   have h1 : X ≤ 4294967295 * 4294967295 := by rw [hX]; exact Nat.mul_le_mul (by omega) (by omega)
   have h2 : Q * (y0 : Int) = (X : Int) := by rw [hX, Int.natCast_mul, Int.toNat_of_nonneg hQ0]
   rw [h2]; exact IntWalk.u64_in _ (by omega)
  obtain ⟨Z, hZ⟩ : ∃ Z : Int, Z = 4294967296 * R := ⟨_, rfl⟩
  have eZ : IntKind.u64.wrap (4294967296 * R) = Z := (IntWalk.u64_in _ (by omega)).trans hZ.symm
  have eZ1 : IntKind.u64.wrap (Z + (l1 : Int)) = (Z1 : Int) := (IntWalk.u64_in _ (by omega)).trans (by omega)
  clear hX hZ hZ1
  by_cases c : 4294967296 ≤ Q ∨ Z1 < X
  ·have hlt := hT1.out (by omega)
   obtain ⟨Q', hQ'⟩ : ∃ Q', Q' + 1 = Q := ⟨Q - 1, by omega⟩
   obtain ⟨R', hR'⟩ : ∃ R', R' = R + (y1 : Int) := ⟨_, rfl⟩
   have e1 : IntKind.u64.wrap (Q - 1) = Q' := (IntWalk.u64_in _ (by omega)).trans (by omega)
   have e2 : IntKind.u64.wrap (R + (y1 : Int)) = R' := (IntWalk.u64_in _ (by omega)).trans hR'.symm
   have hn : Q'.toNat * y1 + R'.toNat = h := by
    have := hQR.out
    have e3 : Q.toNat = Q'.toNat + 1 := by omega
    rw [e3, Nat.succ_mul] at this
    omega
   have HN := hid hn
   have hb0 : 0 ≤ Q' := by omega
   have hb1 : (qt : Int) ≤ Q' := by omega
   have hb2 : Q' ≤ 4294967296 := by omega
   have hQ'2 : Q' < Q := by omega
   have hR'0 : 0 ≤ R' := by omega
   have hS : 4294967296 ≤ R' → Q' = (qt : Int) := by
    intro hb
    have := HS1.out Q'.toNat R'.toNat
    rw [← HY.out.1, ← HQ1.out.1] at this
    have := this hn (by omega) (by omega)
    omega
   clear hn hQ' hR' hlt
   by_cases c3 : 4294967296 ≤ R'
   ·have hq := hS c3
    clear hS HN hT1 hT2 hb1 hQR
    have eU1 : IntKind.u64.wrap (IntKind.u64.wrap (IntKind.u64.wrap ((h : Int) * 4294967296) + (l1 : Int)) - IntKind.u64.wrap (Q' * (y : Int))) = (r1 : Int) := by rw [hq]; exact HU1.out
    obtain ⟨qq, hqq⟩ : ∃ qq : Int, qq = Q' := ⟨_, rfl⟩
    have HQQ := hid (hqq.trans hq)
    have hq7 : 0 ≤ qq := by rw [HQQ.out]; omega
    have hq8 : qq < 4294967296 := by rw [HQQ.out]; omega
    clear hq
    subst hqq
    by_cases c1 : 4294967296 ≤ Q
    all_goals
     first
      | (have eX2 := eX (by omega); clear eX)
      | clear eX
     have c2 : 4294967296 ≤ Q ∨ Z1 < X := c
     clear c
     try (have c4 : Z1 < X := by omega)
     clear c2
     go_wp2
     go_loop [18, 16] (fun a b => DivInv y1 r1 st a b) (fun a _ => (intOf a).toNat)
     case atStart => exact ⟨_, _, rfl, rfl, by omega, by omega, HI2, by omega, by omega, by omega⟩
     case round =>
      obtain ⟨Q, R, rfl, rfl, hQ0, hR0, hQR, hq1, hq2, hR⟩ := hrel
      have hT := HT2.out Q.toNat R.toNat
      rw [← HY.out.1, ← HY.out.2, ← HQ2.out.1] at hT
      obtain ⟨X, hX⟩ : ∃ X, X = Q.toNat * y0 := ⟨_, rfl⟩
      obtain ⟨Z1, hZ1⟩ : ∃ Z1, Z1 = 4294967296 * R.toNat + l0 := ⟨_, rfl⟩
      rw [← hX, ← hZ1] at hT
      have hT1 := hid (hT hQR.out).1
      have hT2 := hid (hT hQR.out).2
      clear hT
      have eX : Q < 4294967296 → IntKind.u64.wrap (Q * (y0 : Int)) = (X : Int) := by
       intro hb
       have h1 : X ≤ 4294967295 * 4294967295 := by rw [hX]; exact Nat.mul_le_mul (by omega) (by omega)
       have h2 : Q * (y0 : Int) = (X : Int) := by rw [hX, Int.natCast_mul, Int.toNat_of_nonneg hQ0]
       rw [h2]; exact IntWalk.u64_in _ (by omega)
      obtain ⟨Z, hZ⟩ : ∃ Z : Int, Z = 4294967296 * R := ⟨_, rfl⟩
      have eZ : IntKind.u64.wrap (4294967296 * R) = Z := (IntWalk.u64_in _ (by omega)).trans hZ.symm
      have eZ1 : IntKind.u64.wrap (Z + (l0 : Int)) = (Z1 : Int) := (IntWalk.u64_in _ (by omega)).trans (by omega)
      clear hX hZ hZ1
      by_cases c : 4294967296 ≤ Q ∨ Z1 < X
      ·have hlt := hT1.out (by omega)
       obtain ⟨S', hS'⟩ : ∃ S', S' + 1 = Q := ⟨Q - 1, by omega⟩
       obtain ⟨T', hT'⟩ : ∃ T', T' = R + (y1 : Int) := ⟨_, rfl⟩
       have e1 : IntKind.u64.wrap (Q - 1) = S' := (IntWalk.u64_in _ (by omega)).trans (by omega)
       have e2 : IntKind.u64.wrap (R + (y1 : Int)) = T' := (IntWalk.u64_in _ (by omega)).trans hT'.symm
       have hn : S'.toNat * y1 + T'.toNat = r1 := by
        have := hQR.out
        have e3 : Q.toNat = S'.toNat + 1 := by omega
        rw [e3, Nat.succ_mul] at this
        omega
       have HN := hid hn
       have hb0 : 0 ≤ S' := by omega
       have hb1 : (st : Int) ≤ S' := by omega
       have hb2 : S' ≤ 4294967296 := by omega
       have hS'2 : S' < Q := by omega
       have hT'0 : 0 ≤ T' := by omega
       have hS : 4294967296 ≤ T' → S' = (st : Int) := by
        intro hb
        have := HS2.out S'.toNat T'.toNat
        rw [← HY.out.1, ← HQ2.out.1] at this
        have := this hn (by omega) (by omega)
        omega
       clear hn hS' hT' hlt
       by_cases c3 : 4294967296 ≤ T'
       ·have hq := hS c3
        clear hS HN hT1 hT2 hb1 hQR
        have EV1 := hid (show qq * 4294967296 + S' = (Dy.quo64 h l y : Int) by rw [HQQ.out, hq]; exact HV1.out)
        have eV2 : IntKind.u64.wrap (IntKind.u64.wrap (IntKind.u64.wrap ((r1 : Int) * 4294967296) + (l0 : Int)) - IntKind.u64.wrap (S' * (y : Int))) = (Dy.rem64 h l y : Int) := by rw [hq]; exact HV2.out
        have hs7 : 0 ≤ S' := by rw [hq]; omega
        have hs8 : S' < 4294967296 := by rw [hq]; omega
        clear hq
        by_cases c1 : 4294967296 ≤ Q
        all_goals
         first
          | (have eX2 := eX (by omega); clear eX)
          | clear eX
         have c2 : 4294967296 ≤ Q ∨ Z1 < X := c
         clear c
         try (have c4 : Z1 < X := by omega)
         clear c2
         go_wp2
         go_ret2
         exact ⟨ret_quo EV1.out, rfl⟩
       ·clear hS hT1 hT2
        have c4 : T' < 4294967296 := by omega
        clear c3
        by_cases c1 : 4294967296 ≤ Q
        all_goals
         first
          | (have eX2 := eX (by omega); clear eX)
          | clear eX
         have c2 : 4294967296 ≤ Q ∨ Z1 < X := c
         clear c
         try (have c5 : Z1 < X := by omega)
         clear c2
         go_wp2
         go_round
         case rel => exact ⟨S', T', rfl, rfl, hb0, hT'0, HN, hb1, by omega, c4⟩
         case measure => simp [intOf]; omega
      ·have hq : Q = (st : Int) := by have := hT2.out (by omega); omega
       have c1 : Q < 4294967296 := by omega
       have c2 : X ≤ Z1 := by omega
       have eX2 := eX c1
       clear eX hT1 hT2 c hQR
       have EV1 := hid (show qq * 4294967296 + Q = (Dy.quo64 h l y : Int) by rw [HQQ.out, hq]; exact HV1.out)
       have eV2 : IntKind.u64.wrap (IntKind.u64.wrap (IntKind.u64.wrap ((r1 : Int) * 4294967296) + (l0 : Int)) - IntKind.u64.wrap (Q * (y : Int))) = (Dy.rem64 h l y : Int) := by rw [hq]; exact HV2.out
       have hs7 : 0 ≤ Q := by rw [hq]; omega
       have hs8 : Q < 4294967296 := by rw [hq]; omega
       clear hq
       go_wp2
       go_ret2
       exact ⟨ret_quo EV1.out, rfl⟩
   ·clear hS hT1 hT2
    have c4 : R' < 4294967296 := by omega
    clear c3
    by_cases c1 : 4294967296 ≤ Q
    all_goals
     first
      | (have eX2 := eX (by omega); clear eX)
      | clear eX
     have c2 : 4294967296 ≤ Q ∨ Z1 < X := c
     clear c
     try (have c5 : Z1 < X := by omega)
     clear c2
     go_wp2
     go_round
     case rel => exact ⟨Q', R', rfl, rfl, hb0, hR'0, HN, hb1, by omega, c4⟩
     case measure => simp [intOf]; omega
  ·have hq : Q = (qt : Int) := by have := hT2.out (by omega); omega
   have c1 : Q < 4294967296 := by omega
   have c2 : X ≤ Z1 := by omega
   have eX2 := eX c1
   clear eX hT1 hT2 c hQR
   have eU1 : IntKind.u64.wrap (IntKind.u64.wrap (IntKind.u64.wrap ((h : Int) * 4294967296) + (l1 : Int)) - IntKind.u64.wrap (Q * (y : Int))) = (r1 : Int) := by rw [hq]; exact HU1.out
   obtain ⟨qq, hqq⟩ : ∃ qq : Int, qq = Q := ⟨_, rfl⟩
   have HQQ := hid (hqq.trans hq)
   have hq7 : 0 ≤ qq := by rw [HQQ.out]; omega
   have hq8 : qq < 4294967296 := by rw [HQQ.out]; omega
   clear hq
   subst hqq
   go_wp2
   go_loop [18, 16] (fun a b => DivInv y1 r1 st a b) (fun a _ => (intOf a).toNat)
   case atStart => exact ⟨_, _, rfl, rfl, by omega, by omega, HI2, by omega, by omega, by omega⟩
   case round =>
    obtain ⟨Q, R, rfl, rfl, hQ0, hR0, hQR, hq1, hq2, hR⟩ := hrel
    have hT := HT2.out Q.toNat R.toNat
    rw [← HY.out.1, ← HY.out.2, ← HQ2.out.1] at hT
    obtain ⟨X, hX⟩ : ∃ X, X = Q.toNat * y0 := ⟨_, rfl⟩
    obtain ⟨Z1, hZ1⟩ : ∃ Z1, Z1 = 4294967296 * R.toNat + l0 := ⟨_, rfl⟩
    rw [← hX, ← hZ1] at hT
    have hT1 := hid (hT hQR.out).1
    have hT2 := hid (hT hQR.out).2
    clear hT
    have eX : Q < 4294967296 → IntKind.u64.wrap (Q * (y0 : Int)) = (X : Int) := by
     intro hb
     have h1 : X ≤ 4294967295 * 4294967295 := by rw [hX]; exact Nat.mul_le_mul (by omega) (by omega)
     have h2 : Q * (y0 : Int) = (X : Int) := by rw [hX, Int.natCast_mul, Int.toNat_of_nonneg hQ0]
     rw [h2]; exact IntWalk.u64_in _ (by omega)
    obtain ⟨Z, hZ⟩ : ∃ Z : Int, Z = 4294967296 * R := ⟨_, rfl⟩
    have eZ : IntKind.u64.wrap (4294967296 * R) = Z := (IntWalk.u64_in _ (by omega)).trans hZ.symm
    have eZ1 : IntKind.u64.wrap (Z + (l0 : Int)) = (Z1 : Int) := (IntWalk.u64_in _ (by omega)).trans (by omega)
    clear hX hZ hZ1
    by_cases c : 4294967296 ≤ Q ∨ Z1 < X
    ·have hlt := hT1.out (by omega)
     obtain ⟨S', hS'⟩ : ∃ S', S' + 1 = Q := ⟨Q - 1, by omega⟩
     obtain ⟨T', hT'⟩ : ∃ T', T' = R + (y1 : Int) := ⟨_, rfl⟩
     have e1 : IntKind.u64.wrap (Q - 1) = S' := (IntWalk.u64_in _ (by omega)).trans (by omega)
     have e2 : IntKind.u64.wrap (R + (y1 : Int)) = T' := (IntWalk.u64_in _ (by omega)).trans hT'.symm
     have hn : S'.toNat * y1 + T'.toNat = r1 := by
      have := hQR.out
      have e3 : Q.toNat = S'.toNat + 1 := by omega
      rw [e3, Nat.succ_mul] at this
      omega
     have HN := hid hn
     have hb0 : 0 ≤ S' := by omega
     have hb1 : (st : Int) ≤ S' := by omega
     have hb2 : S' ≤ 4294967296 := by omega
     have hS'2 : S' < Q := by omega
     have hT'0 : 0 ≤ T' := by omega
     have hS : 4294967296 ≤ T' → S' = (st : Int) := by
      intro hb
      have := HS2.out S'.toNat T'.toNat
      rw [← HY.out.1, ← HQ2.out.1] at this
      have := this hn (by omega) (by omega)
      omega
     clear hn hS' hT' hlt
     by_cases c3 : 4294967296 ≤ T'
     ·have hq := hS c3
      clear hS HN hT1 hT2 hb1 hQR
      have EV1 := hid (show qq * 4294967296 + S' = (Dy.quo64 h l y : Int) by rw [HQQ.out, hq]; exact HV1.out)
      have eV2 : IntKind.u64.wrap (IntKind.u64.wrap (IntKind.u64.wrap ((r1 : Int) * 4294967296) + (l0 : Int)) - IntKind.u64.wrap (S' * (y : Int))) = (Dy.rem64 h l y : Int) := by rw [hq]; exact HV2.out
      have hs7 : 0 ≤ S' := by rw [hq]; omega
      have hs8 : S' < 4294967296 := by rw [hq]; omega
      clear hq
      by_cases c1 : 4294967296 ≤ Q
      all_goals
       first
        | (have eX2 := eX (by omega); clear eX)
        | clear eX
       have c2 : 4294967296 ≤ Q ∨ Z1 < X := c
       clear c
       try (have c4 : Z1 < X := by omega)
       clear c2
       go_wp2
       go_ret2
       exact ⟨ret_quo EV1.out, rfl⟩
     ·clear hS hT1 hT2
      have c4 : T' < 4294967296 := by omega
      clear c3
      by_cases c1 : 4294967296 ≤ Q
      all_goals
       first
        | (have eX2 := eX (by omega); clear eX)
        | clear eX
       have c2 : 4294967296 ≤ Q ∨ Z1 < X := c
       clear c
       try (have c5 : Z1 < X := by omega)
       clear c2
       go_wp2
       go_round
       case rel => exact ⟨S', T', rfl, rfl, hb0, hT'0, HN, hb1, by omega, c4⟩
       case measure => simp [intOf]; omega
    ·have hq : Q = (st : Int) := by have := hT2.out (by omega); omega
     have c1 : Q < 4294967296 := by omega
     have c2 : X ≤ Z1 := by omega
     have eX2 := eX c1
     clear eX hT1 hT2 c hQR
     have EV1 := hid (show qq * 4294967296 + Q = (Dy.quo64 h l y : Int) by rw [HQQ.out, hq]; exact HV1.out)
     have eV2 : IntKind.u64.wrap (IntKind.u64.wrap (IntKind.u64.wrap ((r1 : Int) * 4294967296) + (l0 : Int)) - IntKind.u64.wrap (Q * (y : Int))) = (Dy.rem64 h l y : Int) := by rw [hq]; exact HV2.out
     have hs7 : 0 ≤ Q := by rw [hq]; omega
     have hs8 : Q < 4294967296 := by rw [hq]; omega
     clear hq
     go_wp2
     go_ret2
     exact ⟨ret_quo EV1.out, rfl⟩
end Go.Proofs.YtkhplflbcgjkcaaGreat
/- Walks: dir.Div. -/
namespace Go.Proofs.YtkhplflbcgjkcaaGreat
open Go.RowKit
theorem shlK {m k : Nat} (_h : m * 2 ^ k < 2 ^ 64) : IntKind.u64.wrap ((m : Int) * 2 ^ k) = ((m * 2 ^ k : Nat) : Int) := by
 rw [IntKind.wrap_u64]
 have : (m : Int) * 2 ^ k = ((m * 2 ^ k : Nat) : Int) := by simp
 rw [this]
 omega
set_option maxRecDepth 100000 in
set_option maxHeartbeats 1000000 in
theorem div_any (a b : Nat) (up : Bool) (w : World) (ha : Dy.W a) (hb : Dy.W b) :
  Calls Tryz.prog 126 #[.float .f64 a, .float .f64 b, .bool up] w fun e w' => e = .returned (.tuple #[.float .f64 (Dy.dDiv a b up).1, .int .i64 (Dy.dDiv a b up).2]) ∧ Below w.heap.size w w' := by
 cases h1 : Dy.right a
 ·have e1 : Dy.dDiv a b up = (0, 13) := by unfold Dy.dDiv; rw [h1]; rfl
  rw [e1]; clear e1
  go_enter Tryz.func126, Tryz.ntmps126
  go_wp2_with (go_at_call 58; refine (right_any _ _ (by assumption)).mono ?_; rintro e w' ⟨rfl, rfl⟩)
  go_ret2
  exact ⟨rfl, Below.refl _ _⟩
 cases h2 : Dy.right b
 ·have e1 : Dy.dDiv a b up = (0, 13) := by unfold Dy.dDiv; rw [h1, h2]; rfl
  rw [e1]; clear e1
  go_enter Tryz.func126, Tryz.ntmps126
  go_wp2_with (go_at_call 58; refine (right_any _ _ (by assumption)).mono ?_; rintro e w' ⟨rfl, rfl⟩)
  go_ret2
  exact ⟨rfl, Below.refl _ _⟩
 have fb := Dy.feq_right hb h2
 have fa := Dy.feq_right ha h1
 by_cases hb0 : b = 0
 ·have e1 : Dy.dDiv a b up = (0, 11) := by unfold Dy.dDiv; rw [h1, h2, if_neg (by decide), if_pos hb0]
  have fb' : Dy.feq b 0 = true := by rw [fb]; exact decide_eq_true hb0
  rw [e1]; clear e1 fb hb0
  go_enter Tryz.func126, Tryz.ntmps126
  go_wp2_with (go_at_call 58; refine (right_any _ _ (by assumption)).mono ?_; rintro e w' ⟨rfl, rfl⟩)
  go_ret2
  exact ⟨rfl, Below.refl _ _⟩
 have fb' : Dy.feq b 0 = false := by rw [fb]; exact decide_eq_false hb0
 clear fb
 by_cases ha0 : a = 0
 ·have e1 : Dy.dDiv a b up = (0, 0) := by
   unfold Dy.dDiv
   rw [h1, h2, if_neg (by decide), if_neg hb0, ha0]
   exact Dy.out_divR_zero _ _
  have fa' : Dy.feq a 0 = true := by rw [fa]; exact decide_eq_true ha0
  rw [e1]; clear e1 fa hb0 ha0
  go_enter Tryz.func126, Tryz.ntmps126
  go_wp2_with (go_at_call 58; refine (right_any _ _ (by assumption)).mono ?_; rintro e w' ⟨rfl, rfl⟩)
  go_ret2
  exact ⟨rfl, Below.refl _ _⟩
 have fa' : Dy.feq a 0 = false := by rw [fa]; exact decide_eq_false ha0
 clear fa
 have HO := hid (Dy.quo_out (up := up) ha hb h1 h2 ha0 hb0)
 have na := Dy.nm_bounds (Dy.pm_ne ha h1 ha0) (Dy.pm_lt a)
 have nb := Dy.nm_bounds (Dy.pm_ne hb h2 hb0) (Dy.pm_lt b)
 have ma := Dy.pm_lt a
 have mb := Dy.pm_lt b
 have ba := Dy.pe_bounds a
 have bb := Dy.pe_bounds b
 have HA := hid (fun w => parts_any a w ha)
 have HB := hid (fun w => parts_any b w hb)
 generalize Dy.sgn a = sa at *
 generalize Dy.sgn b = sb at *
 generalize Dy.pm a = m at *
 generalize Dy.pm b = n at *
 generalize Dy.pe a = e at *
 generalize Dy.pe b = f at *
 generalize Dy.dDiv a b up = r at *
 have hm : Dy.W m := by unfold Dy.W; omega
 have hn : Dy.W n := by unfold Dy.W; omega
 have ZA := hid (fun w => leadingZeros64_any m w hm)
 have ZB := hid (fun w => leadingZeros64_any n w hn)
 have sA : IntKind.u64.wrap ((m : Int) * 2 ^ Dy.lz m) = (Dy.nm m : Int) := shlK na.2.1.lt
 have sB : IntKind.u64.wrap ((n : Int) * 2 ^ Dy.lz n) = (Dy.nm n : Int) := shlK nb.2.1.lt
 obtain ⟨na1, na2, na3⟩ := na
 obtain ⟨nb1, nb2, nb3⟩ := nb
 have hq := (Dy.dq_bounds na1 na2 nb1 nb2).2
 have D := hid (fun w => div64_any (Dy.nm m / 2) (Dy.lo64 (Dy.nm m * 2 ^ 63)) (Dy.nm n) w (Dy.W_lo64 _) nb2 nb1 (by have := na2.lt; omega) (by omega))
 change Hid (∀ w, Calls Tryz.prog 159 _ w fun e w' => e = .returned (.tuple #[.int .u64 (Dy.dq (Dy.nm m) (Dy.nm n) : Nat), .int .u64 (Dy.dr (Dy.nm m) (Dy.nm n) : Nat)]) ∧ w = w') at D
 change Hid (∀ w, Calls Tryz.prog 158 _ w fun e w' => e = .returned (.int .i64 (Dy.lz m : Nat)) ∧ w = w') at ZA
 change Hid (∀ w, Calls Tryz.prog 158 _ w fun e w' => e = .returned (.int .i64 (Dy.lz n : Nat)) ∧ w = w') at ZB
 have d1 : (Dy.nm m : Int) / 2 = ((Dy.nm m / 2 : Nat) : Int) := by omega
 have d2 : IntKind.u64.wrap ((Dy.nm m : Int) * 9223372036854775808) = (Dy.lo64 (Dy.nm m * 2 ^ 63) : Int) := by
  rw [IntKind.wrap_u64]; unfold Dy.lo64; omega
 generalize Dy.dq (Dy.nm m) (Dy.nm n) = x at *
 generalize Dy.dr (Dy.nm m) (Dy.nm n) = y at *
 generalize Dy.nm m / 2 = M1 at *
 generalize Dy.lo64 (Dy.nm m * 2 ^ 63) = M2 at *
 generalize Dy.nm m = M at *
 generalize Dy.nm n = N at *
 generalize Dy.lz m = i at *
 generalize Dy.lz n = k at *
 clear na1 nb1 hb0 ha0
 go_enter Tryz.func126, Tryz.ntmps126
 go_wp2_with (go_at_call 58; refine (right_any _ _ (by assumption)).mono ?_; rintro e w' ⟨rfl, rfl⟩)
 refine (HA.out _).mono ?_
 rintro e' w1 ⟨rfl, rfl⟩
 go_wp2_with fail
 refine (HB.out _).mono ?_
 rintro e' w1 ⟨rfl, rfl⟩
 go_wp2_with fail
 refine (ZA.out _).mono ?_
 rintro e' w1 ⟨rfl, rfl⟩
 go_wp2_with fail
 refine (ZB.out _).mono ?_
 rintro e' w1 ⟨rfl, rfl⟩
 go_wp2_with fail
 go_region
 go_wp2_with fail
 refine (D.out _).mono ?_
 rintro e' w1 ⟨rfl, rfl⟩
 go_wp2_with fail
 refine (rounded_to _ _ up 0 x _ _ W0 hq (by omega) (by omega) (Dy.wd_zero x) (by have := HO.out; revert this; cases sa <;> cases sb <;> exact id)).mono ?_
 rintro e' w1 ⟨rfl, hb1⟩
 go_wp2
 go_ret2
 exact ⟨rfl, (below_drewN (Below.refl _ _) 1).trans hb1⟩
end Go.Proofs.YtkhplflbcgjkcaaGreat
/- Walks: dir.Sqrt. -/
namespace Go.Proofs.YtkhplflbcgjkcaaGreat
open Go.RowKit
def SqInv (H : Nat) (w0 : World) (N R : Nat) (p q : Int) (a b : Value) (w : World) : Prop :=
 ∃ X B : Nat, a = .int .u64 (X : Int) ∧ b = .int .u64 (B : Int) ∧ Hid (Dy.SqAt N R X B) ∧ Dy.W X ∧ Dy.W B ∧
  w.cell? ⟨H, 0, none⟩ = some (.int .u64 p) ∧ w.cell? ⟨H, 1, none⟩ = some (.int .u64 q) ∧ Hid (Below H w0 w) ∧ H < w.heap.size
theorem sq_more {M K p q N X : Nat} {g : Int} {up : Bool} {r : Nat × Int} (h : Dy.Wide M K N) (h2 : Dy.Wide p q (X * X)) (hr : Dy.rnd false X (decide (X * X ≠ N)) g up = r) :
  Dy.rnd false X (!((p : Int) == (M : Int)) || !((q : Int) == (K : Int))) g up = r := by
 rw [← hr]
 congr 1
 have e := Dy.wd_inj h2.hl h.hl (h := p) (h' := M)
 rw [h2.eq, h.eq] at e
 by_cases hc : X * X = N
 ·obtain ⟨h1, h3⟩ := e.1 hc
  subst h1 h3
  simp [hc]
 ·have hn : ¬ (p = M ∧ q = K) := fun h => hc (e.2 h)
  have e1 : decide (X * X ≠ N) = true := by simpa using hc
  rw [e1]
  by_cases h1 : p = M
  ·have h3 : ¬ ((q : Int) = (K : Int)) := fun h => hn ⟨h1, by omega⟩
   simp [h3]
  ·have h3 : ¬ ((p : Int) = (M : Int)) := by omega
   simp [h3]
set_option maxRecDepth 100000 in
set_option maxHeartbeats 1000000 in
theorem sqrt_even (a : Nat) (up : Bool) (w : World) (ha : Dy.W a) (h1 : Dy.right a = true) (h2 : Dy.flt a 0 = false) (h3 : Dy.feq a 0 = false) (hp : a < 2 ^ 63)
  (hpar : (Dy.pe a - Dy.lz (Dy.pm a) - 64) % 2 = 0) :
  Calls Tryz.prog 131 #[.float .f64 a, .bool up] w fun e w' => e = .returned (.tuple #[.float .f64 (Dy.dSqrt a up).1, .int .i64 (Dy.dSqrt a up).2]) ∧ Below w.heap.size w w' := by
 have HA := hid (fun w => parts_any a w ha)
 have hz0 : a ≠ 0 := by
  intro h; rw [h] at h3; revert h3; decide
 have HO := Dy.sq_out (up := up) ha h1 hp hz0
 have hN : Dy.sqN (Dy.pm a) (Dy.pe a) = Dy.nm (Dy.pm a) * 2 ^ 64 := by unfold Dy.sqN; rw [if_neg (by omega)]
 have hE : Dy.sqE (Dy.pm a) (Dy.pe a) = (Dy.pe a - Dy.lz (Dy.pm a) - 64) / 2 := by unfold Dy.sqE; rw [if_neg (by omega)]
 rw [hN, hE] at HO
 clear hN hE
 obtain ⟨na1, na2, na3⟩ := Dy.nm_bounds (Dy.pm_ne ha h1 hz0) (Dy.pm_lt a)
 have ma := Dy.pm_lt a
 have ba := Dy.pe_bounds a
 clear hz0
 generalize Dy.sgn a = sa at *
 generalize Dy.pm a = m at *
 generalize Dy.pe a = e at *
 have hm : Dy.W m := by unfold Dy.W; omega
 have ZA := hid (fun w => leadingZeros64_any m w hm)
 have sA : IntKind.u64.wrap ((m : Int) * 2 ^ Dy.lz m) = (Dy.nm m : Int) := shlK na2.lt
 change Hid (∀ w, Calls Tryz.prog 158 _ w fun e w' => e = .returned (.int .i64 (Dy.lz m : Nat)) ∧ w = w') at ZA
 generalize Dy.nm m = M at *
 generalize Dy.lz m = i at *
 generalize Dy.dSqrt a up = r at *
 have hNW : Dy.Wide M 0 (M * 2 ^ 64) := ⟨na2, W0, by unfold Dy.wd; omega⟩
 have hSt := hid (Dy.sqAt_start (N := M * 2 ^ 64) (by have := na2.lt; omega))
 have HOO := hid HO
 clear na1 HO
 obtain ⟨g, hg⟩ : ∃ g : Int, e - i - 64 = 2 * g := ⟨(e - i - 64) / 2, by omega⟩
 have ht1 : (2 * g).tmod 2 = 0 := by rw [Int.mul_tmod_right]
 have ht2 : (2 * g).tdiv 2 = g := Int.mul_tdiv_cancel_left _ (by omega)
 have ht3 : (2 * g) / 2 = g := by omega
 rw [hg, ht3] at HOO
 clear hpar ht3
 go_enter Tryz.func131, Tryz.ntmps131
 go_wp2_with (go_at_call 58; refine (right_any _ _ (by assumption)).mono ?_; rintro e w' ⟨rfl, rfl⟩)
 refine (HA.out _).mono ?_
 rintro e' w1 ⟨rfl, rfl⟩
 go_wp2_with fail
 refine (ZA.out _).mono ?_
 rintro e' w1 ⟨rfl, rfl⟩
 go_wp2_with fail
 go_loopw [11, 12] (fun a b wr => SqInv w.heap.size w (M * 2 ^ 64) (Dy.isq (M * 2 ^ 64)) M 0 a b wr) (fun _ b _ => (intOf b).toNat)
 case atStart =>
  exact ⟨0, 9223372036854775808, rfl, rfl, hSt, W0, by unfold Dy.W; omega, by simp [go_sem], by simp [go_sem], hid ((Below.refl _ _).alloc (Nat.le_refl _) _), by simp⟩
 case round =>
  obtain ⟨X, B, rfl, rfl, hS, hX, hB, c0, c1, hBel, hsz⟩ := hrel
  by_cases hb0 : B = 0
  ·have hXR := hid (Dy.sqAt_end (R := Dy.isq (M * 2 ^ 64)) (N := M * 2 ^ 64) (X := X) (by have := hS.out; rwa [hb0] at this))
   rw [← hXR.out] at HOO
   have hg1 : -5000 ≤ g := by omega
   have hg2 : g ≤ 5000 := by omega
   have ht4 : IntKind.i64.wrap g = g := IntWalk.i64_in _ (by omega)
   clear hS hg hSt ZA HA sA ba na3 ma hm h1 h2 h3
   go_wp2_with fail
   go_region_held3 (fun w' => w'.cell? ⟨w.heap.size, 0, none⟩ = some (.int .u64 (M : Int)) ∧ w'.cell? ⟨w.heap.size, 1, none⟩ = some (.int .u64 0))
    (refine ⟨?_, ?_⟩ <;> first | (simp [go_sem, c0, c1]; done) | (rw [hc _ _ (by first | omega | (simp; omega))]; simp [go_sem, c0, c1]; done) | (rw [hc2 _ _ (by first | omega | (simp; omega))]; simp [go_sem, k0, k1]; done))
    (first
     | (go_at_call 162; refine (square_any _ _ hX).mono ?_; rintro e w1 ⟨p', q', rfl, r1, hb⟩; obtain ⟨hc, hf⟩ := bcell hb; have hz := hb.size; simp at hz; have k0 : w1.cell? ⟨w.heap.size, 0, none⟩ = some (.int .u64 (M : Int)) := by rw [hc _ _ (by first | omega | (simp; omega))]; simp [go_sem, c0]
        have k1 : w1.cell? ⟨w.heap.size, 1, none⟩ = some (.int .u64 0) := by rw [hc _ _ (by first | omega | (simp; omega))]; simp [go_sem, c1])
     | (go_at_call 139; refine (rounded_to false _ up 0 X g _ W0 hX hg1 hg2 (Dy.wd_zero X) (sq_more hNW r1 HOO.out)).mono ?_; rintro e w2 ⟨rfl, hb2⟩; obtain ⟨hc2, hf2⟩ := bcell hb2; have hz2 := hb2.size; try simp at hz2))
   go_wp2
   go_ret2
   exact ⟨rfl, (hBel.out.drew.trans (hb.mono (by simp; omega))).trans (hb2.mono (by omega))⟩
  ·have hb1 : 0 < B := by omega
   have hor := orN hX hB
   have hWor := Dy.sqAt_or hS.out hb1
   have hin := hid (Dy.sqAt_in hS.out hb1)
   have hout := hid (Dy.sqAt_out hS.out hb1)
   clear hb0
   generalize hU : (X ||| B) = U at *
   clear hU
   go_wp2_with fail
   go_region_held3 (fun w' => w'.cell? ⟨w.heap.size, 0, none⟩ = some (.int .u64 (M : Int)) ∧ w'.cell? ⟨w.heap.size, 1, none⟩ = some (.int .u64 0))
    (refine ⟨?_, ?_⟩ <;> first | (simp [go_sem, c0, c1]; done) | (rw [hc _ _ (by first | omega | (simp; omega))]; simp [go_sem, c0, c1]; done) | (rw [hc2 _ _ (by first | omega | (simp; omega))]; simp [go_sem, k0, k1]; done))
    (first
     | (go_at_call 162; refine (square_any _ _ hWor).mono ?_; rintro e w1 ⟨p', q', rfl, r1, hb⟩; obtain ⟨hc, hf⟩ := bcell hb; have hz := hb.size; simp at hz; have k0 : w1.cell? ⟨w.heap.size, 0, none⟩ = some (.int .u64 (M : Int)) := by rw [hc _ _ (by first | omega | (simp; omega))]; simp [go_sem, c0]
        have k1 : w1.cell? ⟨w.heap.size, 1, none⟩ = some (.int .u64 0) := by rw [hc _ _ (by first | omega | (simp; omega))]; simp [go_sem, c1])
     | (go_at_call 161; refine (wideLess_any _ 0 _ _ _ hNW.hl r1.hl).mono ?_; rintro e w2 ⟨rfl, hb2⟩; obtain ⟨hc2, hf2⟩ := bcell hb2; have hz2 := hb2.size; try simp at hz2))
   have k2 : w2.cell? ⟨w.heap.size, 0, none⟩ = some (.int .u64 (M : Int)) := by rw [hc2 _ _ (by first | omega | (simp; omega))]; simp [go_sem, k0]
   have k3 : w2.cell? ⟨w.heap.size, 1, none⟩ = some (.int .u64 0) := by rw [hc2 _ _ (by first | omega | (simp; omega))]; simp [go_sem, k1]
   clear hc hf hc2 hf2 k0 k1 c0 c1
   have hBel2 : Below w.heap.size w w2 := (hBel.out.drew.trans (hb.mono (by simp; omega))).trans (hb2.mono (by omega))
   have hB2 : Dy.W (B / 2) := by have := hB.lt; unfold Dy.W; omega
   by_cases hlt : Dy.wd M 0 < Dy.wd p' q'
   ·have hn := hid (hout.out (by have := hlt; rw [hNW.eq, r1.eq] at this; exact this))
    have hd1 : (!decide (Dy.wd M 0 < Dy.wd p' q')) = false := by rw [decide_eq_true hlt]; rfl
    clear hlt
    go_wp2
    ·rename_i hc; rw [hd1] at hc; cases hc
    refine ⟨⟨X, B / 2, rfl, by rw [Int.natCast_ediv]; rfl, hn, hX, hB2, k2, k3, hid hBel2, by omega⟩, ?_⟩
    show ((B : Int) / 2).toNat < (B : Int).toNat
    omega
   ·have hn := hid (hin.out (by have := hlt; rw [hNW.eq, r1.eq] at this; omega))
    have hd1 : (!decide (Dy.wd M 0 < Dy.wd p' q')) = true := by rw [decide_eq_false hlt]; rfl
    clear hlt
    go_wp2
    ·refine ⟨⟨U, B / 2, rfl, by rw [Int.natCast_ediv]; rfl, hn, hWor, hB2, k2, k3, hid hBel2, by omega⟩, ?_⟩
     show ((B : Int) / 2).toNat < (B : Int).toNat
     omega
    ·rename_i hc; rw [hd1] at hc; cases hc
set_option maxRecDepth 100000 in
set_option maxHeartbeats 1000000 in
theorem sqrt_odd (a : Nat) (up : Bool) (w : World) (ha : Dy.W a) (h1 : Dy.right a = true) (h2 : Dy.flt a 0 = false) (h3 : Dy.feq a 0 = false) (hp : a < 2 ^ 63)
  (hpar : (Dy.pe a - Dy.lz (Dy.pm a) - 64) % 2 ≠ 0) :
  Calls Tryz.prog 131 #[.float .f64 a, .bool up] w fun e w' => e = .returned (.tuple #[.float .f64 (Dy.dSqrt a up).1, .int .i64 (Dy.dSqrt a up).2]) ∧ Below w.heap.size w w' := by
 have HA := hid (fun w => parts_any a w ha)
 have hz0 : a ≠ 0 := by
  intro h; rw [h] at h3; revert h3; decide
 have HO := Dy.sq_out (up := up) ha h1 hp hz0
 have hN : Dy.sqN (Dy.pm a) (Dy.pe a) = Dy.nm (Dy.pm a) * 2 ^ 63 := by unfold Dy.sqN; rw [if_pos (by omega)]
 have hE : Dy.sqE (Dy.pm a) (Dy.pe a) = (Dy.pe a - Dy.lz (Dy.pm a) - 64 + 1) / 2 := by unfold Dy.sqE; rw [if_pos (by omega)]
 rw [hN, hE] at HO
 clear hN hE
 obtain ⟨na1, na2, na3⟩ := Dy.nm_bounds (Dy.pm_ne ha h1 hz0) (Dy.pm_lt a)
 have ma := Dy.pm_lt a
 have ba := Dy.pe_bounds a
 clear hz0
 generalize Dy.sgn a = sa at *
 generalize Dy.pm a = m at *
 generalize Dy.pe a = e at *
 have hm : Dy.W m := by unfold Dy.W; omega
 have ZA := hid (fun w => leadingZeros64_any m w hm)
 have sA : IntKind.u64.wrap ((m : Int) * 2 ^ Dy.lz m) = (Dy.nm m : Int) := shlK na2.lt
 change Hid (∀ w, Calls Tryz.prog 158 _ w fun e w' => e = .returned (.int .i64 (Dy.lz m : Nat)) ∧ w = w') at ZA
 generalize Dy.nm m = M at *
 generalize Dy.lz m = i at *
 generalize Dy.dSqrt a up = r at *
 have hSt := hid (Dy.sqAt_start (N := M * 2 ^ 63) (by have := na2.lt; omega))
 have HOO := hid HO
 clear na1 HO
 obtain ⟨g, hg⟩ : ∃ g : Int, e - i - 64 + 1 = 2 * g := ⟨(e - i - 64 + 1) / 2, by omega⟩
 have ht0 : ((e - i - 64).tmod 2 != 0) = true := by
  have : (e - i - 64).tmod 2 ≠ 0 := fun h => by have := Int.dvd_of_tmod_eq_zero h; omega
  simpa using this
 have ht2 : (2 * g).tdiv 2 = g := Int.mul_tdiv_cancel_left _ (by omega)
 have ht3 : (2 * g) / 2 = g := by omega
 rw [hg, ht3] at HOO
 clear hpar ht3
 go_enter Tryz.func131, Tryz.ntmps131
 go_wp2_with (go_at_call 58; refine (right_any _ _ (by assumption)).mono ?_; rintro e w' ⟨rfl, rfl⟩)
 refine (HA.out _).mono ?_
 rintro e' w1 ⟨rfl, rfl⟩
 go_wp2_with fail
 refine (ZA.out _).mono ?_
 rintro e' w1 ⟨rfl, rfl⟩
 go_wp2_with fail
 refine (wideDown_any M 0 1 _ na2 W0 (by omega)).mono ?_
 rintro e' w1 ⟨p0, q0, rfl, hNW', hb1⟩
 have hNW : Dy.Wide p0 q0 (M * 2 ^ 63) := by
  have e63 : Dy.wd M 0 / 2 ^ (1 : Int).toNat = M * 2 ^ 63 := by
   have : (1 : Int).toNat = 1 := rfl
   rw [this]; unfold Dy.wd; omega
  rw [e63] at hNW'; exact hNW'
 obtain ⟨hc1, hf1⟩ := bcell hb1
 have hz1 : w.heap.size < w1.heap.size := by have := hb1.size; simp at this; omega
 have g0 : w1.cell? ⟨w.heap.size, 0, none⟩ = some (.int .u64 (M : Int)) := by rw [hc1 _ _ (by simp)]; simp [go_sem]
 have g1 : w1.cell? ⟨w.heap.size, 1, none⟩ = some (.int .u64 0) := by rw [hc1 _ _ (by simp)]; simp [go_sem]
 have f0 : w1.frozen? ⟨w.heap.size, 0, none⟩ = false := by rw [hf1 _ _ (by simp)]; simp [go_sem]
 have f1 : w1.frozen? ⟨w.heap.size, 1, none⟩ = false := by rw [hf1 _ _ (by simp)]; simp [go_sem]
 have hB1 : Below w.heap.size w w1 := ((Below.refl _ _).alloc (Nat.le_refl _) _).trans (hb1.mono (by simp))
 have HB1 := hid hB1
 clear hc1 hf1 hb1 hB1 hNW'
 go_wp2_with fail
 go_loopw [11, 12] (fun a b wr => SqInv w.heap.size w (M * 2 ^ 63) (Dy.isq (M * 2 ^ 63)) p0 (q0 : Int) a b wr) (fun _ b _ => (intOf b).toNat)
 case atStart =>
  exact ⟨0, 9223372036854775808, rfl, rfl, hSt, W0, by unfold Dy.W; omega, by simp [go_sem, *], by simp [go_sem, *], hid ((HB1.out.setCell (by simp) _).setCell (by simp) _), by simpa using hz1⟩
 case round =>
  obtain ⟨X, B, rfl, rfl, hS, hX, hB, c0, c1, hBel, hsz⟩ := hrel
  by_cases hb0 : B = 0
  ·have hXR := hid (Dy.sqAt_end (R := Dy.isq (M * 2 ^ 63)) (N := M * 2 ^ 63) (X := X) (by have := hS.out; rwa [hb0] at this))
   rw [← hXR.out] at HOO
   have hg1 : -5000 ≤ g := by omega
   have hg2 : g ≤ 5000 := by omega
   have ht4 : IntKind.i64.wrap g = g := IntWalk.i64_in _ (by omega)
   clear hS hg hSt ZA HA sA ba na3 ma hm h1 h2 h3
   go_wp2_with fail
   go_region_held3 (fun w' => w'.cell? ⟨w.heap.size, 0, none⟩ = some (.int .u64 (p0 : Int)) ∧ w'.cell? ⟨w.heap.size, 1, none⟩ = some (.int .u64 (q0 : Int)))
    (refine ⟨?_, ?_⟩ <;> first | (simp [go_sem, c0, c1]; done) | (rw [hc _ _ (by first | omega | (simp; omega))]; simp [go_sem, c0, c1]; done) | (rw [hc2 _ _ (by first | omega | (simp; omega))]; simp [go_sem, k0, k1]; done))
    (first
     | (go_at_call 162; refine (square_any _ _ hX).mono ?_; rintro e w1 ⟨p', q', rfl, r1, hb⟩; obtain ⟨hc, hf⟩ := bcell hb; have hz := hb.size; simp at hz; have k0 : w1.cell? ⟨w.heap.size, 0, none⟩ = some (.int .u64 (p0 : Int)) := by rw [hc _ _ (by first | omega | (simp; omega))]; simp [go_sem, c0]
        have k1 : w1.cell? ⟨w.heap.size, 1, none⟩ = some (.int .u64 (q0 : Int)) := by rw [hc _ _ (by first | omega | (simp; omega))]; simp [go_sem, c1])
     | (go_at_call 139; refine (rounded_to false _ up 0 X g _ W0 hX hg1 hg2 (Dy.wd_zero X) (sq_more hNW r1 HOO.out)).mono ?_; rintro e w2 ⟨rfl, hb2⟩; obtain ⟨hc2, hf2⟩ := bcell hb2; have hz2 := hb2.size; try simp at hz2))
   go_wp2
   go_ret2
   exact ⟨rfl, (hBel.out.drew.trans (hb.mono (by simp; omega))).trans (hb2.mono (by omega))⟩
  ·have hb1 : 0 < B := by omega
   have hor := orN hX hB
   have hWor := Dy.sqAt_or hS.out hb1
   have hin := hid (Dy.sqAt_in hS.out hb1)
   have hout := hid (Dy.sqAt_out hS.out hb1)
   clear hb0
   generalize hU : (X ||| B) = U at *
   clear hU
   go_wp2_with fail
   go_region_held3 (fun w' => w'.cell? ⟨w.heap.size, 0, none⟩ = some (.int .u64 (p0 : Int)) ∧ w'.cell? ⟨w.heap.size, 1, none⟩ = some (.int .u64 (q0 : Int)))
    (refine ⟨?_, ?_⟩ <;> first | (simp [go_sem, c0, c1]; done) | (rw [hc _ _ (by first | omega | (simp; omega))]; simp [go_sem, c0, c1]; done) | (rw [hc2 _ _ (by first | omega | (simp; omega))]; simp [go_sem, k0, k1]; done))
    (first
     | (go_at_call 162; refine (square_any _ _ hWor).mono ?_; rintro e w1 ⟨p', q', rfl, r1, hb⟩; obtain ⟨hc, hf⟩ := bcell hb; have hz := hb.size; simp at hz; have k0 : w1.cell? ⟨w.heap.size, 0, none⟩ = some (.int .u64 (p0 : Int)) := by rw [hc _ _ (by first | omega | (simp; omega))]; simp [go_sem, c0]
        have k1 : w1.cell? ⟨w.heap.size, 1, none⟩ = some (.int .u64 (q0 : Int)) := by rw [hc _ _ (by first | omega | (simp; omega))]; simp [go_sem, c1])
     | (go_at_call 161; refine (wideLess_any _ q0 _ _ _ hNW.hl r1.hl).mono ?_; rintro e w2 ⟨rfl, hb2⟩; obtain ⟨hc2, hf2⟩ := bcell hb2; have hz2 := hb2.size; try simp at hz2))
   have k2 : w2.cell? ⟨w.heap.size, 0, none⟩ = some (.int .u64 (p0 : Int)) := by rw [hc2 _ _ (by first | omega | (simp; omega))]; simp [go_sem, k0]
   have k3 : w2.cell? ⟨w.heap.size, 1, none⟩ = some (.int .u64 (q0 : Int)) := by rw [hc2 _ _ (by first | omega | (simp; omega))]; simp [go_sem, k1]
   clear hc hf hc2 hf2 k0 k1 c0 c1
   have hBel2 : Below w.heap.size w w2 := (hBel.out.drew.trans (hb.mono (by simp; omega))).trans (hb2.mono (by omega))
   have hB2 : Dy.W (B / 2) := by have := hB.lt; unfold Dy.W; omega
   by_cases hlt : Dy.wd p0 q0 < Dy.wd p' q'
   ·have hn := hid (hout.out (by have := hlt; rw [hNW.eq, r1.eq] at this; exact this))
    have hd1 : (!decide (Dy.wd p0 q0 < Dy.wd p' q')) = false := by rw [decide_eq_true hlt]; rfl
    clear hlt
    go_wp2
    ·rename_i hc; rw [hd1] at hc; cases hc
    refine ⟨⟨X, B / 2, rfl, by rw [Int.natCast_ediv]; rfl, hn, hX, hB2, k2, k3, hid hBel2, by omega⟩, ?_⟩
    show ((B : Int) / 2).toNat < (B : Int).toNat
    omega
   ·have hn := hid (hin.out (by have := hlt; rw [hNW.eq, r1.eq] at this; omega))
    have hd1 : (!decide (Dy.wd p0 q0 < Dy.wd p' q')) = true := by rw [decide_eq_false hlt]; rfl
    clear hlt
    go_wp2
    ·refine ⟨⟨U, B / 2, rfl, by rw [Int.natCast_ediv]; rfl, hn, hWor, hB2, k2, k3, hid hBel2, by omega⟩, ?_⟩
     show ((B : Int) / 2).toNat < (B : Int).toNat
     omega
    ·rename_i hc; rw [hd1] at hc; cases hc
end Go.Proofs.YtkhplflbcgjkcaaGreat
/- Walks: dir.Sqrt, of every float64. -/
namespace Go.Proofs.YtkhplflbcgjkcaaGreat
open Go.RowKit
set_option maxRecDepth 100000 in
set_option maxHeartbeats 1000000 in
theorem sqrt_any (a : Nat) (up : Bool) (w : World) (ha : Dy.W a) :
  Calls Tryz.prog 131 #[.float .f64 a, .bool up] w fun e w' => e = .returned (.tuple #[.float .f64 (Dy.dSqrt a up).1, .int .i64 (Dy.dSqrt a up).2]) ∧ Below w.heap.size w w' := by
 cases h1 : Dy.right a
 ·have e1 : Dy.dSqrt a up = (0, 13) := by unfold Dy.dSqrt; rw [h1]; rfl
  rw [e1]; clear e1
  go_enter Tryz.func131, Tryz.ntmps131
  go_wp2_with (go_at_call 58; refine (right_any _ _ (by assumption)).mono ?_; rintro e w' ⟨rfl, rfl⟩)
  go_ret2
  exact ⟨rfl, Below.refl _ _⟩
 have f1 := Dy.flt_right ha h1
 have f2 := Dy.feq_right ha h1
 by_cases hn : 2 ^ 63 ≤ a
 ·have e1 : Dy.dSqrt a up = (0, 12) := by unfold Dy.dSqrt; rw [h1, if_neg (by decide), if_pos hn]
  have f1' : Dy.flt a 0 = true := by rw [f1]; exact decide_eq_true hn
  rw [e1]; clear e1 f1 f2 hn
  go_enter Tryz.func131, Tryz.ntmps131
  go_wp2_with (go_at_call 58; refine (right_any _ _ (by assumption)).mono ?_; rintro e w' ⟨rfl, rfl⟩)
  go_ret2
  exact ⟨rfl, Below.refl _ _⟩
 have f1' : Dy.flt a 0 = false := by rw [f1]; exact decide_eq_false hn
 by_cases h0 : a = 0
 ·have e1 : Dy.dSqrt a up = (0, 0) := by unfold Dy.dSqrt; rw [h1, if_neg (by decide), if_neg hn, if_pos h0]
  have f2' : Dy.feq a 0 = true := by rw [f2]; exact decide_eq_true h0
  rw [e1]; clear e1 f1 f2 hn h0
  go_enter Tryz.func131, Tryz.ntmps131
  go_wp2_with (go_at_call 58; refine (right_any _ _ (by assumption)).mono ?_; rintro e w' ⟨rfl, rfl⟩)
  go_ret2
  exact ⟨rfl, Below.refl _ _⟩
 have f2' : Dy.feq a 0 = false := by rw [f2]; exact decide_eq_false h0
 by_cases hp : (Dy.pe a - Dy.lz (Dy.pm a) - 64) % 2 = 0
 ·exact sqrt_even a up w ha h1 f1' f2' (by omega) hp
 ·exact sqrt_odd a up w ha h1 f1' f2' (by omega) hp
end Go.Proofs.YtkhplflbcgjkcaaGreat
