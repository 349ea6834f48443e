/- Walks: math/bits.Div64, where the divisor's upper bit is set. -/
import Derived.Test.YtfjomcbbgnaaiaaWd
import Derived.Test.YtfjomcbbgnaaiaaDyL
import Derived.LoopTactic
import Derived.Deep.LoopGhost
namespace Go.Proofs.Ytfjomcbbgnaaiaa
open Go.RowKit

theorem ret_quo {a b c : Int} (h : a = b) : Ending.returned (.tuple #[.int .u64 a, .int .u64 c]) = .returned (.tuple #[.int .u64 b, .int .u64 c]) := by rw [h]

/-- What holds at the head of a round: the guess and the rest; the guess is not below the digit. -/
def DivInv (y1 h qt : Nat) (a b : Value) : Prop := ∃ Q R : Int, a = .int .u64 Q ∧ b = .int .u64 R ∧ 0 ≤ Q ∧ 0 ≤ R ∧ Hid (Q.toNat * y1 + R.toNat = h) ∧ (qt : Int) ≤ Q ∧ Q ≤ 4294967297 ∧ R < 4294967296

set_option maxRecDepth 100000 in
set_option maxHeartbeats 4000000 in
theorem div64_any (h l y : Nat) (w : World) (hl : Dy.W l) (hy : Dy.W y) (hy2 : 9223372036854775808 ≤ y) (hh : h < y) (h0 : 0 < h) :
    Calls Try.prog 72 #[.int .u64 (h : Int), .int .u64 (l : Int), .int .u64 (y : Int)] w fun e w' => e = .returned (.tuple #[.int .u64 (Dy.quo64 h l y : Nat), .int .u64 (Dy.rem64 h l y : Nat)]) ∧ w = w' := by
  have hlz : Dy.blen y = 64 := by
    have a := (Dy.blen_le (x := y) (k := 64)).2 hy.lt
    have b := (Dy.lt_blen (x := y) (k := 63)).2 hy2
    omega
  have HZ := hid (fun w => leadingZeros64_any y w hy)
  rw [hlz] at HZ
  clear hlz
  have hlW := hl.lt
  have hyW := hy.lt
  have hwy : IntKind.u64.wrap (y : Int) = (y : Int) := IntWalk.u64_in _ (by omega)
  have hwh : IntKind.u64.wrap (h : Int) = (h : Int) := IntWalk.u64_in _ (by omega)
  have hwl : IntKind.u64.wrap (l : Int) = (l : Int) := IntWalk.u64_in _ (by omega)
  obtain ⟨y1, hy1⟩ : ∃ y1, y1 = y / 4294967296 := ⟨_, rfl⟩
  obtain ⟨y0, hy0⟩ : ∃ y0, y0 = y % 4294967296 := ⟨_, rfl⟩
  obtain ⟨l1, hl1⟩ : ∃ l1, l1 = l / 4294967296 := ⟨_, rfl⟩
  obtain ⟨l0, hl0⟩ : ∃ l0, l0 = l % 4294967296 := ⟨_, rfl⟩
  have ey1 : (y : Int) / 4294967296 = (y1 : Int) := by rw [hy1]; omega
  have ey0 : bits .and .u64 (y : Int) 4294967295 = (y0 : Int) := by rw [hy0]; exact maskN y hyW
  have el1 : (l : Int) / 4294967296 = (l1 : Int) := by rw [hl1]; omega
  have el0 : bits .and .u64 (l : Int) 4294967295 = (l0 : Int) := by rw [hl0]; exact maskN l hlW
  have elz : (l : Int) / 18446744073709551616 = 0 := by omega
  have eor : bits .or .u64 (h : Int) 0 = (h : Int) := by
    have := u64_or_nat h 0 (by omega) (by omega)
    rw [Nat.or_zero] at this
    exact this
  obtain ⟨Q0, hQ0⟩ : ∃ Q0, Q0 = h / y1 := ⟨_, rfl⟩
  have hy1a : 2147483648 ≤ y1 := by omega
  have hy1b : y1 < 4294967296 := by omega
  have hy0b : y0 < 4294967296 := by omega
  have hl1b : l1 < 4294967296 := by omega
  have hl0b : l0 < 4294967296 := by omega
  obtain ⟨qt, hqt⟩ : ∃ qt, qt = (h * 4294967296 + l1) / y := ⟨_, rfl⟩
  obtain ⟨r1, hr1⟩ : ∃ r1, r1 = (h * 4294967296 + l1) % y := ⟨_, rfl⟩
  have hg := Dy.guess (u := l1) hy2 hyW hh hl1b
  rw [← hy1, ← hqt, ← hQ0] at hg
  have eQ0 : (h : Int) / (y1 : Int) = (Q0 : Int) := by rw [hQ0]; omega
  have hP0 : Q0 * y1 ≤ h := by rw [hQ0]; exact Nat.div_mul_le_self _ _
  obtain ⟨P0, hP0e⟩ : ∃ P0, P0 = Q0 * y1 := ⟨_, rfl⟩
  rw [← hP0e] at hP0
  have eP0 : IntKind.u64.wrap ((Q0 : Int) * (y1 : Int)) = (P0 : Int) := by
    have : (Q0 : Int) * (y1 : Int) = (P0 : Int) := by rw [hP0e]; simp
    rw [this]; exact IntWalk.u64_in _ (by omega)
  obtain ⟨R0, hR0⟩ : ∃ R0, P0 + R0 = h := ⟨h - P0, by omega⟩
  have eR0 : IntKind.u64.wrap ((h : Int) - (P0 : Int)) = (R0 : Int) := (IntWalk.u64_in _ (by omega)).trans (by omega)
  have hR0b : R0 < y1 := by
    have := Nat.mod_lt h (show 0 < y1 by omega)
    have e := Nat.div_add_mod h y1
    rw [← hQ0, Nat.mul_comm] at e
    omega
  have HT := hid (fun Q R => @Dy.guess_test h l1 y Q R hy2 hh hl1b)
  have HS := hid (fun Q R => @Dy.guess_stop h l1 y Q R hy2)
  have HY := hid (And.intro hy1 hy0)
  have HLL := hid (And.intro hl1 hl0)
  have HQ := hid (And.intro hqt hr1)
  have HP := hid hP0e
  clear hy1 hy0 hl1 hl0 hqt hr1 hQ0 hP0e hlW hyW
  have hr1b : r1 < y := by rw [HQ.out.2]; exact Nat.mod_lt _ (by omega)
  obtain ⟨st, hst⟩ : ∃ st, st = (r1 * 4294967296 + l0) / y := ⟨_, rfl⟩
  obtain ⟨r0, hr0⟩ : ∃ r0, r0 = (r1 * 4294967296 + l0) % y := ⟨_, rfl⟩
  have HQ2 := hid (And.intro hst hr0)
  have HT2 := hid (fun Q R => @Dy.guess_test r1 l0 y Q R hy2 hr1b hl0b)
  have HS2 := hid (fun Q R => @Dy.guess_stop r1 l0 y Q R hy2)
  have hyW := hy.lt
  have hg2 := Dy.guess (u := l0) hy2 hyW hr1b hl0b
  rw [← HY.out.1, ← hst] at hg2
  obtain ⟨S0, hS0⟩ : ∃ S0, S0 = r1 / y1 := ⟨_, rfl⟩
  rw [← hS0] at hg2
  have eS0 : (r1 : Int) / (y1 : Int) = (S0 : Int) := by rw [hS0]; omega
  have hP1 : S0 * y1 ≤ r1 := by rw [hS0]; exact Nat.div_mul_le_self _ _
  obtain ⟨P1, hP1e⟩ : ∃ P1, P1 = S0 * y1 := ⟨_, rfl⟩
  rw [← hP1e] at hP1
  have eP1 : IntKind.u64.wrap ((S0 : Int) * (y1 : Int)) = (P1 : Int) := by
    have : (S0 : Int) * (y1 : Int) = (P1 : Int) := by rw [hP1e]; simp
    rw [this]; exact IntWalk.u64_in _ (by omega)
  obtain ⟨T0, hT0⟩ : ∃ T0, P1 + T0 = r1 := ⟨r1 - P1, by omega⟩
  have eT0 : IntKind.u64.wrap ((r1 : Int) - (P1 : Int)) = (T0 : Int) := (IntWalk.u64_in _ (by omega)).trans (by omega)
  have hT0b : T0 < y1 := by
    have := Nat.mod_lt r1 (show 0 < y1 by omega)
    have e := Nat.div_add_mod r1 y1
    rw [← hS0, Nat.mul_comm] at e
    omega
  have HI2 := hid (show (S0 : Int).toNat * y1 + (T0 : Int).toNat = r1 by rw [Int.toNat_natCast, Int.toNat_natCast, ← hP1e]; exact hT0)
  have hd1 := Nat.div_add_mod (h * 4294967296 + l1) y
  rw [← HQ.out.1, ← HQ.out.2, Nat.mul_comm] at hd1
  have HU1 : Hid (IntKind.u64.wrap (IntKind.u64.wrap (IntKind.u64.wrap ((h : Int) * 4294967296) + (l1 : Int)) - IntKind.u64.wrap ((qt : Int) * (y : Int))) = (r1 : Int)) := by
    refine hid ?_
    rw [← Int.natCast_mul, IntKind.wrap_u64, IntKind.wrap_u64, IntKind.wrap_u64, IntKind.wrap_u64]
    generalize qt * y = A at hd1 ⊢
    omega
  have hd2 := Nat.div_add_mod (r1 * 4294967296 + l0) y
  rw [← hst, ← hr0, Nat.mul_comm] at hd2
  have hr0b : r0 < y := by rw [hr0]; exact Nat.mod_lt _ (by omega)
  have h2d := @Dy.two_digits h l y (by omega)
  rw [← HLL.out.1, ← HLL.out.2, ← HQ.out.1, ← HQ.out.2, ← hst, ← hr0] at h2d
  have hqtb : qt < 4294967296 := by
    rw [HQ.out.1, Nat.div_lt_iff_lt_mul (by omega)]; omega
  have hstb : st < 4294967296 := by
    rw [hst, Nat.div_lt_iff_lt_mul (by omega)]; omega
  have HV1 : Hid ((qt : Int) * 4294967296 + (st : Int) = (Dy.quo64 h l y : Int)) := by
    refine hid ?_
    unfold Dy.quo64
    rw [h2d.1]
    omega
  have HV2 : Hid (IntKind.u64.wrap (IntKind.u64.wrap (IntKind.u64.wrap ((r1 : Int) * 4294967296) + (l0 : Int)) - IntKind.u64.wrap ((st : Int) * (y : Int))) = (Dy.rem64 h l y : Int)) := by
    refine hid ?_
    rw [← Int.natCast_mul, IntKind.wrap_u64, IntKind.wrap_u64, IntKind.wrap_u64, IntKind.wrap_u64]
    unfold Dy.rem64
    rw [h2d.2]
    generalize st * y = A at hd2 ⊢
    omega
  clear hst hr0 hS0 hP1e hT0 hd1 hd2 h2d hyW
  go_enter Try.func72, Try.ntmps72
  go_wp2_with (go_at_call 71; refine (HZ.out _).mono ?_; rintro e w' ⟨rfl, rfl⟩)
  have HI1 := hid (show (Q0 : Int).toNat * y1 + (R0 : Int).toNat = h by rw [Int.toNat_natCast, Int.toNat_natCast, ← HP.out]; exact hR0)
  have HT1 := HT
  have HS1 := HS
  have HQ1 := HQ
  clear HT HS HQ HZ hR0 eQ0 eP0 eR0 hwy hwh hwl ey1 ey0 el1 el0 elz eor
  go_loop [15, 16] (fun a b => DivInv y1 h qt a b) (fun a _ => (intOf a).toNat)
  case atStart => exact ⟨_, _, rfl, rfl, by omega, by omega, HI1, by omega, by omega, by omega⟩
  case round =>
    obtain ⟨Q, R, rfl, rfl, hQ0, hR0, hQR, hq1, hq2, hR⟩ := hrel
    have hT := HT1.out Q.toNat R.toNat
    rw [← HY.out.1, ← HY.out.2, ← HQ1.out.1] at hT
    obtain ⟨X, hX⟩ : ∃ X, X = Q.toNat * y0 := ⟨_, rfl⟩
    obtain ⟨Z1, hZ1⟩ : ∃ Z1, Z1 = 4294967296 * R.toNat + l1 := ⟨_, rfl⟩
    rw [← hX, ← hZ1] at hT
    have hT1 := hid (hT hQR.out).1
    have hT2 := hid (hT hQR.out).2
    clear hT
    have eX : Q < 4294967296 → IntKind.u64.wrap (Q * (y0 : Int)) = (X : Int) := by
      intro hb
      have h1 : X ≤ 4294967295 * 4294967295 := by rw [hX]; exact Nat.mul_le_mul (by omega) (by omega)
      have h2 : Q * (y0 : Int) = (X : Int) := by rw [hX, Int.natCast_mul, Int.toNat_of_nonneg hQ0]
      rw [h2]; exact IntWalk.u64_in _ (by omega)
    obtain ⟨Z, hZ⟩ : ∃ Z : Int, Z = 4294967296 * R := ⟨_, rfl⟩
    have eZ : IntKind.u64.wrap (4294967296 * R) = Z := (IntWalk.u64_in _ (by omega)).trans hZ.symm
    have eZ1 : IntKind.u64.wrap (Z + (l1 : Int)) = (Z1 : Int) := (IntWalk.u64_in _ (by omega)).trans (by omega)
    clear hX hZ hZ1
    by_cases c : 4294967296 ≤ Q ∨ Z1 < X
    · have hlt := hT1.out (by omega)
      obtain ⟨Q', hQ'⟩ : ∃ Q', Q' + 1 = Q := ⟨Q - 1, by omega⟩
      obtain ⟨R', hR'⟩ : ∃ R', R' = R + (y1 : Int) := ⟨_, rfl⟩
      have e1 : IntKind.u64.wrap (Q - 1) = Q' := (IntWalk.u64_in _ (by omega)).trans (by omega)
      have e2 : IntKind.u64.wrap (R + (y1 : Int)) = R' := (IntWalk.u64_in _ (by omega)).trans hR'.symm
      have hn : Q'.toNat * y1 + R'.toNat = h := by
        have := hQR.out
        have e3 : Q.toNat = Q'.toNat + 1 := by omega
        rw [e3, Nat.succ_mul] at this
        omega
      have HN := hid hn
      have hb0 : 0 ≤ Q' := by omega
      have hb1 : (qt : Int) ≤ Q' := by omega
      have hb2 : Q' ≤ 4294967296 := by omega
      have hQ'2 : Q' < Q := by omega
      have hR'0 : 0 ≤ R' := by omega
      have hS : 4294967296 ≤ R' → Q' = (qt : Int) := by
        intro hb
        have := HS1.out Q'.toNat R'.toNat
        rw [← HY.out.1, ← HQ1.out.1] at this
        have := this hn (by omega) (by omega)
        omega
      clear hn hQ' hR' hlt
      by_cases c3 : 4294967296 ≤ R'
      · have hq := hS c3
        clear hS HN hT1 hT2 hb1 hQR
        have eU1 : IntKind.u64.wrap (IntKind.u64.wrap (IntKind.u64.wrap ((h : Int) * 4294967296) + (l1 : Int)) - IntKind.u64.wrap (Q' * (y : Int))) = (r1 : Int) := by rw [hq]; exact HU1.out
        obtain ⟨qq, hqq⟩ : ∃ qq : Int, qq = Q' := ⟨_, rfl⟩
        have HQQ := hid (hqq.trans hq)
        have hq7 : 0 ≤ qq := by rw [HQQ.out]; omega
        have hq8 : qq < 4294967296 := by rw [HQQ.out]; omega
        clear hq
        subst hqq
        by_cases c1 : 4294967296 ≤ Q
        all_goals
          first
            | (have eX2 := eX (by omega); clear eX)
            | clear eX
          have c2 : 4294967296 ≤ Q ∨ Z1 < X := c
          clear c
          try (have c4 : Z1 < X := by omega)
          clear c2
          go_wp2
          go_loop [18, 16] (fun a b => DivInv y1 r1 st a b) (fun a _ => (intOf a).toNat)
          case atStart => exact ⟨_, _, rfl, rfl, by omega, by omega, HI2, by omega, by omega, by omega⟩
          case round =>
            obtain ⟨Q, R, rfl, rfl, hQ0, hR0, hQR, hq1, hq2, hR⟩ := hrel
            have hT := HT2.out Q.toNat R.toNat
            rw [← HY.out.1, ← HY.out.2, ← HQ2.out.1] at hT
            obtain ⟨X, hX⟩ : ∃ X, X = Q.toNat * y0 := ⟨_, rfl⟩
            obtain ⟨Z1, hZ1⟩ : ∃ Z1, Z1 = 4294967296 * R.toNat + l0 := ⟨_, rfl⟩
            rw [← hX, ← hZ1] at hT
            have hT1 := hid (hT hQR.out).1
            have hT2 := hid (hT hQR.out).2
            clear hT
            have eX : Q < 4294967296 → IntKind.u64.wrap (Q * (y0 : Int)) = (X : Int) := by
              intro hb
              have h1 : X ≤ 4294967295 * 4294967295 := by rw [hX]; exact Nat.mul_le_mul (by omega) (by omega)
              have h2 : Q * (y0 : Int) = (X : Int) := by rw [hX, Int.natCast_mul, Int.toNat_of_nonneg hQ0]
              rw [h2]; exact IntWalk.u64_in _ (by omega)
            obtain ⟨Z, hZ⟩ : ∃ Z : Int, Z = 4294967296 * R := ⟨_, rfl⟩
            have eZ : IntKind.u64.wrap (4294967296 * R) = Z := (IntWalk.u64_in _ (by omega)).trans hZ.symm
            have eZ1 : IntKind.u64.wrap (Z + (l0 : Int)) = (Z1 : Int) := (IntWalk.u64_in _ (by omega)).trans (by omega)
            clear hX hZ hZ1
            by_cases c : 4294967296 ≤ Q ∨ Z1 < X
            · have hlt := hT1.out (by omega)
              obtain ⟨S', hS'⟩ : ∃ S', S' + 1 = Q := ⟨Q - 1, by omega⟩
              obtain ⟨T', hT'⟩ : ∃ T', T' = R + (y1 : Int) := ⟨_, rfl⟩
              have e1 : IntKind.u64.wrap (Q - 1) = S' := (IntWalk.u64_in _ (by omega)).trans (by omega)
              have e2 : IntKind.u64.wrap (R + (y1 : Int)) = T' := (IntWalk.u64_in _ (by omega)).trans hT'.symm
              have hn : S'.toNat * y1 + T'.toNat = r1 := by
                have := hQR.out
                have e3 : Q.toNat = S'.toNat + 1 := by omega
                rw [e3, Nat.succ_mul] at this
                omega
              have HN := hid hn
              have hb0 : 0 ≤ S' := by omega
              have hb1 : (st : Int) ≤ S' := by omega
              have hb2 : S' ≤ 4294967296 := by omega
              have hS'2 : S' < Q := by omega
              have hT'0 : 0 ≤ T' := by omega
              have hS : 4294967296 ≤ T' → S' = (st : Int) := by
                intro hb
                have := HS2.out S'.toNat T'.toNat
                rw [← HY.out.1, ← HQ2.out.1] at this
                have := this hn (by omega) (by omega)
                omega
              clear hn hS' hT' hlt
              by_cases c3 : 4294967296 ≤ T'
              · have hq := hS c3
                clear hS HN hT1 hT2 hb1 hQR
                have EV1 := hid (show qq * 4294967296 + S' = (Dy.quo64 h l y : Int) by rw [HQQ.out, hq]; exact HV1.out)
                have eV2 : IntKind.u64.wrap (IntKind.u64.wrap (IntKind.u64.wrap ((r1 : Int) * 4294967296) + (l0 : Int)) - IntKind.u64.wrap (S' * (y : Int))) = (Dy.rem64 h l y : Int) := by rw [hq]; exact HV2.out
                have hs7 : 0 ≤ S' := by rw [hq]; omega
                have hs8 : S' < 4294967296 := by rw [hq]; omega
                clear hq
                by_cases c1 : 4294967296 ≤ Q
                all_goals
                  first
                    | (have eX2 := eX (by omega); clear eX)
                    | clear eX
                  have c2 : 4294967296 ≤ Q ∨ Z1 < X := c
                  clear c
                  try (have c4 : Z1 < X := by omega)
                  clear c2
                  go_wp2
                  go_ret2
                  exact ⟨ret_quo EV1.out, rfl⟩
              · clear hS hT1 hT2
                have c4 : T' < 4294967296 := by omega
                clear c3
                by_cases c1 : 4294967296 ≤ Q
                all_goals
                  first
                    | (have eX2 := eX (by omega); clear eX)
                    | clear eX
                  have c2 : 4294967296 ≤ Q ∨ Z1 < X := c
                  clear c
                  try (have c5 : Z1 < X := by omega)
                  clear c2
                  go_wp2
                  go_round
                  case rel => exact ⟨S', T', rfl, rfl, hb0, hT'0, HN, hb1, by omega, c4⟩
                  case measure => simp [intOf]; omega
            · have hq : Q = (st : Int) := by have := hT2.out (by omega); omega
              have c1 : Q < 4294967296 := by omega
              have c2 : X ≤ Z1 := by omega
              have eX2 := eX c1
              clear eX hT1 hT2 c hQR
              have EV1 := hid (show qq * 4294967296 + Q = (Dy.quo64 h l y : Int) by rw [HQQ.out, hq]; exact HV1.out)
              have eV2 : IntKind.u64.wrap (IntKind.u64.wrap (IntKind.u64.wrap ((r1 : Int) * 4294967296) + (l0 : Int)) - IntKind.u64.wrap (Q * (y : Int))) = (Dy.rem64 h l y : Int) := by rw [hq]; exact HV2.out
              have hs7 : 0 ≤ Q := by rw [hq]; omega
              have hs8 : Q < 4294967296 := by rw [hq]; omega
              clear hq
              go_wp2
              go_ret2
              exact ⟨ret_quo EV1.out, rfl⟩
      · clear hS hT1 hT2
        have c4 : R' < 4294967296 := by omega
        clear c3
        by_cases c1 : 4294967296 ≤ Q
        all_goals
          first
            | (have eX2 := eX (by omega); clear eX)
            | clear eX
          have c2 : 4294967296 ≤ Q ∨ Z1 < X := c
          clear c
          try (have c5 : Z1 < X := by omega)
          clear c2
          go_wp2
          go_round
          case rel => exact ⟨Q', R', rfl, rfl, hb0, hR'0, HN, hb1, by omega, c4⟩
          case measure => simp [intOf]; omega
    · have hq : Q = (qt : Int) := by have := hT2.out (by omega); omega
      have c1 : Q < 4294967296 := by omega
      have c2 : X ≤ Z1 := by omega
      have eX2 := eX c1
      clear eX hT1 hT2 c hQR
      have eU1 : IntKind.u64.wrap (IntKind.u64.wrap (IntKind.u64.wrap ((h : Int) * 4294967296) + (l1 : Int)) - IntKind.u64.wrap (Q * (y : Int))) = (r1 : Int) := by rw [hq]; exact HU1.out
      obtain ⟨qq, hqq⟩ : ∃ qq : Int, qq = Q := ⟨_, rfl⟩
      have HQQ := hid (hqq.trans hq)
      have hq7 : 0 ≤ qq := by rw [HQQ.out]; omega
      have hq8 : qq < 4294967296 := by rw [HQQ.out]; omega
      clear hq
      subst hqq
      go_wp2
      go_loop [18, 16] (fun a b => DivInv y1 r1 st a b) (fun a _ => (intOf a).toNat)
      case atStart => exact ⟨_, _, rfl, rfl, by omega, by omega, HI2, by omega, by omega, by omega⟩
      case round =>
        obtain ⟨Q, R, rfl, rfl, hQ0, hR0, hQR, hq1, hq2, hR⟩ := hrel
        have hT := HT2.out Q.toNat R.toNat
        rw [← HY.out.1, ← HY.out.2, ← HQ2.out.1] at hT
        obtain ⟨X, hX⟩ : ∃ X, X = Q.toNat * y0 := ⟨_, rfl⟩
        obtain ⟨Z1, hZ1⟩ : ∃ Z1, Z1 = 4294967296 * R.toNat + l0 := ⟨_, rfl⟩
        rw [← hX, ← hZ1] at hT
        have hT1 := hid (hT hQR.out).1
        have hT2 := hid (hT hQR.out).2
        clear hT
        have eX : Q < 4294967296 → IntKind.u64.wrap (Q * (y0 : Int)) = (X : Int) := by
          intro hb
          have h1 : X ≤ 4294967295 * 4294967295 := by rw [hX]; exact Nat.mul_le_mul (by omega) (by omega)
          have h2 : Q * (y0 : Int) = (X : Int) := by rw [hX, Int.natCast_mul, Int.toNat_of_nonneg hQ0]
          rw [h2]; exact IntWalk.u64_in _ (by omega)
        obtain ⟨Z, hZ⟩ : ∃ Z : Int, Z = 4294967296 * R := ⟨_, rfl⟩
        have eZ : IntKind.u64.wrap (4294967296 * R) = Z := (IntWalk.u64_in _ (by omega)).trans hZ.symm
        have eZ1 : IntKind.u64.wrap (Z + (l0 : Int)) = (Z1 : Int) := (IntWalk.u64_in _ (by omega)).trans (by omega)
        clear hX hZ hZ1
        by_cases c : 4294967296 ≤ Q ∨ Z1 < X
        · have hlt := hT1.out (by omega)
          obtain ⟨S', hS'⟩ : ∃ S', S' + 1 = Q := ⟨Q - 1, by omega⟩
          obtain ⟨T', hT'⟩ : ∃ T', T' = R + (y1 : Int) := ⟨_, rfl⟩
          have e1 : IntKind.u64.wrap (Q - 1) = S' := (IntWalk.u64_in _ (by omega)).trans (by omega)
          have e2 : IntKind.u64.wrap (R + (y1 : Int)) = T' := (IntWalk.u64_in _ (by omega)).trans hT'.symm
          have hn : S'.toNat * y1 + T'.toNat = r1 := by
            have := hQR.out
            have e3 : Q.toNat = S'.toNat + 1 := by omega
            rw [e3, Nat.succ_mul] at this
            omega
          have HN := hid hn
          have hb0 : 0 ≤ S' := by omega
          have hb1 : (st : Int) ≤ S' := by omega
          have hb2 : S' ≤ 4294967296 := by omega
          have hS'2 : S' < Q := by omega
          have hT'0 : 0 ≤ T' := by omega
          have hS : 4294967296 ≤ T' → S' = (st : Int) := by
            intro hb
            have := HS2.out S'.toNat T'.toNat
            rw [← HY.out.1, ← HQ2.out.1] at this
            have := this hn (by omega) (by omega)
            omega
          clear hn hS' hT' hlt
          by_cases c3 : 4294967296 ≤ T'
          · have hq := hS c3
            clear hS HN hT1 hT2 hb1 hQR
            have EV1 := hid (show qq * 4294967296 + S' = (Dy.quo64 h l y : Int) by rw [HQQ.out, hq]; exact HV1.out)
            have eV2 : IntKind.u64.wrap (IntKind.u64.wrap (IntKind.u64.wrap ((r1 : Int) * 4294967296) + (l0 : Int)) - IntKind.u64.wrap (S' * (y : Int))) = (Dy.rem64 h l y : Int) := by rw [hq]; exact HV2.out
            have hs7 : 0 ≤ S' := by rw [hq]; omega
            have hs8 : S' < 4294967296 := by rw [hq]; omega
            clear hq
            by_cases c1 : 4294967296 ≤ Q
            all_goals
              first
                | (have eX2 := eX (by omega); clear eX)
                | clear eX
              have c2 : 4294967296 ≤ Q ∨ Z1 < X := c
              clear c
              try (have c4 : Z1 < X := by omega)
              clear c2
              go_wp2
              go_ret2
              exact ⟨ret_quo EV1.out, rfl⟩
          · clear hS hT1 hT2
            have c4 : T' < 4294967296 := by omega
            clear c3
            by_cases c1 : 4294967296 ≤ Q
            all_goals
              first
                | (have eX2 := eX (by omega); clear eX)
                | clear eX
              have c2 : 4294967296 ≤ Q ∨ Z1 < X := c
              clear c
              try (have c5 : Z1 < X := by omega)
              clear c2
              go_wp2
              go_round
              case rel => exact ⟨S', T', rfl, rfl, hb0, hT'0, HN, hb1, by omega, c4⟩
              case measure => simp [intOf]; omega
        · have hq : Q = (st : Int) := by have := hT2.out (by omega); omega
          have c1 : Q < 4294967296 := by omega
          have c2 : X ≤ Z1 := by omega
          have eX2 := eX c1
          clear eX hT1 hT2 c hQR
          have EV1 := hid (show qq * 4294967296 + Q = (Dy.quo64 h l y : Int) by rw [HQQ.out, hq]; exact HV1.out)
          have eV2 : IntKind.u64.wrap (IntKind.u64.wrap (IntKind.u64.wrap ((r1 : Int) * 4294967296) + (l0 : Int)) - IntKind.u64.wrap (Q * (y : Int))) = (Dy.rem64 h l y : Int) := by rw [hq]; exact HV2.out
          have hs7 : 0 ≤ Q := by rw [hq]; omega
          have hs8 : Q < 4294967296 := by rw [hq]; omega
          clear hq
          go_wp2
          go_ret2
          exact ⟨ret_quo EV1.out, rfl⟩

end Go.Proofs.Ytfjomcbbgnaaiaa
