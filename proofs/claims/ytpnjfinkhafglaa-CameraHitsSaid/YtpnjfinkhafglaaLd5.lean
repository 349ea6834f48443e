/- Plain facts: which pixels hit, how many; the law CameraHits. -/
import Derived.Test.YtpnjfinkhafglaaLd4
import Derived.Test.YtpnjfinkhafglaaLc4
namespace Go.Dy
open Ieee
/-- A middle's absolute value. -/
theorem part_abs {n : Int} {m : Nat} (h1 : n.natAbs < m) (h3 : m ≤ 65536) : ∃ z a : Int, ok z ∧ Go.Proofs.Ytpnjfinkhafglaa.partF n m = enc z ∧ 0 ≤ a ∧ V z * V z = a * a ∧ a * m ≤ (n.natAbs : Int) * one ∧ (n.natAbs : Int) * one < (a + big) * m := by
  obtain ⟨z, oz, z1, z2, e, p, q⟩ := part_V h1 h3
  have bp := big_pos
  have o1 : (0 : Int) < one := by have := one_big; omega
  by_cases hn : 0 ≤ n
  · obtain ⟨k1, k2⟩ := p hn
    have en : (n.natAbs : Int) = n := by omega
    rw [en]
    refine ⟨z, V z, oz, e, ?_, rfl, k1, k2⟩
    rcases Int.lt_or_le (V z) 0 with h | h
    · have h5 : (V z + big) * m ≤ big * m := Int.mul_le_mul_of_nonneg_right (by omega) (by omega)
      have hz : z < 0 := by
        rcases Int.lt_or_le z 0 with h' | h'
        · exact h'
        · have := V_nonneg.2 h'; omega
      by_cases hn0 : n = 0
      · subst hn0
        obtain ⟨k3, -⟩ := q (Int.le_refl _)
        rw [Int.zero_mul] at k3
        have : V z * m ≤ (-1) * m := Int.mul_le_mul_of_nonneg_right (by omega) (by omega)
        omega
      · have h6 : (1 : Int) * one ≤ n * one := Int.mul_le_mul_of_nonneg_right (by omega) (by omega)
        have h7 : (big : Int) * m ≤ big * 65536 := Int.mul_le_mul_of_nonneg_left (by omega) (by omega)
        have := one_big
        omega
    · exact h
  · obtain ⟨k1, k2⟩ := q (by omega)
    have en : (n.natAbs : Int) = -n := by omega
    rw [en]
    refine ⟨z, -V z, oz, e, ?_, by rw [Int.neg_mul_neg], by rw [Int.neg_mul, Int.neg_mul]; omega, ?_⟩
    · rcases Int.lt_or_le 0 (V z) with h | h
      · have h5 : 1 * (m : Int) ≤ V z * m := Int.mul_le_mul_of_nonneg_right (by omega) (by omega)
        have h6 : n * one ≤ (-1) * one := Int.mul_le_mul_of_nonneg_right (by omega) (by omega)
        have h7 : (big : Int) * m ≤ big * 65536 := Int.mul_le_mul_of_nonneg_left (by omega) (by omega)
        have h8 : (V z - big) * m = V z * m - big * m := by rw [Int.sub_mul]
        have := one_big
        omega
      · omega
    · have e5 : (-V z + big) * (m : Int) = -((V z - big) * m) := by rw [← Int.neg_mul]; congr 1; omega
      rw [e5, Int.neg_mul]; omega
theorem sq_low {a m K o : Int} (a0 : 0 ≤ a) (m0 : 0 ≤ m) (h : a * m ≤ K * o) : a * a * (m * m) ≤ K * K * (o * o) := by
  have h0 : 0 ≤ a * m := Int.mul_nonneg a0 m0
  have := Int.mul_le_mul h h h0 (Int.le_trans h0 h)
  have e1 : a * m * (a * m) = a * a * (m * m) := by grind
  have e2 : K * o * (K * o) = K * K * (o * o) := by grind
  omega
theorem sq_high {a m K o g : Int} (a0 : 0 ≤ a) (m0 : 0 < m) (g0 : 0 ≤ g) (k0 : 0 ≤ K * o) (ao : a ≤ o) (h : K * o < (a + g) * m) : K * K * (o * o) ≤ a * a * (m * m) + 2 * (o * g * (m * m)) + g * g * (m * m) := by
  have := Int.mul_le_mul (Int.le_of_lt h) (Int.le_of_lt h) k0 (Int.le_trans k0 (Int.le_of_lt h))
  have e1 : (a + g) * m * ((a + g) * m) = a * a * (m * m) + 2 * (a * g * (m * m)) + g * g * (m * m) := by grind
  have e2 : K * o * (K * o) = K * K * (o * o) := by grind
  have h1 : a * g * (m * m) ≤ o * g * (m * m) := Int.mul_le_mul_of_nonneg_right (Int.mul_le_mul_of_nonneg_right ao g0) (Int.mul_nonneg (by omega) (by omega))
  omega
/-- One of two squares, rounded up. -/
theorem sq_round {a : Int} {C : Int} (c0 : 0 ≤ C) (c1 : C ≤ I1) (e : C = fl (a * a) one true) : (V C - big) * one ≤ a * a := by
  have o1 : 0 < one := by have := one_big; have := big_pos; omega
  have h1 : ¬ C ≤ C - 1 := by omega
  have h2 : ¬ (a * a ≤ V (C - 1) * one) := fun h => h1 (by rw [e] at h ⊢; exact (fl_up o1).2 h)
  have h3 := V_step (z := C - 1) (by unfold I1; omega) (by omega)
  rw [show C - 1 + 1 = C by omega] at h3
  have h4 : (V C - big) * (one : Int) ≤ V (C - 1) * one := Int.mul_le_mul_of_nonneg_right (by omega) (by omega)
  omega
/-- A middle hits just if its squares are less than the size's. -/
theorem hit_iff {k l : Int} {m : Nat} (hk : k.natAbs < m) (hl : l.natAbs < m) (m3 : m ≤ 256) (ne : k * k + l * l ≠ m * m) : hits (Go.Proofs.Ytpnjfinkhafglaa.partF k m) (Go.Proofs.Ytpnjfinkhafglaa.partF l m) = decide (k * k + l * l < (m : Int) * m) := by
  obtain ⟨x, a, ox, ex, a0, va, ka, ja⟩ := part_abs hk (by omega)
  obtain ⟨y, b, oy, ey, b0, vb, kb, jb⟩ := part_abs hl (by omega)
  have mX : may (Go.Proofs.Ytpnjfinkhafglaa.partF k m) = true := Go.Proofs.Ytpnjfinkhafglaa.part_may (by omega) (by omega) (by omega)
  have mY : may (Go.Proofs.Ytpnjfinkhafglaa.partF l m) = true := Go.Proofs.Ytpnjfinkhafglaa.part_may (by omega) (by omega) (by omega)
  obtain ⟨C, D, F, P⟩ := pnt_of mX mY
  have fc := P.fc
  have fd := P.fd
  have lp := lft_pos P.okl P.el
  have ib : inB (Go.Proofs.Ytpnjfinkhafglaa.partF k m) (Go.Proofs.Ytpnjfinkhafglaa.partF l m) = decide (a * a + b * b < one * one) := by
    unfold inB; rw [ex, ey, dec_enc ox, dec_enc oy, va, vb]
  unfold hits
  rw [dIn_may mX mY, lp, ib]
  rw [ex, dec_enc ox, va] at fc
  rw [ey, dec_enc oy, vb] at fd
  have rc := sq_round P.c0 P.c1 fc
  have rd := sq_round P.d0 P.d1 fd
  have ff := P.ff
  have f0 := P.f0
  clear lp ib mX mY
  have bp := big_pos
  have ob := one_big
  have V8 := V_I8
  obtain ⟨g, hg⟩ : ∃ g : Int, (big : Int) = g := ⟨_, rfl⟩
  obtain ⟨o, ho⟩ : ∃ o : Int, (one : Int) = o := ⟨_, rfl⟩
  obtain ⟨K, hK⟩ : ∃ K : Int, (k.natAbs : Int) = K := ⟨_, rfl⟩
  obtain ⟨L, hL⟩ : ∃ L : Int, (l.natAbs : Int) = L := ⟨_, rfl⟩
  have kk : k * k = K * K := by rw [← hK]; exact (Int.natAbs_mul_self' k).symm
  have ll : l * l = L * L := by rw [← hL]; exact (Int.natAbs_mul_self' l).symm
  have K0 : 0 ≤ K := by omega
  have L0 : 0 ≤ L := by omega
  have Km : K ≤ m := by omega
  have Lm : L ≤ m := by omega
  have m0 : (0 : Int) < m := by omega
  have M2 : (m : Int) * m ≤ 65536 := by
    have := Int.mul_le_mul (show (m : Int) ≤ 256 by omega) (show (m : Int) ≤ 256 by omega) (by omega) (by omega)
    omega
  rw [hK, ho] at ka ja
  rw [hL, ho] at kb jb
  rw [hg] at ja jb rc rd bp ob V8
  rw [ho] at rc rd ob V8 ⊢
  rw [kk, ll] at ne ⊢
  have oo : 0 ≤ o := by omega
  have hKo : 0 ≤ K * o := Int.mul_nonneg K0 oo
  have hLo : 0 ≤ L * o := Int.mul_nonneg L0 oo
  have ao : a ≤ o := Int.le_of_mul_le_mul_right (show a * m ≤ o * m from Int.le_trans ka (by rw [Int.mul_comm]; exact Int.mul_le_mul_of_nonneg_left Km oo)) m0
  have bo : b ≤ o := Int.le_of_mul_le_mul_right (show b * m ≤ o * m from Int.le_trans kb (by rw [Int.mul_comm]; exact Int.mul_le_mul_of_nonneg_left Lm oo)) m0
  have s1 := sq_low a0 (Int.le_of_lt m0) ka
  have s2 := sq_low b0 (Int.le_of_lt m0) kb
  have s3 := sq_high a0 m0 (Int.le_of_lt bp) hKo ao ja
  have s4 := sq_high b0 m0 (Int.le_of_lt bp) hLo bo jb
  obtain ⟨M, hM⟩ : ∃ M : Int, (m : Int) * m = M := ⟨_, rfl⟩
  rw [hM] at s1 s2 s3 s4 ne M2 ⊢
  obtain ⟨Q1, hQ1⟩ : ∃ Q : Int, K * K = Q := ⟨_, rfl⟩
  obtain ⟨Q2, hQ2⟩ : ∃ Q : Int, L * L = Q := ⟨_, rfl⟩
  obtain ⟨A, hA⟩ : ∃ A : Int, a * a = A := ⟨_, rfl⟩
  obtain ⟨B, hB⟩ : ∃ B : Int, b * b = B := ⟨_, rfl⟩
  rw [hQ1] at s1 s3 ne ⊢
  rw [hQ2] at s2 s4 ne ⊢
  rw [hA] at s1 s3 rc ⊢
  rw [hB] at s2 s4 rd ⊢
  have M0 : 0 < M := by rw [← hM]; exact Int.mul_pos m0 m0
  have oo2 : o * o = 81129638414606681695789005144064 * (g * g) := by rw [ob]; grind
  have og : o * g * M = 9007199254740992 * (g * g * M) := by rw [ob]; grind
  have Z0 : 0 < g * g := Int.mul_pos bp bp
  rw [oo2] at s1 s2 s3 s4 ⊢
  rw [og] at s3 s4
  obtain ⟨G, hG⟩ : ∃ G : Int, g * g = G := ⟨_, rfl⟩
  rw [hG] at s1 s2 s3 s4 Z0 oo2 ⊢
  have e1 : Q1 * (81129638414606681695789005144064 * G) = 81129638414606681695789005144064 * (Q1 * G) := by grind
  have e2 : Q2 * (81129638414606681695789005144064 * G) = 81129638414606681695789005144064 * (Q2 * G) := by grind
  rw [e1] at s1 s3
  rw [e2] at s2 s4
  have t1 : G * M ≤ G * 65536 := Int.mul_le_mul_of_nonneg_left M2 (Int.le_of_lt Z0)
  have t2 : (A + B) * M = A * M + B * M := Int.add_mul _ _ _
  by_cases hc : Q1 + Q2 < M
  · rw [decide_eq_true hc]
    have u1 : (Q1 + Q2 + 1) * G ≤ M * G := Int.mul_le_mul_of_nonneg_right (by omega) (Int.le_of_lt Z0)
    have u2 : (Q1 + Q2 + 1) * G = Q1 * G + Q2 * G + G := by grind
    have u3 : M * G = G * M := Int.mul_comm _ _
    have hin : A + B < 81129638414606681695789005144064 * G := by
      rcases Int.lt_or_le (A + B) (81129638414606681695789005144064 * G) with h | h
      · exact h
      · have h5 := Int.mul_le_mul_of_nonneg_right h (Int.le_of_lt M0)
        have h6 : 81129638414606681695789005144064 * G * M = 81129638414606681695789005144064 * (G * M) := Int.mul_assoc _ _ _
        omega
    have hL2 : ¬ fl (o - V F) 1 false ≤ 0 := by
      have hVF : V C + V D ≤ o - 8 * g := by
        rcases Int.lt_or_le (o - 8 * g) (V C + V D) with h | h
        · have h5 : (o - 10 * g) * o ≤ (V C - g + (V D - g)) * o := Int.mul_le_mul_of_nonneg_right (by omega) oo
          rw [Int.add_mul] at h5
          have h6 : (o - 10 * g) * o = 9007199254740982 * 9007199254740992 * G := by rw [← hG, ob]; grind
          have h7 : 9007199254740982 * 9007199254740992 * G ≤ A + B := by omega
          have h8 := Int.mul_le_mul_of_nonneg_right h7 (Int.le_of_lt M0)
          have h9 : 9007199254740982 * 9007199254740992 * G * M = 9007199254740982 * 9007199254740992 * (G * M) := Int.mul_assoc _ _ _
          omega
        · exact h
      have hF : F ≤ I1 - 8 := by
        rw [ff]; exact (fl_up (by omega)).2 (by rw [V8]; omega)
      have hV : V F ≤ o - 8 * g := by rw [← V8]; exact V_le_iff.2 hF
      intro h
      have h1 : (1 : Int) ≤ fl (o - V F) 1 false := by
        refine (fl_down (by omega)).2 ?_
        have v1 : V 1 = 1 := by decide +kernel
        rw [v1]; omega
      omega
    rw [decide_eq_true hin, decide_eq_false hL2]; rfl
  · rw [decide_eq_false hc]
    have u1 : (M + 1) * G ≤ (Q1 + Q2) * G := Int.mul_le_mul_of_nonneg_right (by omega) (Int.le_of_lt Z0)
    have u2 : (Q1 + Q2) * G = Q1 * G + Q2 * G := Int.add_mul _ _ _
    have u3 : (M + 1) * G = G * M + G := by grind
    have hin : ¬ A + B < 81129638414606681695789005144064 * G := by
      intro h
      have h5 : (A + B) * M ≤ 81129638414606681695789005144064 * G * M := Int.mul_le_mul_of_nonneg_right (Int.le_of_lt h) (Int.le_of_lt M0)
      have h6 : 81129638414606681695789005144064 * G * M = 81129638414606681695789005144064 * (G * M) := Int.mul_assoc _ _ _
      omega
    rw [decide_eq_false hin]; rfl
end Go.Dy
