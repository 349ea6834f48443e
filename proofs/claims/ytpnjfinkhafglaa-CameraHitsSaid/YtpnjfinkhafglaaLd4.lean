/- Plain facts: steps from one middle to the next one; the law CameraRises. -/
import Derived.Test.YtpnjfinkhafglaaLd1
import Derived.Test.YtpnjfinkhafglaaLc3
namespace Go.Dy
open Ieee
theorem near_fiR (m : Nat) : FloatKind.f64.nearest (m : Int) = fi m := by
  unfold FloatKind.nearest Dy.fi
  rw [show decide ((m : Int) < 0) = false by simp, Int.natAbs_natCast]
  rfl
/-- What is nearest is within a half of a step. -/
theorem nr_half {n : Nat} (h : n < one) : 2 * mag (nr n 0) ≤ 2 * n + big ∧ 2 * n ≤ 2 * mag (nr n 0) + big := by
  have e : n / 2 ^ 0 = n := by rw [Nat.pow_zero, Nat.div_one]
  have h1 := rdn_le n
  have h2 : n < mag (rdn n + 1) := by
    rcases Nat.lt_or_ge n (mag (rdn n + 1)) with h | h
    · exact h
    · have := le_rdn.2 h; omega
  have h3 : rdn n < 4607182418800017408 := by
    have h4 : mag (rdn n) < mag 4607182418800017408 := by
      have : (mag 4607182418800017408 : Int) = one := by have := V_one; unfold I1 at this; rw [show (4607182418800017408 : Int) = ((4607182418800017408 : Nat) : Int) from rfl, V_nat] at this; exact this
      omega
    exact mag_lt_iff.1 h4
  have h5 := @mag_step (rdn n) (by omega)
  unfold nr
  rw [e]
  dsimp only
  rw [Nat.pow_zero, Nat.mul_one]
  split
  · omega
  · split <;> omega
theorem nz_half {s : Int} (h1 : -(one : Int) ≤ s) (h2 : s ≤ one) : 2 * V (nz s) ≤ 2 * s + big ∧ 2 * s ≤ 2 * V (nz s) + big ∧ -I1 ≤ nz s ∧ nz s ≤ I1 := by
  have a1 : -I1 ≤ nz s := le_nz (by rw [V_neg, V_one]; exact h1)
  have a2 : nz s ≤ I1 := nz_le (by rw [V_one]; exact h2)
  have bp := big_pos
  by_cases e1 : s = one
  · have : nz s = I1 := by have := @le_nz I1 s (by rw [V_one]; omega); omega
    rw [this, V_one]; omega
  by_cases e2 : s = -(one : Int)
  · have : nz s = -I1 := by have := @nz_le (-I1) s (by rw [V_neg, V_one]; omega); omega
    rw [this, V_neg, V_one]; refine ⟨by omega, by omega, by omega, by unfold I1; omega⟩
  have H := nr_half (n := s.natAbs) (by omega)
  refine ⟨?_, ?_, a1, a2⟩
  · unfold nz; split
    · rw [V_ofNat_neg]; omega
    · rw [V_nat]; omega
  · unfold nz; split
    · rw [V_ofNat_neg]; omega
    · rw [V_nat]; omega
def stepB (m : Nat) : Bool := match double.div 4611686018427387904 (fi m) with
  | some S => decide (S ≤ 4607182418800017408) && (decide (2 * (mag S) * m ≤ 4 * one + big * m) && decide (4 * one ≤ 2 * (mag S) * m + big * m))
  | none => false
set_option maxRecDepth 100000 in
theorem step_tab : ∀ m : Nat, m < 257 → 2 ≤ m → stepB m = true := by decide +kernel
def oneB (m : Nat) : Bool := decide (2 * one ≤ 2 * mag ((dDiv (fi 1) (fi m) false).1) * m + big * m) && decide (2 * mag ((dDiv (fi 1) (fi m) false).1) * m ≤ 2 * one)
set_option maxRecDepth 100000 in
theorem one_tab : ∀ m : Nat, m < 257 → 2 ≤ m → oneB m = true := by decide +kernel
/-- A whole number by a greater one: between -1 and 1, off by less than a step, toward 0. -/
theorem part_V {n : Int} {m : Nat} (h1 : n.natAbs < m) (h3 : m ≤ 65536) : ∃ z : Int, ok z ∧ -I1 < z ∧ z < I1 ∧ Go.Proofs.Ytpnjfinkhafglaa.partF n m = enc z ∧ (0 ≤ n → V z * m ≤ n * one ∧ n * one < (V z + big) * m) ∧ (n ≤ 0 → n * one ≤ V z * m ∧ (V z - big) * m < n * one) := by
  obtain ⟨z, oz, z0, z1, e, key⟩ := part_rank (k := n.natAbs) (m := m) (by omega) (by omega) h3
  have e' : Go.Proofs.Ytpnjfinkhafglaa.part0 n.natAbs m = enc z := e
  have bp := big_pos
  have o1 : (0 : Int) < one := by have := one_big; omega
  have hm : (0 : Int) < m := by omega
  have l : z < I1 := by
    rcases Int.lt_or_le z I1 with h | h
    · exact h
    · have h5 := (key I1).1 h
      rw [V_one] at h5
      have h6 : (n.natAbs : Int) * one < (m : Int) * one := Int.mul_lt_mul_of_pos_right (by omega) o1
      rw [Int.mul_comm] at h5
      omega
  have k1 := (key z).1 (Int.le_refl _)
  have k2 : (n.natAbs : Int) * one < V (z + 1) * m := by
    rcases Int.lt_or_le ((n.natAbs : Int) * one) (V (z + 1) * m) with h | h
    · exact h
    · have := (key (z + 1)).2 h; omega
  have k3 : V (z + 1) * m ≤ (V z + big) * m := Int.mul_le_mul_of_nonneg_right (V_step (by unfold I1 at *; omega) l) (by omega)
  have vz : 0 ≤ V z := V_nonneg.2 z0
  have bm : 0 < (big : Int) * m := Int.mul_pos bp hm
  by_cases hn : n < 0
  · obtain ⟨a, b, c⟩ := minus_dec (W_enc oz) (right_enc oz)
    rw [dec_enc oz] at b
    have on : ok (-z) := by unfold ok at *; omega
    refine ⟨-z, on, by omega, by unfold I1 at *; omega, ?_, fun h => by omega, fun _ => ?_⟩
    · unfold Go.Proofs.Ytpnjfinkhafglaa.partF; rw [if_pos hn, e']
      have := enc_of_dec c a
      rw [b] at this; exact this.symm
    · have en : (n.natAbs : Int) = -n := by omega
      rw [en] at k1 k2
      rw [Int.neg_mul] at k1 k2
      rw [V_neg, Int.neg_mul]
      have e5 : (-V z - big) * (m : Int) = -((V z + big) * m) := by rw [← Int.neg_mul]; congr 1; omega
      rw [e5]; omega
  · have en : (n.natAbs : Int) = n := by omega
    rw [en] at k1 k2
    refine ⟨z, oz, by unfold I1 at *; omega, l, ?_, fun _ => ⟨k1, by omega⟩, fun h => ?_⟩
    · unfold Go.Proofs.Ytpnjfinkhafglaa.partF; rw [if_neg hn, e']
    · have : n = 0 := by omega
      subst this
      rw [Int.zero_mul] at k1 k2 ⊢
      have hv : V z * (m : Int) = 0 := by have := Int.mul_nonneg vz (show (0 : Int) ≤ m by omega); omega
      refine ⟨by omega, ?_⟩
      rw [Int.sub_mul, hv]; omega
def z52 : Int := 4372995238176751616
theorem V_z52 : V z52 = 2 * (big : Int) := by decide +kernel
theorem cast_le1 {S m o b : Nat} (h : 2 * S * m ≤ 4 * o + b * m) : 2 * ((S : Int) * m) ≤ 4 * (o : Int) + b * m := by rw [← Int.mul_assoc]; exact_mod_cast h
theorem cast_le2 {S m o b : Nat} (h : 4 * o ≤ 2 * S * m + b * m) : 4 * (o : Int) ≤ 2 * ((S : Int) * m) + b * m := by rw [← Int.mul_assoc]; exact_mod_cast h
theorem cast_le3 {S m o b : Nat} (h : 2 * o ≤ 2 * S * m + b * m) : 2 * (o : Int) ≤ 2 * ((S : Int) * m) + b * m := by rw [← Int.mul_assoc]; exact_mod_cast h
theorem cast_le4 {S m o : Nat} (h : 2 * S * m ≤ 2 * o) : 2 * ((S : Int) * m) ≤ 2 * (o : Int) := by rw [← Int.mul_assoc]; exact_mod_cast h
/-- One step: both middles are between -1 and 1, the second one is the greater one, by 2 by the size, but for 2^-52. -/
theorem rise_num {m : Nat} {k : Int} (m2 : 2 ≤ m) (m3 : m ≤ 256) (h1 : -(m : Int) < k) (h2 : k + 2 < m) :
    ∃ X U D E S : Nat, Go.Proofs.Ytpnjfinkhafglaa.partF k m = X ∧ Go.Proofs.Ytpnjfinkhafglaa.partF (k + 2) m = U ∧ double.div 4611686018427387904 (fi m) = some S ∧ W S ∧
      fgt X 13830554455654793216 = true ∧ flt X U = true ∧ flt U 4607182418800017408 = true ∧ double.sub U X = some D ∧ W D ∧ double.sub D S = some E ∧ W E ∧ (flt (abs E) 4372995238176751616 || feq (abs E) 4372995238176751616) = true := by
  obtain ⟨x, ox, x1, x2, ex, px, nx⟩ := part_V (n := k) (m := m) (by omega) (by omega)
  obtain ⟨u, ou, u1, u2, eu, pu, nu⟩ := part_V (n := k + 2) (m := m) (by omega) (by omega)
  have bp := big_pos
  have ob := one_big
  have tp := top_eq
  have st := step_tab m (by omega) m2
  unfold stepB at st
  obtain ⟨S, hS⟩ : ∃ S, double.div 4611686018427387904 (fi m) = some S := by
    cases h : double.div 4611686018427387904 (fi m) with
    | none => rw [h] at st; cases st
    | some S => exact ⟨S, rfl⟩
  rw [hS] at st
  simp only [Bool.and_eq_true, decide_eq_true_eq] at st
  obtain ⟨s1, s2, s3⟩ := st
  have oS : ok (S : Int) := by unfold ok; omega
  have eS : enc (S : Int) = S := enc_nat S
  have vS : V (S : Int) = (mag S : Int) := V_nat S
  obtain ⟨T, hT⟩ : ∃ T : Int, V (S : Int) = T := ⟨_, rfl⟩
  have s2' : 2 * (T * m) ≤ 4 * one + big * m := by rw [← hT, vS]; exact cast_le1 s2
  have s3' : 4 * (one : Int) ≤ 2 * (T * m) + big * m := by rw [← hT, vS]; exact cast_le2 s3
  have e2 : (k + 2) * (one : Int) = k * one + 2 * one := by rw [Int.add_mul]
  rw [e2] at pu nu
  rw [Int.add_mul] at px pu
  rw [Int.sub_mul] at nx nu
  obtain ⟨K, hK⟩ : ∃ K : Int, k * one = K := ⟨_, rfl⟩
  obtain ⟨A, hA⟩ : ∃ A : Int, V x * m = A := ⟨_, rfl⟩
  obtain ⟨B, hB⟩ : ∃ B : Int, V u * m = B := ⟨_, rfl⟩
  obtain ⟨C, hC⟩ : ∃ C : Int, (big : Int) * m = C := ⟨_, rfl⟩
  rw [hK, hA, hC] at px nx
  rw [hK, hB, hC] at pu nu
  rw [hC] at s2' s3'
  have cC : 0 < C := by rw [← hC]; exact Int.mul_pos bp (by omega)
  have cC2 : C ≤ 256 * big := by rw [← hC, Int.mul_comm]; exact Int.mul_le_mul_of_nonneg_right (by omega) (by omega)
  have main : B - A ≤ 2 * one + C ∧ 2 * (one : Int) ≤ B - A + C ∧ (m = 2 → B - A ≤ 2 * one) := by
    by_cases c1 : 0 ≤ k
    · have := px c1; have := pu (by omega)
      refine ⟨by omega, by omega, fun h => by omega⟩
    · by_cases c2 : k + 2 ≤ 0
      · have := nx (by omega); have := nu c2
        refine ⟨by omega, by omega, fun h => by omega⟩
      · have ek : k = -1 := by omega
        subst ek
        have et := one_tab m (by omega) m2
        unfold oneB at et
        simp only [Bool.and_eq_true, decide_eq_true_eq] at et
        obtain ⟨t1, t2⟩ := et
        have f1 : Go.Proofs.Ytpnjfinkhafglaa.partF (-1 + 2) m = (dDiv (fi 1) (fi m) false).1 := rfl
        have f2 : Go.Proofs.Ytpnjfinkhafglaa.partF (-1) m = minus ((dDiv (fi 1) (fi m) false).1) := rfl
        rw [← f1, eu] at f2
        rw [← f1, eu] at t1 t2
        obtain ⟨a, b, c⟩ := minus_dec (W_enc ou) (right_enc ou)
        have dx : x = -u := by
          have := dec_enc ox
          rw [← ex, f2, b, dec_enc ou] at this; exact this.symm
        have u0 : 0 ≤ u := by
          rcases Int.lt_or_le u 0 with h | h
          · have h3 : V u ≤ -1 := by have := V_lt h; rw [V_zero] at this; omega
            have h4 : V u * m ≤ (-1) * m := Int.mul_le_mul_of_nonneg_right h3 (by omega)
            have := pu (by omega)
            omega
          · exact h
        have eu' : enc u = u.toNat := by unfold enc; rw [if_pos u0]
        have vu : (mag (enc u) : Int) = V u := by rw [eu', V_toNat u0]
        have t1' : 2 * (one : Int) ≤ 2 * (V u * m) + C := by rw [← hC, ← vu]; exact cast_le3 t1
        have t2' : 2 * (V u * m) ≤ 2 * (one : Int) := by rw [← vu]; exact cast_le4 t2
        rw [hB] at t1' t2'
        have hA' : A = -B := by rw [← hA, ← hB, dx, V_neg, Int.neg_mul]
        refine ⟨by omega, by omega, fun h => by omega⟩
  obtain ⟨g1, g2, g3⟩ := main
  obtain ⟨G, hG⟩ : ∃ G : Int, V u - V x = G := ⟨_, rfl⟩
  have hGm : G * m = B - A := by rw [← hG, Int.sub_mul, hA, hB]
  have G0 : 0 < G := by
    rcases Int.lt_or_le 0 G with h | h
    · exact h
    · have : G * m ≤ 0 * m := Int.mul_le_mul_of_nonneg_right h (by omega)
      omega
  have G1 : G ≤ one := by
    rcases Int.lt_or_le (one : Int) G with h | h
    · have h5 : ((one : Int) + 1) * m ≤ G * m := Int.mul_le_mul_of_nonneg_right (by omega) (by omega)
      rw [Int.add_mul] at h5
      by_cases c : m = 2
      · have := g3 c; subst c; omega
      · have h6 : (one : Int) * 3 ≤ one * m := Int.mul_le_mul_of_nonneg_left (by omega) (by omega)
        omega
    · exact h
  obtain ⟨n1, n2, n3, n4⟩ := nz_half (s := G) (by omega) G1
  obtain ⟨d, hd⟩ : ∃ d, nz G = d := ⟨_, rfl⟩
  rw [hd] at n1 n2 n3 n4
  have od : ok d := by unfold ok I1 at *; omega
  have n1' : 2 * (V d * m) ≤ 2 * (G * m) + C := by
    have := Int.mul_le_mul_of_nonneg_right n1 (show (0 : Int) ≤ m by omega)
    rw [Int.add_mul, hC, Int.mul_assoc, Int.mul_assoc] at this; exact this
  have n2' : 2 * (G * m) ≤ 2 * (V d * m) + C := by
    have := Int.mul_le_mul_of_nonneg_right n2 (show (0 : Int) ≤ m by omega)
    rw [Int.add_mul, hC, Int.mul_assoc, Int.mul_assoc] at this; exact this
  obtain ⟨F, hF⟩ : ∃ F : Int, V d - T = F := ⟨_, rfl⟩
  have hFm : F * m = V d * m - T * m := by rw [← hF, Int.sub_mul]
  have F1 : F ≤ 2 * big := by
    refine Int.le_of_mul_le_mul_right (?_ : F * m ≤ 2 * big * m) (by omega)
    rw [Int.mul_assoc, hC]; omega
  have F2 : -(2 * (big : Int)) ≤ F := by
    refine Int.le_of_mul_le_mul_right (?_ : -(2 * (big : Int)) * m ≤ F * m) (by omega)
    rw [Int.neg_mul, Int.mul_assoc, hC]; omega
  have e1 : nz F ≤ z52 := nz_le (by rw [V_z52]; exact F1)
  have e3 : -z52 ≤ nz F := le_nz (by rw [V_neg, V_z52]; exact F2)
  obtain ⟨e, he⟩ : ∃ e, nz F = e := ⟨_, rfl⟩
  rw [he] at e1 e3
  have oe : ok e := by unfold ok z52 at *; omega
  have c1 : (13830554455654793216 : Nat) = enc (-I1) := by decide
  have c2 : (4607182418800017408 : Nat) = enc I1 := by decide
  have o1 : ok (-I1) := by unfold ok I1; omega
  have o2 : ok I1 := by unfold ok I1; omega
  have k1 : V x < V u := by omega
  have k2 : x < u := by
    rcases Int.lt_or_le x u with h | h
    · exact h
    · have := V_le_iff.2 h; omega
  refine ⟨enc x, enc u, enc d, enc e, S, ex, eu, hS, by rw [← eS]; exact W_enc oS, ?_, ?_, ?_, ?_, W_enc od, ?_, W_enc oe, ?_⟩
  · rw [c1, fgt_dec (W_enc ox) (W_enc o1) (right_enc ox) (right_enc o1), dec_enc ox, dec_enc o1]; exact decide_eq_true x1
  · rw [flt_dec (W_enc ox) (W_enc ou) (right_enc ox) (right_enc ou), dec_enc ox, dec_enc ou]; exact decide_eq_true k2
  · rw [c2, flt_dec (W_enc ou) (W_enc o2) (right_enc ou) (right_enc o2), dec_enc ou, dec_enc o2]; exact decide_eq_true u2
  · rw [sub_near (W_enc ou) (W_enc ox) (right_enc ou) (right_enc ox), dec_enc ou, dec_enc ox, hG, hd, nrst_ok od]
  · have h := sub_near (W_enc od) (W_enc oS) (right_enc od) (right_enc oS)
    rw [dec_enc od, dec_enc oS, hT, hF, he, nrst_ok oe, eS] at h
    exact h
  · have c3 : (4372995238176751616 : Nat) = enc z52 := by decide
    have o3 : ok z52 := by unfold ok z52; omega
    have ra : right (abs (enc e)) = true := by
      have : abs (enc e) = e.natAbs := by
        unfold abs enc; unfold ok at oe
        split
        · omega
        · omega
      rw [this]; unfold right; rw [decide_eq_true_eq]; unfold ok at oe; omega
    rw [c3, fle_dec (W_abs _) (W_enc o3) ra (right_enc o3), dec_abs (W_enc oe) (right_enc oe), dec_enc oe, dec_enc o3]
    refine decide_eq_true ?_
    unfold z52 at *; omega
end Go.Dy
namespace Go.Proofs.Ytpnjfinkhafglaa
open Go Go.RowKit
set_option linter.unusedSimpArgs false
set_option linter.unusedVariables false
theorem camrises_ok (a b c : Nat) (w : World) (ha : a < 256) (hb : b < 65536) (hc : c < 65536) : Calls Try.prog 4 #[.int .u8 (a : Int), .int .u16 (b : Int), .int .u16 (c : Int)] w fun e w' => e = .returned (.bool true) ∧ Below w.heap.size w w' := by
  obtain ⟨n, hn⟩ : ∃ n : Nat, n = 2 + a % 255 := ⟨_, rfl⟩
  obtain ⟨i, hi⟩ : ∃ i : Nat, i = b % (n - 1) := ⟨_, rfl⟩
  obtain ⟨j, hj⟩ : ∃ j : Nat, j = c % (n - 1) := ⟨_, rfl⟩
  have l0 : a % 255 < 255 := Nat.mod_lt _ (by omega)
  have li : i < n - 1 := by rw [hi]; exact Nat.mod_lt _ (by omega)
  have lj : j < n - 1 := by rw [hj]; exact Nat.mod_lt _ (by omega)
  have e0 : IntKind.i64.wrap (a : Int) = (a : Int) := by rw [IntKind.wrap_i64]; omega
  have e1 : (a : Int).tmod 255 = ((a % 255 : Nat) : Int) := by rw [Int.tmod_eq_emod_of_nonneg (by omega)]; simp
  have e2 : IntKind.i64.wrap (2 + ((a % 255 : Nat) : Int)) = (n : Int) := by rw [IntKind.wrap_i64]; omega
  have e3 : IntKind.i64.wrap (b : Int) = (b : Int) := by rw [IntKind.wrap_i64]; omega
  have e4 : IntKind.i64.wrap ((n : Int) - 1) = ((n - 1 : Nat) : Int) := by rw [IntKind.wrap_i64]; omega
  have e5 : (b : Int).tmod ((n - 1 : Nat) : Int) = (i : Int) := by rw [Int.tmod_eq_emod_of_nonneg (by omega), hi]; simp
  have e7 : IntKind.i64.wrap (c : Int) = (c : Int) := by rw [IntKind.wrap_i64]; omega
  have e8 : (c : Int).tmod ((n - 1 : Nat) : Int) = (j : Int) := by rw [Int.tmod_eq_emod_of_nonneg (by omega), hj]; simp
  have ne : ∀ x : Int, iN [.i x, .i ((n - 1 : Nat) : Int)] = true := fun x => decide_eq_true (show ((n - 1 : Nat) : Int) ≠ 0 by omega)
  have e11 : IntKind.i64.wrap ((i : Int) + 1) = (i : Int) + 1 := by rw [IntKind.wrap_i64]; omega
  have e12 : IntKind.i64.wrap ((j : Int) + 1) = (j : Int) + 1 := by rw [IntKind.wrap_i64]; omega
  obtain ⟨X, U, D, E, S, hX, hU, hS, wS, c1, c2, c3, hD, wD, hE, wE, c4⟩ := Dy.rise_num (m := n) (k := 2 * (i : Int) + 1 - n) (by omega) (by omega) (by omega) (by omega)
  obtain ⟨Q, Y, D', E', S', hQ, hY, hS', -, d1, d2, d3, hD', wD', hE', wE', d4⟩ := Dy.rise_num (m := n) (k := (n : Int) - 1 - 2 * ((j : Int) + 1)) (by omega) (by omega) (by omega) (by omega)
  have es : S' = S := by rw [hS] at hS'; exact (Option.some.inj hS').symm
  subst es
  have T0 : there (n : Int) i j := ⟨⟨by omega, by omega⟩, ⟨by omega, by omega⟩, ⟨by omega, by omega⟩⟩
  have T1 : there (n : Int) ((i : Int) + 1) ((j : Int) + 1) := ⟨⟨by omega, by omega⟩, ⟨by omega, by omega⟩, ⟨by omega, by omega⟩⟩
  have P0 : pointF n i j = ((X, Y), 0) := by
    unfold pointF; rw [if_pos T0, Int.toNat_natCast, hX, show (n : Int) - 1 - 2 * j = (n : Int) - 1 - 2 * ((j : Int) + 1) + 2 by omega, hY]
  have P1 : pointF n ((i : Int) + 1) ((j : Int) + 1) = ((U, Q), 0) := by
    unfold pointF; rw [if_pos T1, Int.toNat_natCast, hQ, show 2 * ((i : Int) + 1) + 1 - n = 2 * (i : Int) + 1 - n + 2 by omega, hU]
  have fn : ∀ (g : Nat → Nat → Option Nat) (x y r : Nat), g x y = some r → Dy.W r → fN g [.f x, .f y] = true := fun g x y r h hr => by
    show okF (g x y) = true
    rw [h]; exact decide_eq_true hr.lt
  have w0 : IntKind.i64.wrap (0 + 0) = 0 := by decide
  have nn : nN [.i (n : Int)] = true := by
    show decide (FloatKind.f64.nearest (n : Int) < W64) = true
    rw [Dy.near_fiR]; exact decide_eq_true (Dy.fi_spec (m := n) (by omega)).2.1.lt
  have dgt : ∀ x y : Nat, Dy.flt x y = true → Dy.W x → Dy.W y → Dy.fgt y x = true := fun x y h hx hy => by
    rw [Dy.flt_eq hx.lt hy.lt] at h
    rw [Dy.fgt_eq hy.lt hx.lt]
    simp only [Bool.and_eq_true, Bool.not_eq_true', decide_eq_true_eq] at h ⊢
    exact ⟨⟨h.1.2, h.1.1⟩, h.2⟩
  have wX : Dy.W X := by rw [← hX]; exact W_part _ _
  have wQ : Dy.W Q := by rw [← hQ]; exact W_part _ _
  have wY : Dy.W Y := by rw [← hY]; exact W_part _ _
  exact camrises a b c w e0 e1 e2 e3 e4 e5 (ne _) e7 e8 (ne _) P0 e11 e12 P1 (Dy.near_fiR n) nn (by rw [hS]; rfl) (fn _ _ _ _ hS wS) w0 rfl c1 c2 c3 d3 (dgt _ _ d2 wQ wY) d1 (by rw [hD]; rfl) (fn _ _ _ _ hD wD) (by rw [hE]; rfl) (fn _ _ _ _ hE wE) rfl c4 (by rw [hD']; rfl) (fn _ _ _ _ hD' wD') (by rw [hE']; rfl) (fn _ _ _ _ hE' wE') rfl d4
end Go.Proofs.Ytpnjfinkhafglaa
