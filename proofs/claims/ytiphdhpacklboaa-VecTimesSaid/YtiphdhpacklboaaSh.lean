/- Plain facts: a triple times a power of two has the same unit vector. -/
import Derived.Test.YtiphdhpacklboaaSg
namespace Go.Dy
theorem mag_shift {r : Nat} (h : 2 ^ 52 ≤ r) (m : Nat) : mag (r + m * 2 ^ 52) = mag r * 2 ^ m := by
  rw [mag_parts h, mag_parts (by omega)]
  have e1 : (r + m * 2 ^ 52) % 2 ^ 52 = r % 2 ^ 52 := by omega
  have e2 : (r + m * 2 ^ 52) / 2 ^ 52 - 1 = r / 2 ^ 52 - 1 + m := by omega
  rw [e1, e2, Nat.pow_add, Nat.mul_assoc]
theorem V_shift {z : Int} (h : 4503599627370496 ≤ z) (m : Nat) : V (z + (m : Int) * 4503599627370496) = V z * 2 ^ m := by
  obtain ⟨r, rfl⟩ : ∃ r : Nat, z = (r : Int) := ⟨z.toNat, by omega⟩
  have e : ((r : Int) + (m : Int) * 4503599627370496) = ((r + m * 2 ^ 52 : Nat) : Int) := by omega
  rw [e, V_nat, V_nat, mag_shift (by omega), Int.natCast_mul, Int.natCast_pow]; rfl
theorem V_53 : V 9007199254740992 = 9007199254740992 := by decide +kernel
theorem V_low {N : Int} (h0 : 0 ≤ N) (h : N < 9007199254740992) : V N = N := by
  obtain ⟨r, rfl⟩ : ∃ r : Nat, N = (r : Int) := ⟨N.toNat, by omega⟩
  rw [V_nat, mag_low (by omega)]
theorem pow_pos2 (m : Nat) : (0 : Int) < 2 ^ m := by
  have := Nat.two_pow_pos m
  have e : ((2 ^ m : Nat) : Int) = (2 : Int) ^ m := by rw [Int.natCast_pow]; rfl
  omega
theorem pow_le2 {a b : Nat} (h : a ≤ b) : (2 : Int) ^ a ≤ 2 ^ b := by
  have := Nat.pow_le_pow_right (n := 2) (by decide) h
  have e : ((2 ^ a : Nat) : Int) = (2 : Int) ^ a := by rw [Int.natCast_pow]; rfl
  have e' : ((2 ^ b : Nat) : Int) = (2 : Int) ^ b := by rw [Int.natCast_pow]; rfl
  omega
theorem pow_one2 (m : Nat) : (1 : Int) ≤ 2 ^ m := pow_le2 (a := 0) (Nat.zero_le m)
theorem scaled {z : Int} (h : 0 ≤ z) : ∀ m : Nat, ∃ w, 0 ≤ w ∧ V w = V z * 2 ^ m
  | 0 => ⟨z, h, by simp⟩
  | m + 1 => by
    obtain ⟨w, w0, hw⟩ := scaled h m
    by_cases c : 4503599627370496 ≤ w
    · refine ⟨w + ((1 : Nat) : Int) * 4503599627370496, by omega, ?_⟩
      rw [V_shift c, hw, Int.pow_succ, Int.mul_assoc]; rfl
    · refine ⟨2 * w, by omega, ?_⟩
      rw [V_low (N := 2 * w) (by omega) (by omega), Int.pow_succ, ← Int.mul_assoc, ← hw, V_low w0 (by omega)]; omega
theorem fl_le {N : Int} {d : Nat} (hd : 0 < d) : fl N d false ≤ fl N d true := by
  have a := (@fl_down (fl N d false) N d hd).1 (Int.le_refl _)
  have b := (@fl_up (fl N d true) N d hd).1 (Int.le_refl _)
  exact V_le_iff.1 (Int.le_of_mul_le_mul_right (Int.le_trans a b) (by omega))
theorem le_fl {z N : Int} {d : Nat} {up : Bool} (hd : 0 < d) (h : V z * d ≤ N) : z ≤ fl N d up := by
  have a := (@fl_down z N d hd).2 h
  have b := fl_le (N := N) hd
  cases up <;> omega
theorem V_fl_le {w N : Int} {d : Nat} {up : Bool} (hd : 0 < d) (h : N ≤ V w * d) : fl N d up ≤ w := by
  have a := (@fl_up w N d hd).2 h
  have b := fl_le (N := N) hd
  cases up <;> omega
theorem fl_big {N : Int} {d : Nat} {up : Bool} (hd : 0 < d) (h : 9007199254740992 * (d : Int) ≤ N) : 9007199254740992 ≤ fl N d up := le_fl hd (by rw [V_53]; exact h)
theorem fl_scale {N : Int} {d : Nat} (hd : 0 < d) (h : 9007199254740992 * (d : Int) ≤ N) (m : Nat) (up : Bool) : fl (N * 2 ^ m) d up = fl N d up + (m : Int) * 4503599627370496 := by
  have b := fl_big (up := up) hd h
  have p := pow_pos2 m
  have sw : ∀ a : Int, a * 2 ^ m * (d : Int) = a * (d : Int) * 2 ^ m := fun a => by rw [Int.mul_assoc, Int.mul_comm (2 ^ m), ← Int.mul_assoc]
  generalize hz : fl N d up = z at *
  cases up with
  | true =>
    have k1 : N ≤ V z * d := (fl_up hd).1 (by omega)
    have k2 : V (z - 1) * d < N := by
      rcases Int.lt_or_le (V (z - 1) * d) N with c | c
      · exact c
      · have := (@fl_up (z - 1) N d hd).2 c; omega
    refine Int.le_antisymm ((fl_up hd).2 ?_) ?_
    · rw [V_shift (by omega), sw]; exact Int.mul_le_mul_of_nonneg_right k1 (Int.le_of_lt p)
    · rcases Int.lt_or_le (fl (N * 2 ^ m) d true) (z + (m : Int) * 4503599627370496) with c | c
      · have c' := (fl_up hd).1 (show fl (N * 2 ^ m) d true ≤ (z - 1) + (m : Int) * 4503599627370496 by omega)
        rw [V_shift (by omega), sw] at c'
        have := Int.mul_lt_mul_of_pos_right k2 p
        omega
      · exact c
  | false =>
    have k1 : V z * d ≤ N := (fl_down hd).1 (by omega)
    have k2 : N < V (z + 1) * d := by
      rcases Int.lt_or_le N (V (z + 1) * d) with c | c
      · exact c
      · have := (@fl_down (z + 1) N d hd).2 c; omega
    refine Int.le_antisymm ?_ ((fl_down hd).2 ?_)
    · rcases Int.lt_or_le (z + (m : Int) * 4503599627370496) (fl (N * 2 ^ m) d false) with c | c
      · have c' := (fl_down hd).1 (show (z + 1) + (m : Int) * 4503599627370496 ≤ fl (N * 2 ^ m) d false by omega)
        rw [V_shift (by omega), sw] at c'
        have := Int.mul_lt_mul_of_pos_right k2 p
        omega
      · exact c
    · rw [V_shift (by omega), sw]; exact Int.mul_le_mul_of_nonneg_right k1 (Int.le_of_lt p)
theorem add_scale {N : Int} (h0 : 0 ≤ N) (m : Nat) (up : Bool) : V (fl (N * 2 ^ m) 1 up) = V (fl N 1 up) * 2 ^ m := by
  by_cases h : 9007199254740992 ≤ N
  · have h' : 9007199254740992 * ((1 : Nat) : Int) ≤ N := by omega
    have b := fl_big (up := up) (by decide) h'
    rw [fl_scale (by decide) h' m up, V_shift (by omega)]
  · have e := V_low h0 (by omega)
    obtain ⟨w, _, hw⟩ := scaled h0 m
    have e1 : fl N 1 up = N := by have := fl_V N 1 (by decide) up; rw [e] at this; simpa using this
    have e2 : fl (N * 2 ^ m) 1 up = w := by have := fl_V w 1 (by decide) up; rw [hw, e] at this; simpa using this
    rw [e1, e2, hw]
theorem gap {z D : Int} (hD : 0 < D) (h : 9007199254740992 * D ≤ V z) : D < V (z + 1) - V z ∧ 9007199254740992 ≤ z := by
  have hz : 9007199254740992 ≤ z := V_le_iff.1 (by rw [V_53]; omega)
  refine ⟨?_, hz⟩
  obtain ⟨r, rfl⟩ : ∃ r : Nat, z = (r : Int) := ⟨z.toNat, by omega⟩
  have e : ((r : Int) + 1) = ((r + 1 : Nat) : Int) := by omega
  have hp := mag_parts (r := r) (by omega)
  rw [V_nat] at h
  rw [e, V_nat, V_nat, mag_succ]
  have f : r % 2 ^ 52 < 2 ^ 52 := Nat.mod_lt _ (by decide)
  have g : mag r < 9007199254740992 * 2 ^ (r / 2 ^ 52 - 1) := by
    rw [hp]; exact Nat.mul_lt_mul_of_pos_right (by omega) (Nat.two_pow_pos _)
  generalize 2 ^ (r / 2 ^ 52 - 1) = G at *
  omega
theorem absorb {z δ D : Int} {up : Bool} (hD : 0 < D) (h : 9007199254740992 * D ≤ V z) (d0 : 0 ≤ δ) (d1 : δ ≤ D) : fl (V z + δ) 1 up = if up = true ∧ δ ≠ 0 then z + 1 else z := by
  obtain ⟨g, _⟩ := gap hD h
  have o : ∀ a : Int, a * ((1 : Nat) : Int) = a := fun a => by simp
  cases up with
  | false =>
    rw [if_neg (by simp)]
    refine Int.le_antisymm ?_ ((fl_down (by decide)).2 (by rw [o]; omega))
    rcases Int.lt_or_le z (fl (V z + δ) 1 false) with c | c
    · have := (fl_down (by decide)).1 (show z + 1 ≤ fl (V z + δ) 1 false by omega)
      rw [o] at this; omega
    · exact c
  | true =>
    by_cases c : δ = 0
    · rw [if_neg (by simp [c]), c]
      have := fl_V z 1 (by decide) true
      rw [o] at this; rw [Int.add_zero]; exact this
    · rw [if_pos ⟨rfl, c⟩]
      refine Int.le_antisymm ((fl_up (by decide)).2 (by rw [o]; omega)) ?_
      rcases Int.lt_or_le (fl (V z + δ) 1 true) (z + 1) with c' | c'
      · have := (fl_up (by decide)).1 (show fl (V z + δ) 1 true ≤ z by omega)
        rw [o] at this; omega
      · exact c'
theorem absorb_sc {A B δ δ' D : Int} {m : Nat} {up : Bool} (e : V B = V A * 2 ^ m) (hD : 0 < D) (h : 9007199254740992 * D ≤ V A) (d0 : 0 ≤ δ) (d1 : δ ≤ D) (d0' : 0 ≤ δ') (d1' : δ' ≤ D) (z : up = true → (δ = 0 ↔ δ' = 0)) :
    V (fl (V B + δ') 1 up) = V (fl (V A + δ) 1 up) * 2 ^ m := by
  obtain ⟨_, hz⟩ := gap hD h
  have hB : B = A + (m : Int) * 4503599627370496 := V_inj (by rw [V_shift (by omega)]; exact e)
  have hB' : 9007199254740992 * D ≤ V B := by
    have := Int.mul_le_mul_of_nonneg_left (pow_one2 m) (show 0 ≤ V A by omega)
    omega
  rw [absorb hD h d0 d1, absorb hD hB' d0' d1']
  by_cases c : up = true ∧ δ ≠ 0
  · rw [if_pos c, if_pos ⟨c.1, fun h => c.2 ((z c.1).2 h)⟩, hB, show A + (m : Int) * 4503599627370496 + 1 = (A + 1) + (m : Int) * 4503599627370496 by omega, V_shift (by omega)]
  · rw [if_neg c, if_neg (fun h => c ⟨h.1, fun h' => h.2 ((z h.1).1 h')⟩), e]
/-- Of two numbers the one is so many times the other, or both are small. -/
def Cl (up : Bool) (m : Nat) (L L' : Int) (A B : Int) : Prop := 0 ≤ A ∧ 0 ≤ B ∧ (V B = V A * 2 ^ m ∨ (V A ≤ L ∧ V B ≤ L' ∧ (up = true → (A = 0 ↔ B = 0))))
theorem V_fl_pow {N : Int} {d e : Nat} {up : Bool} (hd : 0 < d) (h : N ≤ 2 ^ e * (d : Int)) : V (fl N d up) ≤ 2 ^ e := by
  obtain ⟨w, _, hw⟩ := scaled (z := 1) (by decide) e
  rw [V_low (N := 1) (by decide) (by decide), Int.one_mul] at hw
  rw [← hw]
  exact V_le_iff.2 (V_fl_le hd (by rw [hw]; exact h))
theorem fl_up_zero {N : Int} {d : Nat} (hd : 0 < d) (h0 : 0 ≤ N) : fl N d true = 0 ↔ N = 0 := by
  have n := fl_nonneg (up := true) hd h0
  have k := @fl_up 0 N d hd
  rw [V_zero, Int.zero_mul] at k
  constructor
  · intro h; have := k.1 (by omega); omega
  · intro h; have := k.2 (by omega); omega
theorem sq_nn (a : Int) : 0 ≤ a * a := by
  rcases Int.lt_or_le a 0 with c | c
  · exact Int.mul_nonneg_of_nonpos_of_nonpos (by omega) (by omega)
  · exact Int.mul_nonneg c c
theorem sqr_cl {a b : Int} {k : Nat} (hb : V b = V a * 2 ^ k) (hk : k ≤ 100) (up : Bool) : Cl up (2 * k) (2 ^ 53) (2 ^ 253) (mulR a a up) (mulR b b up) := by
  have e : V b * V b = V a * V a * 2 ^ (2 * k) := by rw [hb, show 2 * k = k + k by omega, Int.pow_add]; grind
  have n0 := sq_nn (V a)
  have n1 : 0 ≤ V b * V b := by rw [e]; exact Int.mul_nonneg n0 (Int.le_of_lt (pow_pos2 _))
  have hd : 0 < one := one_pos
  unfold mulR
  refine ⟨fl_nonneg hd n0, fl_nonneg hd n1, ?_⟩
  by_cases h : 9007199254740992 * (one : Int) ≤ V a * V a
  · refine .inl ?_
    have b := fl_big (up := up) hd h
    rw [e, fl_scale hd h, V_shift (by omega)]
  · refine .inr ⟨V_fl_pow hd (by have : (2 : Int) ^ 53 = 9007199254740992 := by decide
                                 rw [this]; omega), V_fl_pow hd ?_, fun hu => ?_⟩
    · rw [e]
      have p := pow_le2 (show 2 * k ≤ 200 by omega)
      have q1 := Int.mul_le_mul_of_nonneg_left p n0
      have q2 := Int.mul_le_mul_of_nonneg_right (show V a * V a ≤ 9007199254740992 * (one : Int) by omega) (Int.le_of_lt (pow_pos2 200))
      have q3 : (9007199254740992 : Int) * (one : Int) * 2 ^ 200 = 2 ^ 253 * (one : Int) := by
        have : (2 : Int) ^ 253 = 9007199254740992 * 2 ^ 200 := by decide +kernel
        rw [this]; grind
      omega
    · subst hu
      rw [fl_up_zero hd n0, fl_up_zero hd n1, e]
      have p := pow_pos2 (2 * k)
      constructor
      · intro h; rw [h, Int.zero_mul]
      · intro h; rcases Int.mul_eq_zero.1 h with h | h <;> omega
theorem V_le_pow {A B : Int} {m : Nat} (hm : m ≤ 200) (e : V B = V A * 2 ^ m) (h0 : 0 ≤ V A) {L : Int} (h : V A ≤ L) : V B ≤ L * 2 ^ 200 := by
  rw [e]
  have q1 := Int.mul_le_mul_of_nonneg_left (pow_le2 hm) h0
  have q2 := Int.mul_le_mul_of_nonneg_right h (Int.le_of_lt (pow_pos2 200))
  omega
theorem zero_sc {A B : Int} {m : Nat} (e : V B = V A * 2 ^ m) : A = 0 ↔ B = 0 := by
  rw [← V_eq_zero (z := A), ← V_eq_zero (z := B), e]
  have p := pow_pos2 m
  constructor
  · intro h; rw [h, Int.zero_mul]
  · intro h; rcases Int.mul_eq_zero.1 h with h | h <;> omega
theorem sum_small {A1 B1 A2 B2 : Int} {m : Nat} {up : Bool} (a1 : 0 ≤ V A1) (b1 : 0 ≤ V B1) (a2 : 0 ≤ V A2) (b2 : 0 ≤ V B2) (h : V A1 + V A2 ≤ 2 ^ 307) (h' : V B1 + V B2 ≤ 2 ^ 507) (z1 : up = true → (A1 = 0 ↔ B1 = 0)) (z2 : up = true → (A2 = 0 ↔ B2 = 0)) :
    Cl up m (2 ^ 307) (2 ^ 507) (fl (V A1 + V A2) 1 up) (fl (V B1 + V B2) 1 up) := by
  refine ⟨fl_nonneg (by decide) (by omega), fl_nonneg (by decide) (by omega), .inr ⟨V_fl_pow (by decide) (by omega), V_fl_pow (by decide) (by omega), fun hu => ?_⟩⟩
  subst hu
  rw [fl_up_zero (by decide) (by omega), fl_up_zero (by decide) (by omega)]
  have y1 := z1 rfl; have y2 := z2 rfl
  rw [← V_eq_zero (z := A1), ← V_eq_zero (z := B1)] at y1
  rw [← V_eq_zero (z := A2), ← V_eq_zero (z := B2)] at y2
  omega
theorem p253 : (2 : Int) ^ 253 = 14474011154664524427946373126085988481658748083205070504932198000989141204992 := by decide +kernel
theorem p306 : (9007199254740992 : Int) * 2 ^ 253 = 2 ^ 306 ∧ (2 : Int) ^ 306 + 2 ^ 253 ≤ 2 ^ 307 ∧ (2 : Int) ^ 306 * 2 ^ 200 + 2 ^ 253 ≤ 2 ^ 507 ∧ (2 : Int) ^ 53 ≤ 2 ^ 253 ∧ (2 : Int) ^ 53 + 2 ^ 53 ≤ 2 ^ 307 ∧ (2 : Int) ^ 253 + 2 ^ 253 ≤ 2 ^ 507 ∧ (9007199254740992 : Int) * 2 ^ 507 ≤ 2 ^ 900 ∧ (9007199254740992 : Int) * 2 ^ 253 ≤ 2 ^ 900 ∧ (2 : Int) ^ 307 < 2 ^ 900 ∧ (2 : Int) ^ 53 < 2 ^ 900 ∧ (2 : Int) ^ 307 ≤ 2 ^ 507 := by decide +kernel
theorem mix_cl {A1 B1 A2 B2 : Int} {m : Nat} {up : Bool} (hm : m ≤ 200) (n1 : 0 ≤ A1) (n1' : 0 ≤ B1) (n2 : 0 ≤ A2) (n2' : 0 ≤ B2) (s : V A1 ≤ 2 ^ 53 ∧ V B1 ≤ 2 ^ 253 ∧ (up = true → (A1 = 0 ↔ B1 = 0))) (e : V B2 = V A2 * 2 ^ m) :
    Cl up m (2 ^ 307) (2 ^ 507) (fl (V A2 + V A1) 1 up) (fl (V B2 + V B1) 1 up) := by
  obtain ⟨q1, q2, q3, q4, _⟩ := p306
  have a1 := V_nonneg.2 n1; have b1 := V_nonneg.2 n1'; have a2 := V_nonneg.2 n2; have b2 := V_nonneg.2 n2'
  obtain ⟨s1, s2, s3⟩ := s
  by_cases c : (2 : Int) ^ 306 ≤ V A2
  · refine ⟨fl_nonneg (by decide) (by omega), fl_nonneg (by decide) (by omega), .inl (absorb_sc (D := 2 ^ 253) e (pow_pos2 253) (by omega) a1 (by omega) b1 s2 fun hu => ?_)⟩
    rw [V_eq_zero, V_eq_zero]; exact s3 hu
  · have := V_le_pow hm e a2 (L := 2 ^ 306) (by omega)
    exact sum_small a2 b2 a1 b1 (by omega) (by omega) (fun _ => zero_sc e) s3
theorem add_cl {A1 B1 A2 B2 : Int} {m : Nat} {up : Bool} (hm : m ≤ 200) (c1 : Cl up m (2 ^ 53) (2 ^ 253) A1 B1) (c2 : Cl up m (2 ^ 53) (2 ^ 253) A2 B2) :
    Cl up m (2 ^ 307) (2 ^ 507) (fl (V A1 + V A2) 1 up) (fl (V B1 + V B2) 1 up) := by
  obtain ⟨n1, n1', c1⟩ := c1
  obtain ⟨n2, n2', c2⟩ := c2
  have a1 := V_nonneg.2 n1; have b1 := V_nonneg.2 n1'; have a2 := V_nonneg.2 n2; have b2 := V_nonneg.2 n2'
  rcases c1 with e1 | s1
  · rcases c2 with e2 | s2
    · refine ⟨fl_nonneg (by decide) (by omega), fl_nonneg (by decide) (by omega), .inl ?_⟩
      rw [e1, e2, ← Int.add_mul]; exact add_scale (by omega) m up
    · exact mix_cl hm n2 n2' n1 n1' s2 e1
  · rcases c2 with e2 | s2
    · rw [Int.add_comm (V A1), Int.add_comm (V B1)]; exact mix_cl hm n1 n1' n2 n2' s1 e2
    · obtain ⟨_, _, _, _, q5, q6, _⟩ := p306
      exact sum_small a1 b1 a2 b2 (by omega) (by omega) s1.2.2 s2.2.2
theorem add_cl2 {S S' A B : Int} {m : Nat} {up : Bool} (c1 : Cl up m (2 ^ 307) (2 ^ 507) S S') (c2 : Cl up m (2 ^ 53) (2 ^ 253) A B) (big : 2 ^ 900 ≤ V S ∨ 2 ^ 900 ≤ V A) :
    V (fl (V S' + V B) 1 up) = V (fl (V S + V A) 1 up) * 2 ^ m ∧ 2 ^ 900 ≤ V (fl (V S + V A) 1 up) := by
  obtain ⟨n1, n1', c1⟩ := c1
  obtain ⟨n2, n2', c2⟩ := c2
  have a1 := V_nonneg.2 n1; have b1 := V_nonneg.2 n1'; have a2 := V_nonneg.2 n2; have b2 := V_nonneg.2 n2'
  obtain ⟨_, _, _, q4, _, _, q7, q8, q9, q10, q11⟩ := p306
  refine ⟨?_, ?_⟩
  · rcases c1 with e1 | s1
    · rcases c2 with e2 | s2
      · rw [e1, e2, ← Int.add_mul]; exact add_scale (by omega) m up
      · exact absorb_sc (D := 2 ^ 253) e1 (pow_pos2 253) (by omega) a2 (by omega) b2 s2.2.1 fun hu => by rw [V_eq_zero, V_eq_zero]; exact s2.2.2 hu
    · rcases c2 with e2 | s2
      · rw [Int.add_comm (V S), Int.add_comm (V S')]
        exact absorb_sc (D := 2 ^ 507) e2 (pow_pos2 507) (by omega) a1 (by omega) b1 s1.2.1 fun hu => by rw [V_eq_zero, V_eq_zero]; exact s1.2.2 hu
      · omega
  · rcases big with h | h
    · exact Int.le_trans h (V_le_iff.2 (le_fl (by decide) (by omega)))
    · exact Int.le_trans h (V_le_iff.2 (le_fl (by decide) (by omega)))
end Go.Dy
namespace Go.Proofs.Ytiphdhpacklboaa
end Go.Proofs.Ytiphdhpacklboaa
