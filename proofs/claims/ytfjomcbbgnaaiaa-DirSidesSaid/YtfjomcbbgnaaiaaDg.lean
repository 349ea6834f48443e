/- Plain facts: roots to the nearest number; the law DirSides. -/
import Derived.Test.YtfjomcbbgnaaiaaDf
namespace Go.Dy
open Ieee

/-- The root of x, a number above 0, the nearest one: r: no number lies between. -/
theorem root_near {x : Nat} (hx : W x) (fx : fin x) (sx : sgn x = false) (h0 : x % 2 ^ 63 ≠ 0) :
    ∃ r : Nat, double.sqrt x = some (word false (min r top)) ∧ (∀ z : Nat, mag z * mag z ≤ mag (x % 2 ^ 63) * one → z ≤ r) ∧ (∀ z : Nat, mag (x % 2 ^ 63) * one ≤ mag z * mag z → r ≤ z) := by
  obtain ⟨m, e, r1, m1⟩ := read_num hx.lt fx
  have hxp : 0 < mag (x % 2 ^ 63) := by
    have := @mag_lt 0 (x % 2 ^ 63) (by omega)
    rw [mag_zero] at this; exact this
  have hm : m ≠ 0 := by
    intro h; rw [h, Nat.zero_mul] at m1; omega
  unfold Format.sqrt
  rw [r1, sx]
  have fb : double.fractionBits + 2 = 54 := rfl
  rw [fb]
  unfold Datum.root
  dsimp only
  rw [if_neg hm, if_neg (by decide)]
  simp only [Option.map, Format.write]
  obtain ⟨g0, hg0⟩ : ∃ g0 : Nat, 2 * 54 - m.log2 = g0 := ⟨_, rfl⟩
  obtain ⟨g, hg⟩ : ∃ g : Nat, g0 + ((-1074 + (e : Int) - (g0 : Int)) % 2).toNat = g := ⟨_, rfl⟩
  rw [hg0, hg, Nat.shiftLeft_eq]
  have hev : (-1074 + (e : Int) - (g : Int)) % 2 = 0 := by omega
  have bm1 := Nat.log2_self_le hm
  have hn : 2 ^ 108 ≤ m * 2 ^ g := by
    have b : 2 ^ m.log2 * 2 ^ g ≤ m * 2 ^ g := Nat.mul_le_mul_right _ bm1
    rw [← Nat.pow_add] at b
    have c : 2 ^ 108 ≤ 2 ^ (m.log2 + g) := Nat.pow_le_pow_right (by omega) (by omega)
    omega
  obtain ⟨n, hnn⟩ : ∃ n, n = m * 2 ^ g := ⟨_, rfl⟩
  have hw0 : Datum.rootFrom (m * 2 ^ g) ((m * 2 ^ g).log2 / 2 + 1) 0 = isq n := by rw [hnn]; rfl
  rw [hw0]
  obtain ⟨w, hw⟩ : ∃ w, w = isq n := ⟨_, rfl⟩
  rw [← hw]
  rw [← hnn] at hn ⊢
  have hq : 2 ^ 53 ≤ w := by
    rw [hw, le_isq]; omega
  obtain ⟨s1, s2⟩ := isq_spec n
  rw [← hw] at s1 s2
  obtain ⟨s, hs⟩ : ∃ s, s = (w * w != n).toNat := ⟨_, rfl⟩
  have hs1 : s ≤ 1 := by rw [hs]; cases (w * w != n) <;> decide
  have hs0 : s = 0 ↔ w * w = n := by
    rw [hs]
    by_cases h : w * w = n
    · rw [h]; simp
    · have : (w * w != n) = true := by simpa using h
      rw [this]; simp [h]
  rw [← hs]
  obtain ⟨P, hP⟩ : ∃ P : Int, P = (-1074 + (e : Int) - (g : Int)) / 2 - 1 + 1074 := ⟨_, rfl⟩
  have hpl : (-1074 + (e : Int) - (g : Int)) / 2 - 1 = -1074 + P := by omega
  rw [hpl, nearest_at]
  obtain ⟨E, hE⟩ : ∃ E, P.toNat = E := ⟨_, rfl⟩
  obtain ⟨J, hJ⟩ : ∃ J, (-P).toNat = J := ⟨_, rfl⟩
  have hz : E = 0 ∨ J = 0 := by omega
  rw [hE, hJ, m1]
  have key : m * 2 ^ e * one * (2 ^ J * 2 ^ J) = 4 * n * (2 ^ E * 2 ^ E) := by
    obtain ⟨S, hS, eS⟩ : ∃ S, S = 1074 ∧ one = 2 ^ S := ⟨1074, rfl, one_eq⟩
    rw [hnn, eS]
    have e1 : 2 ^ e * 2 ^ S * (2 ^ J * 2 ^ J) = 2 ^ 2 * (2 ^ g * (2 ^ E * 2 ^ E)) := by
      rw [← Nat.pow_add, ← Nat.pow_add, ← Nat.pow_add, ← Nat.pow_add, ← Nat.pow_add, ← Nat.pow_add]
      exact congrArg (fun t => 2 ^ t) (by omega)
    have l : m * 2 ^ e * 2 ^ S * (2 ^ J * 2 ^ J) = m * (2 ^ e * 2 ^ S * (2 ^ J * 2 ^ J)) := by simp only [Nat.mul_assoc]
    rw [l, e1]
    have : (2 : Nat) ^ 2 = 4 := rfl
    rw [this]
    simp only [Nat.mul_assoc, Nat.mul_left_comm]
  have pJ : 0 < 2 ^ J * 2 ^ J := Nat.mul_pos (Nat.two_pow_pos _) (Nat.two_pow_pos _)
  have pE : 0 < 2 ^ E * 2 ^ E := Nat.mul_pos (Nat.two_pow_pos _) (Nat.two_pow_pos _)
  have c1 : ∀ z : Nat, mag z * mag z ≤ m * 2 ^ e * one ↔ (mag z * 2 ^ J) * (mag z * 2 ^ J) ≤ 4 * n * (2 ^ E * 2 ^ E) := by
    intro z
    rw [← Nat.mul_le_mul_right_iff pJ, key, Nat.mul_mul_mul_comm (mag z)]
  have c2 : ∀ z : Nat, m * 2 ^ e * one ≤ mag z * mag z ↔ 4 * n * (2 ^ E * 2 ^ E) ≤ (mag z * 2 ^ J) * (mag z * 2 ^ J) := by
    intro z
    rw [← Nat.mul_le_mul_right_iff pJ, key, Nat.mul_mul_mul_comm (mag z)]
  have sq2 : ∀ t : Nat, (2 * t * 2 ^ E) * (2 * t * 2 ^ E) = 4 * (t * t) * (2 ^ E * 2 ^ E) := by
    intro t
    rw [Nat.mul_mul_mul_comm, Nat.mul_mul_mul_comm 2 t]
  refine ⟨_, rfl, ?_, ?_⟩
  · intro z hzz
    rw [c1] at hzz
    refine sticky_le hq hs1 hz ?_ ?_
    · have e2 : (2 * w + 2) * 2 ^ E = 2 * (w + 1) * 2 ^ E := rfl
      rw [e2, ← sq_lt, sq2]
      have : 4 * n * (2 ^ E * 2 ^ E) < 4 * ((w + 1) * (w + 1)) * (2 ^ E * 2 ^ E) := Nat.mul_lt_mul_of_pos_right (by omega) pE
      omega
    · intro h
      rw [← sq_le, sq2, hs0.1 h]; exact hzz
  · intro z hzz
    rw [c2] at hzz
    refine sticky_ge hq hs1 hz ?_
    by_cases h : s = 0
    · rw [if_pos h, ← sq_le, sq2, hs0.1 h]; exact hzz
    · rw [if_neg h, ← sq_lt, sq2]
      have hlt : w * w < n := by
        have : w * w ≠ n := fun e => h (hs0.2 e)
        omega
      have : 4 * (w * w) * (2 ^ E * 2 ^ E) < 4 * n * (2 ^ E * 2 ^ E) := Nat.mul_lt_mul_of_pos_right (by omega) pE
      omega

/-- A sign and a magnitude, as a rank. -/
def srk (s : Bool) (r : Nat) : Int := if s then -(r : Int) else (r : Int)

theorem srk_between {s : Bool} {r M den : Nat} {num : Int} (hd : 0 < den) (h1 : ∀ z : Nat, mag z * den ≤ M → z ≤ r) (h2 : ∀ z : Nat, M ≤ mag z * den → r ≤ z) (hnum : num = if s then -(M : Int) else (M : Int)) :
    fl num den false ≤ srk s r ∧ srk s r ≤ fl num den true := by
  have a := (fl_down (z := fl num den false) hd).1 (Int.le_refl _)
  have b := (fl_up (z := fl num den true) hd).1 (Int.le_refl _)
  generalize fl num den false = u at *
  generalize fl num den true = v at *
  have cast : ∀ k : Nat, (mag k : Int) * (den : Int) = ((mag k * den : Nat) : Int) := fun k => (Int.natCast_mul _ _).symm
  have hneg : ∀ k : Nat, -(mag k : Int) * (den : Int) = -((mag k * den : Nat) : Int) := fun k => by rw [Int.neg_mul, cast]
  have hr0 : M = 0 → r = 0 := fun h => Nat.le_zero.1 (h2 0 (by rw [h]; exact Nat.zero_le _))
  have mpos : ∀ k : Nat, 0 < k → 0 < mag k * den := fun k hk => by
    have := @mag_lt 0 k hk
    rw [mag_zero] at this; exact Nat.mul_pos this hd
  unfold srk
  cases s
  · simp only [Bool.false_eq_true, if_false] at hnum ⊢
    subst hnum
    constructor
    · rcases V_cases u with ⟨k, rfl, e⟩ | ⟨k, k0, rfl, e, _⟩
      · rw [e, cast] at a
        have := h1 k (by omega); omega
      · omega
    · rcases V_cases v with ⟨k, rfl, e⟩ | ⟨k, k0, rfl, e, _⟩
      · rw [e, cast] at b
        have := h2 k (by omega); omega
      · rw [e, hneg] at b
        have := mpos k k0
        omega
  · simp only [if_true] at hnum ⊢
    subst hnum
    constructor
    · rcases V_cases u with ⟨k, rfl, e⟩ | ⟨k, k0, rfl, e, _⟩
      · rw [e, cast] at a
        have h3 : M = 0 := by omega
        have h4 : ¬ 0 < k := fun hk => by have := mpos k hk; omega
        rw [hr0 h3]; omega
      · rw [e, hneg] at a
        have := h2 k (by omega); omega
    · rcases V_cases v with ⟨k, rfl, e⟩ | ⟨k, k0, rfl, e, _⟩
      · omega
      · rw [e, hneg] at b
        have := h1 k (by omega); omega

/-- A result both ways, and the nearest one: as DirSides tests them. -/
inductive Side (r s : Nat × Int) (near : Nat) : Prop
  | both (x y n : Nat) (e : Int) (e1 : r = (x, 0)) (e2 : s = (y, 0)) (e3 : dNext x true = (n, e)) (wx : W x) (wy : W y) (rx : right x = true) (ry : right y = true)
      (h1 : fgt x y = false) (h2 : fne x y = false ∨ fne x y = true ∧ fne n y = false) (h3 : fne near x = false ∨ fne near x = true ∧ fne near y = false) : Side r s near
  | low (y : Nat) (e1 : r = (0, 10)) (e2 : s = (y, 0)) (h : fne y 18442240474082181119 = false) : Side r s near
  | high (x : Nat) (e1 : r = (x, 0)) (e2 : s = (0, 10)) (h : fne x 9218868437227405311 = false) : Side r s near

theorem fne_enc {y z : Int} (hy : ok y) (hz : ok z) : fne (enc y) (enc z) = !decide (y = z) := by rw [fne_eq, feq_enc hy hz]

theorem min_enc : (18442240474082181119 : Nat) = enc (1 - (top : Int)) := by rw [top_eq]; decide
theorem ok_min : ok (1 - (top : Int)) := by unfold ok; rw [top_eq]; omega

theorem side_of {z0 z1 : Int} {near : Nat} (h01 : z0 ≤ z1) (h10 : z1 ≤ z0 + 1) (hn : ok z0 → ok z1 → fne near (enc z0) = false ∨ fne near (enc z1) = false) : Side (out z0 false) (out z1 true) near := by
  have tp := top_eq
  by_cases a : z0 ≤ -(top : Int)
  · have e1 : out z0 false = (0, 10) := by rw [out_bot a]; rfl
    by_cases b : z1 ≤ -(top : Int)
    · exact Side.low _ e1 (by rw [out_bot b]; rfl) (by rw [min_enc, fne_enc ok_min ok_min]; simp)
    · have hz : z1 = 1 - (top : Int) := by omega
      have o1 : ok z1 := by rw [hz]; exact ok_min
      exact Side.low _ e1 (out_mid o1) (by rw [hz, min_enc, fne_enc ok_min ok_min]; simp)
  · by_cases b : (top : Int) ≤ z1
    · have e2 : out z1 true = (0, 10) := by rw [out_top b]; rfl
      by_cases c : (top : Int) ≤ z0
      · refine Side.high (enc ((top : Int) - 1)) ?_ e2 (by rw [max_enc, fne_enc ok_max ok_max]; simp)
        rw [out_top c, if_neg (by decide)]
        have : ((top - 1 : Nat) : Int) = (top : Int) - 1 := by omega
        rw [this]
      · have hz : z0 = (top : Int) - 1 := by omega
        have o0 : ok z0 := by rw [hz]; exact ok_max
        exact Side.high _ (out_mid o0) e2 (by rw [hz, max_enc, fne_enc ok_max ok_max]; simp)
    · have o0 : ok z0 := by unfold ok; omega
      have o1 : ok z1 := by unfold ok; omega
      refine Side.both (enc z0) (enc z1) _ _ (out_mid o0) (out_mid o1) (Prod.eta (dNext (enc z0) true)).symm (W_enc o0) (W_enc o1) (right_enc o0) (right_enc o1) ?_ ?_ ?_
      · rw [fgt_enc o0 o1]; exact decide_eq_false (by omega)
      · by_cases h : z0 = z1
        · left; rw [fne_enc o0 o1, decide_eq_true h]; rfl
        · right
          have hz : z1 = z0 + 1 := by omega
          rw [fne_enc o0 o1, decide_eq_false h]
          refine ⟨rfl, ?_⟩
          rw [dNext_enc o0, ← hz, out_mid o1, fne_enc o1 o1]; simp
      · cases h : fne near (enc z0)
        · exact Or.inl rfl
        · rcases hn o0 o1 with h2 | h2
          · rw [h] at h2; cases h2
          · exact Or.inr ⟨rfl, h2⟩

theorem dec_word {s : Bool} {r : Nat} (h : r < 2 ^ 63) : dec (word s r) = srk s r := by
  unfold dec word srk
  cases s
  · simp only [Bool.false_eq_true, if_false]; rw [if_pos h]
  · simp only [if_true]; rw [if_neg (by omega)]; omega

theorem word_near {s : Bool} {r : Nat} {z0 z1 : Int} (h1 : z0 ≤ srk s r) (h2 : srk s r ≤ z1) (h10 : z1 ≤ z0 + 1) (o0 : ok z0) (o1 : ok z1) :
    fne (word s (min r top)) (enc z0) = false ∨ fne (word s (min r top)) (enc z1) = false := by
  have tp := top_eq
  have hr : r < top := by
    unfold ok at o0 o1
    unfold srk at h1 h2
    cases s
    · simp only [Bool.false_eq_true, if_false] at h1 h2; omega
    · simp only [if_true] at h1 h2; omega
  rw [Nat.min_eq_left (by omega)]
  have hw : word s r < 2 ^ 64 := word_lt (by omega)
  have hn : nan (word s r) = false := by
    unfold nan; rw [word_abs (by omega)]; exact decide_eq_false (by omega)
  have key : ∀ z : Int, ok z → fne (word s r) (enc z) = !decide (srk s r = z) := by
    intro z oz
    rw [fne_eq, feq_eq hw (enc_lt oz), hn, nan_enc oz, dec_word (by omega), dec_enc oz]; rfl
  have : srk s r = z0 ∨ srk s r = z1 := by omega
  rcases this with h | h
  · left; rw [key z0 o0, decide_eq_true h]; rfl
  · right; rw [key z1 o1, decide_eq_true h]; rfl

theorem nrst_near {z z0 z1 : Int} (h1 : z0 ≤ z) (h2 : z ≤ z1) (h10 : z1 ≤ z0 + 1) (o0 : ok z0) (o1 : ok z1) : fne (nrst z) (enc z0) = false ∨ fne (nrst z) (enc z1) = false := by
  have oz : ok z := by unfold ok at *; omega
  rw [nrst_ok oz, fne_enc oz o0, fne_enc oz o1]
  have : z = z0 ∨ z = z1 := by omega
  rcases this with h | h
  · left; rw [decide_eq_true h]; rfl
  · right; rw [decide_eq_true h]; rfl

theorem nz_between (s : Int) : fl s 1 false ≤ nz s ∧ nz s ≤ fl s 1 true := by
  have a := (fl_down (z := fl s 1 false) (num := s) (den := 1) (by omega)).1 (Int.le_refl _)
  have b := (fl_up (z := fl s 1 true) (num := s) (den := 1) (by omega)).1 (Int.le_refl _)
  exact ⟨le_nz (by omega), nz_le (by omega)⟩

theorem side_add {a b : Nat} (ha : W a) (hb : W b) (ra : right a = true) (rb : right b = true) :
    ∃ n, double.add a b = some n ∧ Side (dAdd a b false) (dAdd a b true) n := by
  refine ⟨_, add_near ha hb ra rb, ?_⟩
  rw [dAdd_out ra rb, dAdd_out ra rb]
  obtain ⟨h1, h2⟩ := nz_between (V (dec a) + V (dec b))
  exact side_of (fl_le_up (by omega)) (fl_up_le (by omega)) (nrst_near h1 h2 (fl_up_le (by omega)))
theorem side_sub {a b : Nat} (ha : W a) (hb : W b) (ra : right a = true) (rb : right b = true) :
    ∃ n, double.sub a b = some n ∧ Side (dSub a b false) (dSub a b true) n := by
  refine ⟨_, sub_near ha hb ra rb, ?_⟩
  rw [dSub_out hb ra rb, dSub_out hb ra rb]
  obtain ⟨h1, h2⟩ := nz_between (V (dec a) - V (dec b))
  exact side_of (fl_le_up (by omega)) (fl_up_le (by omega)) (nrst_near h1 h2 (fl_up_le (by omega)))

theorem V_srk {a : Nat} (ha : W a) : V (dec a) = if sgn a then -(mag (a % 2 ^ 63) : Int) else (mag (a % 2 ^ 63) : Int) := V_dec ha.lt

theorem side_mul {a b : Nat} (ha : W a) (hb : W b) (ra : right a = true) (rb : right b = true) :
    ∃ n, double.mul a b = some n ∧ Side (dMul a b false) (dMul a b true) n := by
  refine ⟨_, mul_eq ha.lt hb.lt (right_fin ra) (right_fin rb), ?_⟩
  rw [dMul_out ra rb, dMul_out ra rb]
  obtain ⟨S, hS, eS⟩ : ∃ S, (1074 : Nat) = S ∧ one = 2 ^ S := ⟨1074, rfl, one_eq⟩
  obtain ⟨h1, h2⟩ := srk_between (s := sgn a ^^ sgn b) (r := nr (mag (a % 2 ^ 63) * mag (b % 2 ^ 63)) 1074) (M := mag (a % 2 ^ 63) * mag (b % 2 ^ 63)) (num := V (dec a) * V (dec b)) one_pos
    (fun z h => le_nr (by rw [hS, ← eS]; exact h)) (fun z h => nr_le (by rw [hS, ← eS]; exact h))
    (by rw [V_srk ha, V_srk hb]; cases sgn a <;> cases sgn b <;> simp [Int.neg_mul, Int.mul_neg])
  exact side_of (fl_le_up one_pos) (fl_up_le one_pos) (word_near h1 h2 (fl_up_le one_pos))

theorem side_div {a b : Nat} (ha : W a) (hb : W b) (ra : right a = true) (rb : right b = true) (h0 : b ≠ 0) :
    ∃ n, double.div a b = some n ∧ Side (dDiv a b false) (dDiv a b true) n := by
  have hb0 : b % 2 ^ 63 ≠ 0 := by
    have h := rb
    unfold right at h; rw [decide_eq_true_eq] at h
    have := hb.lt
    omega
  obtain ⟨r, e, h1, h2⟩ := div_near ha hb (right_fin ra) (right_fin rb) hb0
  refine ⟨_, e, ?_⟩
  have hm : 0 < mag (b % 2 ^ 63) := by
    have := @mag_lt 0 (b % 2 ^ 63) (by omega)
    rw [mag_zero] at this; exact this
  have hvb : (V (dec b)).natAbs = mag (b % 2 ^ 63) := by rw [V_srk hb]; split <;> simp
  have hneg : dec b < 0 ↔ sgn b = true := (sgn_dec hb rb).symm
  obtain ⟨num, hnum⟩ : ∃ num : Int, num = if dec b < 0 then -(V (dec a) * one) else V (dec a) * one := ⟨_, rfl⟩
  have hd : ∀ up, dDiv a b up = out (fl num (mag (b % 2 ^ 63)) up) up := by
    intro up
    unfold dDiv divR
    rw [ra, rb, if_neg (by decide), if_neg h0, hvb, hnum]
    split <;> rfl
  rw [hd, hd]
  obtain ⟨h3, h4⟩ := srk_between (s := sgn a ^^ sgn b) (num := num) hm h1 h2 (by
    rw [hnum, V_srk ha]
    by_cases h : dec b < 0
    · rw [if_pos h, hneg.1 h]; cases sgn a <;> simp [Int.neg_mul]
    · have hs : sgn b = false := by
        cases hq : sgn b
        · rfl
        · exact absurd (hneg.2 hq) h
      rw [if_neg h, hs]; cases sgn a <;> simp [Int.neg_mul])
  exact side_of (fl_le_up hm) (fl_up_le hm) (word_near h3 h4 (fl_up_le hm))

theorem side_sqrt {a : Nat} (ha : W a) (ra : right a = true) (h0 : ¬ dec a < 0) :
    ∃ n, double.sqrt a = some n ∧ Side (dSqrt a false) (dSqrt a true) n := by
  have oa := ok_dec ha ra
  have e1 := enc_of_dec ha ra
  have hs : sgn a = false := by
    cases hq : sgn a
    · rfl
    · exact absurd ((sgn_dec ha ra).1 hq) h0
  have d : ∀ up, dSqrt a up = out (sqz (dec a) up) up := by
    intro up
    have := dSqrt_enc (up := up) oa (by omega)
    rw [e1] at this
    rw [this, out_mid (sqz_ok (by omega) oa)]
  have side : ∀ r : Nat, sqz (dec a) false ≤ (r : Int) → (r : Int) ≤ sqz (dec a) true → Side (dSqrt a false) (dSqrt a true) (word false (min r top)) := by
    intro r h1 h2
    rw [d, d]
    exact side_of (sqz_le_up _) (sqz_up_le _) (word_near (s := false) h1 h2 (sqz_up_le _))
  by_cases hz : a = 0
  · subst hz
    refine ⟨0, by decide +kernel, ?_⟩
    have := side 0 (by rw [dec_zero, sqz_zero]; exact Int.le_refl _) (by rw [dec_zero, sqz_zero]; exact Int.le_refl _)
    rw [Nat.min_eq_left (Nat.zero_le _)] at this
    exact this
  · have ha63 : a < 2 ^ 63 := by
      have := (dec_neg ha ra)
      rw [this] at h0; omega
    have hm : a % 2 ^ 63 = a := by omega
    have hv : V (dec a) = (mag a : Int) := by
      rw [V_srk ha, hs, hm]; rfl
    obtain ⟨r, e, h1, h2⟩ := root_near ha (right_fin ra) hs (by omega)
    rw [hm] at h1 h2
    refine ⟨_, e, side r ?_ ?_⟩
    · have h3 := sqz_nonneg (dec a) false
      obtain ⟨k, hk⟩ := Int.eq_ofNat_of_zero_le h3
      have h4 := (sqz_down (y := sqz (dec a) false) (by omega) h3).1 (Int.le_refl _)
      rw [hk] at h4 ⊢
      rw [V_nat, hv] at h4
      have := h1 k (by exact_mod_cast h4)
      omega
    · have h3 := sqz_nonneg (dec a) true
      obtain ⟨k, hk⟩ := Int.eq_ofNat_of_zero_le h3
      have h4 := (sqz_up (y := sqz (dec a) true) (by omega) h3).1 (Int.le_refl _)
      rw [hk] at h4 ⊢
      rw [V_nat, hv] at h4
      have := h2 k (by exact_mod_cast h4)
      omega
end Go.Dy
