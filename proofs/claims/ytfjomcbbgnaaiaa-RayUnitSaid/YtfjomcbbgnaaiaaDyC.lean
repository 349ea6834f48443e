/-
  Plain facts: what the words of a float64 stand for, and how two of them stand to each other, told by ranks.
-/
import Derived.Test.YtfjomcbbgnaaiaaDyB
import Ieee.Arith
namespace Go.Dy
open Ieee

theorem d_signWeight : double.signWeight = 2 ^ 63 := rfl
theorem d_binade : double.binade = 2 ^ 52 := rfl
theorem d_infRung : double.infRung = top := rfl
theorem d_leastPlace : double.leastPlace = -1074 := rfl
theorem d_fractionBits : double.fractionBits = 52 := rfl

def sgn (b : Nat) : Bool := decide (2 ^ 63 ≤ b)
def nan (b : Nat) : Bool := decide (top < b % 2 ^ 63)
def inf (b : Nat) : Bool := decide (b % 2 ^ 63 = top)

theorem sgn_eq {b : Nat} (hb : b < 2 ^ 64) : (b / double.signWeight % 2 == 1) = sgn b := by
  rw [d_signWeight]
  unfold sgn
  rw [Bool.eq_iff_iff]
  simp only [beq_iff_eq, decide_eq_true_eq]
  omega

/-- A finite word: its magnitude is m times 2^e units. -/
theorem read_num {b : Nat} (hb : b < 2 ^ 64) (h : b % 2 ^ 63 < top) :
    ∃ m e : Nat, double.read b = .number (sgn b) m (-1074 + (e : Int)) ∧ mag (b % 2 ^ 63) = m * 2 ^ e := by
  unfold Format.read
  rw [sgn_eq hb, d_signWeight, d_binade, d_infRung, d_leastPlace]
  dsimp only
  by_cases h1 : b % 2 ^ 63 < 2 ^ 52
  · rw [if_pos h1]
    refine ⟨b % 2 ^ 63, 0, rfl, ?_⟩
    rw [mag_low (by omega), Nat.pow_zero, Nat.mul_one]
  · rw [if_neg h1, if_pos h]
    refine ⟨_, _, rfl, ?_⟩
    unfold mag
    rw [if_neg h1]

theorem read_inf {b : Nat} (hb : b < 2 ^ 64) (h : b % 2 ^ 63 = top) : double.read b = .infinity (sgn b) := by
  unfold Format.read
  rw [sgn_eq hb, d_signWeight, d_binade, d_infRung, d_leastPlace]
  dsimp only
  rw [h, top_eq, if_neg (by omega), if_neg (by omega), if_pos rfl]

theorem read_nan {b : Nat} (hb : b < 2 ^ 64) (h : top < b % 2 ^ 63) : double.read b = .nan (sgn b) (b % 2 ^ 63 - top) := by
  unfold Format.read
  rw [sgn_eq hb, d_signWeight, d_binade, d_infRung, d_leastPlace]
  dsimp only
  rw [top_eq] at h
  rw [top_eq, if_neg (by omega), if_neg (by omega), if_neg (by omega)]

theorem V_dec {b : Nat} (hb : b < 2 ^ 64) : V (dec b) = if sgn b then -(mag (b % 2 ^ 63) : Int) else (mag (b % 2 ^ 63) : Int) := by
  unfold dec sgn
  by_cases h : b < 2 ^ 63
  · have e : b % 2 ^ 63 = b := by omega
    rw [if_pos h, V_nat, e, if_neg (by simp only [decide_eq_true_eq]; omega)]
  · have e : b % 2 ^ 63 = b - 2 ^ 63 := by omega
    rw [if_neg h, V_ofNat_neg, e, if_pos (by simp only [decide_eq_true_eq]; omega)]

theorem signed_eq (s : Bool) (m k : Nat) : signed s m k = (if s then -1 else 1) * ((m * 2 ^ k : Nat) : Int) := by
  unfold signed
  rw [Nat.shiftLeft_eq]
  cases s
  · simp
  · simp

theorem cmp_int (x y : Int) : compare x y = if x < y then .lt else if x = y then .eq else .gt := rfl

theorem cmp_scale (x y : Int) (c : Int) (hc : 0 < c) : compare (x * c) (y * c) = compare x y := by
  rw [cmp_int, cmp_int]
  have h1 : x * c < y * c ↔ x < y := ⟨fun h => Int.lt_of_mul_lt_mul_right h (Int.le_of_lt hc), fun h => Int.mul_lt_mul_of_pos_right h hc⟩
  have h2 : x * c = y * c ↔ x = y := ⟨fun h => Int.eq_of_mul_eq_mul_right (by omega) h, fun h => by rw [h]⟩
  simp only [h1, h2]

theorem cmp_V (x y : Int) : compare (V x) (V y) = compare x y := by
  rw [cmp_int, cmp_int]
  have h1 := @V_lt_iff x y
  have h2 : V x = V y ↔ x = y := ⟨V_inj, fun h => by rw [h]⟩
  simp only [h1, h2]

theorem order_eq {a b : Nat} (ha : a < 2 ^ 64) (hb : b < 2 ^ 64) :
    double.order a b = if nan a || nan b then none else some (compare (dec a) (dec b)) := by
  unfold Format.order
  by_cases na : top < a % 2 ^ 63
  · rw [read_nan ha na, if_pos (by simp [nan, na])]
    rfl
  by_cases nb : top < b % 2 ^ 63
  · rw [read_nan hb nb, if_pos (by simp [nan, nb])]
    cases double.read a <;> rfl
  rw [if_neg (by simp [nan, na, nb])]
  have ea : a % 2 ^ 63 = top ∨ a % 2 ^ 63 < top := by omega
  have eb : b % 2 ^ 63 = top ∨ b % 2 ^ 63 < top := by omega
  rw [top_eq] at na nb
  rcases ea with ea | ea
  · rw [read_inf ha ea]
    rw [top_eq] at ea
    rcases eb with eb | eb
    · rw [read_inf hb eb]
      rw [top_eq] at eb
      show some (compare (sgn b).toNat (sgn a).toNat) = _
      unfold dec sgn
      by_cases p : a < 2 ^ 63 <;> by_cases q : b < 2 ^ 63
      · have := Nat.mod_eq_of_lt p; have := Nat.mod_eq_of_lt q
        obtain rfl : a = 9218868437227405312 := by omega
        obtain rfl : b = 9218868437227405312 := by omega
        decide
      · obtain rfl : a = 9218868437227405312 := by omega
        obtain rfl : b = 9218868437227405312 + 2 ^ 63 := by omega
        decide
      · obtain rfl : a = 9218868437227405312 + 2 ^ 63 := by omega
        obtain rfl : b = 9218868437227405312 := by omega
        decide
      · obtain rfl : a = 9218868437227405312 + 2 ^ 63 := by omega
        obtain rfl : b = 9218868437227405312 + 2 ^ 63 := by omega
        decide
    · obtain ⟨n, f, e2, _⟩ := read_num hb eb
      rw [e2]
      rw [top_eq] at eb
      show some (if sgn a then Ordering.lt else Ordering.gt) = _
      rw [cmp_int]
      unfold dec sgn
      by_cases p : a < 2 ^ 63 <;> by_cases q : b < 2 ^ 63
      · rw [if_pos p, if_pos q, if_neg (by simp only [decide_eq_true_eq]; omega), if_neg (by omega), if_neg (by omega)]
      · rw [if_pos p, if_neg q, if_neg (by simp only [decide_eq_true_eq]; omega), if_neg (by omega), if_neg (by omega)]
      · rw [if_neg p, if_pos q, if_pos (by simp only [decide_eq_true_eq]; omega), if_pos (by omega)]
      · rw [if_neg p, if_neg q, if_pos (by simp only [decide_eq_true_eq]; omega), if_pos (by omega)]
  · obtain ⟨m, e, e1, e1'⟩ := read_num ha ea
    rw [e1]
    rw [top_eq] at ea
    rcases eb with eb | eb
    · rw [read_inf hb eb]
      rw [top_eq] at eb
      show some (if sgn b then Ordering.gt else Ordering.lt) = _
      rw [cmp_int]
      unfold dec sgn
      by_cases p : a < 2 ^ 63 <;> by_cases q : b < 2 ^ 63
      · rw [if_pos p, if_pos q, if_neg (by simp only [decide_eq_true_eq]; omega), if_pos (by omega)]
      · rw [if_pos p, if_neg q, if_pos (by simp only [decide_eq_true_eq]; omega), if_neg (by omega), if_neg (by omega)]
      · rw [if_neg p, if_pos q, if_neg (by simp only [decide_eq_true_eq]; omega), if_pos (by omega)]
      · rw [if_neg p, if_neg q, if_pos (by simp only [decide_eq_true_eq]; omega), if_neg (by omega), if_neg (by omega)]
    · obtain ⟨n, f, e2, e2'⟩ := read_num hb eb
      rw [e2]
      show some (compare (signed (sgn a) m (-1074 + (e : Int) - min (-1074 + (e : Int)) (-1074 + (f : Int))).toNat) (signed (sgn b) n (-1074 + (f : Int) - min (-1074 + (e : Int)) (-1074 + (f : Int))).toNat)) = _
      congr 1
      rw [← cmp_V (dec a) (dec b), V_dec ha, V_dec hb, e1', e2', signed_eq, signed_eq]
      have k1 : (-1074 + (e : Int) - min (-1074 + (e : Int)) (-1074 + (f : Int))).toNat = e - min e f := by omega
      have k2 : (-1074 + (f : Int) - min (-1074 + (e : Int)) (-1074 + (f : Int))).toNat = f - min e f := by omega
      rw [k1, k2, ← cmp_scale _ _ ((2 ^ min e f : Nat) : Int) (by have := Nat.two_pow_pos (min e f); omega)]
      have p1 : m * 2 ^ (e - min e f) * 2 ^ min e f = m * 2 ^ e := by
        rw [Nat.mul_assoc, ← Nat.pow_add]
        have : e - min e f + min e f = e := by omega
        rw [this]
      have p2 : n * 2 ^ (f - min e f) * 2 ^ min e f = n * 2 ^ f := by
        rw [Nat.mul_assoc, ← Nat.pow_add]
        have : f - min e f + min e f = f := by omega
        rw [this]
      rw [Int.mul_assoc, Int.mul_assoc, ← Int.natCast_mul, ← Int.natCast_mul, p1, p2]
      congr 1
      · cases sgn a <;> simp
      · cases sgn b <;> simp

end Go.Dy
