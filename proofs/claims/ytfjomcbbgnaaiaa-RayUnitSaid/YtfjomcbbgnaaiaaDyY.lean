/- Plain facts: sums and differences to the nearest number. -/
import Derived.Test.YtfjomcbbgnaaiaaDyX
namespace Go.Dy
open Ieee

/-- The rank nearest to s units. -/
def nz (s : Int) : Int := if s < 0 then -((nr s.natAbs 0 : Nat) : Int) else ((nr s.natAbs 0 : Nat) : Int)

theorem le_nr0 {r n : Nat} (h : mag r ≤ n) : r ≤ nr n 0 := le_nr (by rw [Nat.pow_zero, Nat.mul_one]; exact h)
theorem nr0_le {r n : Nat} (h : n ≤ mag r) : nr n 0 ≤ r := nr_le (by rw [Nat.pow_zero, Nat.mul_one]; exact h)

theorem V_cases (z : Int) : (∃ r : Nat, z = (r : Int) ∧ V z = (mag r : Int)) ∨ (∃ r : Nat, 0 < r ∧ z = -(r : Int) ∧ V z = -(mag r : Int) ∧ 0 < mag r) := by
  by_cases h : 0 ≤ z
  · exact Or.inl ⟨z.toNat, by omega, V_toNat h⟩
  · refine Or.inr ⟨(-z).toNat, by omega, by omega, ?_, ?_⟩
    · have e : z = -((-z).toNat : Int) := by omega
      have := V_ofNat_neg (-z).toNat
      rw [← e] at this; exact this
    · have := @mag_lt 0 (-z).toNat (by omega)
      rw [mag_zero] at this; exact this

theorem le_nz {z s : Int} (h : V z ≤ s) : z ≤ nz s := by
  unfold nz
  rcases V_cases z with ⟨r, rfl, e⟩ | ⟨r, h0, rfl, e, hm⟩
  · rw [e] at h
    rw [if_neg (by omega)]
    have := @le_nr0 r s.natAbs (by omega)
    omega
  · rw [e] at h
    by_cases hs : s < 0
    · rw [if_pos hs]
      have := @nr0_le r s.natAbs (by omega)
      omega
    · rw [if_neg hs]; omega
theorem nz_le {z s : Int} (h : s ≤ V z) : nz s ≤ z := by
  unfold nz
  rcases V_cases z with ⟨r, rfl, e⟩ | ⟨r, h0, rfl, e, hm⟩
  · rw [e] at h
    by_cases hs : s < 0
    · rw [if_pos hs]; omega
    · rw [if_neg hs]
      have := @nr0_le r s.natAbs (by omega)
      omega
  · rw [e] at h
    rw [if_pos (by omega)]
    have := @le_nr0 r s.natAbs (by omega)
    omega

/-- The bits of a nearest rank: what is beyond all is infinite. -/
def nrst (z : Int) : Nat := if (top : Int) ≤ z then top else if z ≤ -(top : Int) then 2 ^ 63 + top else enc z
theorem nrst_ok {z : Int} (h : ok z) : nrst z = enc z := by
  unfold ok at h; unfold nrst; rw [if_neg (by omega), if_neg (by omega)]

theorem word_nrst (S : Int) : word (decide (S < 0)) (min (nr S.natAbs 0) top) = nrst (nz S) := by
  have tp := top_eq
  unfold nz nrst word enc
  by_cases h : S < 0
  · have h1 : 1 ≤ nr S.natAbs 0 := le_nr0 (by rw [mag_low (by omega)]; omega)
    rw [decide_eq_true h, if_pos rfl, if_pos h]
    rw [if_neg (by omega)]
    by_cases h2 : top ≤ nr S.natAbs 0
    · rw [Nat.min_eq_right h2, if_pos (by omega)]
    · rw [Nat.min_eq_left (by omega), if_neg (by omega), if_neg (by omega)]; omega
  · rw [decide_eq_false h, if_neg (by decide), if_neg h]
    by_cases h2 : top ≤ nr S.natAbs 0
    · rw [Nat.min_eq_right h2, if_pos (by omega)]
    · rw [Nat.min_eq_left (by omega), if_neg (by omega), if_neg (by omega), if_pos (by omega)]; omega

theorem sum_near {s t : Bool} {m n e f : Nat} {S : Int} (hS : S = (if s then -((m * 2 ^ e : Nat) : Int) else ((m * 2 ^ e : Nat) : Int)) + (if t then -((n * 2 ^ f : Nat) : Int) else ((n * 2 ^ f : Nat) : Int)))
    (h0 : S = 0 → (s && t) = false) :
    ((Datum.sum (.number s m (-1074 + (e : Int))) (.number t n (-1074 + (f : Int)))).map double.write) = some (nrst (nz S)) := by
  unfold Datum.sum
  dsimp only
  have k1 : (-1074 + (e : Int) - min (-1074 + (e : Int)) (-1074 + (f : Int))).toNat = e - min e f := by omega
  have k2 : (-1074 + (f : Int) - min (-1074 + (e : Int)) (-1074 + (f : Int))).toNat = f - min e f := by omega
  have k3 : min (-1074 + (e : Int)) (-1074 + (f : Int)) = -1074 + ((min e f : Nat) : Int) := by omega
  rw [k1, k2, k3]
  obtain ⟨g, hg⟩ : ∃ g, min e f = g := ⟨_, rfl⟩
  rw [hg]
  have p1 : 2 ^ e = 2 ^ (e - g) * 2 ^ g := by rw [← Nat.pow_add]; congr 1; omega
  have p2 : 2 ^ f = 2 ^ (f - g) * 2 ^ g := by rw [← Nat.pow_add]; congr 1; omega
  have hT : S = (signed s m (e - g) + signed t n (f - g)) * ((2 ^ g : Nat) : Int) := by
    rw [hS, signed_eq, signed_eq, p1, p2, ← Nat.mul_assoc, ← Nat.mul_assoc, Int.natCast_mul (m * 2 ^ (e - g)), Int.natCast_mul (n * 2 ^ (f - g))]
    generalize ((m * 2 ^ (e - g) : Nat) : Int) = a
    generalize ((n * 2 ^ (f - g) : Nat) : Int) = b
    generalize ((2 ^ g : Nat) : Int) = c
    cases s <;> cases t <;> simp [Int.add_mul, Int.neg_mul]
  have hg0 : 0 < 2 ^ g := Nat.two_pow_pos _
  generalize signed s m (e - g) + signed t n (f - g) = T at *
  have hTS : T = 0 ↔ S = 0 := by
    rw [hT, Int.mul_eq_zero]
    constructor
    · intro h; exact Or.inl h
    · intro h; rcases h with h | h
      · exact h
      · omega
  have hneg : T < 0 ↔ S < 0 := by
    rw [hT]
    constructor
    · intro h; exact Int.mul_neg_of_neg_of_pos h (by omega)
    · intro h
      by_cases h1 : T < 0
      · exact h1
      · have := Int.mul_nonneg (a := T) (b := ((2 ^ g : Nat) : Int)) (by omega) (by omega)
        omega
  have hsg : (if T = 0 then (s && t) else decide (T < 0)) = decide (S < 0) := by
    by_cases h : T = 0
    · rw [if_pos h, h0 (hTS.1 h)]; exact (decide_eq_false (by omega)).symm
    · rw [if_neg h, Bool.eq_iff_iff]; simp only [decide_eq_true_eq]; exact hneg
  simp only [Option.map, Format.write, hsg]
  rw [nearest_units (e := g) (j := 0) (n := S.natAbs) _ (by omega) (by rw [hT, Int.natAbs_mul, Int.natAbs_natCast]), word_nrst]

theorem sgn_dec {x : Nat} (hx : W x) (r : right x = true) : sgn x = true ↔ dec x < 0 := by
  unfold sgn; rw [decide_eq_true_eq]; exact (dec_neg hx r).symm

/-- x + y, the nearest one. -/
theorem add_near {x y : Nat} (hx : W x) (hy : W y) (rx : right x = true) (ry : right y = true) : double.add x y = some (nrst (nz (V (dec x) + V (dec y)))) := by
  obtain ⟨m, e, r1, m1⟩ := read_num hx.lt (right_fin rx)
  obtain ⟨n, f, r2, m2⟩ := read_num hy.lt (right_fin ry)
  unfold Format.add
  rw [r1, r2]
  refine sum_near ?_ ?_
  · rw [V_dec hx.lt, V_dec hy.lt, m1, m2]
  · intro h
    cases h1 : sgn x
    · rfl
    · cases h2 : sgn y
      · rfl
      · exfalso
        have a := V_lt ((sgn_dec hx rx).1 h1)
        have b := V_lt ((sgn_dec hy ry).1 h2)
        rw [V_zero] at a b; omega

/-- x - y, the nearest one. -/
theorem sub_near {x y : Nat} (hx : W x) (hy : W y) (rx : right x = true) (ry : right y = true) : double.sub x y = some (nrst (nz (V (dec x) - V (dec y)))) := by
  obtain ⟨m, e, r1, m1⟩ := read_num hx.lt (right_fin rx)
  obtain ⟨n, f, r2, m2⟩ := read_num hy.lt (right_fin ry)
  unfold Format.sub
  rw [r1, r2]
  have op : (Datum.number (sgn y) n (-1074 + (f : Int))).opposite = .number (!sgn y) n (-1074 + (f : Int)) := rfl
  rw [op]
  refine sum_near ?_ ?_
  · rw [V_dec hx.lt, V_dec hy.lt, m1, m2]
    cases sgn y <;> simp [Int.sub_eq_add_neg]
  · intro h
    cases h1 : sgn x
    · rfl
    · cases h2 : sgn y
      · exfalso
        have a := V_lt ((sgn_dec hx rx).1 h1)
        have b : ¬ dec y < 0 := by rw [← sgn_dec hy ry, h2]; decide
        have c := V_nonneg.2 (Int.not_lt.1 b)
        rw [V_zero] at a; omega
      · rfl

theorem mag_step {r : Nat} (h : r < 4607182418800017408) : mag (r + 1) ≤ mag r + big := by
  rw [mag_succ]
  obtain ⟨S, hS, eS⟩ : ∃ S, S = 1021 ∧ big = 2 ^ S := ⟨1021, rfl, big_eq⟩
  rw [eS]
  have : 2 ^ (r / 2 ^ 52 - 1) ≤ 2 ^ S := Nat.pow_le_pow_right (by omega) (by omega)
  omega

/-- From one number to the next one, within 1: no more than 2^-53. -/
theorem V_step {z : Int} (h1 : -I1 ≤ z) (h2 : z < I1) : V (z + 1) ≤ V z + big := by
  unfold I1 at h1 h2
  by_cases h : 0 ≤ z
  · obtain ⟨r, rfl⟩ := Int.eq_ofNat_of_zero_le h
    have e : ((r : Int) + 1) = ((r + 1 : Nat) : Int) := rfl
    rw [e, V_nat, V_nat]
    have := @mag_step r (by omega)
    omega
  · obtain ⟨r, hr⟩ : ∃ r : Nat, z = -((r + 1 : Nat) : Int) := ⟨(-z).toNat - 1, by omega⟩
    have e : z + 1 = -(r : Int) := by omega
    rw [e, hr, V_ofNat_neg, V_ofNat_neg]
    have := @mag_step r (by omega)
    omega
end Go.Dy
