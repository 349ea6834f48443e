/- Plain facts: numbers within others, of any 32 bits (package burnishlow). -/
import Derived.Test.YtiphdhpacklboaaEb
import Derived.Test.YtiphdhpacklboaaDc
namespace Go.Dy
open Ieee

theorem frq_of {u : Nat} (hu : u ≤ 4294967295) : ∃ r : Nat, double.div (fi u) 4751297606873776128 = some r ∧ r ≤ 4607182418800017408 := by
  obtain ⟨f1, f2, f3, f4⟩ := fi_spec (m := u) (by omega)
  have g1 : fin 4751297606873776128 := by unfold fin; decide +kernel
  have g2 : mag (4751297606873776128 % 2 ^ 63) = 4294967295 * one := by decide +kernel
  have g3 : sgn 4751297606873776128 = false := by decide +kernel
  obtain ⟨r, e, _, h⟩ := div_near (x := fi u) (y := 4751297606873776128) f2 (by unfold W; omega) f1 g1 (by decide)
  have h1 : r ≤ 4607182418800017408 := by
    refine h _ ?_
    rw [f4, g2, mag_one]
    have : one * (4294967295 * one) = 4294967295 * one * one := Nat.mul_comm _ _
    rw [this]
    exact Nat.mul_le_mul_right _ (Nat.mul_le_mul_right _ (by omega))
  refine ⟨r, ?_, h1⟩
  rw [e, f3, g3, Nat.min_eq_left (by rw [top_eq]; omega)]
  rfl

/-- 1024, as a rank. -/
def B10 : Int := 4652218415073722368
theorem V_B10 : V B10 = 1024 * (one : Int) := by decide +kernel
theorem V_B11 : V (B10 + 4503599627370496) = 2048 * (one : Int) := by decide +kernel
theorem V_B12 : V (B10 + 9007199254740992) = 4096 * (one : Int) := by decide +kernel
theorem ok_B {z : Int} (h1 : -(B10 + 9007199254740992) ≤ z) (h2 : z ≤ B10 + 9007199254740992) : ok z := by
  have tp := top_eq
  unfold ok; unfold B10 at *; omega

theorem fmul_part {d r : Nat} (hd : d < 9218868437227405312) (hr : r ≤ 4607182418800017408) : ∃ m, double.mul d r = some m ∧ m ≤ d := by
  have tp := top_eq
  have e1 : d % 2 ^ 63 = d := by omega
  have e2 : r % 2 ^ 63 = r := by omega
  have s1 : sgn d = false := by unfold sgn; rw [decide_eq_false]; omega
  have s2 : sgn r = false := by unfold sgn; rw [decide_eq_false]; omega
  obtain ⟨S, hS, eS⟩ : ∃ S, S = 1074 ∧ one = 2 ^ S := ⟨1074, rfl, one_eq⟩
  have hn : nr (mag d * mag r) S ≤ d := by
    refine nr_le ?_
    rw [← eS, ← mag_one]
    exact Nat.mul_le_mul_left _ (mag_le_iff.2 hr)
  refine ⟨nr (mag d * mag r) S, ?_, hn⟩
  rw [mul_eq (by omega) (by omega) (by rw [e1]; omega) (by rw [e2]; omega)]
  unfold fmul
  rw [← hS, s1, s2, e1, e2]
  generalize nr (mag d * mag r) S = k at *
  rw [Nat.min_eq_left (by omega)]
  show some (word false k) = some k
  unfold word
  rw [if_neg (by decide)]

theorem btw_of {l h : Int} {r : Nat} (hl : -B10 ≤ l) (hlh : l ≤ h) (hh : h ≤ B10) (hr : r ≤ 4607182418800017408) :
    ∃ (d m : Nat) (t : Int), ok t ∧ double.sub (enc h) (enc l) = some d ∧ double.mul d r = some m ∧ double.add (enc l) m = some (enc t) := by
  have tp := top_eq
  have vl := V_le_iff.2 hl
  have vh := V_le_iff.2 hh
  have vlh := V_le_iff.2 hlh
  rw [V_neg, V_B10] at vl
  rw [V_B10] at vh
  have ol : ok l := ok_B (by omega) (by unfold B10 at *; omega)
  have oh : ok h := ok_B (by unfold B10 at *; omega) (by omega)
  have d0 : 0 ≤ nz (V h - V l) := le_nz (by rw [V_zero]; omega)
  have d1 : nz (V h - V l) ≤ B10 + 4503599627370496 := nz_le (by rw [V_B11]; omega)
  have od : ok (nz (V h - V l)) := ok_B (by unfold B10 at *; omega) (by omega)
  have ed := sub_enc oh ol od
  generalize nz (V h - V l) = D at *
  have eD : enc D = D.toNat := enc_nonneg d0
  obtain ⟨m, em, hm⟩ := fmul_part (d := D.toNat) (r := r) (by unfold B10 at *; omega) hr
  have em2 : (m : Nat) = enc (m : Int) := by unfold enc; rw [if_pos (by omega)]; omega
  have om : ok (m : Int) := ok_B (by unfold B10 at *; omega) (by omega)
  have v0 : 0 ≤ V (m : Int) := V_nonneg.2 (by omega)
  have v1 : V (m : Int) ≤ 2048 * (one : Int) := by rw [← V_B11]; exact V_le_iff.2 (by omega)
  have t0 : -(B10 + 9007199254740992) ≤ nz (V l + V (m : Int)) := le_nz (by rw [V_neg, V_B12]; omega)
  have t1 : nz (V l + V (m : Int)) ≤ B10 + 9007199254740992 := nz_le (by rw [V_B12]; omega)
  have ot := ok_B t0 t1
  refine ⟨D.toNat, m, nz (V l + V (m : Int)), ot, by rw [ed, eD], em, ?_⟩
  have := add_enc ol om ot
  rw [← em2] at this
  exact this

/-- Adding 0 to what is a number changes nothing. -/
theorem add_zero {z : Int} (h : ok z) : double.add (enc z) 0 = some (enc z) := by
  have e : nz (V z + V 0) = z := by
    rw [V_zero, Int.add_zero]
    have a := le_nz (z := z) (s := V z) (Int.le_refl _)
    have b := nz_le (z := z) (s := V z) (Int.le_refl _)
    omega
  have := add_enc h ok_zero (by rw [e]; exact h)
  rw [e] at this
  exact this
end Go.Dy
