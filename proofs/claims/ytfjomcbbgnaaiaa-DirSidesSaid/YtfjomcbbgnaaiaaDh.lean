/- Plain facts: results of what is turned in its sign. -/
import Derived.Test.YtfjomcbbgnaaiaaDg
namespace Go.Dy

theorem out_minus (z : Int) (up : Bool) : out (-z) (!up) = (minus (out z up).1, (out z up).2) := by
  have tp := top_eq
  by_cases h1 : (top : Int) ≤ z
  · rw [out_top h1, out_bot (by omega)]
    cases up
    · rw [top_eq]; decide
    · rfl
  · by_cases h2 : z ≤ -(top : Int)
    · rw [out_bot h2, out_top (by omega)]
      cases up
      · rfl
      · rw [top_eq]; decide
    · have o : ok z := by unfold ok; omega
      have o' : ok (-z) := by unfold ok; omega
      rw [out_mid o, out_mid o']
      have h := minus_dec (W_enc o) (right_enc o)
      have e : dec (minus (enc z)) = dec (enc (-z)) := by rw [h.2.1, dec_enc o, dec_enc o']
      have : minus (enc z) = enc (-z) := by
        rw [← enc_of_dec h.2.2 h.1, e, dec_enc o']
      rw [this]

theorem out_right (z : Int) (up : Bool) : right (out z up).1 = true := by
  have tp := top_eq
  by_cases h1 : (top : Int) ≤ z
  · rw [out_top h1]
    cases up
    · rw [top_eq]; decide
    · rfl
  · by_cases h2 : z ≤ -(top : Int)
    · rw [out_bot h2]
      cases up
      · rfl
      · rw [top_eq]; decide
    · have o : ok z := by unfold ok; omega
      rw [out_mid o]; exact right_enc o

theorem minus_minus {m : Nat} (hm : W m) (r : right m = true) : minus (minus m) = m := by
  obtain ⟨h1, h2, h3⟩ := minus_dec hm r
  obtain ⟨g1, g2, g3⟩ := minus_dec h3 h1
  rw [← enc_of_dec g3 g1, g2, h2, Int.neg_neg, enc_of_dec hm r]

theorem turn_mul {a b : Nat} (ha : W a) (ra : right a = true) (rb : right b = true) : dMul (minus a) b true = (minus (dMul a b false).1, (dMul a b false).2) := by
  obtain ⟨h1, h2, _⟩ := minus_dec ha ra
  rw [dMul_out h1 rb, dMul_out ra rb, h2, V_neg, Int.neg_mul, fl_neg]
  exact out_minus _ false
theorem turn_add {a b : Nat} (ha : W a) (hb : W b) (ra : right a = true) (rb : right b = true) : dAdd (minus a) (minus b) false = (minus (dAdd a b true).1, (dAdd a b true).2) := by
  obtain ⟨h1, h2, _⟩ := minus_dec ha ra
  obtain ⟨g1, g2, _⟩ := minus_dec hb rb
  rw [dAdd_out h1 g1, dAdd_out ra rb, h2, g2, V_neg, V_neg]
  have : -V (dec a) + -V (dec b) = -(V (dec a) + V (dec b)) := by omega
  rw [this, fl_neg]
  exact out_minus _ true
theorem dMul_right {a b : Nat} {up : Bool} (ra : right a = true) (rb : right b = true) : right (dMul a b up).1 = true := by rw [dMul_out ra rb]; exact out_right _ _
theorem dAdd_right1 {a b : Nat} {up : Bool} (ra : right a = true) (rb : right b = true) : right (dAdd a b up).1 = true := by rw [dAdd_out ra rb]; exact out_right _ _
end Go.Dy
