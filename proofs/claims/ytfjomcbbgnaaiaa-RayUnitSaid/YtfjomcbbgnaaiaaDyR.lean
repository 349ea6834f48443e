/- Plain facts: the law DirSums. -/
import Derived.Test.YtfjomcbbgnaaiaaDyQ
namespace Go.Dy

theorem ok_dec {a : Nat} (ha : W a) (r : right a = true) : ok (dec a) := (enc_dec ha.lt r).2

theorem minus_dec {a : Nat} (ha : W a) (r : right a = true) : right (minus a) = true ∧ dec (minus a) = -dec a ∧ W (minus a) := by
  have r' := r
  unfold right at r; rw [decide_eq_true_eq, top_eq] at r
  have hl := ha.lt
  refine ⟨?_, ?_, ?_⟩
  · unfold right; rw [decide_eq_true_eq, top_eq]; unfold minus; split
    · omega
    · split <;> omega
  · unfold dec minus; split
    · rename_i h; subst h; decide
    · split
      · rw [if_neg (by omega)]; omega
      · rw [if_pos (by omega)]; omega
  · unfold W minus; split
    · omega
    · split <;> omega

theorem dAdd_out {a b : Nat} {up : Bool} (ra : right a = true) (rb : right b = true) : dAdd a b up = out (fl (V (dec a) + V (dec b)) 1 up) up := by
  unfold dAdd addR; rw [ra, rb]; rfl

theorem dSub_out {a b : Nat} {up : Bool} (hb : W b) (ra : right a = true) (rb : right b = true) : dSub a b up = out (fl (V (dec a) - V (dec b)) 1 up) up := by
  obtain ⟨h1, h2, _⟩ := minus_dec hb rb
  unfold dSub
  rw [rb, if_pos rfl, dAdd_out ra h1, h2, V_neg, Int.sub_eq_add_neg]

/-- What a result without error is: a number, the rank itself or what is the last one on its side. -/
theorem out_down {z : Int} (h : (out z false).2 = 0) : ∃ y, ok y ∧ out z false = (enc y, 0) ∧ y ≤ z ∧ (y = z ∨ y = (top : Int) - 1) := by
  unfold out at h ⊢
  by_cases h1 : (top : Int) ≤ z
  · rw [if_pos h1, if_neg (by decide)]
    exact ⟨(top : Int) - 1, by unfold ok; rw [top_eq]; omega, rfl, by omega, Or.inr rfl⟩
  · rw [if_neg h1] at h ⊢
    by_cases h2 : z ≤ -(top : Int)
    · rw [if_pos h2, if_neg (by decide)] at h; exact absurd h (by decide)
    · rw [if_neg h2]
      exact ⟨z, by unfold ok; omega, rfl, Int.le_refl _, Or.inl rfl⟩

theorem out_up_le {z b : Int} (hb : ok b) (h : z ≤ b) : ∃ y, ok y ∧ out z true = (enc y, 0) ∧ y ≤ b := by
  unfold ok at hb
  unfold out
  rw [if_neg (by omega)]
  by_cases h2 : z ≤ -(top : Int)
  · rw [if_pos h2, if_pos rfl]
    exact ⟨1 - (top : Int), by unfold ok; rw [top_eq]; omega, rfl, by omega⟩
  · rw [if_neg h2]
    exact ⟨z, by unfold ok; omega, rfl, h⟩

theorem out_up_lt {z b : Int} (hb : ok b) (h : b < z) : out z true = (0, 10) ∨ ∃ y, ok y ∧ out z true = (enc y, 0) ∧ b < y := by
  unfold ok at hb
  unfold out
  by_cases h1 : (top : Int) ≤ z
  · rw [if_pos h1, if_pos rfl]; exact Or.inl rfl
  · rw [if_neg h1, if_neg (by omega)]
    exact Or.inr ⟨z, by unfold ok; omega, rfl, h⟩

theorem W_enc {z : Int} (h : ok z) : W (enc z) := enc_lt h

theorem fgt_right {a : Nat} {y : Int} (hy : ok y) (ha : W a) (ra : right a = true) : fgt (enc y) a = decide (dec a < y) := by
  rw [fgt_dec (W_enc hy) ha (right_enc hy) ra, dec_enc hy]

theorem dNext_enc {z : Int} (h : ok z) : dNext (enc z) true = out (z + 1) true := by
  unfold dNext; rw [right_enc h, if_pos rfl, if_pos rfl, dec_enc h]

theorem dAdd_err {a b : Nat} {up : Bool} (h : (dAdd a b up).2 = 0) : right a = true ∧ right b = true := by
  unfold dAdd at h
  cases ra : right a
  · rw [ra] at h; simp at h
  · cases rb : right b
    · rw [ra, rb] at h; simp at h
    · exact ⟨rfl, rfl⟩

theorem out_W (z : Int) (up : Bool) : W (out z up).1 := by
  have t1 : W (enc ((top : Int) - 1)) := W_enc (by unfold ok; rw [top_eq]; omega)
  have t2 : W (enc (1 - (top : Int))) := W_enc (by unfold ok; rw [top_eq]; omega)
  unfold out
  split
  · split
    · exact W_zero
    · exact t1
  · split
    · split
      · exact t2
      · exact W_zero
    · exact W_enc (by unfold ok; omega)
theorem dAdd_W (a b : Nat) (up : Bool) : W (dAdd a b up).1 := by
  unfold dAdd; split
  · exact out_W _ _
  · exact W_zero
theorem dMul_W (a b : Nat) (up : Bool) : W (dMul a b up).1 := by
  unfold dMul; split
  · exact out_W _ _
  · exact W_zero
theorem dSub_W (a b : Nat) (up : Bool) : W (dSub a b up).1 := by
  unfold dSub; split
  · exact dAdd_W _ _ _
  · exact W_zero
theorem dNext_W (a : Nat) (up : Bool) : W (dNext a up).1 := by
  unfold dNext; split
  · exact out_W _ _
  · exact W_zero
theorem dDiv_W (a b : Nat) (up : Bool) : W (dDiv a b up).1 := by
  unfold dDiv; split
  · exact W_zero
  · split
    · exact W_zero
    · exact out_W _ _
theorem dSqrt_W (a : Nat) (up : Bool) : W (dSqrt a up).1 := by
  unfold dSqrt; split
  · exact W_zero
  · split
    · exact W_zero
    · split
      · exact W_zero
      · exact out_W _ _

/-- DirSums: down of a sum, taken away one of both, is not above the other one; the next one is. -/
theorem sums {a b : Nat} (ha : W a) (hb : W b) (h : (dAdd a b false).2 = 0) :
    ((dSub (dAdd a b false).1 a true).2 = 0 ∧ fgt (dSub (dAdd a b false).1 a true).1 b = false) ∧
    ((dNext (dAdd a b false).1 true).2 = 0 →
      (dSub (dNext (dAdd a b false).1 true).1 a true).2 = 10 ∨
      (dSub (dNext (dAdd a b false).1 true).1 a true).2 = 0 ∧ fgt (dSub (dNext (dAdd a b false).1 true).1 a true).1 b = true) := by
  obtain ⟨ra, rb⟩ := dAdd_err h
  rw [dAdd_out ra rb] at h ⊢
  obtain ⟨y, oy, e, h1, h2⟩ := out_down h
  rw [e]
  dsimp only
  have hz := (@fl_down y (V (dec a) + V (dec b)) 1 (by omega)).1 h1
  rw [dSub_out ha (right_enc oy) ra, dec_enc oy]
  refine ⟨?_, ?_⟩
  · obtain ⟨u, ou, e2, h3⟩ := out_up_le (z := fl (V y - V (dec a)) 1 true) (ok_dec hb rb) ((fl_up (by omega)).2 (by omega))
    rw [e2]
    refine ⟨rfl, ?_⟩
    rw [fgt_right ou hb rb]; exact decide_eq_false (by omega)
  · rw [dNext_enc oy]
    intro hn
    have hy1 : y + 1 < top := by
      have : ¬ ((top : Int) ≤ y + 1) := by
        intro h4
        rw [out_top h4, if_pos rfl] at hn
        exact absurd hn (by decide)
      omega
    have oy1 : ok (y + 1) := by unfold ok at oy ⊢; omega
    have hyz : y = fl (V (dec a) + V (dec b)) 1 false := by
      rcases h2 with h2 | h2
      · exact h2
      · omega
    have hv : ¬ (V (y + 1) * (1 : Nat) ≤ V (dec a) + V (dec b)) := by
      rw [← @fl_down (y + 1) (V (dec a) + V (dec b)) 1 (by omega), ← hyz]; omega
    rw [out_mid oy1]
    dsimp only
    rw [dSub_out ha (right_enc oy1) ra, dec_enc oy1]
    have hlt : dec b < fl (V (y + 1) - V (dec a)) 1 true := by
      have : ¬ (fl (V (y + 1) - V (dec a)) 1 true ≤ dec b) := by
        rw [fl_up (by omega)]; omega
      omega
    rcases out_up_lt (ok_dec hb rb) hlt with e3 | ⟨u, ou, e3, h5⟩
    · rw [e3]; exact Or.inl rfl
    · rw [e3]
      refine Or.inr ⟨rfl, ?_⟩
      rw [fgt_right ou hb rb]; exact decide_eq_true h5
end Go.Dy
