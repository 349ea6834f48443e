/- Plain facts: intervals, and what a calculator answers (package ival), on bits. -/
import Derived.Test.YtinhbebjlbnejaaDoorKb
namespace Go.Dy

/-- Is it an interval? -/
def ivR (a : Nat × Nat) : Bool := right a.1 && right a.2 && decide (dec a.1 ≤ dec a.2)
/-- Has it a number? -/
def ivHas (a : Nat × Nat) (x : Nat) : Bool := ivR a && (fgt x a.1 || feq x a.1) && (flt x a.2 || feq x a.2)
def WW (a : Nat × Nat) : Prop := W a.1 ∧ W a.2

theorem ivR_of {a : Nat × Nat} (h : ivR a = true) : right a.1 = true ∧ right a.2 = true ∧ dec a.1 ≤ dec a.2 := by
  unfold ivR at h
  rw [Bool.and_eq_true, Bool.and_eq_true, decide_eq_true_eq] at h
  exact ⟨h.1.1, h.1.2, h.2⟩
theorem ivR_mk {a : Nat × Nat} (h1 : right a.1 = true) (h2 : right a.2 = true) (h3 : dec a.1 ≤ dec a.2) : ivR a = true := by
  unfold ivR; rw [h1, h2, decide_eq_true h3]; rfl
theorem WW_zero : WW (0, 0) := ⟨W_zero, W_zero⟩
theorem ivR_zero : ivR (0, 0) = true := ivR_mk right_zero right_zero (Int.le_refl _)

/-- A result, no interval: 0 to 0, and the error. -/
def ivNo (e : Int) : (Nat × Nat) × Int := ((0, 0), e)
/-- Down of one thing, up of another one. -/
def iEnds (l h : Nat × Int) : (Nat × Nat) × Int := if l.2 = 0 then ((l.1, h.1), h.2) else ivNo l.2
def iHull (a b : Nat × Nat) : Nat × Nat := (dmin a.1 b.1, dmax a.2 b.2)
/-- Of all ends. -/
def iAll (o : Nat → Nat → Bool → Nat × Int) (a b : Nat × Nat) : (Nat × Nat) × Int :=
  let p := iEnds (o a.1 b.1 false) (o a.1 b.1 true)
  let q := iEnds (o a.1 b.2 false) (o a.1 b.2 true)
  let r := iEnds (o a.2 b.1 false) (o a.2 b.1 true)
  let s := iEnds (o a.2 b.2 false) (o a.2 b.2 true)
  if p.2 ≠ 0 then ivNo p.2 else if q.2 ≠ 0 then ivNo q.2 else if r.2 ≠ 0 then ivNo r.2 else if s.2 ≠ 0 then ivNo s.2
  else (iHull (iHull (iHull (iHull p.1 p.1) q.1) r.1) s.1, 0)
def iTurned (a : Nat × Nat) : Nat × Nat := (minus a.2, minus a.1)
def iBare (a : Nat × Nat) : Nat × Nat := if 0 ≤ dec a.1 then a else if dec a.2 ≤ 0 then iTurned a else (0, dmax a.2 (minus a.1))

/-- What a calculator answers, and its error behind that: err is the one ahead. -/
def cAsk (err : Int) (ok : Bool) (r : (Nat × Nat) × Int) : (Nat × Nat) × Int :=
  if err ≠ 0 then ivNo err else if ok = false then ivNo 20 else if r.2 ≠ 0 then ivNo r.2 else (r.1, 0)

def cNum (err : Int) (x : Nat) : (Nat × Nat) × Int := cAsk err true (if right x then ((x, x), 0) else ivNo 13)
def cAdd (err : Int) (a b : Nat × Nat) : (Nat × Nat) × Int := cAsk err (ivR a && ivR b) (iEnds (dAdd a.1 b.1 false) (dAdd a.2 b.2 true))
def cSub (err : Int) (a b : Nat × Nat) : (Nat × Nat) × Int := cAsk err (ivR a && ivR b) (iEnds (dSub a.1 b.2 false) (dSub a.2 b.1 true))
def cMul (err : Int) (a b : Nat × Nat) : (Nat × Nat) × Int := cAsk err (ivR a && ivR b) (iAll dMul a b)
def cDiv (err : Int) (a b : Nat × Nat) : (Nat × Nat) × Int := cAsk err (ivR a && ivR b) (if ivHas b 0 then ivNo 11 else iAll dDiv a b)
def cSqr (err : Int) (a : Nat × Nat) : (Nat × Nat) × Int := cAsk err (ivR a) (iEnds (dMul (iBare a).1 (iBare a).1 false) (dMul (iBare a).2 (iBare a).2 true))
def cSqrt (err : Int) (a : Nat × Nat) : (Nat × Nat) × Int := cAsk err (ivR a) (iEnds (dSqrt a.1 false) (dSqrt a.2 true))
def cNeg (err : Int) (a : Nat × Nat) : (Nat × Nat) × Int := cAsk err (ivR a) (iTurned a, 0)
def cAbs (err : Int) (a : Nat × Nat) : (Nat × Nat) × Int := cAsk err (ivR a) (iBare a, 0)
def cMin (err : Int) (a b : Nat × Nat) : (Nat × Nat) × Int := cAsk err (ivR a && ivR b) ((dmin a.1 b.1, dmin a.2 b.2), 0)
def cMax (err : Int) (a b : Nat × Nat) : (Nat × Nat) × Int := cAsk err (ivR a && ivR b) ((dmax a.1 b.1, dmax a.2 b.2), 0)

/-! What is answered is a right interval of numbers that fit. -/

/-- A right answer: the interval is right, and its ends fit. -/
def Good (r : (Nat × Nat) × Int) : Prop := WW r.1 ∧ ivR r.1 = true

theorem good_no (e : Int) : Good (ivNo e) := ⟨WW_zero, ivR_zero⟩
theorem good_ask {err : Int} {ok : Bool} {r : (Nat × Nat) × Int} (h : ok = true → r.2 = 0 → Good r) : Good (cAsk err ok r) := by
  unfold cAsk
  split
  · exact good_no _
  · split
    · exact good_no _
    · rename_i h1
      split
      · exact good_no _
      · rename_i h2
        have h1' : ok = true := by simpa using h1
        exact h h1' (by omega)

/-- Ranks of two results, down and up. -/
theorem good_ends {z y : Int} (h : z ≤ y) (h2 : (iEnds (out z false) (out y true)).2 = 0) : Good (iEnds (out z false) (out y true)) := by
  unfold iEnds at h2 ⊢
  split at h2
  · rename_i h1
    rw [if_pos h1]
    obtain ⟨u, ou, e1, hu⟩ := out_ok h1
    obtain ⟨v, ov, e2, hv⟩ := out_ok h2
    refine ⟨⟨?_, ?_⟩, ivR_mk ?_ ?_ ?_⟩
    · dsimp only; rw [e1]; exact W_enc ou
    · dsimp only; rw [e2]; exact W_enc ov
    · dsimp only; rw [e1]; exact right_enc ou
    · dsimp only; rw [e2]; exact right_enc ov
    · dsimp only; rw [e1, e2]; dsimp only; rw [dec_enc ou, dec_enc ov]; omega
  · rename_i h1
    exact absurd h2 h1

theorem good_num {err : Int} {x : Nat} (hx : W x) : Good (cNum err x) := by
  refine good_ask fun _ h => ?_
  by_cases r : right x = true
  · rw [if_pos r]; exact ⟨⟨hx, hx⟩, ivR_mk r r (Int.le_refl _)⟩
  · rw [if_neg r] at h ⊢; exact good_no _

theorem good_add {err : Int} {a b : Nat × Nat} : Good (cAdd err a b) := by
  refine good_ask fun h h2 => ?_
  rw [Bool.and_eq_true] at h
  obtain ⟨a1, a2, a3⟩ := ivR_of h.1
  obtain ⟨b1, b2, b3⟩ := ivR_of h.2
  rw [dAdd_out a1 b1, dAdd_out a2 b2] at h2 ⊢
  refine good_ends ?_ h2
  have v1 := V_le_iff.2 a3
  have v2 := V_le_iff.2 b3
  exact Int.le_trans (fl_le_up (by omega)) (fl_mono (by omega) (by omega))

theorem good_sub {err : Int} {a b : Nat × Nat} (hb : WW b) : Good (cSub err a b) := by
  refine good_ask fun h h2 => ?_
  rw [Bool.and_eq_true] at h
  obtain ⟨a1, a2, a3⟩ := ivR_of h.1
  obtain ⟨b1, b2, b3⟩ := ivR_of h.2
  rw [dSub_out hb.2 a1 b2, dSub_out hb.1 a2 b1] at h2 ⊢
  refine good_ends ?_ h2
  have v1 := V_le_iff.2 a3
  have v2 := V_le_iff.2 b3
  exact Int.le_trans (fl_le_up (by omega)) (fl_mono (by omega) (by omega))

theorem good_hull {a b : Nat × Nat} (ha : WW a) (hb : WW b) (ra : ivR a = true) (rb : ivR b = true) : WW (iHull a b) ∧ ivR (iHull a b) = true := by
  obtain ⟨a1, a2, a3⟩ := ivR_of ra
  obtain ⟨b1, b2, b3⟩ := ivR_of rb
  refine ⟨⟨dmin_W ha.1 hb.1, dmax_W ha.2 hb.2⟩, ivR_mk (dmin_right a1 b1) (dmax_right a2 b2) ?_⟩
  show dec (dmin a.1 b.1) ≤ dec (dmax a.2 b.2)
  rw [dec_dmin, dec_dmax]; omega

theorem good_all {o : Nat → Nat → Bool → Nat × Int} {a b : Nat × Nat} (h : ∀ x y, (x = a.1 ∨ x = a.2) → (y = b.1 ∨ y = b.2) → (iEnds (o x y false) (o x y true)).2 = 0 → Good (iEnds (o x y false) (o x y true))) : Good (iAll o a b) := by
  unfold iAll
  dsimp only
  have hp := h a.1 b.1 (Or.inl rfl) (Or.inl rfl)
  have hq := h a.1 b.2 (Or.inl rfl) (Or.inr rfl)
  have hr := h a.2 b.1 (Or.inr rfl) (Or.inl rfl)
  have hs := h a.2 b.2 (Or.inr rfl) (Or.inr rfl)
  generalize iEnds (o a.1 b.1 false) (o a.1 b.1 true) = p at *
  generalize iEnds (o a.1 b.2 false) (o a.1 b.2 true) = q at *
  generalize iEnds (o a.2 b.1 false) (o a.2 b.1 true) = r at *
  generalize iEnds (o a.2 b.2 false) (o a.2 b.2 true) = s at *
  by_cases p0 : p.2 = 0
  · by_cases q0 : q.2 = 0
    · by_cases r0 : r.2 = 0
      · by_cases s0 : s.2 = 0
        · rw [if_neg (by omega), if_neg (by omega), if_neg (by omega), if_neg (by omega)]
          obtain ⟨p1, p2⟩ := hp p0
          obtain ⟨q1, q2⟩ := hq q0
          obtain ⟨r1, r2⟩ := hr r0
          obtain ⟨s1, s2⟩ := hs s0
          obtain ⟨a1, a2⟩ := good_hull p1 p1 p2 p2
          obtain ⟨b1, b2⟩ := good_hull a1 q1 a2 q2
          obtain ⟨c1, c2⟩ := good_hull b1 r1 b2 r2
          exact good_hull c1 s1 c2 s2
        · rw [if_neg (by omega), if_neg (by omega), if_neg (by omega), if_pos s0]; exact good_no _
      · rw [if_neg (by omega), if_neg (by omega), if_pos r0]; exact good_no _
    · rw [if_neg (by omega), if_pos q0]; exact good_no _
  · rw [if_pos p0]; exact good_no _

theorem good_mul {err : Int} {a b : Nat × Nat} : Good (cMul err a b) := by
  refine good_ask fun h _ => good_all (fun x y hx hy h3 => ?_)
  rw [Bool.and_eq_true] at h
  obtain ⟨a1, a2, _⟩ := ivR_of h.1
  obtain ⟨b1, b2, _⟩ := ivR_of h.2
  have rx : right x = true := by rcases hx with rfl | rfl <;> assumption
  have ry : right y = true := by rcases hy with rfl | rfl <;> assumption
  rw [dMul_out rx ry, dMul_out rx ry] at h3 ⊢
  exact good_ends (fl_le_up one_pos) h3

theorem divR_le {a b : Int} (hb : b ≠ 0) : divR a b false ≤ divR a b true := by
  have hd : 0 < (V b).natAbs := by
    have : V b ≠ 0 := fun h => hb (V_eq_zero.1 h)
    omega
  unfold divR
  split
  · exact fl_le_up hd
  · exact fl_le_up hd

theorem good_div {err : Int} {a b : Nat × Nat} (hb : WW b) : Good (cDiv err a b) := by
  refine good_ask fun h _ => ?_
  rw [Bool.and_eq_true] at h
  by_cases hh : ivHas b 0 = true
  · rw [if_pos hh]; exact good_no _
  · rw [if_neg hh]
    refine good_all (fun x y hx hy h3 => ?_)
    obtain ⟨a1, a2, _⟩ := ivR_of h.1
    obtain ⟨b1, b2, _⟩ := ivR_of h.2
    have rx : right x = true := by rcases hx with rfl | rfl <;> assumption
    have ry : right y = true := by rcases hy with rfl | rfl <;> assumption
    have wy : W y := by rcases hy with rfl | rfl; exact hb.1; exact hb.2
    have d : ∀ up, dDiv x y up = if y = 0 then (0, 11) else out (divR (dec x) (dec y) up) up := by
      intro up; unfold dDiv; rw [rx, ry, if_neg (by decide)]
    by_cases y0 : y = 0
    · rw [d, d, if_pos y0, if_pos y0] at h3
      exact absurd h3 (by decide)
    · rw [d, d, if_neg y0, if_neg y0] at h3 ⊢
      refine good_ends (divR_le ?_) h3
      intro h0
      have := enc_of_dec wy ry
      rw [h0] at this
      exact y0 (by rw [← this]; rfl)

theorem turned_good {a : Nat × Nat} (ha : WW a) (ra : ivR a = true) : WW (iTurned a) ∧ ivR (iTurned a) = true := by
  obtain ⟨a1, a2, a3⟩ := ivR_of ra
  obtain ⟨h1, h2, h3⟩ := minus_dec ha.1 a1
  obtain ⟨g1, g2, g3⟩ := minus_dec ha.2 a2
  refine ⟨⟨g3, h3⟩, ivR_mk g1 h1 ?_⟩
  show dec (minus a.2) ≤ dec (minus a.1)
  rw [h2, g2]; omega
theorem bare_good {a : Nat × Nat} (ha : WW a) (ra : ivR a = true) : WW (iBare a) ∧ ivR (iBare a) = true ∧ 0 ≤ dec (iBare a).1 := by
  obtain ⟨a1, a2, a3⟩ := ivR_of ra
  obtain ⟨h1, h2, h3⟩ := minus_dec ha.1 a1
  obtain ⟨g1, g2, g3⟩ := minus_dec ha.2 a2
  unfold iBare
  by_cases c : 0 ≤ dec a.1
  · rw [if_pos c]; exact ⟨ha, ra, c⟩
  · rw [if_neg c]
    by_cases d : dec a.2 ≤ 0
    · rw [if_pos d]
      obtain ⟨t1, t2⟩ := turned_good ha ra
      refine ⟨t1, t2, ?_⟩
      show 0 ≤ dec (minus a.2)
      rw [g2]; omega
    · rw [if_neg d]
      refine ⟨⟨W_zero, dmax_W ha.2 h3⟩, ivR_mk right_zero (dmax_right a2 h1) ?_, ?_⟩
      · show dec 0 ≤ dec (dmax a.2 (minus a.1))
        rw [dec_dmax, dec_zero]; omega
      · show 0 ≤ dec 0
        rw [dec_zero]; exact Int.le_refl _

theorem good_sqr {err : Int} {a : Nat × Nat} (ha : WW a) : Good (cSqr err a) := by
  refine good_ask fun h h2 => ?_
  obtain ⟨_, hr, h0⟩ := bare_good ha h
  obtain ⟨r1, r2, r3⟩ := ivR_of hr
  rw [dMul_out r1 r1, dMul_out r2 r2] at h2 ⊢
  refine good_ends ?_ h2
  have v0 := V_nonneg.2 h0
  have v1 := V_le_iff.2 r3
  exact Int.le_trans (fl_le_up one_pos) (fl_mono one_pos (Int.mul_le_mul v1 v1 v0 (by omega)))

theorem good_sqrt {err : Int} {a : Nat × Nat} (ha : WW a) : Good (cSqrt err a) := by
  refine good_ask fun h h2 => ?_
  obtain ⟨r1, r2, r3⟩ := ivR_of h
  have o1 := ok_dec ha.1 r1
  have o2 := ok_dec ha.2 r2
  by_cases h0 : dec a.1 < 0
  · have e := dSqrt_neg (up := false) o1 h0
    rw [enc_of_dec ha.1 r1] at e
    unfold iEnds
    rw [e, if_neg (by decide)]
    exact good_no _
  · have e1 := dSqrt_enc (up := false) o1 (by omega)
    have e2 := dSqrt_enc (up := true) o2 (by omega)
    rw [enc_of_dec ha.1 r1] at e1
    rw [enc_of_dec ha.2 r2] at e2
    have s1 := sqz_ok (up := false) (by omega) o1
    have s2 := sqz_ok (up := true) (by omega) o2
    rw [← out_mid (up := false) s1] at e1
    rw [← out_mid (up := true) s2] at e2
    rw [e1, e2] at h2 ⊢
    exact good_ends (Int.le_trans (sqz_le_up _) (sqz_mono (by omega) r3)) h2

theorem good_neg {err : Int} {a : Nat × Nat} (ha : WW a) : Good (cNeg err a) := good_ask fun h _ => turned_good ha h
theorem good_abs {err : Int} {a : Nat × Nat} (ha : WW a) : Good (cAbs err a) := good_ask fun h _ => ⟨(bare_good ha h).1, (bare_good ha h).2.1⟩
theorem good_min {err : Int} {a b : Nat × Nat} (ha : WW a) (hb : WW b) : Good (cMin err a b) := by
  refine good_ask fun h _ => ?_
  rw [Bool.and_eq_true] at h
  obtain ⟨a1, a2, a3⟩ := ivR_of h.1
  obtain ⟨b1, b2, b3⟩ := ivR_of h.2
  refine ⟨⟨dmin_W ha.1 hb.1, dmin_W ha.2 hb.2⟩, ivR_mk (dmin_right a1 b1) (dmin_right a2 b2) ?_⟩
  show dec (dmin a.1 b.1) ≤ dec (dmin a.2 b.2)
  rw [dec_dmin, dec_dmin]; omega
theorem good_max {err : Int} {a b : Nat × Nat} (ha : WW a) (hb : WW b) : Good (cMax err a b) := by
  refine good_ask fun h _ => ?_
  rw [Bool.and_eq_true] at h
  obtain ⟨a1, a2, a3⟩ := ivR_of h.1
  obtain ⟨b1, b2, b3⟩ := ivR_of h.2
  refine ⟨⟨dmax_W ha.1 hb.1, dmax_W ha.2 hb.2⟩, ivR_mk (dmax_right a1 b1) (dmax_right a2 b2) ?_⟩
  show dec (dmax a.1 b.1) ≤ dec (dmax a.2 b.2)
  rw [dec_dmax, dec_dmax]; omega
end Go.Dy
