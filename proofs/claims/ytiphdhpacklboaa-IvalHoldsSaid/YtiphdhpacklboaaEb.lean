/- Plain facts: a calculator's answers on ranks; of lesser intervals comes a lesser one. -/
import Derived.Test.YtiphdhpacklboaaEa
namespace Go.Dy

/-- The last number on its side, instead of what is too great. -/
def pin (z : Int) : Int := max (min z ((top : Int) - 1)) (1 - (top : Int))
theorem pin_ok (z : Int) : ok (pin z) := by
  have tp := top_eq
  unfold pin ok; omega
theorem pin_mono {y z : Int} (h : y ≤ z) : pin y ≤ pin z := by unfold pin; omega
theorem pin_id {z : Int} (h : ok z) : pin z = z := by
  have tp := top_eq
  unfold ok at h; unfold pin; omega
theorem pin_min (y z : Int) : pin (min y z) = min (pin y) (pin z) := by unfold pin; omega
theorem pin_max (y z : Int) : pin (max y z) = max (pin y) (pin z) := by unfold pin; omega

theorem out_lo {z : Int} : out z false = if -(top : Int) < z then (enc (pin z), 0) else (0, 10) := by
  have tp := top_eq
  unfold out
  by_cases h1 : (top : Int) ≤ z
  · rw [if_pos h1, if_neg (by decide), if_pos (by omega)]
    have : pin z = (top : Int) - 1 := by unfold pin; omega
    rw [this]
  · rw [if_neg h1]
    by_cases h2 : z ≤ -(top : Int)
    · rw [if_pos h2, if_neg (by decide), if_neg (by omega)]
    · rw [if_neg h2, if_pos (by omega)]
      have : pin z = z := by unfold pin; omega
      rw [this]
theorem out_hi {z : Int} : out z true = if z < (top : Int) then (enc (pin z), 0) else (0, 10) := by
  have tp := top_eq
  unfold out
  by_cases h1 : (top : Int) ≤ z
  · rw [if_pos h1, if_pos rfl, if_neg (show ¬ z < (top : Int) by omega)]
  · rw [if_neg h1, if_pos (show z < (top : Int) by omega)]
    by_cases h2 : z ≤ -(top : Int)
    · rw [if_pos h2, if_pos rfl]
      have : pin z = 1 - (top : Int) := by unfold pin; omega
      rw [this]
    · rw [if_neg h2]
      have : pin z = z := by unfold pin; omega
      rw [this]

/-- Two ranks, and the interval of theirs. -/
def E (p : Int × Int) : Nat × Nat := (enc p.1, enc p.2)
/-- Ranks of a right interval. -/
structure Rk (p : Int × Int) : Prop where
  lo : ok p.1
  hi : ok p.2
  le : p.1 ≤ p.2
theorem Rk.E_W {p : Int × Int} (h : Rk p) : WW (E p) := ⟨W_enc h.lo, W_enc h.hi⟩
theorem Rk.E_R {p : Int × Int} (h : Rk p) : ivR (E p) = true := ivR_mk (right_enc h.lo) (right_enc h.hi) (by show dec (enc p.1) ≤ dec (enc p.2); rw [dec_enc h.lo, dec_enc h.hi]; exact h.le)
theorem Rk.d1 {p : Int × Int} (h : Rk p) : dec (E p).1 = p.1 := dec_enc h.lo
theorem Rk.d2 {p : Int × Int} (h : Rk p) : dec (E p).2 = p.2 := dec_enc h.hi
theorem Rk.r1 {p : Int × Int} (h : Rk p) : right (E p).1 = true := right_enc h.lo
theorem Rk.r2 {p : Int × Int} (h : Rk p) : right (E p).2 = true := right_enc h.hi
theorem Rk.w1 {p : Int × Int} (h : Rk p) : W (E p).1 := W_enc h.lo
theorem Rk.w2 {p : Int × Int} (h : Rk p) : W (E p).2 := W_enc h.hi
theorem rk_of {a : Nat × Nat} (ha : WW a) (ra : ivR a = true) : ∃ p, Rk p ∧ a = E p := by
  obtain ⟨r1, r2, r3⟩ := ivR_of ra
  refine ⟨(dec a.1, dec a.2), ⟨(enc_dec ha.1.lt r1).2, (enc_dec ha.2.lt r2).2, r3⟩, ?_⟩
  show a = (enc (dec a.1), enc (dec a.2))
  rw [(enc_dec ha.1.lt r1).1, (enc_dec ha.2.lt r2).1]

/-- One is within another one. -/
structure Wi (p q : Int × Int) : Prop where
  lo : q.1 ≤ p.1
  hi : p.2 ≤ q.2
theorem Wi.refl (p : Int × Int) : Wi p p := ⟨Int.le_refl _, Int.le_refl _⟩
theorem Wi.trans {p q r : Int × Int} (h : Wi p q) (k : Wi q r) : Wi p r := ⟨Int.le_trans k.lo h.lo, Int.le_trans h.hi k.hi⟩

/-- An answer by its ranks, down and up. -/
def cRes (err : Int) (z y : Int) : (Nat × Nat) × Int := if err ≠ 0 then ivNo err else if -(top : Int) < z ∧ y < (top : Int) then (E (pin z, pin y), 0) else ivNo 10

theorem cAsk_ends (err z y : Int) : cAsk err true (iEnds (out z false) (out y true)) = cRes err z y := by
  unfold cAsk cRes iEnds
  by_cases he : err ≠ 0
  · rw [if_pos he, if_pos he]
  · rw [if_neg he, if_neg he, if_neg (show ¬ (true = false) by decide), out_lo, out_hi]
    by_cases h1 : -(top : Int) < z
    · rw [if_pos h1]
      by_cases h2 : y < (top : Int)
      · rw [if_pos h2, if_pos (show -(top : Int) < z ∧ y < (top : Int) from ⟨h1, h2⟩)]; rfl
      · rw [if_neg h2, if_neg (show ¬ (-(top : Int) < z ∧ y < (top : Int)) from fun h => h2 h.2)]; rfl
    · rw [if_neg h1, if_neg (show ¬ (-(top : Int) < z ∧ y < (top : Int)) from fun h => h1 h.1)]; rfl

/-- An answer is there: an interval by its ranks, and no error. -/
def Got (r : (Nat × Nat) × Int) (p : Int × Int) : Prop := r = (E p, 0) ∧ Rk p

theorem got_of {z y : Int} (h : z ≤ y) (h1 : -(top : Int) < z) (h2 : y < (top : Int)) : Got (cRes 0 z y) (pin z, pin y) := by
  refine ⟨?_, pin_ok _, pin_ok _, pin_mono h⟩
  unfold cRes; rw [if_neg (by decide), if_pos ⟨h1, h2⟩]
theorem got_ok {z y : Int} (h : z ≤ y) (h1 : ok z) (h2 : ok y) : Got (cRes 0 z y) (z, y) := by
  have := got_of h h1.1 h2.2
  rw [pin_id h1, pin_id h2] at this
  exact this
theorem res_err {err z y : Int} (h : (cRes err z y).2 = 0) : err = 0 ∧ -(top : Int) < z ∧ y < (top : Int) := by
  unfold cRes at h
  by_cases he : err ≠ 0
  · rw [if_pos he] at h; exact absurd h he
  · rw [if_neg he] at h
    by_cases hh : -(top : Int) < z ∧ y < (top : Int)
    · exact ⟨by omega, hh⟩
    · rw [if_neg hh] at h; exact absurd h (by decide)
/-- Of an answer that is there one of lesser ranks is there, and lesser. -/
theorem res_mono {z y z' y' : Int} {p : Int × Int} (h : Got (cRes 0 z y) p) (hz : z ≤ z') (hy : y' ≤ y) (h' : z' ≤ y') : ∃ p', Got (cRes 0 z' y') p' ∧ Wi p' p := by
  obtain ⟨_, h1, h2⟩ := res_err (congrArg (·.2) h.1)
  refine ⟨_, got_of h' (by omega) (by omega), ?_⟩
  have e := h.1
  unfold cRes at e
  rw [if_neg (by decide), if_pos ⟨h1, h2⟩] at e
  have e1 := congrArg (fun r => dec r.1.1) e
  have e2 := congrArg (fun r => dec r.1.2) e
  have k1 : pin z = p.1 := by
    have := (dec_enc (pin_ok z)).symm.trans (e1.trans (dec_enc h.2.lo)); exact this
  have k2 : pin y = p.2 := by
    have := (dec_enc (pin_ok y)).symm.trans (e2.trans (dec_enc h.2.hi)); exact this
  exact ⟨by rw [← k1]; exact pin_mono hz, by rw [← k2]; exact pin_mono hy⟩

theorem Got.rk {r : (Nat × Nat) × Int} {p : Int × Int} (h : Got r p) : Rk p := h.2
theorem Got.e0 {r : (Nat × Nat) × Int} {p : Int × Int} (h : Got r p) : r.2 = 0 := by rw [h.1]
theorem Got.e1 {r : (Nat × Nat) × Int} {p : Int × Int} (h : Got r p) : r.1 = E p := by rw [h.1]
theorem E_inj {p q : Int × Int} (hp : Rk p) (hq : Rk q) (h : E p = E q) : p = q := by
  have h1 := congrArg (fun r => dec r.1) h
  have h2 := congrArg (fun r => dec r.2) h
  rw [show dec (E p).1 = p.1 from hp.d1, show dec (E q).1 = q.1 from hq.d1] at h1
  rw [show dec (E p).2 = p.2 from hp.d2, show dec (E q).2 = q.2 from hq.d2] at h2
  exact Prod.ext h1 h2
theorem Got.uniq {r : (Nat × Nat) × Int} {p q : Int × Int} (h : Got r p) (k : Got r q) : p = q :=
  E_inj h.2 k.2 (by rw [← h.e1, ← k.e1])

theorem ask_true {err : Int} {r : (Nat × Nat) × Int} {a : Nat × Nat} (h : ivR a = true) : cAsk err (ivR a) r = cAsk err true r := by rw [h]
theorem ask_true2 {err : Int} {r : (Nat × Nat) × Int} {a b : Nat × Nat} (h : ivR a = true) (h' : ivR b = true) : cAsk err (ivR a && ivR b) r = cAsk err true r := by rw [h, h']; rfl

theorem cAdd_E {err : Int} {p q : Int × Int} (hp : Rk p) (hq : Rk q) : cAdd err (E p) (E q) = cRes err (fl (V p.1 + V q.1) 1 false) (fl (V p.2 + V q.2) 1 true) := by
  unfold cAdd
  rw [ask_true2 hp.E_R hq.E_R, dAdd_out hp.r1 hq.r1, dAdd_out hp.r2 hq.r2, hp.d1, hp.d2, hq.d1, hq.d2, cAsk_ends]
theorem cSub_E {err : Int} {p q : Int × Int} (hp : Rk p) (hq : Rk q) : cSub err (E p) (E q) = cRes err (fl (V p.1 - V q.2) 1 false) (fl (V p.2 - V q.1) 1 true) := by
  unfold cSub
  rw [ask_true2 hp.E_R hq.E_R, dSub_out hq.w2 hp.r1 hq.r2, dSub_out hq.w1 hp.r2 hq.r1, hp.d1, hp.d2, hq.d1, hq.d2, cAsk_ends]
theorem cNum_E {err : Int} {z : Int} (hz : ok z) : cNum err (enc z) = if err ≠ 0 then ivNo err else (E (z, z), 0) := by
  unfold cNum cAsk
  rw [right_enc hz, if_pos rfl]
  by_cases he : err ≠ 0
  · rw [if_pos he, if_pos he]
  · rw [if_neg he, if_neg he]; rfl

theorem dmin_enc {y z : Int} (hy : ok y) (hz : ok z) : dmin (enc y) (enc z) = enc (min y z) := by
  unfold dmin; rw [dec_enc hy, dec_enc hz]
  by_cases h : z < y
  · rw [if_pos h, show min y z = z from by omega]
  · rw [if_neg h, show min y z = y from by omega]
theorem dmax_enc {y z : Int} (hy : ok y) (hz : ok z) : dmax (enc y) (enc z) = enc (max y z) := by
  unfold dmax; rw [dec_enc hy, dec_enc hz]
  by_cases h : y < z
  · rw [if_pos h, show max y z = z from by omega]
  · rw [if_neg h, show max y z = y from by omega]
theorem iHull_E {p q : Int × Int} (hp : Rk p) (hq : Rk q) : iHull (E p) (E q) = E (min p.1 q.1, max p.2 q.2) := by
  unfold iHull
  show (dmin (enc p.1) (enc q.1), dmax (enc p.2) (enc q.2)) = _
  rw [dmin_enc hp.lo hq.lo, dmax_enc hp.hi hq.hi]; rfl

theorem Rk.hull {p q : Int × Int} (hp : Rk p) (hq : Rk q) : Rk (min p.1 q.1, max p.2 q.2) := by
  have a1 := hp.lo; have a2 := hp.hi; have a3 := hp.le
  have b1 := hq.lo; have b2 := hq.hi
  unfold ok at *
  exact ⟨by unfold ok; dsimp only; omega, by unfold ok; dsimp only; omega, by dsimp only; omega⟩
theorem ends_good {z y : Int} (h1 : -(top : Int) < z) (h2 : y < (top : Int)) : iEnds (out z false) (out y true) = (E (pin z, pin y), 0) := by
  unfold iEnds; rw [out_lo, out_hi, if_pos h1, if_pos h2, if_pos rfl]; rfl
theorem ends_bad {z y : Int} (h : ¬ (-(top : Int) < z ∧ y < (top : Int))) : (iEnds (out z false) (out y true)).2 = 10 := by
  unfold iEnds; rw [out_lo, out_hi]
  by_cases h1 : -(top : Int) < z
  · rw [if_pos h1, if_neg (fun h2 => h ⟨h1, h2⟩), if_pos rfl]
  · rw [if_neg h1, if_neg (by decide)]; rfl

/-- The least and the greatest of four. -/
def lo4 (r : Int → Int → Bool → Int) (p q : Int × Int) : Int := min (min (min (r p.1 q.1 false) (r p.1 q.2 false)) (r p.2 q.1 false)) (r p.2 q.2 false)
def hi4 (r : Int → Int → Bool → Int) (p q : Int × Int) : Int := max (max (max (r p.1 q.1 true) (r p.1 q.2 true)) (r p.2 q.1 true)) (r p.2 q.2 true)

theorem iAll_E {err : Int} {o : Nat → Nat → Bool → Nat × Int} {r : Int → Int → Bool → Int} {p q : Int × Int} (h : ∀ x y up, (x = p.1 ∨ x = p.2) → (y = q.1 ∨ y = q.2) → o (enc x) (enc y) up = out (r x y up) up) (hm : ∀ x y, (x = p.1 ∨ x = p.2) → (y = q.1 ∨ y = q.2) → r x y false ≤ r x y true) :
    cAsk err true (iAll o (E p) (E q)) = cRes err (lo4 r p q) (hi4 r p q) := by
  have h11 := hm p.1 q.1 (Or.inl rfl) (Or.inl rfl)
  have h12 := hm p.1 q.2 (Or.inl rfl) (Or.inr rfl)
  have h21 := hm p.2 q.1 (Or.inr rfl) (Or.inl rfl)
  have h22 := hm p.2 q.2 (Or.inr rfl) (Or.inr rfl)
  unfold iAll
  rw [show (E p).1 = enc p.1 from rfl, show (E p).2 = enc p.2 from rfl, show (E q).1 = enc q.1 from rfl, show (E q).2 = enc q.2 from rfl]
  rw [h _ _ _ (Or.inl rfl) (Or.inl rfl), h _ _ _ (Or.inl rfl) (Or.inl rfl), h _ _ _ (Or.inl rfl) (Or.inr rfl), h _ _ _ (Or.inl rfl) (Or.inr rfl), h _ _ _ (Or.inr rfl) (Or.inl rfl), h _ _ _ (Or.inr rfl) (Or.inl rfl), h _ _ _ (Or.inr rfl) (Or.inr rfl), h _ _ _ (Or.inr rfl) (Or.inr rfl)]
  unfold lo4 hi4
  clear h hm
  generalize r p.1 q.1 false = a0 at *
  generalize r p.1 q.1 true = a1 at *
  generalize r p.1 q.2 false = b0 at *
  generalize r p.1 q.2 true = b1 at *
  generalize r p.2 q.1 false = c0 at *
  generalize r p.2 q.1 true = c1 at *
  generalize r p.2 q.2 false = d0 at *
  generalize r p.2 q.2 true = d1 at *
  have bad : ∀ {z y : Int}, ¬ (-(top : Int) < z ∧ y < (top : Int)) → cAsk err true (ivNo 10) = cRes err z y := by
    intro z y h
    unfold cAsk cRes
    by_cases he : err ≠ 0
    · rw [if_pos he, if_pos he]
    · rw [if_neg he, if_neg he, if_neg h]; rfl
  by_cases g1 : -(top : Int) < a0 ∧ a1 < (top : Int)
  · rw [ends_good g1.1 g1.2]
    by_cases g2 : -(top : Int) < b0 ∧ b1 < (top : Int)
    · rw [ends_good g2.1 g2.2]
      by_cases g3 : -(top : Int) < c0 ∧ c1 < (top : Int)
      · rw [ends_good g3.1 g3.2]
        by_cases g4 : -(top : Int) < d0 ∧ d1 < (top : Int)
        · rw [ends_good g4.1 g4.2]
          dsimp only
          rw [if_neg (show ¬ ((0 : Int) ≠ 0) by decide), if_neg (show ¬ ((0 : Int) ≠ 0) by decide), if_neg (show ¬ ((0 : Int) ≠ 0) by decide), if_neg (show ¬ ((0 : Int) ≠ 0) by decide)]
          have ra : Rk (pin a0, pin a1) := ⟨pin_ok _, pin_ok _, pin_mono h11⟩
          have rb : Rk (pin b0, pin b1) := ⟨pin_ok _, pin_ok _, pin_mono h12⟩
          have rc : Rk (pin c0, pin c1) := ⟨pin_ok _, pin_ok _, pin_mono h21⟩
          have rd : Rk (pin d0, pin d1) := ⟨pin_ok _, pin_ok _, pin_mono h22⟩
          rw [iHull_E ra ra, iHull_E (ra.hull ra) rb, iHull_E ((ra.hull ra).hull rb) rc, iHull_E (((ra.hull ra).hull rb).hull rc) rd]
          unfold cAsk cRes
          by_cases he : err ≠ 0
          · rw [if_pos he, if_pos he]
          · rw [if_neg he, if_neg he, if_pos (show -(top : Int) < min (min (min a0 b0) c0) d0 ∧ max (max (max a1 b1) c1) d1 < (top : Int) by omega)]
            show (_, (0 : Int)) = (_, (0 : Int))
            dsimp only
            rw [pin_min, pin_min, pin_min, pin_max, pin_max, pin_max, show min (pin a0) (pin a0) = pin a0 from by omega, show max (pin a1) (pin a1) = pin a1 from by omega]
        · dsimp only; rw [if_neg (show ¬ ((0 : Int) ≠ 0) by decide), if_neg (show ¬ ((0 : Int) ≠ 0) by decide), if_neg (show ¬ ((0 : Int) ≠ 0) by decide), if_pos (by rw [ends_bad g4]; decide), ends_bad g4]; exact bad (by omega)
      · dsimp only; rw [if_neg (show ¬ ((0 : Int) ≠ 0) by decide), if_neg (show ¬ ((0 : Int) ≠ 0) by decide), if_pos (by rw [ends_bad g3]; decide), ends_bad g3]; exact bad (by omega)
    · dsimp only; rw [if_neg (show ¬ ((0 : Int) ≠ 0) by decide), if_pos (by rw [ends_bad g2]; decide), ends_bad g2]; exact bad (by omega)
  · dsimp only; rw [if_pos (by rw [ends_bad g1]; decide), ends_bad g1]; exact bad (by omega)

theorem out_mul {x y : Int} {up : Bool} (hx : ok x) (hy : ok y) : dMul (enc x) (enc y) up = out (mulR x y up) up := by
  rw [dMul_out (right_enc hx) (right_enc hy), dec_enc hx, dec_enc hy]; rfl
theorem out_div {x y : Int} {up : Bool} (hx : ok x) (hy : ok y) (h0 : y ≠ 0) : dDiv (enc x) (enc y) up = out (divR x y up) up := by
  unfold dDiv
  rw [right_enc hx, right_enc hy, if_neg (by decide), dec_enc hx, dec_enc hy, if_neg]
  intro h
  have := congrArg dec h
  rw [dec_enc hy, dec_zero] at this
  exact h0 this
theorem Rk.ok_of {p : Int × Int} (h : Rk p) {x : Int} (hx : x = p.1 ∨ x = p.2) : ok x := by
  rcases hx with rfl | rfl
  · exact h.lo
  · exact h.hi
theorem mulR_le (x y : Int) : mulR x y false ≤ mulR x y true := fl_le_up one_pos
theorem cMul_E {err : Int} {p q : Int × Int} (hp : Rk p) (hq : Rk q) : cMul err (E p) (E q) = cRes err (lo4 mulR p q) (hi4 mulR p q) := by
  unfold cMul
  rw [ask_true2 hp.E_R hq.E_R]
  exact iAll_E (fun x y up hx hy => out_mul (hp.ok_of hx) (hq.ok_of hy)) (fun x y _ _ => mulR_le x y)

theorem corner_mul {A B C D X Y : Int} (h1 : A ≤ X) (h2 : X ≤ B) (h3 : C ≤ Y) (h4 : Y ≤ D) : A * C ≤ X * Y ∨ A * D ≤ X * Y ∨ B * C ≤ X * Y ∨ B * D ≤ X * Y := by
  by_cases y0 : 0 ≤ Y
  · have k1 : A * Y ≤ X * Y := Int.mul_le_mul_of_nonneg_right h1 y0
    by_cases a0 : 0 ≤ A
    · exact Or.inl (Int.le_trans (Int.mul_le_mul_of_nonneg_left h3 a0) k1)
    · exact Or.inr (Or.inl (Int.le_trans (Int.mul_le_mul_of_nonpos_left (by omega) h4) k1))
  · have k1 : B * Y ≤ X * Y := Int.mul_le_mul_of_nonpos_right h2 (by omega)
    by_cases b0 : 0 ≤ B
    · exact Or.inr (Or.inr (Or.inl (Int.le_trans (Int.mul_le_mul_of_nonneg_left h3 b0) k1)))
    · exact Or.inr (Or.inr (Or.inr (Int.le_trans (Int.mul_le_mul_of_nonpos_left (by omega) h4) k1)))
theorem corner_mul' {A B C D X Y : Int} (h1 : A ≤ X) (h2 : X ≤ B) (h3 : C ≤ Y) (h4 : Y ≤ D) : X * Y ≤ A * C ∨ X * Y ≤ A * D ∨ X * Y ≤ B * C ∨ X * Y ≤ B * D := by
  have := corner_mul (A := -B) (B := -A) (X := -X) (by omega) (by omega) h3 h4
  rw [Int.neg_mul, Int.neg_mul, Int.neg_mul, Int.neg_mul, Int.neg_mul] at this
  rcases this with h | h | h | h
  · exact Or.inr (Or.inr (Or.inl (by omega)))
  · exact Or.inr (Or.inr (Or.inr (by omega)))
  · exact Or.inl (by omega)
  · exact Or.inr (Or.inl (by omega))

theorem lo4_le {r : Int → Int → Bool → Int} {p q : Int × Int} {z : Int} (h : r p.1 q.1 false ≤ z ∨ r p.1 q.2 false ≤ z ∨ r p.2 q.1 false ≤ z ∨ r p.2 q.2 false ≤ z) : lo4 r p q ≤ z := by unfold lo4; omega
theorem le_lo4 {r : Int → Int → Bool → Int} {p q : Int × Int} {z : Int} (h1 : z ≤ r p.1 q.1 false) (h2 : z ≤ r p.1 q.2 false) (h3 : z ≤ r p.2 q.1 false) (h4 : z ≤ r p.2 q.2 false) : z ≤ lo4 r p q := by unfold lo4; omega
theorem le_hi4 {r : Int → Int → Bool → Int} {p q : Int × Int} {z : Int} (h : z ≤ r p.1 q.1 true ∨ z ≤ r p.1 q.2 true ∨ z ≤ r p.2 q.1 true ∨ z ≤ r p.2 q.2 true) : z ≤ hi4 r p q := by unfold hi4; omega
theorem hi4_le {r : Int → Int → Bool → Int} {p q : Int × Int} {z : Int} (h1 : r p.1 q.1 true ≤ z) (h2 : r p.1 q.2 true ≤ z) (h3 : r p.2 q.1 true ≤ z) (h4 : r p.2 q.2 true ≤ z) : hi4 r p q ≤ z := by unfold hi4; omega

theorem lo4_mul {p q : Int × Int} {x y : Int} (h1 : p.1 ≤ x) (h2 : x ≤ p.2) (h3 : q.1 ≤ y) (h4 : y ≤ q.2) : lo4 mulR p q ≤ mulR x y false := by
  apply lo4_le
  rcases corner_mul (V_le_iff.2 h1) (V_le_iff.2 h2) (V_le_iff.2 h3) (V_le_iff.2 h4) with h | h | h | h
  · exact Or.inl (fl_mono one_pos h)
  · exact Or.inr (Or.inl (fl_mono one_pos h))
  · exact Or.inr (Or.inr (Or.inl (fl_mono one_pos h)))
  · exact Or.inr (Or.inr (Or.inr (fl_mono one_pos h)))
theorem hi4_mul {p q : Int × Int} {x y : Int} (h1 : p.1 ≤ x) (h2 : x ≤ p.2) (h3 : q.1 ≤ y) (h4 : y ≤ q.2) : mulR x y true ≤ hi4 mulR p q := by
  apply le_hi4
  rcases corner_mul' (V_le_iff.2 h1) (V_le_iff.2 h2) (V_le_iff.2 h3) (V_le_iff.2 h4) with h | h | h | h
  · exact Or.inl (fl_mono one_pos h)
  · exact Or.inr (Or.inl (fl_mono one_pos h))
  · exact Or.inr (Or.inr (Or.inl (fl_mono one_pos h)))
  · exact Or.inr (Or.inr (Or.inr (fl_mono one_pos h)))
theorem lo4_hi4 {p q : Int × Int} (hp : p.1 ≤ p.2) (hq : q.1 ≤ q.2) : lo4 mulR p q ≤ hi4 mulR p q :=
  Int.le_trans (lo4_mul (Int.le_refl _) hp (Int.le_refl _) hq) (Int.le_trans (mulR_le _ _) (hi4_mul (Int.le_refl _) hp (Int.le_refl _) hq))
theorem Wi.lo4_mul {p q p' q' : Int × Int} (hp : Wi p' p) (hq : Wi q' q) (lp : p'.1 ≤ p'.2) (lq : q'.1 ≤ q'.2) : lo4 mulR p q ≤ lo4 mulR p' q' := by
  have a := hp.lo; have b := hp.hi; have c := hq.lo; have d := hq.hi
  refine le_lo4 ?_ ?_ ?_ ?_ <;> exact Dy.lo4_mul (by omega) (by omega) (by omega) (by omega)
theorem Wi.hi4_mul {p q p' q' : Int × Int} (hp : Wi p' p) (hq : Wi q' q) (lp : p'.1 ≤ p'.2) (lq : q'.1 ≤ q'.2) : hi4 mulR p' q' ≤ hi4 mulR p q := by
  have a := hp.lo; have b := hp.hi; have c := hq.lo; have d := hq.hi
  refine hi4_le ?_ ?_ ?_ ?_ <;> exact Dy.hi4_mul (by omega) (by omega) (by omega) (by omega)

theorem mono_add {p q p' q' s : Int × Int} (hp : Rk p) (hq : Rk q) (hp' : Rk p') (hq' : Rk q') (w : Wi p' p) (u : Wi q' q) (h : Got (cAdd 0 (E p) (E q)) s) : ∃ s', Got (cAdd 0 (E p') (E q')) s' ∧ Wi s' s := by
  have a := V_le_iff.2 w.lo; have b := V_le_iff.2 w.hi; have c := V_le_iff.2 u.lo; have d := V_le_iff.2 u.hi
  have e := V_le_iff.2 hp'.le; have f := V_le_iff.2 hq'.le
  rw [cAdd_E hp hq] at h
  rw [cAdd_E hp' hq']
  exact res_mono h (fl_mono (by decide) (by omega)) (fl_mono (by decide) (by omega)) (Int.le_trans (fl_le_up (by decide)) (fl_mono (by decide) (by omega)))
theorem mono_sub {p q p' q' s : Int × Int} (hp : Rk p) (hq : Rk q) (hp' : Rk p') (hq' : Rk q') (w : Wi p' p) (u : Wi q' q) (h : Got (cSub 0 (E p) (E q)) s) : ∃ s', Got (cSub 0 (E p') (E q')) s' ∧ Wi s' s := by
  have a := V_le_iff.2 w.lo; have b := V_le_iff.2 w.hi; have c := V_le_iff.2 u.lo; have d := V_le_iff.2 u.hi
  have e := V_le_iff.2 hp'.le; have f := V_le_iff.2 hq'.le
  rw [cSub_E hp hq] at h
  rw [cSub_E hp' hq']
  exact res_mono h (fl_mono (by decide) (by omega)) (fl_mono (by decide) (by omega)) (Int.le_trans (fl_le_up (by decide)) (fl_mono (by decide) (by omega)))
theorem mono_mul {p q p' q' s : Int × Int} (hp : Rk p) (hq : Rk q) (hp' : Rk p') (hq' : Rk q') (w : Wi p' p) (u : Wi q' q) (h : Got (cMul 0 (E p) (E q)) s) : ∃ s', Got (cMul 0 (E p') (E q')) s' ∧ Wi s' s := by
  rw [cMul_E hp hq] at h
  rw [cMul_E hp' hq']
  exact res_mono h (w.lo4_mul u hp'.le hq'.le) (w.hi4_mul u hp'.le hq'.le) (lo4_hi4 hp'.le hq'.le)

/-! Quotients. -/
theorem fl_cross {n m : Int} {d e : Nat} {up : Bool} (hd : 0 < d) (he : 0 < e) (h : n * e ≤ m * d) : fl n d up ≤ fl m e up := by
  have hd' : (0 : Int) < d := by omega
  have he' : (0 : Int) < e := by omega
  cases up
  · rw [fl_down he]
    have k := (fl_down (z := fl n d false) hd).1 (Int.le_refl _)
    have k2 : V (fl n d false) * d * e ≤ m * d := Int.le_trans (Int.mul_le_mul_of_nonneg_right k (by omega)) h
    rw [Int.mul_right_comm] at k2
    exact Int.le_of_mul_le_mul_right k2 hd'
  · rw [fl_up hd]
    have k := (fl_up (z := fl m e true) he).1 (Int.le_refl _)
    have k2 : n * e ≤ V (fl m e true) * e * d := Int.le_trans h (Int.mul_le_mul_of_nonneg_right k (by omega))
    rw [Int.mul_right_comm] at k2
    exact Int.le_of_mul_le_mul_right k2 he'
theorem divR_neg {x y : Int} {up : Bool} (h : y ≠ 0) : divR (-x) (-y) up = divR x y up := by
  unfold divR
  rw [V_neg, V_neg, Int.neg_mul, Int.natAbs_neg, Int.neg_neg]
  by_cases h1 : y < 0
  · rw [if_pos h1, if_neg (by omega)]
  · rw [if_neg h1, if_pos (by omega)]
theorem divR_pos {x y : Int} {up : Bool} (h : 0 < y) : divR x y up = fl (V x * one) (V y).toNat up := by
  unfold divR
  rw [if_neg (by omega)]
  have := V_pos.2 h
  rw [show (V y).natAbs = (V y).toNat from by omega]
theorem divR_cross {x y u v : Int} {up : Bool} (hy : 0 < y) (hv : 0 < v) (h : V x * V v ≤ V u * V y) : divR x y up ≤ divR u v up := by
  have a := V_pos.2 hy
  have b := V_pos.2 hv
  rw [divR_pos hy, divR_pos hv]
  refine fl_cross (by omega) (by omega) ?_
  rw [show (((V v).toNat : Nat) : Int) = V v from by omega, show (((V y).toNat : Nat) : Int) = V y from by omega, Int.mul_right_comm, Int.mul_right_comm (V u)]
  exact Int.mul_le_mul_of_nonneg_right h (by omega)

/-- Does an interval have 0? -/
def nz0 (q : Int × Int) : Prop := 0 < q.1 ∨ q.2 < 0
theorem corner_div {p q : Int × Int} {x y : Int} (h1 : p.1 ≤ x) (h2 : x ≤ p.2) (h3 : q.1 ≤ y) (h4 : y ≤ q.2) (h0 : 0 < q.1) {up : Bool} :
    (divR p.1 q.1 up ≤ divR x y up ∨ divR p.1 q.2 up ≤ divR x y up) ∧ (divR x y up ≤ divR p.2 q.1 up ∨ divR x y up ≤ divR p.2 q.2 up) := by
  have v1 := V_le_iff.2 h1; have v2 := V_le_iff.2 h2; have v3 := V_le_iff.2 h3; have v4 := V_le_iff.2 h4
  have v0 := V_pos.2 h0
  refine ⟨?_, ?_⟩
  · by_cases a0 : 0 ≤ V p.1
    · refine Or.inr (divR_cross (by omega) (by omega) ?_)
      exact Int.le_trans (Int.mul_le_mul_of_nonneg_left v4 a0) (Int.mul_le_mul_of_nonneg_right v1 (by omega))
    · refine Or.inl (divR_cross (by omega) (by omega) ?_)
      exact Int.le_trans (Int.mul_le_mul_of_nonpos_left (by omega) v3) (Int.mul_le_mul_of_nonneg_right v1 (by omega))
  · by_cases a0 : 0 ≤ V p.2
    · refine Or.inl (divR_cross (by omega) (by omega) ?_)
      exact Int.le_trans (Int.mul_le_mul_of_nonneg_right v2 (by omega)) (Int.mul_le_mul_of_nonneg_left v3 a0)
    · refine Or.inr (divR_cross (by omega) (by omega) ?_)
      exact Int.le_trans (Int.mul_le_mul_of_nonneg_right v2 (by omega)) (Int.mul_le_mul_of_nonpos_left (by omega) v4)
theorem lo4_div {p q : Int × Int} {x y : Int} (h1 : p.1 ≤ x) (h2 : x ≤ p.2) (h3 : q.1 ≤ y) (h4 : y ≤ q.2) (h0 : nz0 q) : lo4 divR p q ≤ divR x y false := by
  apply lo4_le
  rcases h0 with h0 | h0
  · rcases (corner_div h1 h2 h3 h4 h0 (up := false)).1 with h | h
    · exact Or.inl h
    · exact Or.inr (Or.inl h)
  · have := (corner_div (p := (-p.2, -p.1)) (q := (-q.2, -q.1)) (x := -x) (y := -y) (by dsimp only; omega) (by dsimp only; omega) (by dsimp only; omega) (by dsimp only; omega) (by dsimp only; omega) (up := false)).1
    dsimp only at this
    rw [divR_neg (by omega), divR_neg (by omega), divR_neg (by omega)] at this
    rcases this with h | h
    · exact Or.inr (Or.inr (Or.inr h))
    · exact Or.inr (Or.inr (Or.inl h))
theorem hi4_div {p q : Int × Int} {x y : Int} (h1 : p.1 ≤ x) (h2 : x ≤ p.2) (h3 : q.1 ≤ y) (h4 : y ≤ q.2) (h0 : nz0 q) : divR x y true ≤ hi4 divR p q := by
  apply le_hi4
  rcases h0 with h0 | h0
  · rcases (corner_div h1 h2 h3 h4 h0 (up := true)).2 with h | h
    · exact Or.inr (Or.inr (Or.inl h))
    · exact Or.inr (Or.inr (Or.inr h))
  · have := (corner_div (p := (-p.2, -p.1)) (q := (-q.2, -q.1)) (x := -x) (y := -y) (by dsimp only; omega) (by dsimp only; omega) (by dsimp only; omega) (by dsimp only; omega) (by dsimp only; omega) (up := true)).2
    dsimp only at this
    rw [divR_neg (by omega), divR_neg (by omega), divR_neg (by omega)] at this
    rcases this with h | h
    · exact Or.inr (Or.inl h)
    · exact Or.inl h
theorem lo4_hi4_div {p q : Int × Int} (hp : p.1 ≤ p.2) (hq : q.1 ≤ q.2) (h0 : nz0 q) : lo4 divR p q ≤ hi4 divR p q := by
  have z0 : q.1 ≠ 0 := by rcases h0 with h | h <;> omega
  exact Int.le_trans (lo4_div (Int.le_refl _) hp (Int.le_refl _) hq h0) (Int.le_trans (divR_le z0) (hi4_div (Int.le_refl _) hp (Int.le_refl _) hq h0))
theorem has_zero {q : Int × Int} (hq : Rk q) : ivHas (E q) 0 = decide (q.1 ≤ 0 ∧ 0 ≤ q.2) := by
  unfold ivHas
  rw [hq.E_R, fge_dec W_zero hq.w1 right_zero hq.r1, fle_dec W_zero hq.w2 right_zero hq.r2, hq.d1, hq.d2, dec_zero, Bool.true_and, Bool.decide_and]
theorem cDiv_E {err : Int} {p q : Int × Int} (hp : Rk p) (hq : Rk q) (h0 : nz0 q) : cDiv err (E p) (E q) = cRes err (lo4 divR p q) (hi4 divR p q) := by
  have hl := hq.le
  unfold cDiv
  rw [ask_true2 hp.E_R hq.E_R, has_zero hq, if_neg (by rw [decide_eq_true_eq]; rcases h0 with h | h <;> omega)]
  have ne : ∀ y, (y = q.1 ∨ y = q.2) → y ≠ 0 := by intro y hy; rcases h0 with h | h <;> rcases hy with rfl | rfl <;> omega
  exact iAll_E (fun x y up hx hy => out_div (hp.ok_of hx) (hq.ok_of hy) (ne y hy)) (fun x y _ hy => divR_le (ne y hy))
theorem cDiv_zero {p q : Int × Int} (hp : Rk p) (hq : Rk q) (h0 : ¬ nz0 q) : cDiv 0 (E p) (E q) = ivNo 11 := by
  unfold nz0 at h0
  unfold cDiv
  rw [ask_true2 hp.E_R hq.E_R, has_zero hq, if_pos (by rw [decide_eq_true_eq]; omega)]; rfl
theorem mono_div {p q p' q' s : Int × Int} (hp : Rk p) (hq : Rk q) (hp' : Rk p') (hq' : Rk q') (w : Wi p' p) (u : Wi q' q) (h : Got (cDiv 0 (E p) (E q)) s) : ∃ s', Got (cDiv 0 (E p') (E q')) s' ∧ Wi s' s := by
  have a := w.lo; have b := w.hi; have c := u.lo; have d := u.hi
  have lp := hp'.le; have lq := hq'.le
  by_cases h0 : nz0 q
  · have h0' : nz0 q' := by rcases h0 with h | h; exact Or.inl (by omega); exact Or.inr (by omega)
    rw [cDiv_E hp hq h0] at h
    rw [cDiv_E hp' hq' h0']
    refine res_mono h ?_ ?_ (lo4_hi4_div lp lq h0')
    · refine le_lo4 ?_ ?_ ?_ ?_ <;> exact lo4_div (by omega) (by omega) (by omega) (by omega) h0
    · refine hi4_le ?_ ?_ ?_ ?_ <;> exact hi4_div (by omega) (by omega) (by omega) (by omega) h0
  · rw [cDiv_zero hp hq h0] at h
    exact absurd h.e0 (by decide)

/-! One operand. -/
def rTurned (p : Int × Int) : Int × Int := (-p.2, -p.1)
def rBare (p : Int × Int) : Int × Int := if 0 ≤ p.1 then p else if p.2 ≤ 0 then rTurned p else (0, max p.2 (-p.1))
theorem ok_neg {z : Int} (h : ok z) : ok (-z) := by unfold ok at *; omega
theorem ok_zero : ok 0 := by have := top_eq; unfold ok; omega
theorem minus_enc {z : Int} (h : ok z) : minus (enc z) = enc (-z) := by
  obtain ⟨h1, h2, h3⟩ := minus_dec (W_enc h) (right_enc h)
  rw [dec_enc h] at h2
  rw [← h2]; exact (enc_of_dec h3 h1).symm
theorem Rk.turned {p : Int × Int} (h : Rk p) : Rk (rTurned p) := ⟨ok_neg h.hi, ok_neg h.lo, by have := h.le; show -p.2 ≤ -p.1; omega⟩
theorem iTurned_E {p : Int × Int} (h : Rk p) : iTurned (E p) = E (rTurned p) := by
  unfold iTurned
  show (minus (enc p.2), minus (enc p.1)) = _
  rw [minus_enc h.lo, minus_enc h.hi]; rfl
theorem Rk.bare {p : Int × Int} (h : Rk p) : Rk (rBare p) ∧ 0 ≤ (rBare p).1 := by
  have a := h.lo; have b := h.hi
  unfold rBare
  by_cases c : 0 ≤ p.1
  · rw [if_pos c]; exact ⟨h, c⟩
  · rw [if_neg c]
    by_cases d : p.2 ≤ 0
    · rw [if_pos d]; exact ⟨h.turned, by show 0 ≤ -p.2; omega⟩
    · rw [if_neg d]
      unfold ok at a b
      exact ⟨⟨ok_zero, by unfold ok; dsimp only; omega, by dsimp only; omega⟩, Int.le_refl _⟩
theorem iBare_E {p : Int × Int} (h : Rk p) : iBare (E p) = E (rBare p) := by
  unfold iBare rBare
  rw [h.d1, h.d2]
  by_cases c : 0 ≤ p.1
  · rw [if_pos c, if_pos c]
  · rw [if_neg c, if_neg c]
    by_cases d : p.2 ≤ 0
    · rw [if_pos d, if_pos d]; exact iTurned_E h
    · rw [if_neg d, if_neg d]
      show (0, dmax (enc p.2) (minus (enc p.1))) = (enc 0, enc _)
      rw [minus_enc h.lo, dmax_enc h.hi (ok_neg h.lo)]; rfl
theorem Wi.bare {p p' : Int × Int} (w : Wi p' p) (h : p'.1 ≤ p'.2) : Wi (rBare p') (rBare p) := by
  have a := w.lo; have b := w.hi
  unfold rBare rTurned
  constructor
  · split <;> split <;> (try split) <;> (try split) <;> (try dsimp only) <;> omega
  · split <;> split <;> (try split) <;> (try split) <;> (try dsimp only) <;> omega
theorem cSqr_E {err : Int} {p : Int × Int} (h : Rk p) : cSqr err (E p) = cRes err (mulR (rBare p).1 (rBare p).1 false) (mulR (rBare p).2 (rBare p).2 true) := by
  obtain ⟨b, _⟩ := h.bare
  unfold cSqr
  rw [ask_true h.E_R, iBare_E h, show (E (rBare p)).1 = enc (rBare p).1 from rfl, show (E (rBare p)).2 = enc (rBare p).2 from rfl, out_mul b.lo b.lo, out_mul b.hi b.hi, cAsk_ends]
theorem sq_mono {x y : Int} {up : Bool} (h0 : 0 ≤ x) (h : x ≤ y) : mulR x x up ≤ mulR y y up := by
  have v0 := V_nonneg.2 h0
  have v := V_le_iff.2 h
  exact fl_mono one_pos (Int.mul_le_mul v v v0 (by omega))
theorem mono_sqr {p p' s : Int × Int} (hp : Rk p) (hp' : Rk p') (w : Wi p' p) (h : Got (cSqr 0 (E p)) s) : ∃ s', Got (cSqr 0 (E p')) s' ∧ Wi s' s := by
  obtain ⟨b, b0⟩ := hp.bare
  obtain ⟨b', b0'⟩ := hp'.bare
  have u := w.bare hp'.le
  rw [cSqr_E hp] at h
  rw [cSqr_E hp']
  exact res_mono h (sq_mono b0 u.lo) (sq_mono (Int.le_trans b0' b'.le) u.hi) (Int.le_trans (mulR_le _ _) (sq_mono b0' b'.le))
theorem cSqrt_E {err : Int} {p : Int × Int} (h : Rk p) (h0 : 0 ≤ p.1) : cSqrt err (E p) = cRes err (sqz p.1 false) (sqz p.2 true) := by
  have h1 := h.le
  unfold cSqrt
  rw [ask_true h.E_R, show (E p).1 = enc p.1 from rfl, show (E p).2 = enc p.2 from rfl, dSqrt_enc h.lo h0, dSqrt_enc h.hi (by omega), ← out_mid (up := false) (sqz_ok h0 h.lo), ← out_mid (up := true) (sqz_ok (by omega) h.hi), cAsk_ends]
theorem cSqrt_neg {p : Int × Int} (h : Rk p) (h0 : p.1 < 0) : cSqrt 0 (E p) = ivNo 12 := by
  unfold cSqrt cAsk iEnds
  rw [h.E_R, show (E p).1 = enc p.1 from rfl, dSqrt_neg h.lo h0]; rfl
theorem got_sqrt {p : Int × Int} (h : Rk p) (h0 : 0 ≤ p.1) : Got (cSqrt 0 (E p)) (sqz p.1 false, sqz p.2 true) := by
  have h1 := h.le
  rw [cSqrt_E h h0]
  exact got_ok (Int.le_trans (sqz_le_up _) (sqz_mono h0 h1)) (sqz_ok h0 h.lo) (sqz_ok (by omega) h.hi)
theorem mono_sqrt {p p' s : Int × Int} (hp : Rk p) (hp' : Rk p') (w : Wi p' p) (h : Got (cSqrt 0 (E p)) s) : ∃ s', Got (cSqrt 0 (E p')) s' ∧ Wi s' s := by
  have a := w.lo; have b := w.hi; have c := hp'.le
  by_cases h0 : 0 ≤ p.1
  · rw [cSqrt_E hp h0] at h
    rw [cSqrt_E hp' (by omega)]
    exact res_mono h (sqz_mono h0 a) (sqz_mono (by omega) b) (Int.le_trans (sqz_le_up _) (sqz_mono (by omega) c))
  · rw [cSqrt_neg hp (by omega)] at h
    exact absurd h.e0 (by decide)
theorem cAsk_0 {x : Nat × Nat} : cAsk 0 true (x, 0) = (x, 0) := rfl
theorem got_neg {p : Int × Int} (h : Rk p) : Got (cNeg 0 (E p)) (rTurned p) := by
  refine ⟨?_, h.turned⟩
  unfold cNeg; rw [ask_true h.E_R, iTurned_E h, cAsk_0]
theorem got_abs {p : Int × Int} (h : Rk p) : Got (cAbs 0 (E p)) (rBare p) := by
  refine ⟨?_, h.bare.1⟩
  unfold cAbs; rw [ask_true h.E_R, iBare_E h, cAsk_0]
def rMin (p q : Int × Int) : Int × Int := (min p.1 q.1, min p.2 q.2)
def rMax (p q : Int × Int) : Int × Int := (max p.1 q.1, max p.2 q.2)
theorem ok_min2 {y z : Int} (hy : ok y) (hz : ok z) : ok (min y z) := by unfold ok at *; omega
theorem ok_max2 {y z : Int} (hy : ok y) (hz : ok z) : ok (max y z) := by unfold ok at *; omega
theorem got_min {p q : Int × Int} (hp : Rk p) (hq : Rk q) : Got (cMin 0 (E p) (E q)) (rMin p q) := by
  refine ⟨?_, ok_min2 hp.lo hq.lo, ok_min2 hp.hi hq.hi, by have := hp.le; have := hq.le; show min _ _ ≤ min _ _; omega⟩
  unfold cMin
  rw [ask_true2 hp.E_R hq.E_R, cAsk_0]
  show ((dmin (enc p.1) (enc q.1), dmin (enc p.2) (enc q.2)), _) = _
  rw [dmin_enc hp.lo hq.lo, dmin_enc hp.hi hq.hi]; rfl
theorem got_max {p q : Int × Int} (hp : Rk p) (hq : Rk q) : Got (cMax 0 (E p) (E q)) (rMax p q) := by
  refine ⟨?_, ok_max2 hp.lo hq.lo, ok_max2 hp.hi hq.hi, by have := hp.le; have := hq.le; show max _ _ ≤ max _ _; omega⟩
  unfold cMax
  rw [ask_true2 hp.E_R hq.E_R, cAsk_0]
  show ((dmax (enc p.1) (enc q.1), dmax (enc p.2) (enc q.2)), _) = _
  rw [dmax_enc hp.lo hq.lo, dmax_enc hp.hi hq.hi]; rfl
theorem got_num {z : Int} (hz : ok z) : Got (cNum 0 (enc z)) (z, z) := by
  refine ⟨?_, hz, hz, Int.le_refl _⟩
  rw [cNum_E hz, if_neg (by decide)]
end Go.Dy
