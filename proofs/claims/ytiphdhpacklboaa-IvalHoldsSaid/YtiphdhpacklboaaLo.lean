/- The law IvalLess: of lesser intervals comes a lesser one (plain). -/
import Derived.Test.YtiphdhpacklboaaYo
import Derived.Test.YtiphdhpacklboaaEc
namespace Go.Proofs.Ytiphdhpacklboaa
open Go Go.RowKit

theorem near_fi (m : Nat) : FloatKind.f64.nearest (m : Int) = Dy.fi m := by
  unfold FloatKind.nearest Dy.fi
  rw [show decide ((m : Int) < 0) = false by simp, Int.natAbs_natCast]
  rfl
theorem prt_ok {m : Nat} (h : m < 65536) : nPrt [.i (m : Int)] = true := by
  obtain ⟨f1, f2, f3, f4⟩ := Dy.fi_spec (m := m) (by omega)
  have g1 : Dy.fin 4679240012837945344 := by unfold Dy.fin; decide +kernel
  obtain ⟨r, e, _, h3⟩ := Dy.div_near (x := Dy.fi m) (y := 4679240012837945344) f2 (by unfold Dy.W; omega) f1 g1 (by decide)
  show (decide (FloatKind.f64.nearest (m : Int) < W64) && okF (Ieee.double.div (FloatKind.f64.nearest (m : Int)) 4679240012837945344)) = true
  rw [near_fi, e]
  have g3 : Dy.sgn 4679240012837945344 = false := by decide +kernel
  have tp := Dy.top_eq
  rw [f3, g3]
  have hw : Dy.fi m < W64 := f2
  unfold okF
  dsimp only
  rw [decide_eq_true hw]
  have : Dy.word (false ^^ false) (min r Dy.top) < W64 := by
    unfold Dy.word W64
    simp
    omega
  rw [decide_eq_true this]; rfl

theorem got_good {r : (Nat × Nat) × Int} (h : Dy.Good r) (h0 : r.2 = 0) : ∃ s, Dy.Got r s := by
  obtain ⟨s, h1, h2⟩ := Dy.rk_of h.1 h.2
  exact ⟨s, Prod.ext h2 h0, h1⟩

/-- Which op it is. -/
theorem ask_cases {k : Int} (hk : 0 ≤ k) : (∀ e a b, opAsk k e a b = Dy.cAdd e a b) ∨ (∀ e a b, opAsk k e a b = Dy.cSub e a b) ∨ (∀ e a b, opAsk k e a b = Dy.cMul e a b) ∨ (∀ e a b, opAsk k e a b = Dy.cDiv e a b) ∨
    (∀ e a b, opAsk k e a b = Dy.cMin e a b) ∨ (∀ e a b, opAsk k e a b = Dy.cMax e a b) ∨ (∀ e a b, opAsk k e a b = Dy.cSqr e a) ∨ (∀ e a b, opAsk k e a b = Dy.cSqrt e a) ∨
    (∀ e a b, opAsk k e a b = Dy.cNeg e a) ∨ (∀ e a b, opAsk k e a b = Dy.cAbs e a) ∨ ((∀ e a b, opAsk k e a b = Dy.cNum e a.1) ∧ (k.tmod 11 == 10) = true) := by
  unfold opAsk
  have h1 : 0 ≤ k.tmod 11 := Int.tmod_nonneg 11 hk
  have h2 : k.tmod 11 < 11 := Int.tmod_lt_of_pos k (by omega)
  generalize k.tmod 11 = j at *
  have : j = 0 ∨ j = 1 ∨ j = 2 ∨ j = 3 ∨ j = 4 ∨ j = 5 ∨ j = 6 ∨ j = 7 ∨ j = 8 ∨ j = 9 ∨ j = 10 := by omega
  rcases this with rfl | rfl | rfl | rfl | rfl | rfl | rfl | rfl | rfl | rfl | rfl
  · exact .inl fun _ _ _ => rfl
  · exact .inr (.inl fun _ _ _ => rfl)
  · exact .inr (.inr (.inl fun _ _ _ => rfl))
  · exact .inr (.inr (.inr (.inl fun _ _ _ => rfl)))
  · exact .inr (.inr (.inr (.inr (.inl fun _ _ _ => rfl))))
  · exact .inr (.inr (.inr (.inr (.inr (.inl fun _ _ _ => rfl)))))
  · exact .inr (.inr (.inr (.inr (.inr (.inr (.inl fun _ _ _ => rfl))))))
  · exact .inr (.inr (.inr (.inr (.inr (.inr (.inr (.inl fun _ _ _ => rfl)))))))
  · exact .inr (.inr (.inr (.inr (.inr (.inr (.inr (.inr (.inl fun _ _ _ => rfl))))))))
  · exact .inr (.inr (.inr (.inr (.inr (.inr (.inr (.inr (.inr (.inl fun _ _ _ => rfl)))))))))
  · exact .inr (.inr (.inr (.inr (.inr (.inr (.inr (.inr (.inr (.inr ⟨fun _ _ _ => rfl, rfl⟩)))))))))
theorem ask_good {k err : Int} (hk : 0 ≤ k) {p q : Int × Int} (hp : Dy.Rk p) (hq : Dy.Rk q) : Dy.Good (opAsk k err (Dy.E p) (Dy.E q)) := by
  rcases ask_cases hk with h | h | h | h | h | h | h | h | h | h | ⟨h, _⟩ <;> rw [h]
  · exact Dy.good_add
  · exact Dy.good_sub hq.E_W
  · exact Dy.good_mul
  · exact Dy.good_div hq.E_W
  · exact Dy.good_min hp.E_W hq.E_W
  · exact Dy.good_max hp.E_W hq.E_W
  · exact Dy.good_sqr hp.E_W
  · exact Dy.good_sqrt hp.E_W
  · exact Dy.good_neg hp.E_W
  · exact Dy.good_abs hp.E_W
  · exact Dy.good_num hp.w1
theorem ask_mono {k : Int} (hk : 0 ≤ k) {p q p' q' s : Int × Int} (hp : Dy.Rk p) (hq : Dy.Rk q) (hp' : Dy.Rk p') (hq' : Dy.Rk q') (w : Dy.Wi p' p) (u : Dy.Wi q' q) (h10 : (k.tmod 11 == 10) = true → p.1 = p.2)
    (hs : Dy.Got (opAsk k 0 (Dy.E p) (Dy.E q)) s) : ∃ s', Dy.Got (opAsk k 0 (Dy.E p') (Dy.E q')) s' ∧ Dy.Wi s' s := by
  rcases ask_cases hk with h | h | h | h | h | h | h | h | h | h | ⟨h, h1⟩ <;> rw [h] at hs ⊢
  · exact Dy.mono_add hp hq hp' hq' w u hs
  · exact Dy.mono_sub hp hq hp' hq' w u hs
  · exact Dy.mono_mul hp hq hp' hq' w u hs
  · exact Dy.mono_div hp hq hp' hq' w u hs
  · have e := hs.uniq (Dy.got_min hp hq); subst e
    refine ⟨_, Dy.got_min hp' hq', ?_⟩
    have := w.lo; have := w.hi; have := u.lo; have := u.hi
    constructor <;> (unfold Dy.rMin; dsimp only; omega)
  · have e := hs.uniq (Dy.got_max hp hq); subst e
    refine ⟨_, Dy.got_max hp' hq', ?_⟩
    have := w.lo; have := w.hi; have := u.lo; have := u.hi
    constructor <;> (unfold Dy.rMax; dsimp only; omega)
  · exact Dy.mono_sqr hp hp' w hs
  · exact Dy.mono_sqrt hp hp' w hs
  · have e := hs.uniq (Dy.got_neg hp); subst e
    refine ⟨_, Dy.got_neg hp', ?_⟩
    have := w.lo; have := w.hi
    constructor <;> (unfold Dy.rTurned; dsimp only; omega)
  · have e := hs.uniq (Dy.got_abs hp); subst e
    exact ⟨_, Dy.got_abs hp', w.bare hp'.le⟩
  · have e := hs.uniq (Dy.got_num hp.lo); subst e
    refine ⟨_, Dy.got_num hp'.lo, ?_⟩
    have := w.lo; have := w.hi; have := h10 h1; have := hp'.le
    constructor <;> (dsimp only; omega)

theorem dAdd_right (a b : Nat) (up : Bool) : Dy.right (Dy.dAdd a b up).1 = true := by
  unfold Dy.dAdd
  split
  · cases up
    · rw [Dy.out_lo]; split
      · exact Dy.right_enc (Dy.pin_ok _)
      · exact rfl
    · rw [Dy.out_hi]; split
      · exact Dy.right_enc (Dy.pin_ok _)
      · exact rfl
  · exact rfl
/-- A number of an interval is in it. -/
theorem btw_in {p : Int × Int} (hp : Dy.Rk p) (k : Int) : ∃ z, btwB (Dy.enc p.1) (Dy.enc p.2) k = Dy.enc z ∧ p.1 ≤ z ∧ z ≤ p.2 ∧ Dy.ok z := by
  have hle := hp.le
  have l : ∃ z, Dy.enc p.1 = Dy.enc z ∧ p.1 ≤ z ∧ z ≤ p.2 ∧ Dy.ok z := ⟨p.1, rfl, Int.le_refl _, hle, hp.lo⟩
  have h : ∃ z, Dy.enc p.2 = Dy.enc z ∧ p.1 ≤ z ∧ z ≤ p.2 ∧ Dy.ok z := ⟨p.2, rfl, hle, Int.le_refl _, hp.hi⟩
  unfold btwB
  generalize hy : (Dy.dAdd (Dy.enc p.1) (Dy.dMul (Dy.dSub (Dy.enc p.2) (Dy.enc p.1) false).1 (prt k) false).1 false) = y
  have ry : Dy.right y.1 = true := by rw [← hy]; exact dAdd_right _ _ _
  have wy : Dy.W y.1 := by rw [← hy]; exact Dy.dAdd_W _ _ _
  cases (k == 0)
  · cases (k == 65535)
    · simp only [cond_false]
      cases (IntKind.i64.wrap (IntKind.i64.wrap ((Dy.dSub (Dy.enc p.2) (Dy.enc p.1) false).2 + (Dy.dMul (Dy.dSub (Dy.enc p.2) (Dy.enc p.1) false).1 (prt k) false).2) + y.2) != 0)
      · cases hh : Dy.ivHas (Dy.enc p.1, Dy.enc p.2) y.1
        · exact h
        · refine ⟨Dy.dec y.1, (Dy.enc_of_dec wy ry).symm, ?_, ?_, Dy.ok_dec wy ry⟩
          · unfold Dy.ivHas at hh
            rw [Bool.and_eq_true, Bool.and_eq_true] at hh
            have : (Dy.fgt y.1 (Dy.E p).1 || Dy.feq y.1 (Dy.E p).1) = true := hh.1.2
            rw [Dy.fge_dec wy hp.w1 ry hp.r1, decide_eq_true_eq, hp.d1] at this
            exact this
          · unfold Dy.ivHas at hh
            rw [Bool.and_eq_true, Bool.and_eq_true] at hh
            have : (Dy.flt y.1 (Dy.E p).2 || Dy.feq y.1 (Dy.E p).2) = true := hh.2
            rw [Dy.fle_dec wy hp.w2 ry hp.r2, decide_eq_true_eq, hp.d2] at this
            exact this
      · exact h
    · exact h
  · exact l
end Go.Proofs.Ytiphdhpacklboaa
