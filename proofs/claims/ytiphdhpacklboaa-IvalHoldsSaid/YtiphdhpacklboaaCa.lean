/- Plain facts: what a calculator works out, as a program; of lesser intervals comes a lesser one. -/
import Derived.Test.YtiphdhpacklboaaEc
namespace Go.Dy

/-- What is worked out: with the error ahead, an answer and the error behind. -/
def Cm (α : Type) := Int → α × Int
instance : Monad Cm where
  pure a := fun e => (a, e)
  bind x k := fun e => k (x e).1 (x e).2
theorem cm_bind {α β : Type} (x : Cm α) (k : α → Cm β) (e : Int) : (x >>= k) e = k (x e).1 (x e).2 := rfl
theorem ex2 {α β : Type} (r : α × β) : ∃ a b, r = (a, b) := ⟨_, _, rfl⟩
theorem ex3 {α β γ : Type} (r : (α × β) × γ) : ∃ a b c, r = ((a, b), c) := ⟨_, _, _, rfl⟩
theorem ex4 {α β γ δ : Type} (r : (α × β) × (γ × δ)) : ∃ a b c d, r = ((a, b), (c, d)) := ⟨_, _, _, _, rfl⟩
theorem ex5 {α β γ δ ε : Type} (r : ((α × β) × (γ × δ)) × ε) : ∃ a b c d e, r = (((a, b), (c, d)), e) := ⟨_, _, _, _, _, rfl⟩
theorem ex6 {α β γ δ ε ζ : Type} (r : (α × β) × (γ × δ) × (ε × ζ)) : ∃ a b c d e f, r = ((a, b), (c, d), (e, f)) := ⟨_, _, _, _, _, _, rfl⟩
theorem ex7 {α β γ δ ε ζ η : Type} (r : ((α × β) × (γ × δ) × (ε × ζ)) × η) : ∃ a b c d e f g, r = (((a, b), (c, d), (e, f)), g) := ⟨_, _, _, _, _, _, _, rfl⟩
theorem cm_s {α β : Type} {x : Cm α} {k : α → Cm β} {e e' : Int} {a : α} (h : x e = (a, e')) : (x >>= k) e = k a e' := by rw [cm_bind, h]
theorem cm_p {α β : Type} {a b : α} {k : α → Cm β} {e : Int} (h : a = b) : ((pure a : Cm α) >>= k) e = k b e := by rw [h]; rfl
theorem cm_pure {α : Type} (a : α) (e : Int) : (pure a : Cm α) e = (a, e) := rfl
def mNum (x : Nat) : Cm (Nat × Nat) := fun e => cNum e x
def mAdd (a b : Nat × Nat) : Cm (Nat × Nat) := fun e => cAdd e a b
def mSub (a b : Nat × Nat) : Cm (Nat × Nat) := fun e => cSub e a b
def mMul (a b : Nat × Nat) : Cm (Nat × Nat) := fun e => cMul e a b
def mDiv (a b : Nat × Nat) : Cm (Nat × Nat) := fun e => cDiv e a b
def mSqr (a : Nat × Nat) : Cm (Nat × Nat) := fun e => cSqr e a
def mSqrt (a : Nat × Nat) : Cm (Nat × Nat) := fun e => cSqrt e a
def mMax (a b : Nat × Nat) : Cm (Nat × Nat) := fun e => cMax e a b

theorem cif_t {α : Type} {b : Bool} {x y : Cm α} {e : Int} (h : b = true) : (if b = true then x else y) e = x e := by rw [if_pos h]
theorem cif_f {α : Type} {b : Bool} {x y : Cm α} {e : Int} (h : b = false) : (if b = true then x else y) e = y e := by rw [if_neg (by rw [h]; decide)]
theorem cs_num {β : Type} {x : Nat} {k : Nat × Nat → Cm β} {e e' : Int} {a : Nat × Nat} (h : cNum e x = (a, e')) : (mNum x >>= k) e = k a e' := cm_s (x := mNum x) h
theorem cs_add {β : Type} {x y : Nat × Nat} {k : Nat × Nat → Cm β} {e e' : Int} {a : Nat × Nat} (h : cAdd e x y = (a, e')) : (mAdd x y >>= k) e = k a e' := cm_s (x := mAdd x y) h
theorem cs_sub {β : Type} {x y : Nat × Nat} {k : Nat × Nat → Cm β} {e e' : Int} {a : Nat × Nat} (h : cSub e x y = (a, e')) : (mSub x y >>= k) e = k a e' := cm_s (x := mSub x y) h
theorem cs_mul {β : Type} {x y : Nat × Nat} {k : Nat × Nat → Cm β} {e e' : Int} {a : Nat × Nat} (h : cMul e x y = (a, e')) : (mMul x y >>= k) e = k a e' := cm_s (x := mMul x y) h
theorem cs_div {β : Type} {x y : Nat × Nat} {k : Nat × Nat → Cm β} {e e' : Int} {a : Nat × Nat} (h : cDiv e x y = (a, e')) : (mDiv x y >>= k) e = k a e' := cm_s (x := mDiv x y) h
theorem cs_max {β : Type} {x y : Nat × Nat} {k : Nat × Nat → Cm β} {e e' : Int} {a : Nat × Nat} (h : cMax e x y = (a, e')) : (mMax x y >>= k) e = k a e' := cm_s (x := mMax x y) h
theorem cs_sqr {β : Type} {x : Nat × Nat} {k : Nat × Nat → Cm β} {e e' : Int} {a : Nat × Nat} (h : cSqr e x = (a, e')) : (mSqr x >>= k) e = k a e' := cm_s (x := mSqr x) h
theorem cs_sqrt {β : Type} {x : Nat × Nat} {k : Nat × Nat → Cm β} {e e' : Int} {a : Nat × Nat} (h : cSqrt e x = (a, e')) : (mSqrt x >>= k) e = k a e' := cm_s (x := mSqrt x) h

/-- An error stays. -/
def Cm.Z {α : Type} (x : Cm α) : Prop := ∀ e, (x e).2 = 0 → e = 0
theorem ask_z {err : Int} {ok : Bool} {r : (Nat × Nat) × Int} (h : (cAsk err ok r).2 = 0) : err = 0 := by
  unfold cAsk at h
  by_cases he : err ≠ 0
  · rw [if_pos he] at h; exact h
  · omega
theorem Cm.Z.bind {α β : Type} {x : Cm α} {k : α → Cm β} (h : x.Z) (hk : ∀ a, (k a).Z) : (x >>= k).Z := fun e he => h e (hk _ _ he)
theorem Cm.Z.pure {α : Type} (a : α) : (pure a : Cm α).Z := fun _ h => h
theorem z_num (x : Nat) : (mNum x).Z := fun _ h => ask_z h
theorem z_add (a b : Nat × Nat) : (mAdd a b).Z := fun _ h => ask_z h
theorem z_sub (a b : Nat × Nat) : (mSub a b).Z := fun _ h => ask_z h
theorem z_mul (a b : Nat × Nat) : (mMul a b).Z := fun _ h => ask_z h
theorem z_div (a b : Nat × Nat) : (mDiv a b).Z := fun _ h => ask_z h
theorem z_sqr (a : Nat × Nat) : (mSqr a).Z := fun _ h => ask_z h
theorem z_sqrt (a : Nat × Nat) : (mSqrt a).Z := fun _ h => ask_z h
theorem z_max (a b : Nat × Nat) : (mMax a b).Z := fun _ h => ask_z h
theorem z_ite {α : Type} {c : Prop} [Decidable c] {x y : Cm α} (hx : x.Z) (hy : y.Z) : (if c then x else y).Z := by
  split
  · exact hx
  · exact hy
/-- An interval, and a lesser one. -/
def Wn (a a' : Nat × Nat) : Prop := ∃ p p', a = E p ∧ a' = E p' ∧ Rk p ∧ Rk p' ∧ Wi p' p
/-- Where the one has an answer, the other one has, and it is a lesser one. -/
def MF {α : Type} (R : α → α → Prop) (x y : Cm α) : Prop := ∀ e, (x e).2 = 0 → (y 0).2 = 0 ∧ R (x e).1 (y 0).1
theorem MF.bind {α β : Type} {R : α → α → Prop} {S : β → β → Prop} {x y : Cm α} {k l : α → Cm β} (h : MF R x y) (hz : ∀ a, (k a).Z) (hk : ∀ a b, R a b → MF S (k a) (l b)) : MF S (x >>= k) (y >>= l) := by
  intro e he
  obtain ⟨h2, h3⟩ := h e (hz _ _ he)
  have := hk _ _ h3 (x e).2 he
  show (l (y 0).1 (y 0).2).2 = 0 ∧ S (k (x e).1 (x e).2).1 (l (y 0).1 (y 0).2).1
  rw [h2]; exact this
theorem MF.pure {α : Type} {R : α → α → Prop} {a b : α} (h : R a b) : MF R (pure a) (pure b) := fun _ _ => ⟨rfl, h⟩
theorem Wn.pt {z : Int} (h : ok z) : Wn (enc z, enc z) (enc z, enc z) := ⟨(z, z), (z, z), rfl, rfl, ⟨h, h, Int.le_refl _⟩, ⟨h, h, Int.le_refl _⟩, Wi.refl _⟩
theorem got_of_good {r : (Nat × Nat) × Int} (h : Good r) (h0 : r.2 = 0) : ∃ s, Got r s := by
  obtain ⟨s, hs, e⟩ := rk_of h.1 h.2
  exact ⟨s, Prod.ext e h0, hs⟩
theorem wn_of {r r' : (Nat × Nat) × Int} {s s' : Int × Int} (h : Got r s) (h' : Got r' s') (w : Wi s' s) : r'.2 = 0 ∧ Wn r.1 r'.1 := ⟨h'.e0, s, s', h.e1, h'.e1, h.rk, h'.rk, w⟩
theorem mf_num {x : Nat} {z : Int} (hz : ok z) (hx : x = enc z) : MF Wn (mNum x) (mNum x) := by
  subst hx
  intro e he
  have e0 : e = 0 := ask_z he
  subst e0
  exact wn_of (got_num hz) (got_num hz) (Wi.refl _)
theorem mf_add {a b a' b' : Nat × Nat} (h : Wn a a') (k : Wn b b') : MF Wn (mAdd a b) (mAdd a' b') := by
  obtain ⟨p, p', rfl, rfl, hp, hp', w⟩ := h
  obtain ⟨q, q', rfl, rfl, hq, hq', u⟩ := k
  intro e he
  have e0 : e = 0 := ask_z he
  subst e0
  obtain ⟨s, hs⟩ := got_of_good good_add he
  obtain ⟨s', hs', ws⟩ := mono_add hp hq hp' hq' w u hs
  exact wn_of hs hs' ws
theorem mf_sub {a b a' b' : Nat × Nat} (h : Wn a a') (k : Wn b b') : MF Wn (mSub a b) (mSub a' b') := by
  obtain ⟨p, p', rfl, rfl, hp, hp', w⟩ := h
  obtain ⟨q, q', rfl, rfl, hq, hq', u⟩ := k
  intro e he
  have e0 : e = 0 := ask_z he
  subst e0
  obtain ⟨s, hs⟩ := got_of_good (good_sub hq.E_W) he
  obtain ⟨s', hs', ws⟩ := mono_sub hp hq hp' hq' w u hs
  exact wn_of hs hs' ws
theorem mf_mul {a b a' b' : Nat × Nat} (h : Wn a a') (k : Wn b b') : MF Wn (mMul a b) (mMul a' b') := by
  obtain ⟨p, p', rfl, rfl, hp, hp', w⟩ := h
  obtain ⟨q, q', rfl, rfl, hq, hq', u⟩ := k
  intro e he
  have e0 : e = 0 := ask_z he
  subst e0
  obtain ⟨s, hs⟩ := got_of_good good_mul he
  obtain ⟨s', hs', ws⟩ := mono_mul hp hq hp' hq' w u hs
  exact wn_of hs hs' ws
theorem mf_div {a b a' b' : Nat × Nat} (h : Wn a a') (k : Wn b b') : MF Wn (mDiv a b) (mDiv a' b') := by
  obtain ⟨p, p', rfl, rfl, hp, hp', w⟩ := h
  obtain ⟨q, q', rfl, rfl, hq, hq', u⟩ := k
  intro e he
  have e0 : e = 0 := ask_z he
  subst e0
  obtain ⟨s, hs⟩ := got_of_good (good_div hq.E_W) he
  obtain ⟨s', hs', ws⟩ := mono_div hp hq hp' hq' w u hs
  exact wn_of hs hs' ws
theorem mf_sqr {a a' : Nat × Nat} (h : Wn a a') : MF Wn (mSqr a) (mSqr a') := by
  obtain ⟨p, p', rfl, rfl, hp, hp', w⟩ := h
  intro e he
  have e0 : e = 0 := ask_z he
  subst e0
  obtain ⟨s, hs⟩ := got_of_good (good_sqr hp.E_W) he
  obtain ⟨s', hs', ws⟩ := mono_sqr hp hp' w hs
  exact wn_of hs hs' ws
theorem mf_sqrt {a a' : Nat × Nat} (h : Wn a a') : MF Wn (mSqrt a) (mSqrt a') := by
  obtain ⟨p, p', rfl, rfl, hp, hp', w⟩ := h
  intro e he
  have e0 : e = 0 := ask_z he
  subst e0
  obtain ⟨s, hs⟩ := got_of_good (good_sqrt hp.E_W) he
  obtain ⟨s', hs', ws⟩ := mono_sqrt hp hp' w hs
  exact wn_of hs hs' ws
theorem mf_max {a b a' b' : Nat × Nat} (h : Wn a a') (k : Wn b b') : MF Wn (mMax a b) (mMax a' b') := by
  obtain ⟨p, p', rfl, rfl, hp, hp', w⟩ := h
  obtain ⟨q, q', rfl, rfl, hq, hq', u⟩ := k
  intro e he
  have e0 : e = 0 := ask_z he
  subst e0
  have a := w.lo; have b := w.hi; have c := u.lo; have d := u.hi
  exact wn_of (got_max hp hq) (got_max hp' hq') ⟨by unfold rMax; dsimp only; omega, by unfold rMax; dsimp only; omega⟩

/-- Kept within two numbers. -/
def clip (lo hi : Nat) (a : Nat × Nat) : Nat × Nat := (dmin (dmax a.1 lo) hi, dmin (dmax a.2 lo) hi)
theorem clip_E {p : Int × Int} {x y : Int} (hp : Rk p) (hx : ok x) (hy : ok y) : clip (enc x) (enc y) (E p) = E (min (max p.1 x) y, min (max p.2 x) y) ∧ Rk (min (max p.1 x) y, min (max p.2 x) y) := by
  have a := hp.lo; have b := hp.hi; have c := hp.le
  unfold clip
  show (dmin (dmax (enc p.1) _) _, dmin (dmax (enc p.2) _) _) = _ ∧ _
  rw [dmax_enc a hx, dmax_enc b hx, dmin_enc (ok_max2 a hx) hy, dmin_enc (ok_max2 b hx) hy]
  exact ⟨rfl, ok_min2 (ok_max2 a hx) hy, ok_min2 (ok_max2 b hx) hy, by dsimp only; omega⟩
theorem wn_clip {a a' : Nat × Nat} {x y : Int} {l h : Nat} (hx : ok x) (hy : ok y) (hl : l = enc x) (hh : h = enc y) (w : Wn a a') : Wn (clip l h a) (clip l h a') := by
  subst hl hh
  obtain ⟨p, p', rfl, rfl, hp, hp', w⟩ := w
  obtain ⟨e1, r1⟩ := clip_E hp hx hy
  obtain ⟨e2, r2⟩ := clip_E hp' hx hy
  exact ⟨_, _, e1, e2, r1, r2, by have := w.lo; dsimp only; omega, by have := w.hi; dsimp only; omega⟩
/-- The answer, or the error. -/
def told (r : (Nat × Nat) × Int) : (Nat × Nat) × Int := if (r.2 != 0) = true then ((0, 0), r.2) else (r.1, 0)
theorem told_0 {r : (Nat × Nat) × Int} (h : (told r).2 = 0) : r.2 = 0 ∧ (told r).1 = r.1 := by
  unfold told at *
  by_cases c : (r.2 != 0) = true
  · rw [if_pos c] at h; rw [show r.2 = 0 from h] at c; cases c
  · rw [if_neg c] at h ⊢; exact ⟨by simpa using c, rfl⟩
theorem told_ok {r : (Nat × Nat) × Int} (h : r.2 = 0) : told r = (r.1, 0) := by
  unfold told; rw [h]; rfl
theorem MF.told {x y : Cm (Nat × Nat)} (h : MF Wn x y) (h0 : (told (x 0)).2 = 0) : (Dy.told (y 0)).2 = 0 ∧ Wn (Dy.told (x 0)).1 (Dy.told (y 0)).1 := by
  obtain ⟨a, b⟩ := told_0 h0
  obtain ⟨c, d⟩ := h 0 a
  rw [b, told_ok c]; exact ⟨rfl, d⟩
end Go.Dy
