/- Plain facts: what a calculator works out, as a program; of lesser intervals comes a lesser one. Plain facts: parts of what lies between two numbers; spans. -/
import Derived.Test.YtkhplflbcgjkcaaGreatEc
import Derived.Test.YtkhplflbcgjkcaaGreatYh
/-! Plain facts: what a calculator works out, as a program; of lesser intervals comes a lesser one. -/
namespace Go.Dy
def Cm (α : Type) := Int → α × Int
instance : Monad Cm where
 pure a := fun e => (a, e)
 bind x k := fun e => k (x e).1 (x e).2
theorem cm_bind {α β : Type} (x : Cm α) (k : α → Cm β) (e : Int) : (x >>= k) e = k (x e).1 (x e).2 := rfl
theorem ex2 {α β : Type} (r : α × β) : ∃ a b, r = (a, b) := ⟨_, _, rfl⟩
theorem ex3 {α β γ : Type} (r : (α × β) × γ) : ∃ a b c, r = ((a, b), c) := ⟨_, _, _, rfl⟩
theorem cm_s {α β : Type} {x : Cm α} {k : α → Cm β} {e e' : Int} {a : α} (h : x e = (a, e')) : (x >>= k) e = k a e' := by rw [cm_bind, h]
theorem cm_p {α β : Type} {a b : α} {k : α → Cm β} {e : Int} (h : a = b) : ((pure a : Cm α) >>= k) e = k b e := by rw [h]; rfl
theorem cm_pure {α : Type} (a : α) (e : Int) : (pure a : Cm α) e = (a, e) := rfl
def mNum (x : Nat) : Cm (Nat × Nat) := fun e => cNum e x
def mAdd (a b : Nat × Nat) : Cm (Nat × Nat) := fun e => cAdd e a b
def mSub (a b : Nat × Nat) : Cm (Nat × Nat) := fun e => cSub e a b
def mMul (a b : Nat × Nat) : Cm (Nat × Nat) := fun e => cMul e a b
def mDiv (a b : Nat × Nat) : Cm (Nat × Nat) := fun e => cDiv e a b
def mSqr (a : Nat × Nat) : Cm (Nat × Nat) := fun e => cSqr e a
def mSqrt (a : Nat × Nat) : Cm (Nat × Nat) := fun e => cSqrt e a
def mMax (a b : Nat × Nat) : Cm (Nat × Nat) := fun e => cMax e a b
theorem cs_num {β : Type} {x : Nat} {k : Nat × Nat → Cm β} {e e' : Int} {a : Nat × Nat} (h : cNum e x = (a, e')) : (mNum x >>= k) e = k a e' := cm_s (x := mNum x) h
theorem cs_add {β : Type} {x y : Nat × Nat} {k : Nat × Nat → Cm β} {e e' : Int} {a : Nat × Nat} (h : cAdd e x y = (a, e')) : (mAdd x y >>= k) e = k a e' := cm_s (x := mAdd x y) h
theorem cs_div {β : Type} {x y : Nat × Nat} {k : Nat × Nat → Cm β} {e e' : Int} {a : Nat × Nat} (h : cDiv e x y = (a, e')) : (mDiv x y >>= k) e = k a e' := cm_s (x := mDiv x y) h
theorem cs_sqr {β : Type} {x : Nat × Nat} {k : Nat × Nat → Cm β} {e e' : Int} {a : Nat × Nat} (h : cSqr e x = (a, e')) : (mSqr x >>= k) e = k a e' := cm_s (x := mSqr x) h
theorem cs_sqrt {β : Type} {x : Nat × Nat} {k : Nat × Nat → Cm β} {e e' : Int} {a : Nat × Nat} (h : cSqrt e x = (a, e')) : (mSqrt x >>= k) e = k a e' := cm_s (x := mSqrt x) h
def Cm.Z {α : Type} (x : Cm α) : Prop := ∀ e, (x e).2 = 0 → e = 0
theorem Cm.Z.bind {α β : Type} {x : Cm α} {k : α → Cm β} (h : x.Z) (hk : ∀ a, (k a).Z) : (x >>= k).Z := fun e he => h e (hk _ _ he)
theorem Cm.Z.pure {α : Type} (a : α) : (pure a : Cm α).Z := fun _ h => h
def Wn (a a' : Nat × Nat) : Prop := ∃ p p', a = E p ∧ a' = E p' ∧ Rk p ∧ Rk p' ∧ Wi p' p
def MF {α : Type} (R : α → α → Prop) (x y : Cm α) : Prop := ∀ e, (x e).2 = 0 → (y 0).2 = 0 ∧ R (x e).1 (y 0).1
theorem MF.bind {α β : Type} {R : α → α → Prop} {S : β → β → Prop} {x y : Cm α} {k l : α → Cm β} (h : MF R x y) (hz : ∀ a, (k a).Z) (hk : ∀ a b, R a b → MF S (k a) (l b)) : MF S (x >>= k) (y >>= l) := by
 intro e he
 obtain ⟨h2, h3⟩ := h e (hz _ _ he)
 have := hk _ _ h3 (x e).2 he
 show (l (y 0).1 (y 0).2).2 = 0 ∧ S (k (x e).1 (x e).2).1 (l (y 0).1 (y 0).2).1
 rw [h2]; exact this
theorem MF.pure {α : Type} {R : α → α → Prop} {a b : α} (h : R a b) : MF R (pure a) (pure b) := fun _ _ => ⟨rfl, h⟩
def told (r : (Nat × Nat) × Int) : (Nat × Nat) × Int := if (r.2 != 0) = true then ((0, 0), r.2) else (r.1, 0)
theorem told_0 {r : (Nat × Nat) × Int} (h : (told r).2 = 0) : r.2 = 0 ∧ (told r).1 = r.1 := by
 unfold told at *
 by_cases c : (r.2 != 0) = true
 ·rw [if_pos c] at h; rw [show r.2 = 0 from h] at c; cases c
 ·rw [if_neg c] at h ⊢; exact ⟨by simpa using c, rfl⟩
theorem told_ok {r : (Nat × Nat) × Int} (h : r.2 = 0) : told r = (r.1, 0) := by
 unfold told; rw [h]; rfl
theorem MF.told {x y : Cm (Nat × Nat)} (h : MF Wn x y) (h0 : (told (x 0)).2 = 0) : (Dy.told (y 0)).2 = 0 ∧ Wn (Dy.told (x 0)).1 (Dy.told (y 0)).1 := by
 obtain ⟨a, b⟩ := told_0 h0
 obtain ⟨c, d⟩ := h 0 a
 rw [b, told_ok c]; exact ⟨rfl, d⟩
end Go.Dy
/-! Plain facts: parts of what lies between two numbers; spans. -/
namespace Go.Dy
open Ieee
end Go.Dy
namespace Go.Proofs.YtkhplflbcgjkcaaGreat
open Go Go.RowKit
end Go.Proofs.YtkhplflbcgjkcaaGreat
