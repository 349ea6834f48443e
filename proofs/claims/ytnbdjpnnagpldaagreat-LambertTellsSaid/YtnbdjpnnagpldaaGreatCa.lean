/- Plain facts: what a calculator works out, as a program; of lesser intervals comes a lesser one. -/
import Derived.Test.YtnbdjpnnagpldaaGreatEc
namespace Go.Dy

/-- What is worked out: with the error ahead, an answer and the error behind. -/
def Cm (α : Type) := Int → α × Int
instance : Monad Cm where
  pure a := fun e => (a, e)
  bind x k := fun e => k (x e).1 (x e).2
theorem ex2 {α β : Type} (r : α × β) : ∃ a b, r = (a, b) := ⟨_, _, rfl⟩
theorem ex3 {α β γ : Type} (r : (α × β) × γ) : ∃ a b c, r = ((a, b), c) := ⟨_, _, _, rfl⟩
/-- An error stays. -/
def Cm.Z {α : Type} (x : Cm α) : Prop := ∀ e, (x e).2 = 0 → e = 0
theorem Cm.Z.bind {α β : Type} {x : Cm α} {k : α → Cm β} (h : x.Z) (hk : ∀ a, (k a).Z) : (x >>= k).Z := fun e he => h e (hk _ _ he)
theorem Cm.Z.pure {α : Type} (a : α) : (pure a : Cm α).Z := fun _ h => h
/-- An interval, and a lesser one. -/
def Wn (a a' : Nat × Nat) : Prop := ∃ p p', a = E p ∧ a' = E p' ∧ Rk p ∧ Rk p' ∧ Wi p' p
/-- Where the one has an answer, the other one has, and it is a lesser one. -/
def MF {α : Type} (R : α → α → Prop) (x y : Cm α) : Prop := ∀ e, (x e).2 = 0 → (y 0).2 = 0 ∧ R (x e).1 (y 0).1
theorem MF.bind {α β : Type} {R : α → α → Prop} {S : β → β → Prop} {x y : Cm α} {k l : α → Cm β} (h : MF R x y) (hz : ∀ a, (k a).Z) (hk : ∀ a b, R a b → MF S (k a) (l b)) : MF S (x >>= k) (y >>= l) := by
  intro e he
  obtain ⟨h2, h3⟩ := h e (hz _ _ he)
  have := hk _ _ h3 (x e).2 he
  show (l (y 0).1 (y 0).2).2 = 0 ∧ S (k (x e).1 (x e).2).1 (l (y 0).1 (y 0).2).1
  rw [h2]; exact this
theorem MF.pure {α : Type} {R : α → α → Prop} {a b : α} (h : R a b) : MF R (pure a) (pure b) := fun _ _ => ⟨rfl, h⟩
theorem Wn.pt {z : Int} (h : ok z) : Wn (enc z, enc z) (enc z, enc z) := ⟨(z, z), (z, z), rfl, rfl, ⟨h, h, Int.le_refl _⟩, ⟨h, h, Int.le_refl _⟩, Wi.refl _⟩
end Go.Dy
