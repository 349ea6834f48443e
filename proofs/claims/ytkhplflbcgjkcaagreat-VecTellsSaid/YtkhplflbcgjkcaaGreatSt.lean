/- A law: a region that draws its order, where what each operation leaves stays as it is while others come up: each operation is shown once, for itself; behind them the last operations come in their own order. -/
import Derived.StillTail
import Derived.Below
import Derived.RegionTactic
namespace Go.Proofs.YtkhplflbcgjkcaaGreat
open Go Go.RowKit
section
variable {P : Program} {ops : Array Oper} {Q : Exit → Act → World → Prop}
def upd (f : Nat → Value) (i : Nat) (v : Value) : Nat → Value := fun j => if j = i then v else f j
def backB (ops : Array Oper) (n : Nat) : Bool :=
 (List.range n).all fun i => match ops[i]? with | some o => o.after.all fun e => !Region.binds .any e || decide (e.on < i) | none => true
def NewAt (v : Value) (w : World) : Prop := ∃ X o, v = .pointer (some ⟨X, o, none⟩) ∧ w.heap.size ≤ X
def StayStep (P : Program) (Q : Exit → Act → World → Prop) (w0 : World) (mk : (Nat → Value) → Act) (F : Nat → Value → World → Prop) (A : Nat → Bool) (ops : Array Oper) (i : Nat) (o : Oper) : Prop :=
 ∀ f w, Below w0.heap.size w0 w → (∀ e ∈ o.after.toList.filter (Region.binds .any), F e.on (f e.on) w) →
  ∀ K : Act → World → Prop, (∀ v a' w', a' = mk (upd f i v) → F i v w' → Below w.heap.size w w' → (A i = true → NewAt v w) → K a' w') →
   if Region.wanted o (yielded ops (mk f).tmps) = true then Oper.wp P o (mk f) w K Q else K ((mk f).put o.dst undef) w
def unl (n : Nat) (listed : Array Bool) : Nat := ((List.range n).filter fun i => !listed.getD i true).length
theorem filter_lt {α : Type} {p q : α → Bool} : ∀ {l : List α}, (∀ x ∈ l, q x = true → p x = true) → (∃ x ∈ l, p x = true ∧ q x = false) → (l.filter q).length < (l.filter p).length
 | [], _, ⟨x, hx, _⟩ => by cases hx
 | y :: l, h, ⟨x, hx, h1, h2⟩ => by
  have hl : (l.filter q).length ≤ (l.filter p).length := by
   clear hx h1 h2
   have h' : ∀ x ∈ l, q x = true → p x = true := fun x hx => h x (List.mem_cons_of_mem _ hx)
   clear h
   induction l with
   | nil => exact Nat.le_refl _
   | cons z l ih =>
    have h3 := ih (fun x hx => h' x (List.mem_cons_of_mem _ hx))
    have h4 := h' z List.mem_cons_self
    by_cases hq : q z = true
    ·rw [List.filter_cons_of_pos hq, List.filter_cons_of_pos (h4 hq)]; simpa using h3
    ·rw [List.filter_cons_of_neg hq]
     by_cases hp : p z = true
     ·rw [List.filter_cons_of_pos hp]; simp; omega
     ·rw [List.filter_cons_of_neg hp]; exact h3
  rcases List.mem_cons.1 hx with rfl | hx'
  ·rw [List.filter_cons_of_pos h1, List.filter_cons_of_neg (by rw [h2]; decide)]
   simp; omega
  ·have h3 := filter_lt (l := l) (fun x hx => h x (List.mem_cons_of_mem _ hx)) ⟨x, hx', h1, h2⟩
   have h4 := h y List.mem_cons_self
   by_cases hq : q y = true
   ·rw [List.filter_cons_of_pos hq, List.filter_cons_of_pos (h4 hq)]; simpa using h3
   ·rw [List.filter_cons_of_neg hq]
    by_cases hp : p y = true
    ·rw [List.filter_cons_of_pos hp]; simp; omega
    ·rw [List.filter_cons_of_neg hp]; exact h3
theorem unl_set {n i : Nat} {listed : Array Bool} (hi : i < n) (h : listed.getD i true = false) : unl n (listed.setIfInBounds i true) < unl n listed := by
 unfold unl
 refine filter_lt (fun x _ hq => ?_) ⟨i, List.mem_range.2 hi, by rw [h]; rfl, ?_⟩
 ·by_cases hx : i = x
  ·subst hx; rw [h]; rfl
  ·rw [getD_set_ne true hx] at hq; exact hq
 ·have : (listed.setIfInBounds i true).getD i true = true := by
   rcases Nat.lt_or_ge i listed.size with h' | h'
   ·simp [h']
   ·rw [Array.getD_eq_getD_getElem?, Array.getElem?_eq_none h'] at h; cases h
  rw [this]; rfl
inductive Stays (P : Program) (Q : Exit → Act → World → Prop) (w0 : World) (mk : (Nat → Value) → Act) (F : Nat → Value → World → Prop) (A : Nat → Bool) (ops : Array Oper) : Nat → List Oper → Prop
 | nil {i : Nat} : Stays P Q w0 mk F A ops i []
 | cons {i : Nat} {o : Oper} {l : List Oper} (h : StayStep P Q w0 mk F A ops i o) (hs : Stays P Q w0 mk F A ops (i + 1) l) : Stays P Q w0 mk F A ops i (o :: l)
theorem Stays.at {w0 : World} {mk : (Nat → Value) → Act} {F : Nat → Value → World → Prop} {A : Nat → Bool} : ∀ {l : List Oper} {i : Nat}, Stays P Q w0 mk F A ops i l → ∀ j o, l[j]? = some o → StayStep P Q w0 mk F A ops (i + j) o
 | _, _, .nil, j, o, h => by simp at h
 | _, i, .cons h hs, 0, o, ho => by simp at ho; subst ho; exact h
 | _, i, .cons h hs, j + 1, o, ho => by
  have := hs.at j o (by simpa using ho)
  rw [show i + (j + 1) = i + 1 + j by omega]; exact this
def HeldStep (P : Program) (Q : Exit → Act → World → Prop) (w0 : World) (mk : (Nat → Value) → Act) (F : Nat → (Nat → Value) → World → Prop) (A : Nat → Bool) (ops : Array Oper) (i : Nat) (o : Oper) : Prop :=
 ∀ f w, Below w0.heap.size w0 w → (∀ e ∈ o.after.toList.filter (Region.binds .any), F e.on f w) →
  (∀ d ∈ o.after.toList.filter (Region.binds .any), ∀ e ∈ o.after.toList.filter (Region.binds .any), d.on ≠ e.on → A d.on = true → A e.on = true → f d.on ≠ f e.on) →
  ∀ K : Act → World → Prop, (∀ v a' w', a' = mk (upd f i v) → F i (upd f i v) w' → Below w0.heap.size w w' → (∀ j, j ≠ i → j < ops.size → Region.waitsFor .any ops j i = false → F j f w → F j (upd f i v) w') → (A i = true → NewAt v w) → K a' w') →
   if Region.wanted o (yielded ops (mk f).tmps) = true then Oper.wp P o (mk f) w K Q else K ((mk f).put o.dst undef) w
inductive Helds (P : Program) (Q : Exit → Act → World → Prop) (w0 : World) (mk : (Nat → Value) → Act) (F : Nat → (Nat → Value) → World → Prop) (A : Nat → Bool) (ops : Array Oper) : Nat → List Oper → Prop
 | nil {i : Nat} : Helds P Q w0 mk F A ops i []
 | cons {i : Nat} {o : Oper} {l : List Oper} (h : HeldStep P Q w0 mk F A ops i o) (hs : Helds P Q w0 mk F A ops (i + 1) l) : Helds P Q w0 mk F A ops i (o :: l)
theorem Helds.at {w0 : World} {mk : (Nat → Value) → Act} {F : Nat → (Nat → Value) → World → Prop} {A : Nat → Bool} : ∀ {l : List Oper} {i : Nat}, Helds P Q w0 mk F A ops i l → ∀ j o, l[j]? = some o → HeldStep P Q w0 mk F A ops (i + j) o
 | _, _, .nil, j, o, h => by simp at h
 | _, i, .cons h hs, 0, o, ho => by simp at ho; subst ho; exact h
 | _, i, .cons h hs, j + 1, o, ho => by
  have := hs.at j o (by simpa using ho)
  rw [show i + (j + 1) = i + 1 + j by omega]; exact this
theorem some_ready' {listed : Array Bool} (hb : backB ops ops.size = true) (hl : listed.size = ops.size) : ∀ (d i : Nat), i ≤ d → i < ops.size → listed.getD i true = false → ∃ j, j < ops.size ∧ j ∈ Region.ready .any ops listed := by
 intro d
 induction d with
 | zero =>
  intro i hid hin hun
  have hi0 : i = 0 := by omega
  subst hi0
  have ho : ∃ o, ops[0]? = some o := ⟨ops[0], by simp⟩
  obtain ⟨o, ho⟩ := ho
  refine ⟨0, hin, mem_ready.2 ⟨hun, o, ho, fun e he hbd => ?_⟩⟩
  have h1 := List.all_eq_true.1 hb 0 (List.mem_range.2 hin)
  rw [ho] at h1
  have h2 := Array.all_eq_true'.1 h1 e he
  rw [hbd] at h2
  simp at h2
 | succ d ih =>
  intro i hid hin hun
  have ho : ∃ o, ops[i]? = some o := ⟨ops[i]'(by omega), by simp⟩
  obtain ⟨o, ho⟩ := ho
  by_cases hall : ∀ e ∈ o.after, Region.binds .any e = true → listed.getD e.on false = true
  ·exact ⟨i, hin, mem_ready.2 ⟨hun, o, ho, hall⟩⟩
  ·have : ∃ e, e ∈ o.after ∧ Region.binds .any e = true ∧ listed.getD e.on false = false := by
    apply Classical.byContradiction
    intro hne
    refine hall fun e he hbd => ?_
    cases hv : listed.getD e.on false with
    | true => rfl
    | false => exact absurd ⟨e, he, hbd, hv⟩ hne
   obtain ⟨e, he, hbd, hv⟩ := this
   have h1 := List.all_eq_true.1 hb i (List.mem_range.2 hin)
   rw [ho] at h1
   have h2 := Array.all_eq_true'.1 h1 e he
   rw [hbd] at h2
   have h3 : e.on < i := by simpa using h2
   exact ih e.on (by omega) (by omega) (getD_in (by omega) hv)
end
end Go.Proofs.YtkhplflbcgjkcaaGreat
