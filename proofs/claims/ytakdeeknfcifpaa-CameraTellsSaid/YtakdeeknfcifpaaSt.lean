/- A law: a region that draws its order, where what each operation leaves stays as it is while others come up: each operation is shown once, for itself; behind them the last operations come in their own order. -/
import Derived.StillTail
import Derived.Below
import Derived.RegionTactic
namespace Go.Proofs.Ytakdeeknfcifpaa
open Go Go.RowKit

section
variable {P : Program} {ops : Array Oper} {Q : Exit → Act → World → Prop}

/-- Values of operations, one of them anew. -/
def upd (f : Nat → Value) (i : Nat) (v : Value) : Nat → Value := fun j => if j = i then v else f j
theorem upd_same (f : Nat → Value) (i : Nat) (v : Value) : upd f i v i = v := if_pos rfl
theorem upd_ne {f : Nat → Value} {i j : Nat} {v : Value} (h : j ≠ i) : upd f i v j = f j := if_neg h

/-- Each operation of the head waits but for ones ahead of it. -/
def backB (ops : Array Oper) (n : Nat) : Bool :=
  (List.range n).all fun i => match ops[i]? with | some o => o.after.all fun e => !Region.binds .any e || decide (e.on < i) | none => true

/-- What is held while operations come up. -/
structure Stay (ops : Array Oper) (w0 : World) (mk : (Nat → Value) → Act) (F : Nat → Value → World → Prop) (A : Nat → Bool) (n : Nat) (listed : Array Bool) (a : Act) (w : World) : Prop where
  inv : HeadInv .any ops n listed
  bel : Below w0.heap.size w0 w
  ex : ∃ f, a = mk f ∧ (∀ i, i < n → listed.getD i false = true → F i (f i) w) ∧ ∀ i j, i < n → j < n → i ≠ j → listed.getD i false = true → listed.getD j false = true → A i = true → A j = true → f i ≠ f j

/-- A new variable's pointer; one that is there. -/
def NewAt (v : Value) (w : World) : Prop := ∃ X o, v = .pointer (some ⟨X, o, none⟩) ∧ w.heap.size ≤ X
def OldAt (v : Value) (w : World) : Prop := ∃ X o, v = .pointer (some ⟨X, o, none⟩) ∧ X < w.heap.size
theorem old_new {u v : Value} {w : World} (h : OldAt u w) (k : NewAt v w) : u ≠ v := by
  obtain ⟨X, o, rfl, hx⟩ := h
  obtain ⟨Y, p, rfl, hy⟩ := k
  intro e
  have : X = Y := by injection e with e; injection e with e; injection e
  omega

/-- One operation: in each world that holds what is held it leaves what is said of it. -/
def StayStep (P : Program) (Q : Exit → Act → World → Prop) (w0 : World) (mk : (Nat → Value) → Act) (F : Nat → Value → World → Prop) (A : Nat → Bool) (ops : Array Oper) (i : Nat) (o : Oper) : Prop :=
  ∀ f w, Below w0.heap.size w0 w → (∀ e ∈ o.after.toList.filter (Region.binds .any), F e.on (f e.on) w) →
    ∀ K : Act → World → Prop, (∀ v a' w', a' = mk (upd f i v) → F i v w' → Below w.heap.size w w' → (A i = true → NewAt v w) → K a' w') →
      if Region.wanted o (yielded ops (mk f).tmps) = true then Oper.wp P o (mk f) w K Q else K ((mk f).put o.dst undef) w

def unl (n : Nat) (listed : Array Bool) : Nat := ((List.range n).filter fun i => !listed.getD i true).length

theorem filter_lt {α : Type} {p q : α → Bool} : ∀ {l : List α}, (∀ x ∈ l, q x = true → p x = true) → (∃ x ∈ l, p x = true ∧ q x = false) → (l.filter q).length < (l.filter p).length
  | [], _, ⟨x, hx, _⟩ => by cases hx
  | y :: l, h, ⟨x, hx, h1, h2⟩ => by
    have hl : (l.filter q).length ≤ (l.filter p).length := by
      clear hx h1 h2
      have h' : ∀ x ∈ l, q x = true → p x = true := fun x hx => h x (List.mem_cons_of_mem _ hx)
      clear h
      induction l with
      | nil => exact Nat.le_refl _
      | cons z l ih =>
        have h3 := ih (fun x hx => h' x (List.mem_cons_of_mem _ hx))
        have h4 := h' z List.mem_cons_self
        by_cases hq : q z = true
        · rw [List.filter_cons_of_pos hq, List.filter_cons_of_pos (h4 hq)]; simpa using h3
        · rw [List.filter_cons_of_neg hq]
          by_cases hp : p z = true
          · rw [List.filter_cons_of_pos hp]; simp; omega
          · rw [List.filter_cons_of_neg hp]; exact h3
    rcases List.mem_cons.1 hx with rfl | hx'
    · rw [List.filter_cons_of_pos h1, List.filter_cons_of_neg (by rw [h2]; decide)]
      simp; omega
    · have h3 := filter_lt (l := l) (fun x hx => h x (List.mem_cons_of_mem _ hx)) ⟨x, hx', h1, h2⟩
      have h4 := h y List.mem_cons_self
      by_cases hq : q y = true
      · rw [List.filter_cons_of_pos hq, List.filter_cons_of_pos (h4 hq)]; simpa using h3
      · rw [List.filter_cons_of_neg hq]
        by_cases hp : p y = true
        · rw [List.filter_cons_of_pos hp]; simp; omega
        · rw [List.filter_cons_of_neg hp]; exact h3

theorem unl_set {n i : Nat} {listed : Array Bool} (hi : i < n) (h : listed.getD i true = false) : unl n (listed.setIfInBounds i true) < unl n listed := by
  unfold unl
  refine filter_lt (fun x _ hq => ?_) ⟨i, List.mem_range.2 hi, by rw [h]; rfl, ?_⟩
  · by_cases hx : i = x
    · subst hx; rw [h]; rfl
    · rw [getD_set_ne true hx] at hq; exact hq
  · have : (listed.setIfInBounds i true).getD i true = true := by
      rcases Nat.lt_or_ge i listed.size with h' | h'
      · simp [h']
      · rw [Array.getD_eq_getD_getElem?, Array.getElem?_eq_none h'] at h; cases h
    rw [this]; rfl

/-- All of the head have come up. -/
def headDone (m n : Nat) : Array Bool := ((List.range m).map fun i => decide (i < n)).toArray

theorem headDone_get (m n i : Nat) : (headDone m n)[i]? = if i < m then some (decide (i < n)) else none := by
  unfold headDone
  rw [List.getElem?_toArray, List.getElem?_map]
  by_cases h : i < m
  · rw [if_pos h, List.getElem?_range h]; rfl
  · rw [if_neg h, List.getElem?_eq_none (by simp; omega)]; rfl

theorem listed_done {n : Nat} {listed : Array Bool} (inv : HeadInv .any ops n listed) (h : ∀ i, i < n → listed.getD i true = true) : listed = headDone ops.size n := by
  refine Array.ext_getElem? fun i => ?_
  rw [headDone_get]
  by_cases hs : i < ops.size
  · rw [if_pos hs]
    have hl : i < listed.size := by rw [inv.size]; exact hs
    rw [Array.getElem?_eq_getElem hl]
    by_cases hi : i < n
    · have := h i hi; simp [hl] at this; rw [this, decide_eq_true hi]
    · have := inv.tail i (by omega) hs; simp [hl] at this; rw [this, decide_eq_false hi]
  · rw [if_neg hs, Array.getElem?_eq_none (by rw [inv.size]; omega)]

theorem some_ready {n : Nat} {listed : Array Bool} (hb : backB ops n = true) (hn : n < ops.size) (hl : listed.size = ops.size) : ∀ (d i : Nat), i ≤ d → i < n → listed.getD i true = false → ∃ j, j < n ∧ j ∈ Region.ready .any ops listed := by
  intro d
  induction d with
  | zero =>
    intro i hid hin hun
    have hi0 : i = 0 := by omega
    subst hi0
    have ho : ∃ o, ops[0]? = some o := ⟨ops[0], by simp⟩
    obtain ⟨o, ho⟩ := ho
    refine ⟨0, hin, mem_ready.2 ⟨hun, o, ho, fun e he hbd => ?_⟩⟩
    have h1 := List.all_eq_true.1 hb 0 (List.mem_range.2 hin)
    rw [ho] at h1
    have h2 := Array.all_eq_true'.1 h1 e he
    rw [hbd] at h2
    simp at h2
  | succ d ih =>
    intro i hid hin hun
    have ho : ∃ o, ops[i]? = some o := ⟨ops[i]'(by omega), by simp⟩
    obtain ⟨o, ho⟩ := ho
    by_cases hall : ∀ e ∈ o.after, Region.binds .any e = true → listed.getD e.on false = true
    · exact ⟨i, hin, mem_ready.2 ⟨hun, o, ho, hall⟩⟩
    · have : ∃ e, e ∈ o.after ∧ Region.binds .any e = true ∧ listed.getD e.on false = false := by
        apply Classical.byContradiction
        intro hne
        refine hall fun e he hbd => ?_
        cases hv : listed.getD e.on false with
        | true => rfl
        | false => exact absurd ⟨e, he, hbd, hv⟩ hne
      obtain ⟨e, he, hbd, hv⟩ := this
      have h1 := List.all_eq_true.1 hb i (List.mem_range.2 hin)
      rw [ho] at h1
      have h2 := Array.all_eq_true'.1 h1 e he
      rw [hbd] at h2
      have h3 : e.on < i := by simpa using h2
      exact ih e.on (by omega) (by omega) (getD_in (by omega) hv)

theorem wpAny_more : ∀ (f : Nat) (listed : Array Bool) (a : Act) (w : World), wpAny P .any ops Q f listed a w → wpAny P .any ops Q (f + 1) listed a w
  | 0, _, _, _, h => ⟨fun _ => h.2, fun i hi => by rw [h.1] at hi; cases hi⟩
  | f + 1, _, _, _, h => ⟨h.1, fun i hi => wpOp_mono (fun a' w' h' => wpAny_more f _ a' w' h') (h.2 i hi)⟩
theorem wpAny_add {f : Nat} {listed : Array Bool} {a : Act} {w : World} (h : wpAny P .any ops Q f listed a w) : ∀ k, wpAny P .any ops Q (k + f) listed a w
  | 0 => by rw [Nat.zero_add]; exact h
  | k + 1 => by rw [show k + 1 + f = (k + f) + 1 by omega]; exact wpAny_more _ _ _ _ (wpAny_add h k)

theorem wpAny_stay {w0 : World} {mk : (Nat → Value) → Act} {F : Nat → Value → World → Prop} {A : Nat → Bool} {n g : Nat} (hs : Region.sinkB .any ops n = true) (hc : Region.chainB .any ops n = true) (hb : backB ops n = true) (hn : n < ops.size)
    (stab : ∀ i v w w', F i v w → Below w.heap.size w w' → F i v w') (old : ∀ i v w, A i = true → F i v w → OldAt v w)
    (step : ∀ i o, i < n → ops[i]? = some o → StayStep P Q w0 mk F A ops i o)
    (fin : ∀ f w, Below w0.heap.size w0 w → (∀ i, i < n → F i (f i) w) → (∀ i j, i < n → j < n → i ≠ j → A i = true → A j = true → f i ≠ f j) → wpAny P .any ops Q g (headDone ops.size n) (mk f) w) :
    ∀ (m : Nat) (listed : Array Bool) (a : Act) (w : World), unl n listed ≤ m → Stay ops w0 mk F A n listed a w → wpAny P .any ops Q (m + g) listed a w := by
  intro m
  induction m with
  | zero =>
    intro listed a w hm h
    have hall : ∀ i, i < n → listed.getD i true = true := by
      intro i hi
      cases hv : listed.getD i true with
      | true => rfl
      | false => have := unl_set hi hv; omega
    have e := listed_done h.inv hall
    obtain ⟨f, rfl, hf, hd⟩ := h.ex
    subst e
    rw [Nat.zero_add]
    have hh : ∀ i, i < n → (headDone ops.size n).getD i false = true := fun i hi => by
      rw [Array.getD_eq_getD_getElem?, headDone_get, if_pos (by omega), decide_eq_true hi]; rfl
    exact fin f w h.bel (fun i hi => hf i hi (hh i hi)) (fun i j hi hj hij => hd i j hi hj hij (hh i hi) (hh j hj))
  | succ m ih =>
    intro listed a w hm h
    by_cases hex : ∃ i, i < n ∧ listed.getD i true = false
    · obtain ⟨i0, hi0, hu0⟩ := hex
      rw [show m + 1 + g = (m + g) + 1 by omega]
      refine ⟨fun h0 => ?_, fun i hi => ?_⟩
      · obtain ⟨j, _, hj⟩ := some_ready hb hn h.inv.size i0 i0 (Nat.le_refl _) hi0 hu0
        rw [h0] at hj; cases hj
      · have hin : i < n := by
          rcases Nat.lt_or_ge i n with h' | h'
          · exact h'
          · exact absurd hi (tail_waits hs hc hn h.inv _ i0 rfl hi0 hu0 i h')
        obtain ⟨hun, o, ho, hall⟩ := mem_ready.1 hi
        obtain ⟨f, rfl, hf, hd⟩ := h.ex
        refine wpOp_step ho fun K' hK => ?_
        refine step i o hin ho f w h.bel (fun e he => ?_) K' (fun v a' w' ha hv hbw hnew => hK _ _ (ih _ _ _ ?_ ⟨h.inv.set hi hin, h.bel.trans (hbw.mono h.bel.size), upd f i v, ha, fun j hj hlj => ?_, fun j k hj hk hjk hlj hlk aj ak => ?_⟩))
        · obtain ⟨he1, he2⟩ := List.mem_filter.1 he
          have he3 : e ∈ o.after := by simpa using he1
          have h1 := List.all_eq_true.1 hb i (List.mem_range.2 hin)
          rw [ho] at h1
          have h2 := Array.all_eq_true'.1 h1 e he3
          rw [he2] at h2
          have h3 : e.on < i := by simpa using h2
          exact hf _ (by omega) (hall e he3 he2)
        · have := unl_set hin hun; omega
        · by_cases hji : j = i
          · subst hji; rw [upd_same]; exact hv
          · rw [upd_ne hji]
            rw [getD_set_ne false (fun h => hji h.symm)] at hlj
            exact stab _ _ _ _ (hf j hj hlj) hbw
        · by_cases hji : j = i
          · subst hji
            rw [upd_same, upd_ne (fun h => hjk h.symm)]
            rw [getD_set_ne false hjk] at hlk
            exact fun e => old_new (old k _ _ ak (hf k hk hlk)) (hnew aj) e.symm
          · rw [upd_ne hji]
            rw [getD_set_ne false (fun h => hji h.symm)] at hlj
            by_cases hki : k = i
            · subst hki
              rw [upd_same]
              exact old_new (old j _ _ aj (hf j hj hlj)) (hnew ak)
            · rw [upd_ne hki]
              rw [getD_set_ne false (fun h => hki h.symm)] at hlk
              exact hd j k hj hk hjk hlj hlk aj ak
    · have hall : ∀ i, i < n → listed.getD i true = true := by
        intro i hi
        cases hv : listed.getD i true with
        | true => rfl
        | false => exact absurd ⟨i, hi, hv⟩ hex
      have h0 : unl n listed ≤ m := by
        have : (List.range n).filter (fun i => !listed.getD i true) = [] := by
          rw [List.filter_eq_nil_iff]
          intro i hi
          rw [hall i (List.mem_range.1 hi)]; decide
        unfold unl; rw [this]; exact Nat.zero_le _
      have h1 := ih listed a w h0 h
      rw [show m + 1 + g = (m + g) + 1 by omega]
      exact wpAny_more _ _ _ _ h1

/-- The operations of the head, one behind the other. -/
inductive Stays (P : Program) (Q : Exit → Act → World → Prop) (w0 : World) (mk : (Nat → Value) → Act) (F : Nat → Value → World → Prop) (A : Nat → Bool) (ops : Array Oper) : Nat → List Oper → Prop
  | nil {i : Nat} : Stays P Q w0 mk F A ops i []
  | cons {i : Nat} {o : Oper} {l : List Oper} (h : StayStep P Q w0 mk F A ops i o) (hs : Stays P Q w0 mk F A ops (i + 1) l) : Stays P Q w0 mk F A ops i (o :: l)

theorem Stays.at {w0 : World} {mk : (Nat → Value) → Act} {F : Nat → Value → World → Prop} {A : Nat → Bool} : ∀ {l : List Oper} {i : Nat}, Stays P Q w0 mk F A ops i l → ∀ j o, l[j]? = some o → StayStep P Q w0 mk F A ops (i + j) o
  | _, _, .nil, j, o, h => by simp at h
  | _, i, .cons h hs, 0, o, ho => by simp at ho; subst ho; exact h
  | _, i, .cons h hs, j + 1, o, ho => by
    have := hs.at j o (by simpa using ho)
    rw [show i + (j + 1) = i + 1 + j by omega]; exact this

def stayB (ops : Array Oper) (n : Nat) : Bool :=
  Region.sinkB .any ops n && Region.chainB .any ops n && backB ops n && decide (n < ops.size) && Region.seqB .any ops (ops.size - n) n (headDone ops.size n)

/-- All that is held of the head's values. -/
theorem wp_region_stay {id : Nat} {l : List Oper} {a0 : Act} {w0 : World} (n : Nat) (hm : P.follows .mixedOrders = true) (hB : stayB l.toArray n = true) (mk : (Nat → Value) → Act) (F : Nat → Value → World → Prop) (A : Nat → Bool) (f0 : Nat → Value) (h0 : a0 = mk f0)
    (stab : ∀ i v w w', F i v w → Below w.heap.size w w' → F i v w') (old : ∀ i v w, A i = true → F i v w → OldAt v w)
    (steps : Stays P Q w0.drew mk F A l.toArray 0 (l.take n))
    (fin : ∀ f w, Below w0.heap.size w0.drew w → (∀ i, i < n → F i (f i) w) → (∀ i j, i < n → j < n → i ≠ j → A i = true → A j = true → f i ≠ f j) → wpList P l.toArray Q (l.drop n) (mk f) w) : (Code.region id l.toArray true).wp P Q a0 w0 := by
  simp only [stayB, Bool.and_eq_true, decide_eq_true_eq] at hB
  obtain ⟨⟨⟨⟨hs, hc⟩, hb⟩, hn⟩, hq⟩ := hB
  refine wp_region_any hm ?_
  have hdl : (l.drop n).length = l.toArray.size - n := by simp
  have inv0 : HeadInv .any l.toArray n (Array.replicate l.toArray.size false) :=
    ⟨by simp, fun j oj _ hl => (by rw [getD_replicate_false] at hl; cases hl), fun t _ ht => getD_in (by simpa using ht) (getD_replicate_false _ _)⟩
  have h1 := wpAny_stay (P := P) (ops := l.toArray) (Q := Q) (w0 := w0.drew) (mk := mk) (F := F) (A := A) (n := n) (g := l.toArray.size - n) hs hc hb hn stab old
    (fun i o hi ho => by
      have := steps.at i o (by rw [List.getElem?_take_of_lt hi]; simpa using ho)
      rw [Nat.zero_add] at this; exact this)
    (fun f w hbw hF hD => by
      have := wpAny_of_seq (P := P) (ops := l.toArray) (md := .any) (Q' := Q) (l.drop n) n (headDone l.toArray.size n) (mk f) w (fun j => by simp [List.getElem?_drop]) (by rw [hdl]; exact hq) (fin f w hbw hF hD)
      rwa [hdl] at this)
    n (Array.replicate l.toArray.size false) a0 w0.drew (by unfold unl; exact Nat.le_trans (List.length_filter_le _ _) (by simp))
    ⟨inv0, Below.refl _ _, f0, h0, fun i _ hl => (by rw [getD_replicate_false] at hl; cases hl), fun i j _ _ _ hl => (by rw [getD_replicate_false] at hl; cases hl)⟩
  rw [show n + (l.toArray.size - n) = l.toArray.size by omega] at h1
  exact h1

/-- A frame with the values of operations in their slots: (slot, number). -/
def putAll (a : Act) (D : List (Nat × Nat)) (f : Nat → Value) : Act := D.foldl (fun a p => a.put (some p.1) (f p.2)) a

theorem wp_region_stays {id : Nat} {l : List Oper} {a0 : Act} {w0 : World} (n : Nat) (D : List (Nat × Nat)) (F : Nat → Value → World → Prop) (A : Nat → Bool) (hm : P.follows .mixedOrders = true) (hB : stayB l.toArray n = true) {mk : (Nat → Value) → Act} (_hmk : ∀ f, putAll a0 D f = mk f) (h0 : ∃ f0, a0 = mk f0)
    (stab : ∀ i v w w', F i v w → Below w.heap.size w w' → F i v w') (old : ∀ i v w, A i = true → F i v w → OldAt v w)
    (steps : Stays P Q w0.drew mk F A l.toArray 0 (l.take n))
    (fin : ∀ f w, Below w0.heap.size w0.drew w → (∀ i, i < n → F i (f i) w) → (∀ i j, i < n → j < n → i ≠ j → A i = true → A j = true → f i ≠ f j) → wpList P l.toArray Q (l.drop n) (mk f) w) : (Code.region id l.toArray true).wp P Q a0 w0 := by
  obtain ⟨f0, h0⟩ := h0
  exact wp_region_stay n hm hB mk F A f0 h0 stab old steps fin
/-! The same with all operations alike, stores too: what is held of one may hang on the values of those that it waits for. -/

structure Held (ops : Array Oper) (w0 : World) (mk : (Nat → Value) → Act) (F : Nat → (Nat → Value) → World → Prop) (A : Nat → Bool) (listed : Array Bool) (a : Act) (w : World) : Prop where
  inv : HeadInv .any ops ops.size listed
  bel : Below w0.heap.size w0 w
  ex : ∃ f, a = mk f ∧ (∀ i, i < ops.size → listed.getD i false = true → F i f w) ∧ ∀ i j, i < ops.size → j < ops.size → i ≠ j → listed.getD i false = true → listed.getD j false = true → A i = true → A j = true → f i ≠ f j

def HeldStep (P : Program) (Q : Exit → Act → World → Prop) (w0 : World) (mk : (Nat → Value) → Act) (F : Nat → (Nat → Value) → World → Prop) (A : Nat → Bool) (ops : Array Oper) (i : Nat) (o : Oper) : Prop :=
  ∀ f w, Below w0.heap.size w0 w → (∀ e ∈ o.after.toList.filter (Region.binds .any), F e.on f w) →
    (∀ d ∈ o.after.toList.filter (Region.binds .any), ∀ e ∈ o.after.toList.filter (Region.binds .any), d.on ≠ e.on → A d.on = true → A e.on = true → f d.on ≠ f e.on) →
    ∀ K : Act → World → Prop, (∀ v a' w', a' = mk (upd f i v) → F i (upd f i v) w' → Below w0.heap.size w w' → (∀ j, j ≠ i → j < ops.size → Region.waitsFor .any ops j i = false → F j f w → F j (upd f i v) w') → (A i = true → NewAt v w) → K a' w') →
      if Region.wanted o (yielded ops (mk f).tmps) = true then Oper.wp P o (mk f) w K Q else K ((mk f).put o.dst undef) w

inductive Helds (P : Program) (Q : Exit → Act → World → Prop) (w0 : World) (mk : (Nat → Value) → Act) (F : Nat → (Nat → Value) → World → Prop) (A : Nat → Bool) (ops : Array Oper) : Nat → List Oper → Prop
  | nil {i : Nat} : Helds P Q w0 mk F A ops i []
  | cons {i : Nat} {o : Oper} {l : List Oper} (h : HeldStep P Q w0 mk F A ops i o) (hs : Helds P Q w0 mk F A ops (i + 1) l) : Helds P Q w0 mk F A ops i (o :: l)
theorem Helds.at {w0 : World} {mk : (Nat → Value) → Act} {F : Nat → (Nat → Value) → World → Prop} {A : Nat → Bool} : ∀ {l : List Oper} {i : Nat}, Helds P Q w0 mk F A ops i l → ∀ j o, l[j]? = some o → HeldStep P Q w0 mk F A ops (i + j) o
  | _, _, .nil, j, o, h => by simp at h
  | _, i, .cons h hs, 0, o, ho => by simp at ho; subst ho; exact h
  | _, i, .cons h hs, j + 1, o, ho => by
    have := hs.at j o (by simpa using ho)
    rw [show i + (j + 1) = i + 1 + j by omega]; exact this

theorem some_ready' {listed : Array Bool} (hb : backB ops ops.size = true) (hl : listed.size = ops.size) : ∀ (d i : Nat), i ≤ d → i < ops.size → listed.getD i true = false → ∃ j, j < ops.size ∧ j ∈ Region.ready .any ops listed := by
  intro d
  induction d with
  | zero =>
    intro i hid hin hun
    have hi0 : i = 0 := by omega
    subst hi0
    have ho : ∃ o, ops[0]? = some o := ⟨ops[0], by simp⟩
    obtain ⟨o, ho⟩ := ho
    refine ⟨0, hin, mem_ready.2 ⟨hun, o, ho, fun e he hbd => ?_⟩⟩
    have h1 := List.all_eq_true.1 hb 0 (List.mem_range.2 hin)
    rw [ho] at h1
    have h2 := Array.all_eq_true'.1 h1 e he
    rw [hbd] at h2
    simp at h2
  | succ d ih =>
    intro i hid hin hun
    have ho : ∃ o, ops[i]? = some o := ⟨ops[i]'(by omega), by simp⟩
    obtain ⟨o, ho⟩ := ho
    by_cases hall : ∀ e ∈ o.after, Region.binds .any e = true → listed.getD e.on false = true
    · exact ⟨i, hin, mem_ready.2 ⟨hun, o, ho, hall⟩⟩
    · have : ∃ e, e ∈ o.after ∧ Region.binds .any e = true ∧ listed.getD e.on false = false := by
        apply Classical.byContradiction
        intro hne
        refine hall fun e he hbd => ?_
        cases hv : listed.getD e.on false with
        | true => rfl
        | false => exact absurd ⟨e, he, hbd, hv⟩ hne
      obtain ⟨e, he, hbd, hv⟩ := this
      have h1 := List.all_eq_true.1 hb i (List.mem_range.2 hin)
      rw [ho] at h1
      have h2 := Array.all_eq_true'.1 h1 e he
      rw [hbd] at h2
      have h3 : e.on < i := by simpa using h2
      exact ih e.on (by omega) (by omega) (getD_in (by omega) hv)

theorem wpAny_helds {w0 : World} {mk : (Nat → Value) → Act} {F : Nat → (Nat → Value) → World → Prop} {A : Nat → Bool} (hb : backB ops ops.size = true)
    (old : ∀ i f w, A i = true → F i f w → OldAt (f i) w)
    (step : ∀ i o, ops[i]? = some o → HeldStep P Q w0 mk F A ops i o)
    (fin : ∀ f w, Below w0.heap.size w0 w → (∀ i, i < ops.size → F i f w) → (∀ i j, i < ops.size → j < ops.size → i ≠ j → A i = true → A j = true → f i ≠ f j) → Q .normal (mk f) w) :
    ∀ (m : Nat) (listed : Array Bool) (a : Act) (w : World), unl ops.size listed ≤ m → Held ops w0 mk F A listed a w → wpAny P .any ops Q m listed a w := by
  have done : ∀ (listed : Array Bool) (a : Act) (w : World), (∀ i, i < ops.size → listed.getD i true = true) → Held ops w0 mk F A listed a w → Region.ready .any ops listed = [] ∧ Q .normal a w := by
    intro listed a w hall h
    refine ⟨?_, ?_⟩
    · rw [List.eq_nil_iff_forall_not_mem]
      intro i hi
      obtain ⟨hun, o, ho, _⟩ := mem_ready.1 hi
      have hlt : i < ops.size := (Array.getElem?_eq_some_iff.1 ho).1
      rw [hall i hlt] at hun; cases hun
    · obtain ⟨f, rfl, hf, hd⟩ := h.ex
      have hh : ∀ i, i < ops.size → listed.getD i false = true := fun i hi => by
        have h1 := hall i hi
        have h2 : i < listed.size := by rw [h.inv.size]; exact hi
        simp [h2] at h1 ⊢; exact h1
      exact fin f w h.bel (fun i hi => hf i hi (hh i hi)) (fun i j hi hj hij => hd i j hi hj hij (hh i hi) (hh j hj))
  intro m
  induction m with
  | zero =>
    intro listed a w hm h
    refine done listed a w (fun i hi => ?_) h
    cases hv : listed.getD i true with
    | true => rfl
    | false => have := unl_set hi hv; omega
  | succ m ih =>
    intro listed a w hm h
    refine ⟨fun h0 => ?_, fun i hi => ?_⟩
    · refine (done listed a w (fun i hi => ?_) h).2
      cases hv : listed.getD i true with
      | true => rfl
      | false =>
        obtain ⟨j, _, hj⟩ := some_ready' hb h.inv.size i i (Nat.le_refl _) hi hv
        rw [h0] at hj; cases hj
    · obtain ⟨hun, o, ho, hall⟩ := mem_ready.1 hi
      have hin : i < ops.size := (Array.getElem?_eq_some_iff.1 ho).1
      obtain ⟨f, rfl, hf, hd⟩ := h.ex
      have dep : ∀ e ∈ o.after.toList.filter (Region.binds .any), e.on < ops.size ∧ listed.getD e.on false = true := by
        intro e he
        obtain ⟨he1, he2⟩ := List.mem_filter.1 he
        have he3 : e ∈ o.after := by simpa using he1
        have h1 := List.all_eq_true.1 hb i (List.mem_range.2 hin)
        rw [ho] at h1
        have h2 := Array.all_eq_true'.1 h1 e he3
        rw [he2] at h2
        have h3 : e.on < i := by simpa using h2
        exact ⟨by omega, hall e he3 he2⟩
      refine wpOp_step ho fun K' hK => ?_
      refine step i o ho f w h.bel (fun e he => hf _ (dep e he).1 (dep e he).2) (fun d hd1 e he hne => hd _ _ (dep d hd1).1 (dep e he).1 hne (dep d hd1).2 (dep e he).2) K' (fun v a' w' ha hv hbw hst hnew => hK _ _ (ih _ _ _ ?_ ⟨h.inv.set hi hin, h.bel.trans hbw, upd f i v, ha, fun j hj hlj => ?_, fun j k hj hk hjk hlj hlk aj ak => ?_⟩))
      · have := unl_set hin hun; omega
      · by_cases hji : j = i
        · subst hji; exact hv
        · rw [getD_set_ne false (fun h => hji h.symm)] at hlj
          refine hst j hji hj ?_ (hf j hj hlj)
          cases hw : Region.waitsFor .any ops j i with
          | false => rfl
          | true =>
            obtain ⟨oj, hoj, e, he, hbe, heq⟩ := Region.waitsFor_spec hw
            have := h.inv.closed j oj hoj hlj e he hbe
            rw [heq, getD_both hun] at this; cases this
      · by_cases hji : j = i
        · subst hji
          rw [upd_same, upd_ne (fun h => hjk h.symm)]
          rw [getD_set_ne false hjk] at hlk
          exact fun e => old_new (old k _ _ ak (hf k hk hlk)) (hnew aj) e.symm
        · rw [upd_ne hji]
          rw [getD_set_ne false (fun h => hji h.symm)] at hlj
          by_cases hki : k = i
          · subst hki
            rw [upd_same]
            exact old_new (old j _ _ aj (hf j hj hlj)) (hnew ak)
          · rw [upd_ne hki]
            rw [getD_set_ne false (fun h => hki h.symm)] at hlk
            exact hd j k hj hk hjk hlj hlk aj ak

theorem wp_region_helds {id : Nat} {l : List Oper} {a0 : Act} {w0 : World} (D : List (Nat × Nat)) (F : Nat → (Nat → Value) → World → Prop) (A : Nat → Bool) (hm : P.follows .mixedOrders = true) (hB : backB l.toArray l.toArray.size = true) {mk : (Nat → Value) → Act} (_hmk : ∀ f, putAll a0 D f = mk f) (h0 : ∃ f0, a0 = mk f0)
    (old : ∀ i f w, A i = true → F i f w → OldAt (f i) w)
    (steps : Helds P Q w0.drew mk F A l.toArray 0 l)
    (fin : ∀ f w, Below w0.heap.size w0.drew w → (∀ i, i < l.length → F i f w) → (∀ i j, i < l.length → j < l.length → i ≠ j → A i = true → A j = true → f i ≠ f j) → Q .normal (mk f) w) : (Code.region id l.toArray true).wp P Q a0 w0 := by
  obtain ⟨f0, h0⟩ := h0
  refine wp_region_any hm ?_
  have inv0 : HeadInv .any l.toArray l.toArray.size (Array.replicate l.toArray.size false) :=
    ⟨by simp, fun j oj _ hl => (by rw [getD_replicate_false] at hl; cases hl), fun t _ ht => getD_in (by simpa using ht) (getD_replicate_false _ _)⟩
  exact wpAny_helds (P := P) (ops := l.toArray) (Q := Q) (w0 := w0.drew) (mk := mk) (F := F) (A := A) hB old
    (fun i o ho => by
      have := steps.at i o (by simpa using ho)
      rw [Nat.zero_add] at this; exact this)
    (fun f w hbw hF hD => fin f w hbw (by simpa using hF) (by simpa using hD))
    _ (Array.replicate l.toArray.size false) a0 w0.drew (by unfold unl; exact Nat.le_trans (List.length_filter_le _ _) (by simp))
    ⟨inv0, Below.refl _ _, f0, h0, fun i _ hl => (by rw [getD_replicate_false] at hl; cases hl), fun i j _ _ _ hl => (by rw [getD_replicate_false] at hl; cases hl)⟩
end
end Go.Proofs.Ytakdeeknfcifpaa
