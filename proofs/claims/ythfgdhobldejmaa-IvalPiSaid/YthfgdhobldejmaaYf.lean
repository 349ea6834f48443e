/- A reckoning of programs by symbols: code, functions, contracts of functions. -/
import Derived.Test.YthfgdhobldejmaaYe
import Derived.LoopN
namespace Go.Proofs.Ythfgdhobldejmaa
open Go Go.RowKit

def Ex.out : Ex → Exit
  | .nrm => .normal
  | .ext id => .exit id
  | .ret => .ret

mutual
/-- Blocks of a value are among the first n. -/
def inB (n : Nat) : AV → Bool
  | .ptr b _ => decide (b < n)
  | .slc b _ _ _ => decide (b < n)
  | .fn _ a c => inBL n a && inBL n c
  | .agg l => inBL n l
  | .tup l => inBL n l
  | _ => true
def inBL (n : Nat) : List AV → Bool
  | [] => true
  | a :: l => inB n a && inBL n l
end
mutual
theorem inB_den {β β' : Blocks} {ρ : List U} {n : Nat} (h : ∀ k, k < n → β' k = β k) : ∀ (a : AV), inB n a = true → den β' ρ a = den β ρ a
  | .ptr b o, hn => by simp [inB] at hn; unfold den; rw [h b hn]
  | .slc b o l c, hn => by simp [inB] at hn; unfold den; rw [h b hn]
  | .fn f a c, hn => by simp [inB] at hn; unfold den; rw [inBL_den h a hn.1, inBL_den h c hn.2]
  | .agg l, hn => by simp [inB] at hn; unfold den; rw [inBL_den h l hn]
  | .tup l, hn => by simp [inB] at hn; unfold den; rw [inBL_den h l hn]
  | .fl _, _ => rfl
  | .it _ _, _ => rfl
  | .bo _, _ => rfl
  | .pnil, _ => rfl
  | .snil, _ => rfl
  | .fnil, _ => rfl
  | .und, _ => rfl
  | .str _, _ => rfl
  | .val _ _, _ => rfl
theorem inBL_den {β β' : Blocks} {ρ : List U} {n : Nat} (h : ∀ k, k < n → β' k = β k) : ∀ (l : List AV), inBL n l = true → denL β' ρ l = denL β ρ l
  | [], _ => rfl
  | a :: l, hn => by
    simp [inBL] at hn
    rw [denL, denL, inB_den h a hn.1, inBL_den h l hn.2]
end
mutual
/-- Variables of a value are among the first m. -/
def varsIn (m : Nat) : AV → Bool
  | .fl e => varE m e
  | .it _ e => varE m e
  | .bo e => varE m e
  | .val e _ => varE m e
  | .fn _ a c => varsL m a && varsL m c
  | .agg l => varsL m l
  | .tup l => varsL m l
  | _ => true
def varsL (m : Nat) : List AV → Bool
  | [] => true
  | a :: l => varsIn m a && varsL m l
def varE (m : Nat) : E → Bool
  | .v n => decide (n < m)
  | .l _ => true
end
theorem varE_ev {ρ σ : List U} {m : Nat} (h : ∀ (k : Nat), k < m → σ[k]? = ρ[k]?) {e : E} (he : varE m e = true) : e.ev σ = e.ev ρ := by
  cases e with
  | v n => exact h n (by simpa [varE] using he)
  | l u => rfl
mutual
theorem vars_den {β : Blocks} {ρ σ : List U} {m : Nat} (h : ∀ (k : Nat), k < m → σ[k]? = ρ[k]?) : ∀ (a : AV), varsIn m a = true → den β σ a = den β ρ a
  | .fl e, he => by unfold den; rw [varE_ev h he]
  | .it k e, he => by unfold den; rw [varE_ev h he]
  | .bo e, he => by unfold den; rw [varE_ev h he]
  | .fn f a c, he => by simp [varsIn] at he; unfold den; rw [varsL_den' h a he.1, varsL_den' h c he.2]
  | .agg l, he => by simp [varsIn] at he; unfold den; rw [varsL_den' h l he]
  | .tup l, he => by simp [varsIn] at he; unfold den; rw [varsL_den' h l he]
  | .ptr _ _, _ => rfl
  | .pnil, _ => rfl
  | .slc _ _ _ _, _ => rfl
  | .snil, _ => rfl
  | .fnil, _ => rfl
  | .und, _ => rfl
  | .str _, _ => rfl
  | .val e t, he => by unfold den; rw [varE_ev h he]
theorem varsL_den' {β : Blocks} {ρ σ : List U} {m : Nat} (h : ∀ (k : Nat), k < m → σ[k]? = ρ[k]?) : ∀ (l : List AV), varsL m l = true → denL β σ l = denL β ρ l
  | [], _ => rfl
  | a :: l, he => by simp [varsL] at he; rw [denL, denL, vars_den h a he.1, varsL_den' h l he.2]
end
theorem varsL_den {β : Blocks} {ρ σ : List U} {m : Nat} (h : ∀ (k : Nat), k < m → σ[k]? = ρ[k]?) : ∀ (l : List AV), (∀ a ∈ l, varsIn m a = true) → denL β σ l = denL β ρ l
  | [], _ => rfl
  | a :: l, he => by rw [denL, denL, vars_den h a (he a (by simp)), varsL_den h l (fun b hb => he b (by simp [hb]))]

/-! Loops of any number of rounds: a state's numbers become variables -/
def E.isV : E → Bool
  | .v _ => true
  | .l _ => false
mutual
/-- A value's numbers, as new variables from n on; fs: literals, too. -/
def genV (fs : Bool) (n : Nat) : AV → Option (AV × List Kd × List E)
  | .fl e => if fs || e.isV then some (.fl (.v n), [.f], [e]) else some (.fl e, [], [])
  | .it k e => if fs || e.isV then some (.it k (.v n), [.i], [e]) else some (.it k e, [], [])
  | .bo e => if fs || e.isV then some (.bo (.v n), [.b], [e]) else some (.bo e, [], [])
  | .agg l => match genVs fs n l with
    | some (l', ks, es) => some (.agg l', ks, es)
    | none => none
  | .tup l => match genVs fs n l with
    | some (l', ks, es) => some (.tup l', ks, es)
    | none => none
  | v => if varsIn 0 v = true then some (v, [], []) else none
def genVs (fs : Bool) (n : Nat) : List AV → Option (List AV × List Kd × List E)
  | [] => some ([], [], [])
  | v :: l => match genV fs n v with
    | some (v', ks, es) => match genVs fs (n + es.length) l with
      | some (l', ks', es') => some (v' :: l', ks ++ ks', es ++ es')
      | none => none
    | none => none
end
/-- Slots, one behind the other: F: literals, too; D: what is not looked at any more. -/
def genTm (F D : Nat → Bool) (n i : Nat) : List AV → Option (List AV × List Kd × List E)
  | [] => some ([], [], [])
  | v :: l => if D i = true then match genTm F D n (i + 1) l with
      | some (l', ks, es) => some (.val (.v 0) i :: l', ks, es)
      | none => none
    else match genV (F i) n v with
      | some (v', ks, es) => match genTm F D (n + es.length) (i + 1) l with
        | some (l', ks', es') => some (v' :: l', ks ++ ks', es ++ es')
        | none => none
      | none => none
def genHp (F : Nat → Nat → Bool) (n k : Nat) : Heap → Option (Heap × List Kd × List E)
  | [] => some ([], [], [])
  | none :: h => match genHp F n (k + 1) h with
    | some (h', ks, es) => some (none :: h', ks, es)
    | none => none
  | some c :: h => match genTm (F k) (fun _ => false) n 0 c with
    | some (c', ks, es) => match genHp F (n + es.length) (k + 1) h with
      | some (h', ks', es') => some (some c' :: h', ks ++ ks', es ++ es')
      | none => none
    | none => none
/-- What a round changes: slots, cells. -/
structure LHint where
  tm : List Nat
  cells : List (Nat × Nat)
def dstsO : List Oper → List Nat
  | [] => []
  | o :: l => match o.dst with
    | some d => d :: dstsO l
    | none => dstsO l
/-- The slots that a code writes. -/
def dstsC : Code → List Nat
  | .region _ ops _ => dstsO ops.toList
  | .seq a b => dstsC a ++ dstsC b
  | .cond _ t f => dstsC t ++ dstsC f
  | .block _ b => dstsC b
  | .loop b => dstsC b
  | _ => []
def firstR : Code → Option Nat
  | .region id _ _ => some id
  | .seq a b => match firstR a with
    | some n => some n
    | none => firstR b
  | .cond _ t f => match firstR t with
    | some n => some n
    | none => firstR f
  | .block _ b => firstR b
  | .loop b => firstR b
  | _ => none
/-- The state at a loop's head: all its numbers are variables 1 ..; variable 0 holds what isn't looked at any more. -/
def genS (hint : LHint) (ds : List Nat) (len : Nat) (st : SF) : Option (SF × List Kd × List E) :=
  match genTm (fun i => hint.tm.contains i) (fun i => ds.contains i && !hint.tm.contains i) 1 0 st.tm with
  | some (tm, ks, es) => match genHp (fun b o => hint.cells.contains (b, o)) (1 + es.length) 0 (st.h.take len) with
    | some (h, ks', es') => if (tm.all (inB len) && h.all fun c => match c with | some c => inBL len c | none => true) = true then some ({ tm := tm, h := h, nv := 1 + es.length + es'.length, wr := st.wr ++ hint.cells.map (·.1) }, ks ++ ks', es ++ es') else none
    | none => none
  | none => none
def sameH : Heap → Heap → Bool
  | [], [] => true
  | none :: h, none :: g => sameH h g
  | some c :: h, some d :: g => sameL c d && sameH h g
  | _, _ => false
def Kd.same : Kd → Kd → Bool
  | .f, .f => true
  | .i, .i => true
  | .b, .b => true
  | _, _ => false
def sameK : List Kd → List Kd → Bool
  | [], [] => true
  | k :: l, k' :: l' => k.same k' && sameK l l'
  | _, _ => false
def againT (hint : LHint) (ds : List Nat) (head : SF) (ks : List Kd) (st : SF) : T := match genS hint ds head.h.length st with
  | some (st', ks', es') => if (sameL st'.tm head.tm && sameH st'.h head.h && sameK ks' ks && Nat.beq st'.nv head.nv && decide (head.h.length ≤ st.h.length) && st.wr.all fun k => head.wr.contains k || decide (head.h.length ≤ k)) = true then .again es' else .bad 20
  | none => .bad 21
def hintOf (lh : List (Nat × LHint)) (c : Code) : Option LHint := match firstR c with
  | some n => (lh.find? fun x => x.1 == n).map (·.2)
  | none => none

section
variable (P : Program) (cts : List (Nat × Ct)) (dr : Array Oper → SF → (SF → T) → T) (lh : List (Nat × LHint))
/-- A slot's known value. -/
def setO (st : SF) (c : Operand) (x : Bool) : SF := match c with
  | .tmp t => st.setT t (.bo (.l (.b x)))
  | _ => st
def evC : Nat → Code → SF → (Ex → SF → T) → T
  | 0, _, _, _ => .bad 3
  | n + 1, c, st, k => match c with
    | .skip => k .nrm st
    | .label _ => k .nrm st
    | .region _ ops draw => if draw then dr ops st (k .nrm) else evOps P cts ops ops.toList st (k .nrm)
    | .seq a b => evC n a st fun x st => match x with
      | .nrm => evC n b st k
      | x => k x st
    | .cond c t f => match opd st.tm c with
      | some (.bo (.l (.b x))) => evC n (if x then t else f) st k
      | some (.bo e) => .ite e (evC n t (setO st c true) k) (evC n f (setO st c false) k)
      | _ => .bad 4
    | .block id body => evC n body st fun x st => match x with
      | .ext i => if i = id then k .nrm st else k (.ext i) st
      | x => k x st
    | .loop body => match hintOf lh body with
      | none => evC n body st fun x st => match x with
        | .nrm => evC n (.loop body) st k
        | x => k x st
      | some hint => match genS hint (dstsC body) st.h.length st with
        | some (head, ks, es) => .loop ks es (evC n body head fun x st => match x with
          | .nrm => againT hint (dstsC body) head ks st
          | x => .out (k x st))
        | none => .bad 22
    | .exit id => k (.ext id) st
    | .ret => k .ret st
    | _ => .bad 5

def resL (st : SF) : List ResultVar → Option (List AV)
  | [] => some []
  | .tmp t :: l => match st.tm[t]?, resL st l with
    | some x, some y => some (x :: y)
    | _, _ => none
  | .cell a t :: l => match st.tm[a]?, resL st l with
    | some (.ptr b o), some y => match st.h[b]? with
      | some (some c) => match partAV P t c o with
        | some x => some (x :: y)
        | none => none
      | _ => none
    | _, _ => none
def res1 : List AV → AV
  | [x] => x
  | l => .tup l
def tailS (nb : Nat) (jn : Option Nat) (h : Heap) : Heap := match jn with
  | some j => [if nb ≤ j then h.getD j none else none]
  | none => []
/-- What is told at the end: the result; the blocks that were there; a new one. -/
def cutS (nb : Nat) (jn : Option Nat) (r : AV) (st : SF) : SF :=
  { tm := [r], h := st.h.take nb ++ tailS nb jn st.h, nv := st.nv, wr := st.wr.filter fun k => decide (k < nb) }
def evK (rs : List ResultVar) (nb : Nat) (jn : Option Nat) (x : Ex) (st : SF) : T := match x with
  | .ext _ => .bad 6
  | _ => match resL P st rs with
    | some l => .done .ret (cutS nb jn (res1 l) st)
    | none => .bad 7
def evF (fuel : Nat) (fn : Func) (m : Nat) (blks : List (List AV)) (args : List AV) (jn : Option Nat) : T := match fn.body with
  | some c => evC P cts dr lh fuel c { tm := args ++ List.replicate (fn.ntmps - args.length) .und, h := blks.map some, nv := m, wr := [] } (evK P fn.results.toList blks.length jn)
  | none => .bad 8
end


theorem Typed.len : ∀ {ks : List Kd} {us : List U}, Typed ks us → us.length = ks.length
  | [], [], _ => rfl
  | _ :: ks, _ :: us, h => by rw [List.length_cons, List.length_cons, Typed.len h.2]
  | [], _ :: _, h => h.elim
  | _ :: _, [], h => h.elim
theorem Typed.append : ∀ {ks ks' : List Kd} {us us' : List U}, Typed ks us → Typed ks' us' → Typed (ks ++ ks') (us ++ us')
  | [], _, [], _, _, h => h
  | _ :: _, _, _ :: _, _, h, h' => ⟨h.1, Typed.append h.2 h'⟩
  | [], _, _ :: _, _, h, _ => h.elim
  | _ :: _, _, [], _, h, _ => h.elim
theorem evs_len {ρ : List U} : ∀ {l : List E} {us : List U}, evs ρ l = some us → us.length = l.length
  | [], us, h => by unfold evs at h; simp at h; subst h; rfl
  | e :: l, us, h => by
    unfold evs at h
    split at h
    · rename_i x xs h1 h2; simp at h; subst h; rw [List.length_cons, List.length_cons, evs_len h2]
    · simp at h
theorem evs_append {ρ : List U} : ∀ {l m : List E} {us vs : List U}, evs ρ l = some us → evs ρ m = some vs → evs ρ (l ++ m) = some (us ++ vs)
  | [], m, us, vs, h, k => by unfold evs at h; simp at h; subst h; exact k
  | e :: l, m, us, vs, h, k => by
    unfold evs at h
    split at h
    · rename_i x xs h1 h2; simp at h; subst h
      show evs ρ (e :: (l ++ m)) = _
      unfold evs
      rw [h1, evs_append h2 k]; rfl
    · simp at h
/-- The variables from n on are these. -/
def At (σ : List U) (n : Nat) (us : List U) : Prop := ∀ (i : Nat) (x : U), us[i]? = some x → σ[n + i]? = some x
theorem At.left {σ : List U} {n : Nat} {us vs : List U} (h : At σ n (us ++ vs)) : At σ n us := fun i x hx => h i x (by rw [List.getElem?_append_left (List.getElem?_eq_some_iff.1 hx).1]; exact hx)
theorem At.right {σ : List U} {n m : Nat} {us vs : List U} (h : At σ n (us ++ vs)) (hm : us.length = m) : At σ (n + m) vs := fun i x hx => by
  have := h (us.length + i) x (by rw [List.getElem?_append_right (by omega)]; simpa using hx)
  rwa [show n + m + i = n + (us.length + i) by omega]
theorem genC_den {β : Blocks} {ρ : List U} {fs : Bool} {n : Nat} {v v' : AV} {ks : List Kd} {es : List E} {u : Value} (h : genV fs n v = some (v', ks, es)) (hd : den β ρ v = some u) (hv : genV fs n v = if varsIn 0 v = true then some (v, [], []) else none) :
    ∃ us, evs ρ es = some us ∧ Typed ks us ∧ ∀ σ, At σ n us → den β σ v' = some u := by
  rw [hv] at h
  split at h
  · rename_i hc
    simp at h; obtain ⟨rfl, rfl, rfl⟩ := h
    exact ⟨[], rfl, trivial, fun σ _ => by rw [vars_den (m := 0) (fun k hk => by omega) v hc]; exact hd⟩
  · simp at h
section
variable {β : Blocks} {ρ : List U}
mutual
theorem genV_den : ∀ (v : AV) {fs : Bool} {n : Nat} {v' : AV} {ks : List Kd} {es : List E} {u : Value}, genV fs n v = some (v', ks, es) → den β ρ v = some u →
    ∃ us, evs ρ es = some us ∧ Typed ks us ∧ ∀ σ, At σ n us → den β σ v' = some u
  | .fl e, fs, n, v', ks, es, u, h, hd => by
    unfold genV at h
    split at h
    · simp at h; obtain ⟨rfl, rfl, rfl⟩ := h
      obtain ⟨x, h1, h2, rfl⟩ := den_fl hd
      exact ⟨[.f x], evs1 h1, ⟨⟨x, rfl, h2⟩, trivial⟩, fun σ hσ => fl_den (hσ 0 _ rfl) h2⟩
    · rename_i hc
      simp at h; obtain ⟨rfl, rfl, rfl⟩ := h
      cases e with
      | v k => simp [E.isV] at hc
      | l x => exact ⟨[], rfl, trivial, fun σ _ => hd⟩
  | .it k e, fs, n, v', ks, es, u, h, hd => by
    unfold genV at h
    split at h
    · simp at h; obtain ⟨rfl, rfl, rfl⟩ := h
      obtain ⟨x, h1, rfl⟩ := den_it hd
      exact ⟨[.i x], evs1 h1, ⟨⟨x, rfl⟩, trivial⟩, fun σ hσ => it_den (hσ 0 _ rfl)⟩
    · rename_i hc
      simp at h; obtain ⟨rfl, rfl, rfl⟩ := h
      cases e with
      | v k => simp [E.isV] at hc
      | l x => exact ⟨[], rfl, trivial, fun σ _ => hd⟩
  | .bo e, fs, n, v', ks, es, u, h, hd => by
    unfold genV at h
    split at h
    · simp at h; obtain ⟨rfl, rfl, rfl⟩ := h
      obtain ⟨x, h1, rfl⟩ := den_bo hd
      exact ⟨[.b x], evs1 h1, ⟨⟨x, rfl⟩, trivial⟩, fun σ hσ => bo_den (hσ 0 _ rfl)⟩
    · rename_i hc
      simp at h; obtain ⟨rfl, rfl, rfl⟩ := h
      cases e with
      | v k => simp [E.isV] at hc
      | l x => exact ⟨[], rfl, trivial, fun σ _ => hd⟩
  | .agg l, fs, n, v', ks, es, u, h, hd => by
    unfold genV at h
    split at h
    · rename_i hl
      simp at h; obtain ⟨rfl, rfl, rfl⟩ := h
      obtain ⟨x, h1, rfl⟩ := den_agg hd
      obtain ⟨us, h2, h3, h4⟩ := genVs_den l hl h1
      exact ⟨us, h2, h3, fun σ hσ => by unfold den; rw [h4 σ hσ]⟩
    · simp at h
  | .tup l, fs, n, v', ks, es, u, h, hd => by
    unfold genV at h
    split at h
    · rename_i hl
      simp at h; obtain ⟨rfl, rfl, rfl⟩ := h
      obtain ⟨x, h1, rfl⟩ := den_tup hd
      obtain ⟨us, h2, h3, h4⟩ := genVs_den l hl h1
      exact ⟨us, h2, h3, fun σ hσ => by unfold den; rw [h4 σ hσ]⟩
    · simp at h
  | .ptr b o, fs, n, v', ks, es, u, h, hd => genC_den h hd rfl
  | .pnil, fs, n, v', ks, es, u, h, hd => genC_den h hd rfl
  | .slc b o x y, fs, n, v', ks, es, u, h, hd => genC_den h hd rfl
  | .snil, fs, n, v', ks, es, u, h, hd => genC_den h hd rfl
  | .fn f a c, fs, n, v', ks, es, u, h, hd => genC_den h hd rfl
  | .fnil, fs, n, v', ks, es, u, h, hd => genC_den h hd rfl
  | .und, fs, n, v', ks, es, u, h, hd => genC_den h hd rfl
  | .str s, fs, n, v', ks, es, u, h, hd => genC_den h hd rfl
  | .val e t, fs, n, v', ks, es, u, h, hd => genC_den h hd rfl
theorem genVs_den : ∀ (l : List AV) {fs : Bool} {n : Nat} {l' : List AV} {ks : List Kd} {es : List E} {vs : List Value}, genVs fs n l = some (l', ks, es) → denL β ρ l = some vs →
    ∃ us, evs ρ es = some us ∧ Typed ks us ∧ ∀ σ, At σ n us → denL β σ l' = some vs
  | [], fs, n, l', ks, es, vs, h, hd => by
    unfold genVs at h; simp at h; obtain ⟨rfl, rfl, rfl⟩ := h
    exact ⟨[], rfl, trivial, fun σ _ => hd⟩
  | v :: l, fs, n, l', ks, es, vs, h, hd => by
    unfold genVs at h
    obtain ⟨x, xs, hx, hxs, rfl⟩ := denL_cons.1 hd
    split at h
    · rename_i v1 k1 e1 h1
      split at h
      · rename_i l2 k2 e2 h2
        simp at h; obtain ⟨rfl, rfl, rfl⟩ := h
        obtain ⟨us, a1, a2, a3⟩ := genV_den v h1 hx
        obtain ⟨us', b1, b2, b3⟩ := genVs_den l h2 hxs
        exact ⟨us ++ us', evs_append a1 b1, a2.append b2, fun σ hσ => denL_cons.2 ⟨x, xs, a3 σ hσ.left, b3 σ (hσ.right (evs_len a1)), rfl⟩⟩
      · simp at h
    · simp at h
end
theorem genTm_den {F D : Nat → Bool} {g : Nat → Value} : ∀ {l : List AV} {n i : Nat} {l' : List AV} {ks : List Kd} {es : List E}, genTm F D n i l = some (l', ks, es) → (∀ (j : Nat) (v : AV), l[j]? = some v → den β ρ v = some (g (i + j))) →
    ∃ us, evs ρ es = some us ∧ Typed ks us ∧ l'.length = l.length ∧ ∀ σ, (∀ j, D j = true → σ[0]? = some (.any g)) → At σ n us → ∀ (j : Nat) (v : AV), l'[j]? = some v → den β σ v = some (g (i + j))
  | [], n, i, l', ks, es, h, hd => by
    unfold genTm at h; simp at h; obtain ⟨rfl, rfl, rfl⟩ := h
    exact ⟨[], rfl, trivial, rfl, fun σ _ _ j v hv => by simp at hv⟩
  | v :: l, n, i, l', ks, es, h, hd => by
    have hd' : ∀ (j : Nat) (v : AV), l[j]? = some v → den β ρ v = some (g (i + 1 + j)) := fun j v hv => by rw [show i + 1 + j = i + (j + 1) by omega]; exact hd (j + 1) v (by simpa using hv)
    unfold genTm at h
    split at h
    · rename_i hD
      split at h
      · rename_i l2 k2 e2 h2
        simp at h; obtain ⟨rfl, rfl, rfl⟩ := h
        obtain ⟨us, b1, b2, b3, b4⟩ := genTm_den h2 hd'
        refine ⟨us, b1, b2, by rw [List.length_cons, b3]; rfl, fun σ h0 hσ j v hv => ?_⟩
        cases j with
        | zero =>
          simp at hv; subst hv
          unfold den
          rw [show (E.v 0).ev σ = σ[0]? from rfl, h0 i hD]; rfl
        | succ j => rw [show i + (j + 1) = i + 1 + j by omega]; exact b4 σ h0 hσ j v (by simpa using hv)
      · simp at h
    · split at h
      · rename_i v1 k1 e1 h1
        split at h
        · rename_i l2 k2 e2 h2
          simp at h; obtain ⟨rfl, rfl, rfl⟩ := h
          obtain ⟨us, a1, a2, a3⟩ := genV_den v h1 (hd 0 v rfl)
          obtain ⟨us', b1, b2, b3, b4⟩ := genTm_den h2 hd'
          refine ⟨us ++ us', evs_append a1 b1, a2.append b2, by rw [List.length_cons, b3]; rfl, fun σ h0 hσ j v hv => ?_⟩
          cases j with
          | zero => simp at hv; subst hv; exact a3 σ hσ.left
          | succ j => rw [show i + (j + 1) = i + 1 + j by omega]; exact b4 σ h0 (hσ.right (evs_len a1)) j v (by simpa using hv)
        · simp at h
      · simp at h
theorem denL_pt : ∀ {l : List AV} {vs : List Value}, l.length = vs.length → (∀ (j : Nat) (v : AV), l[j]? = some v → den β ρ v = some (vs.getD j undef)) → denL β ρ l = some vs
  | [], [], _, _ => rfl
  | v :: l, x :: vs, hl, h => denL_cons.2 ⟨x, vs, h 0 v rfl, denL_pt (by simpa using hl) (fun j v hv => h (j + 1) v (by simpa using hv)), rfl⟩
  | [], _ :: _, hl, _ => by simp at hl
  | _ :: _, [], hl, _ => by simp at hl
theorem genHp_den {F : Nat → Nat → Bool} {w : World} : ∀ {h : Heap} {n k : Nat} {h' : Heap} {ks : List Kd} {es : List E}, genHp F n k h = some (h', ks, es) → (∀ (j : Nat) (c : List AV), h[j]? = some (some c) → ∃ m vs, β (k + j) = some m ∧ denL β ρ c = some vs ∧ CellsAt m vs w) →
    ∃ us, evs ρ es = some us ∧ Typed ks us ∧ h'.length = h.length ∧ ∀ σ, At σ n us → ∀ (j : Nat) (c : List AV), h'[j]? = some (some c) → ∃ m vs, β (k + j) = some m ∧ denL β σ c = some vs ∧ CellsAt m vs w
  | [], n, k, h', ks, es, h, hd => by
    unfold genHp at h; simp at h; obtain ⟨rfl, rfl, rfl⟩ := h
    exact ⟨[], rfl, trivial, rfl, fun σ _ j c hc => by simp at hc⟩
  | none :: g, n, k, h', ks, es, h, hd => by
    have hd' : ∀ (j : Nat) (c : List AV), g[j]? = some (some c) → ∃ m vs, β (k + 1 + j) = some m ∧ denL β ρ c = some vs ∧ CellsAt m vs w := fun j c hc => by rw [show k + 1 + j = k + (j + 1) by omega]; exact hd (j + 1) c (by simpa using hc)
    unfold genHp at h
    split at h
    · rename_i h2 k2 e2 h1
      simp at h; obtain ⟨rfl, rfl, rfl⟩ := h
      obtain ⟨us, b1, b2, b3, b4⟩ := genHp_den h1 hd'
      refine ⟨us, b1, b2, by rw [List.length_cons, b3]; rfl, fun σ hσ j c hc => ?_⟩
      cases j with
      | zero => simp at hc
      | succ j => rw [show k + (j + 1) = k + 1 + j by omega]; exact b4 σ hσ j c (by simpa using hc)
    · simp at h
  | some c0 :: g, n, k, h', ks, es, h, hd => by
    have hd' : ∀ (j : Nat) (c : List AV), g[j]? = some (some c) → ∃ m vs, β (k + 1 + j) = some m ∧ denL β ρ c = some vs ∧ CellsAt m vs w := fun j c hc => by rw [show k + 1 + j = k + (j + 1) by omega]; exact hd (j + 1) c (by simpa using hc)
    obtain ⟨m, vs, c1, c2, c3⟩ := hd 0 c0 rfl
    unfold genHp at h
    split at h
    · rename_i l1 k1 e1 h1
      split at h
      · rename_i h2 k2 e2 hh
        simp at h; obtain ⟨rfl, rfl, rfl⟩ := h
        obtain ⟨us, a1, a2, a3, a4⟩ := genTm_den (g := fun j => vs.getD j undef) h1 (fun j v hv => by
          obtain ⟨x, x1, x2⟩ := denL_get c2 hv
          rw [x1, Nat.zero_add, List.getD_eq_getElem?_getD, x2]; rfl)
        obtain ⟨us', b1, b2, b3, b4⟩ := genHp_den hh hd'
        refine ⟨us ++ us', evs_append a1 b1, a2.append b2, by rw [List.length_cons, b3]; rfl, fun σ hσ j c hc => ?_⟩
        cases j with
        | zero =>
          simp at hc; subst hc
          exact ⟨m, vs, c1, denL_pt (by rw [a3, denL_len c2]) (fun j v hv => by have := a4 σ (fun j hj => by simp at hj) hσ.left j v hv; rwa [Nat.zero_add] at this), c3⟩
        | succ j => rw [show k + (j + 1) = k + 1 + j by omega]; exact b4 σ (hσ.right (evs_len a1)) j c (by simpa using hc)
      · simp at h
    · simp at h
end
def restr (len : Nat) (β : Blocks) : Blocks := fun k => if k < len then β k else none
theorem restr_some {len : Nat} {β : Blocks} {k n : Nat} (h : restr len β k = some n) : k < len ∧ β k = some n := by
  unfold restr at h
  split at h
  · rename_i hk; exact ⟨hk, h⟩
  · simp at h
theorem restr_eq {len : Nat} {β : Blocks} : ∀ k, k < len → restr len β k = β k := fun _ hk => if_pos hk
theorem SRel.gen {β0 β : Blocks} {w0 w : World} {ρ : List U} {st head : SF} {a : Act} (S : SRel β0 w0 β ρ st a w) {len : Nat} (hlen : len ≤ st.h.length) (hb0 : ∀ k n, β0 k = some n → k < len) {hint : LHint} {ds : List Nat} {ks : List Kd} {es : List E}
    (hg : genS hint ds len st = some (head, ks, es)) : ∃ us d, evs ρ es = some us ∧ Typed ks us ∧ head.h.length = len ∧ SRel β0 w0 (restr len β) (d :: us) head a w := by
  unfold genS at hg
  split at hg
  · rename_i tm k1 e1 h1
    split at hg
    · rename_i h k2 e2 h2
      split at hg
      · rename_i hcond
        simp at hg; obtain ⟨rfl, rfl, rfl⟩ := hg
        simp only [Bool.and_eq_true] at hcond
        obtain ⟨q1, q2⟩ := hcond
        obtain ⟨us, a1, a2, a3, a4⟩ := genTm_den (g := fun t => a.tmps.getD t undef) h1 (fun j v hv => by
          obtain ⟨x, x1, x2⟩ := S.tm j v hv
          rw [x1, Nat.zero_add, Array.getD_eq_getD_getElem?, x2]; rfl)
        obtain ⟨us', b1, b2, b3, b4⟩ := genHp_den (w := w) h2 (fun j c hc => by
          rw [Nat.zero_add]
          refine S.h j c ?_
          rw [List.getElem?_take] at hc
          split at hc
          · exact hc
          · simp at hc)
        have hA : At (U.any (fun t => a.tmps.getD t undef) :: (us ++ us')) 1 (us ++ us') := fun i x hx => by rw [Nat.add_comm]; simpa using hx
        have hl : h.length = len := by rw [b3, List.length_take]; omega
        refine ⟨us ++ us', .any (fun t => a.tmps.getD t undef), evs_append a1 b1, a2.append b2, hl, ?_⟩
        refine ⟨fun t v hv => ?_, by rw [S.sz]; exact a3.symm, fun k c hc => ?_, fun k l n hk hl => S.inj k l n (restr_some hk).2 (restr_some hl).2, fun k n hk => S.bd k n (restr_some hk).2, fun k hk => ?_, fun k n hk => by rw [restr_eq k (hb0 k n hk)]; exact S.b0 k n hk,
          fun k n hk h0 => S.new k n (restr_some hk).2 h0, S.os, S.tape, S.output, S.size, fun n hn hw => S.old n hn fun k hk => hw k (by show k ∈ st.wr ++ _; simp [hk]), S.df, ?_⟩
        · have hv' : tm[t]? = some v := hv
          have h5 := a4 _ (fun j _ => rfl) hA.left t v hv'
          have hin : inB len v = true := List.all_eq_true.1 q1 v (List.mem_of_getElem? hv')
          rw [Nat.zero_add] at h5
          refine ⟨_, by rw [inB_den (n := len) (β := β) restr_eq v hin]; exact h5, ?_⟩
          have ht : t < a.tmps.size := by rw [S.sz, ← a3]; exact (List.getElem?_eq_some_iff.1 hv').1
          simp [Array.getD_eq_getD_getElem?, ht]
        · have hc' : h[k]? = some (some c) := hc
          obtain ⟨m, vs, d1, d2, d3⟩ := b4 _ (hA.right (evs_len a1)) k c hc'
          rw [Nat.zero_add] at d1
          have hk : k < len := by rw [← hl]; exact (List.getElem?_eq_some_iff.1 hc').1
          have hin : inBL len c = true := by have := List.all_eq_true.1 q2 _ (List.mem_of_getElem? hc'); exact this
          exact ⟨m, vs, by rw [restr_eq k hk]; exact d1, by rw [inBL_den (n := len) (β := β) restr_eq c hin]; exact d2, d3⟩
        · have hk' : h.length ≤ k := hk
          unfold restr; rw [if_neg (by omega)]
        · show (us ++ us').length + 1 = 1 + e1.length + e2.length
          rw [List.length_append, evs_len a1, evs_len b1]; omega
      · simp at hg
    · simp at hg
  · simp at hg
theorem sameH_eq : ∀ {h g : Heap}, sameH h g = true → h = g
  | [], [], _ => rfl
  | none :: h, none :: g, e => by rw [sameH] at e; rw [sameH_eq e]
  | some c :: h, some d :: g, e => by
    rw [sameH, Bool.and_eq_true] at e
    rw [sameL_eq _ _ e.1, sameH_eq e.2]
  | none :: _, some _ :: _, e => by simp [sameH] at e
  | some _ :: _, none :: _, e => by simp [sameH] at e
  | [], _ :: _, e => by simp [sameH] at e
  | _ :: _, [], e => by simp [sameH] at e
theorem sameK_eq : ∀ {h g : List Kd}, sameK h g = true → h = g
  | [], [], _ => rfl
  | k :: h, l :: g, e => by
    rw [sameK, Bool.and_eq_true] at e
    rw [sameK_eq e.2, show k = l by cases k <;> cases l <;> simp [Kd.same] at e ⊢]
  | [], _ :: _, e => by simp [sameK] at e
  | _ :: _, [], e => by simp [sameK] at e
/-- Behind a round. -/
theorem SRel.again {β0 β : Blocks} {w0 w : World} {ρ : List U} {st head : SF} {a : Act} (S : SRel β0 w0 β ρ st a w) (hb0 : ∀ k n, β0 k = some n → k < head.h.length) {hint : LHint} {ds : List Nat} {ks : List Kd} {Q : List U → Ex → SF → Prop} {L : List (List U → Prop)} {R : List U → Prop}
    (hh : (againT hint ds head ks st).holdsL Q (R :: L) ρ) : ∃ us d β', R us ∧ Typed ks us ∧ SRel β0 w0 β' (d :: us) head a w := by
  unfold againT at hh
  split at hh
  · rename_i st' ks' es' hg
    split at hh
    · rename_i hc
      simp only [Bool.and_eq_true] at hc
      obtain ⟨⟨⟨⟨⟨c1, c2⟩, c3⟩, c4⟩, c6⟩, c5⟩ := hc
      have hlen : head.h.length ≤ st.h.length := of_decide_eq_true c6
      obtain ⟨us, d, h1, h2, h3, S'⟩ := S.gen hlen hb0 hg
      generalize restr head.h.length β = β1 at S'
      have hR : (match evs ρ es' with | some us => againH (R :: L) us | none => False) := hh
      rw [h1] at hR
      have e1 := sameL_eq _ _ c1
      have e2 := sameH_eq c2
      have e3 := sameK_eq c3
      have e4 := Nat.eq_of_beq_eq_true c4
      refine ⟨us, d, _, hR, by rw [← e3]; exact h2, ⟨by rw [← e1]; exact S'.tm, by rw [← e1]; exact S'.sz, by rw [← e2]; exact S'.h, S'.inj, S'.bd, by rw [← e2]; exact S'.dom, S'.b0, S'.new, S'.os, S'.tape, S'.output, S'.size, fun n hn hw => S.old n hn fun k hk => ?_, S'.df, by rw [← e4]; exact S'.nv⟩⟩
      have h5 := List.all_eq_true.1 c5 k hk
      simp only [Bool.or_eq_true, decide_eq_true_eq] at h5
      rcases h5 with h5 | h5
      · exact hw k (List.contains_iff_mem.1 h5)
      · intro hbk
        have := hb0 k n hbk
        omega
    · exact hh.elim
  · exact hh.elim
/-- What is shown of drawn regions. -/
def DrOk (P : Program) (dr : Array Oper → SF → (SF → T) → T) : Prop :=
  ∀ (Q : List U → Ex → SF → Prop) (L : List (List U → Prop)) (β0 : Blocks) (w0 : World) (id : Nat) (ops : Array Oper) (k : SF → T) (Qx : Exit → Act → World → Prop),
    (∀ β' ρ' st' a' w', (k st').holdsL Q L ρ' → SRel β0 w0 β' ρ' st' a' w' → Qx .normal a' w') →
    ∀ (β : Blocks) (ρ : List U) (st : SF) (a : Act) (w : World), (dr ops st k).holdsL Q L ρ → SRel β0 w0 β ρ st a w → (Code.region id ops true).wp P Qx a w

section
variable {P : Program} {cts : List (Nat × Ct)} {dr : Array Oper → SF → (SF → T) → T} {lh : List (Nat × LHint)} {Q : List U → Ex → SF → Prop} {β0 : Blocks} {w0 : World} {Qx : Exit → Act → World → Prop}

theorem SRel.setO {β : Blocks} {ρ : List U} {st : SF} {a : Act} {w : World} (S : SRel β0 w0 β ρ st a w) {c : Operand} {e : E} (hc : opd st.tm c = some (.bo e)) {x : Bool} (hx : e.ev ρ = some (.b x)) : SRel β0 w0 β ρ (setO st c x) a w := by
  cases c with
  | tmp t => exact S.same (opd_tmp hc).1 (by rw [bo_den hx]; rfl)
  | _ => exact S

theorem evC_ok (hcts : AllOk P cts) (hdr : DrOk P dr) : ∀ (n : Nat) (L : List (List U → Prop)),
    (∀ (c : Code) (Qx : Exit → Act → World → Prop) (k : Ex → SF → T), (∀ x β' ρ' st' a' w', (k x st').holdsL Q L ρ' → SRel β0 w0 β' ρ' st' a' w' → Qx x.out a' w') →
      ∀ (β : Blocks) (ρ : List U) (st : SF) (a : Act) (w : World), (evC P cts dr lh n c st k).holdsL Q L ρ → SRel β0 w0 β ρ st a w → c.wp P Qx a w) ∧
    (∀ (c : Code) (Qx : Exit → Act → World → Prop) (k : Ex → SF → T), hintOf lh c = none → (∀ x β' ρ' st' a' w', (k x st').holdsL Q L ρ' → SRel β0 w0 β' ρ' st' a' w' → Qx x.out a' w') →
      ∀ (β : Blocks) (ρ : List U) (st : SF) (a : Act) (w : World), (evC P cts dr lh n (.loop c) st k).holdsL Q L ρ → SRel β0 w0 β ρ st a w → Code.rounds P c Qx n a w)
  | 0, _ => ⟨fun c Qx k hk β ρ st a w hh S => hh.elim, fun c Qx k _ hk β ρ st a w hh S => hh.elim⟩
  | n + 1, L => by
    obtain ⟨ih, ihl⟩ := evC_ok hcts hdr n L
    have loop : ∀ (c : Code) (Qx : Exit → Act → World → Prop) (k : Ex → SF → T), hintOf lh c = none → (∀ x β' ρ' st' a' w', (k x st').holdsL Q L ρ' → SRel β0 w0 β' ρ' st' a' w' → Qx x.out a' w') →
      ∀ (β : Blocks) (ρ : List U) (st : SF) (a : Act) (w : World), (evC P cts dr lh (n + 1) (.loop c) st k).holdsL Q L ρ → SRel β0 w0 β ρ st a w → Code.rounds P c Qx (n + 1) a w := by
      intro c Qx k hnh hk β ρ st a w hh S
      rw [rounds_succ]
      unfold evC at hh
      dsimp only at hh
      rw [hnh] at hh
      dsimp only at hh
      refine ih c _ _ (fun x β' ρ' st' a' w' h1 S1 => ?_) β ρ st a w hh S
      cases x with
      | nrm => exact ihl c Qx k hnh hk β' ρ' st' a' w' h1 S1
      | ext id => exact hk (.ext id) β' ρ' st' a' w' h1 S1
      | ret => exact hk .ret β' ρ' st' a' w' h1 S1
    have loopH : ∀ (c : Code) (Qx : Exit → Act → World → Prop) (k : Ex → SF → T) (hint : LHint), hintOf lh c = some hint → (∀ x β' ρ' st' a' w', (k x st').holdsL Q L ρ' → SRel β0 w0 β' ρ' st' a' w' → Qx x.out a' w') →
      ∀ (β : Blocks) (ρ : List U) (st : SF) (a : Act) (w : World), (evC P cts dr lh (n + 1) (.loop c) st k).holdsL Q L ρ → SRel β0 w0 β ρ st a w → (Code.loop c).wp P Qx a w := by
      intro c Qx k hint hnh hk β ρ st a w hh S
      unfold evC at hh
      dsimp only at hh
      rw [hnh] at hh
      dsimp only at hh
      split at hh
      · rename_i head ks es hg
        obtain ⟨I, μ, hI, hB⟩ := hh
        have hb0 : ∀ k n, β0 k = some n → k < st.h.length := fun k n hk => by
          rcases Nat.lt_or_ge k st.h.length with h1 | h1
          · exact h1
          · have := S.dom k h1
            rw [S.b0 k n hk] at this; cases this
        obtain ⟨us, d, h1, h2, h3, S0⟩ := S.gen (Nat.le_refl _) hb0 hg
        rw [h1] at hI
        have key : ∀ (N : Nat) (us : List U) (d : U) (β : Blocks) (a : Act) (w : World), μ us < N → I us → Typed ks us → SRel β0 w0 β (d :: us) head a w → Code.rounds P c Qx N a w := by
          intro N
          induction N with
          | zero => intro us d β a w h; omega
          | succ N ihN =>
            intro us d β a w hμ hIu hty Su
            rw [rounds_succ]
            refine (evC_ok hcts hdr n _).1 c _ _ (fun x β' ρ' st' a' w' g1 S1 => ?_) β (d :: us) head a w (hB us d hty hIu) Su
            cases x with
            | nrm =>
              obtain ⟨us', d', β'', hR, hty', S2⟩ := S1.again (by rw [h3]; exact hb0) g1
              exact ihN us' d' β'' a' w' (by have := hR.2; omega) hR.1 hty' S2
            | ext id => exact hk (.ext id) β' ρ' st' a' w' g1 S1
            | ret => exact hk .ret β' ρ' st' a' w' g1 S1
        exact wp_loop_rounds (μ us + 1) (key (μ us + 1) us d _ a w (by omega) hI h2 S0)
      · exact hh.elim
    refine ⟨fun c Qx k hk β ρ st a w hh S => ?_, loop⟩
    cases c with
    | skip => exact wp_skip (hk .nrm β ρ st a w hh S)
    | label l => exact wp_label (hk .nrm β ρ st a w hh S)
    | region id ops draw =>
      cases draw with
      | true => exact hdr Q L β0 w0 id ops (k .nrm) Qx (fun β' ρ' st' a' w' h1 S1 => hk .nrm β' ρ' st' a' w' h1 S1) β ρ st a w hh S
      | false =>
        refine wp_region ?_
        have h1 := evOps_ok (Qx := Qx) (k := k .nrm) hcts ops (fun β' ρ' st' a' w' h1 S1 => hk .nrm β' ρ' st' a' w' h1 S1) ops.toList 0 (fun j o hj => by simpa using hj) β ρ st a w hh S
        rw [List.range_eq_range']
        simpa using h1
    | seq x y =>
      refine wp_seq (ih x _ _ (fun e β' ρ' st' a' w' h1 S1 => ?_) β ρ st a w hh S)
      cases e with
      | nrm => exact ih y Qx k hk β' ρ' st' a' w' h1 S1
      | ext id => exact hk (.ext id) β' ρ' st' a' w' h1 S1
      | ret => exact hk .ret β' ρ' st' a' w' h1 S1
    | cond c t f =>
      unfold evC at hh
      dsimp only at hh
      split at hh
      · rename_i x hc
        obtain ⟨y, h1, h2⟩ := den_bo (opd_den (S.ops [c]) (by simp) hc)
        simp [E.ev] at h1; subst h1
        refine wp_cond h2 ?_
        cases x <;> exact ih _ Qx k hk β ρ st a w hh S
      · rename_i e hne hc
        have hh' : (match e.ev ρ with | some (.b x) => (x = true → (evC P cts dr lh n t (setO st c true) k).holdsL Q L ρ) ∧ (x = false → (evC P cts dr lh n f (setO st c false) k).holdsL Q L ρ) | _ => False) := hh
        obtain ⟨y, h1, h2⟩ := den_bo (opd_den (S.ops [c]) (by simp) hc)
        rw [h1] at hh'
        refine wp_cond h2 ?_
        cases y with
        | true => exact ih _ Qx k hk β ρ _ a w (hh'.1 rfl) (S.setO hc h1)
        | false => exact ih _ Qx k hk β ρ _ a w (hh'.2 rfl) (S.setO hc h1)
      · exact hh.elim
    | block id body =>
      refine wp_block (ih body _ _ (fun e β' ρ' st' a' w' h1 S1 => ?_) β ρ st a w hh S)
      cases e with
      | nrm => exact hk .nrm β' ρ' st' a' w' h1 S1
      | ext i =>
        dsimp only at h1
        show (if i = id then Qx .normal a' w' else Qx (.exit i) a' w')
        split
        · rename_i hi
          rw [if_pos hi] at h1
          exact hk .nrm β' ρ' st' a' w' h1 S1
        · rename_i hi
          rw [if_neg hi] at h1
          exact hk (.ext i) β' ρ' st' a' w' h1 S1
      | ret => exact hk .ret β' ρ' st' a' w' h1 S1
    | loop body =>
      cases hnh : hintOf lh body with
      | none => exact wp_loop_rounds (n + 1) (loop body Qx k hnh hk β ρ st a w hh S)
      | some hint => exact loopH body Qx k hint hnh hk β ρ st a w hh S
    | exit id => exact wp_exit (hk (.ext id) β ρ st a w hh S)
    | ret => exact wp_ret (hk .ret β ρ st a w hh S)
    | _ => exact hh.elim

def resFn (tmps : Array Value) (r : ResultVar) : Sem Value := match r with
  | .tmp t => pure (tmps.getD t undef)
  | .cell a t => do loadVar t (← asAddr (tmps.getD a undef))
theorem results_eq (fn : Func) (tmps : Array Value) : results fn tmps = (do
    let vs ← fn.results.mapM (resFn tmps)
    pure (if h : vs.size = 1 then vs[0] else .tuple vs)) := rfl
theorem resL_den {β : Blocks} {ρ : List U} {st : SF} {a : Act} {w : World} (S : SRel β0 w0 β ρ st a w) : ∀ {rs : List ResultVar} {l : List AV}, resL P st rs = some l →
    ∃ vs, denL β ρ l = some vs ∧ (rs.mapM (resFn a.tmps)).run P w = .ok vs w
  | [], l, h => by unfold resL at h; simp at h; subst h; exact ⟨[], rfl, by simp⟩
  | .tmp t :: rs, l, h => by
    unfold resL at h
    split at h
    · rename_i x y hx hy
      simp at h; subst h
      obtain ⟨vs, h1, h2⟩ := resL_den S hy
      obtain ⟨u, h3, h4⟩ := S.tm t x hx
      refine ⟨u :: vs, denL_cons.2 ⟨u, vs, h3, h1, rfl⟩, ?_⟩
      rw [List.mapM_cons]
      have hg : a.tmps.getD t undef = u := by simp [Array.getD_eq_getD_getElem?, h4]
      simp only [resFn, Sem.run_bind, Sem.run_pure, Result.andThen_ok, h2, hg]
    · simp at h
  | .cell x t :: rs, l, h => by
    unfold resL at h
    split at h
    · rename_i b o y hx hy
      split at h
      · rename_i c hc
        split at h
        · rename_i v hv
          simp at h; subst h
          obtain ⟨vs, h1, h2⟩ := resL_den S hy
          obtain ⟨u, h3, h4⟩ := S.tm x _ hx
          obtain ⟨n, h5, h6⟩ := den_ptr h3
          obtain ⟨m, us, g1, g2, g3⟩ := S.h b c hc
          rw [h5] at g1; simp at g1; subst g1
          have hg : a.tmps.getD x undef = .pointer (some ⟨n, o, none⟩) := by simp [Array.getD_eq_getD_getElem?, h4, h6]
          have key : ∃ z, den β ρ v = some z ∧ (loadVar t ⟨n, o, none⟩).run P w = .ok z w := by
            unfold partAV at hv
            split at hv
            · rename_i ha
              split at hv
              · rename_i k hk
                split at hv
                · rename_i hle
                  simp at hv; subst hv
                  obtain ⟨d, hd1, hd2⟩ := agg_desc ha
                  have hl := denL_len g2
                  refine ⟨.agg ((us.drop o).take k).toArray, by unfold den; rw [denL_take k (denL_drop o g2)], ?_⟩
                  refine run_loadVar_mid (P := P) w n o t ((us.drop o).take k) d (fun j z hj => ?_) hd1 hd2 (by rw [size_info hk]; congr 1; simp; omega)
                  have : us[o + j]? = some z := by
                    rw [List.getElem?_take] at hj
                    split at hj
                    · rwa [List.getElem?_drop] at hj
                    · simp at hj
                  exact (g3 _ _ this).1
                · simp at hv
              · simp at hv
            · rename_i ha
              obtain ⟨z, h7, h8⟩ := denL_get g2 hv
              exact ⟨z, h7, by simp [loadVar, run_agg ha, (g3 _ _ h8).1]⟩
            · simp at hv
          obtain ⟨z, k1, k2⟩ := key
          refine ⟨z :: vs, denL_cons.2 ⟨z, vs, k1, h1, rfl⟩, ?_⟩
          rw [List.mapM_cons]
          rw [Sem.run_bind, show (resFn a.tmps (.cell x t)).run P w = .ok z w from by simp only [resFn, Sem.run_bind, hg, asAddr, Sem.run_pure, Result.andThen_ok, k2]]
          simp only [Sem.run_bind, Result.andThen_ok, h2, Sem.run_pure]
        · simp at h
      · simp at h
    · simp at h

theorem results_ok {fn : Func} {β : Blocks} {ρ : List U} {st : SF} {a : Act} {w : World} (S : SRel β0 w0 β ρ st a w) {l : List AV} (h : resL P st fn.results.toList = some l) :
    ∃ v, den β ρ (res1 l) = some v ∧ (results fn a.tmps).run P w = .ok v w := by
  obtain ⟨vs, h1, h2⟩ := resL_den S h
  have hl := denL_len h1
  have h2' : (fn.results.mapM (resFn a.tmps)).run P w = .ok vs.toArray w := by
    rw [Array.mapM_eq_mapM_toList]
    simp only [Sem.run_map, h2, Result.andThen_ok]
  refine ⟨if h : vs.toArray.size = 1 then vs.toArray[0] else .tuple vs.toArray, ?_, ?_⟩
  · unfold res1
    split
    · rename_i x
      obtain ⟨u, us, k1, k2, rfl⟩ := denL_cons.1 h1
      rw [denL_nil.1 k2]
      simpa using k1
    · rename_i hne
      have : vs.toArray.size ≠ 1 := by
        intro h3
        simp at h3
        rw [h3] at hl
        cases l with
        | nil => simp at hl
        | cons x t => cases t with
          | nil => exact hne x rfl
          | cons y t => simp at hl
      rw [dif_neg this]
      unfold den; rw [h1]
  · rw [results_eq]
    simp only [Sem.run_bind, h2', Result.andThen_ok, Sem.run_pure]

theorem denL_repl (β : Blocks) (ρ : List U) : ∀ n, denL β ρ (List.replicate n .und) = some (List.replicate n undef)
  | 0 => rfl
  | n + 1 => by
    rw [List.replicate_succ, List.replicate_succ]
    exact denL_cons.2 ⟨undef, _, rfl, denL_repl β ρ n, rfl⟩

/-- A call, by symbols. -/
theorem calls_eval (hcts : AllOk P cts) (hdr : DrOk P dr) {f : Nat} {fn : Func} (hf : P.funcs[f]? = some fn) (fuel m : Nat) {blks : List (List AV)} {args : List AV} {us : List U} {β : Blocks} {w : World} {vs : List Value}
    (hm : us.length = m) {jn : Option Nat} (hh : (evF P cts dr lh fuel fn m blks args jn).holdsL Q [] us) (inj : ∀ (k l n : Nat), β k = some n → β l = some n → k = l) (bd : ∀ (k n : Nat), β k = some n → n < w.heap.size) (dom : ∀ k, blks.length ≤ k → β k = none)
    (hB : ∀ (k : Nat) (c : List AV), blks[k]? = some c → ∃ n ys, β k = some n ∧ denL β us c = some ys ∧ CellsAt n ys w) (hv : denL β us args = some vs) :
    Calls P f vs.toArray w fun e w' => ∃ β' ρ' st' a' r v, SRel β w β' ρ' st' a' w' ∧ Q ρ' .ret (cutS blks.length jn r st') ∧ den β' ρ' r = some v ∧ e = .returned v := by
  unfold evF at hh
  cases hb : fn.body with
  | none => rw [hb] at hh; exact hh.elim
  | some c =>
    rw [hb] at hh
    dsimp only at hh
    refine calls_of_wp hf hb ?_
    have htm : denL β us (args ++ List.replicate (fn.ntmps - args.length) .und) = some (vs ++ List.replicate (fn.ntmps - args.length) undef) := denL_append hv (denL_repl _ _ _)
    have hlen := denL_len hv
    have S : SRel β w β us { tm := args ++ List.replicate (fn.ntmps - args.length) .und, h := blks.map some, nv := m, wr := [] } { tmps := vs.toArray ++ Array.replicate (fn.ntmps - vs.toArray.size) undef, defers := [] } w := by
      refine ⟨fun t v ht => ?_, ?_, fun k c hk => hB k c (by rw [List.getElem?_map] at hk; cases h0 : blks[k]? <;> rw [h0] at hk <;> simp at hk; rw [hk]), inj, bd, (by rw [List.length_map]; exact dom), fun _ _ h => h, fun k n h1 h2 => (by rw [h1] at h2; cases h2), rfl, rfl, rfl, Nat.le_refl _, fun _ _ _ => rfl, rfl, hm⟩
      · obtain ⟨u, h1, h2⟩ := denL_get htm ht
        refine ⟨u, h1, ?_⟩
        rw [← Array.getElem?_toList]
        simpa [hlen] using h2
      · simp [hlen]
    refine (evC_ok (Q := Q) hcts hdr fuel []).1 c _ _ (fun x β' ρ' st' a' w' h1 S1 => ?_) β us _ _ w hh S
    have fin : ∀ {l : List AV}, resL P st' fn.results.toList = some l → Q ρ' .ret (cutS blks.length jn (res1 l) st') →
        a'.defers = [] ∧ ∃ v, (results fn a'.tmps).run P w' = .ok v w' ∧ ∃ β' ρ' st' a' r u, SRel β w β' ρ' st' a' w' ∧ Q ρ' .ret (cutS blks.length jn r st') ∧ den β' ρ' r = some u ∧ Ending.returned v = .returned u := by
      intro l hl hq
      obtain ⟨v, h2, h3⟩ := results_ok S1 hl
      exact ⟨S1.df, v, h3, β', ρ', st', a', res1 l, v, S1, hq, h2, rfl⟩
    unfold evK at h1
    cases x with
    | ext id => exact h1.elim
    | nrm =>
      dsimp only at h1
      split at h1
      · rename_i l hl; exact fin hl h1
      · exact h1.elim
    | ret =>
      dsimp only at h1
      split at h1
      · rename_i l hl; exact fin hl h1
      · exact h1.elim

/-! Contracts -/
mutual
/-- What is known of the numbers of a value. -/
def Facts (ρ : List U) : AV → Prop
  | .fl (.v n) => ∃ x, ρ[n]? = some (.f x) ∧ x < W64
  | .it _ (.v n) => ∃ x, ρ[n]? = some (.i x)
  | .bo (.v n) => ∃ x, ρ[n]? = some (.b x)
  | .fn _ a c => FactsL ρ a ∧ FactsL ρ c
  | .agg l => FactsL ρ l
  | .tup l => FactsL ρ l
  | _ => True
def FactsL (ρ : List U) : List AV → Prop
  | [] => True
  | a :: l => Facts ρ a ∧ FactsL ρ l
end
mutual
theorem den_facts {β : Blocks} {ρ : List U} : ∀ (a : AV) {v : Value}, den β ρ a = some v → Facts ρ a
  | .fl (.v n), v, h => by obtain ⟨x, h1, h2, _⟩ := den_fl h; exact ⟨x, h1, h2⟩
  | .fl (.l u), v, h => trivial
  | .it k (.v n), v, h => by obtain ⟨x, h1, _⟩ := den_it h; exact ⟨x, h1⟩
  | .it k (.l u), v, h => trivial
  | .bo (.v n), v, h => by obtain ⟨x, h1, _⟩ := den_bo h; exact ⟨x, h1⟩
  | .bo (.l u), v, h => trivial
  | .fn f a c, v, h => by obtain ⟨x, y, h1, h2, _⟩ := den_fn h; exact ⟨denL_facts a h1, denL_facts c h2⟩
  | .agg l, v, h => by obtain ⟨x, h1, _⟩ := den_agg h; exact denL_facts l h1
  | .tup l, v, h => by obtain ⟨x, h1, _⟩ := den_tup h; exact denL_facts l h1
  | .ptr _ _, v, h => trivial
  | .pnil, v, h => trivial
  | .slc _ _ _ _, v, h => trivial
  | .snil, v, h => trivial
  | .fnil, v, h => trivial
  | .und, v, h => trivial
  | .str _, v, h => trivial
  | .val _ _, v, h => trivial
theorem denL_facts {β : Blocks} {ρ : List U} : ∀ (l : List AV) {vs : List Value}, denL β ρ l = some vs → FactsL ρ l
  | [], _, _ => trivial
  | a :: l, vs, h => by
    obtain ⟨x, y, h1, h2, _⟩ := denL_cons.1 h
    exact ⟨den_facts a h1, denL_facts l h2⟩
end
def FactsB (ρ : List U) : List (List AV) → Prop
  | [] => True
  | c :: l => FactsL ρ c ∧ FactsB ρ l
theorem factsB {ρ : List U} : ∀ {l : List (List AV)}, (∀ (k : Nat) (c : List AV), l[k]? = some c → FactsL ρ c) → FactsB ρ l
  | [], _ => trivial
  | c :: l, h => ⟨h 0 c rfl, factsB fun k d hd => h (k + 1) d (by simpa using hd)⟩

/-- All variables of a contract. -/
def runB : List Bind → List U → List U
  | [], us => us
  | b :: l, us => runB l (us ++ resl b ((evs us b.args).getD []))
def argsIn (m : Nat) : List Bind → Bool
  | [] => true
  | b :: l => (b.args.all fun e => match e with | .v n => decide (n < m) | .l _ => true) && argsIn (m + b.m) l

theorem evs_some {ρ : List U} : ∀ {l : List E}, (l.all fun e => match e with | .v n => decide (n < ρ.length) | .l _ => true) = true → ∃ us, evs ρ l = some us
  | [], _ => ⟨[], rfl⟩
  | e :: l, h => by
    simp only [List.all_cons, Bool.and_eq_true] at h
    obtain ⟨us, h2⟩ := evs_some h.2
    cases e with
    | v n =>
      have hlt : n < ρ.length := by simpa using h.1
      exact ⟨ρ[n] :: us, by unfold evs; rw [show (E.v n).ev ρ = ρ[n]? from rfl, List.getElem?_eq_getElem hlt, h2]⟩
    | l u => exact ⟨u :: us, by unfold evs; rw [h2]; rfl⟩
theorem runB_pre {ρ : List U} : ∀ {l : List Bind} {us : List U}, argsIn us.length l = true → (∀ (k : Nat) (u : U), us[k]? = some u → ρ[k]? = some u) → BindsAt ρ us.length l → ∀ (k : Nat) (u : U), (runB l us)[k]? = some u → ρ[k]? = some u
  | [], us, _, hp, _ => hp
  | b :: l, us, ha, hp, hb => by
    simp only [argsIn, Bool.and_eq_true] at ha
    obtain ⟨⟨xs, h1, h2⟩, h3⟩ := hb
    obtain ⟨ys, h4⟩ := evs_some (ρ := us) ha.1
    have h5 := evs_more (β := fun _ => none) (β' := fun _ => none) ⟨fun _ _ h => h, hp⟩ h4
    rw [h1] at h5; simp at h5; subst h5
    have hl : (resl b xs).length = b.m := by simp [resl]
    unfold runB
    rw [h4, Option.getD_some]
    refine runB_pre (by rw [List.length_append, hl]; exact ha.2) (fun k u hk => ?_) (by rw [List.length_append, hl]; exact h3)
    rcases Nat.lt_or_ge k us.length with hlt | hge
    · rw [List.getElem?_append_left hlt] at hk; exact hp k u hk
    · rw [List.getElem?_append_right hge] at hk
      have hlt : k - us.length < b.m := by have := (List.getElem?_eq_some_iff.1 hk).1; omega
      unfold resl at hk
      rw [List.getElem?_map, List.getElem?_range hlt] at hk
      simp at hk; subst hk
      have := h2 _ hlt
      rwa [show us.length + (k - us.length) = k by omega] at this

/-- The new block's name, told otherwise. -/
def renB (nb : Nat) (jn : Option Nat) (β : Blocks) : Blocks := match jn with
  | some j => fun k => if k = nb then β j else β k
  | none => β
/-- What a way's end has to be. -/
def Leaf (ct : Ct) (jn : Option Nat) (σ : List U) (ρ : List U) (_ : Ex) (st : SF) : Prop :=
  (∃ r, st.tm = [r] ∧ ∀ β, den β ρ r = den (renB ct.blks.length jn β) σ ct.eff.val) ∧ (∀ k c, (k, c) ∈ ct.eff.upd → ∃ d, st.h[k]? = some (some d) ∧ ∀ β, denL β ρ d = denL (renB ct.blks.length jn β) σ c) ∧ (∀ k, k ∈ st.wr → k ∈ ct.eff.upd.map (·.1)) ∧
  ∀ c, ct.eff.new = some c → ∃ d, st.h[ct.blks.length]? = some (some d) ∧ ∀ β, denL β ρ d = denL (renB ct.blks.length jn β) σ c

/-- The contract's form is right. -/
def nbT (ct : Ct) : Nat := match ct.eff.new with
  | some _ => ct.blks.length + 1
  | none => ct.blks.length
def ctB (ct : Ct) (jn : Option Nat) : Bool := argsIn ct.m ct.eff.binds && (ct.eff.upd.all fun x => decide (x.1 < ct.blks.length) && inBL (nbT ct) x.2) && inB (nbT ct) ct.eff.val && (match ct.eff.new, jn with | none, none => true | some c, some _ => inBL (nbT ct) c | _, _ => false) &&
  (ct.eff.needs.all fun n => n.args.all fun e => match e with | .v k => decide (k < ct.m + nvB ct.eff.binds) | .l _ => true)
theorem runB_len : ∀ (l : List Bind) (us : List U), (runB l us).length = us.length + nvB l
  | [], us => rfl
  | b :: l, us => by
    unfold runB
    rw [runB_len l, List.length_append, show (resl b ((evs us b.args).getD [])).length = b.m by simp [resl], nvB]; omega

theorem entersOk {f : Nat} {fn : Func} (hf : P.funcs[f]? = some fn) (hb : fn.body.isSome = true) (hn : (fn.name == "runtime.NumGoroutine") = false) (args : Array Value) (w : World) : (callFunc f args).run P w = .ok (.enter f args) w := by
  unfold callFunc
  have hb' : fn.body.isNone = false := by cases h : fn.body <;> simp_all
  simp only [Sem.run_bind, run_program, Result.andThen_ok, hf, hn, hb', Bool.false_eq_true, if_false]
  rfl

/-- A function's contract by its text. -/
theorem CtOk.of_eval (hcts : AllOk P cts) (hdr : DrOk P dr) {f : Nat} {fn : Func} (hf : P.funcs[f]? = some fn) (hb : fn.body.isSome = true) (hn : (fn.name == "runtime.NumGoroutine") = false) (lh : List (Nat × LHint)) (fuel : Nat) {ct : Ct} {jn : Option Nat} (hct : ctB ct jn = true) {t : T} (ht : evF P cts dr lh fuel fn ct.m ct.blks ct.args jn = t)
    (H : ∀ us, us.length = ct.m → FactsL us ct.args → FactsB us ct.blks → NeedsAt (runB ct.eff.binds us) ct.eff.needs → t.holds (Leaf ct jn (runB ct.eff.binds us)) us) (hv0 : (ct.args.all fun a => varsIn ct.m a) = true) (hv1 : (ct.blks.all fun c => c.all fun a => varsIn ct.m a) = true) : CtOk P f ct := by
  simp only [ctB, Bool.and_eq_true] at hct
  obtain ⟨⟨⟨⟨c1, c2⟩, c3⟩, c4⟩, c5⟩ := hct
  refine CtOk.mk' (entersOk hf hb hn) fun β ρ w vs inj bd dom hB hv hm hbinds hneeds => ?_
  have hl : (ρ.take ct.m).length = ct.m := by simp; omega
  have hpre : ∀ (k : Nat) (u : U), (ρ.take ct.m)[k]? = some u → ρ[k]? = some u := fun k u hk => by
    rw [List.getElem?_take] at hk
    split at hk
    · exact hk
    · simp at hk
  have back : ∀ (k : Nat), k < ct.m → (ρ.take ct.m)[k]? = ρ[k]? := fun k hk => by rw [List.getElem?_take, if_pos hk]
  have hrun := runB_pre (ρ := ρ) (us := ρ.take ct.m) (by rw [hl]; exact c1) hpre (by rw [hl]; exact hbinds)
  have MR : ∀ β, More β β (runB ct.eff.binds (ρ.take ct.m)) ρ := fun β => ⟨fun _ _ h => h, hrun⟩
  have hvt : denL β (ρ.take ct.m) ct.args = some vs := by rw [varsL_den (fun k hk => back k hk) ct.args (by simpa using hv0)]; exact hv
  have hBt : ∀ (k : Nat) (c : List AV), ct.blks[k]? = some c → ∃ n ys, β k = some n ∧ denL β (ρ.take ct.m) c = some ys ∧ CellsAt n ys w := fun k c hc => by
    obtain ⟨n, ys, h1, h2, h3⟩ := hB k c hc
    exact ⟨n, ys, h1, by rw [varsL_den (fun k hk => back k hk) c (by have := List.all_eq_true.1 hv1 c (List.mem_of_getElem? hc); simpa using this)]; exact h2, h3⟩
  have hneed : NeedsAt (runB ct.eff.binds (ρ.take ct.m)) ct.eff.needs := fun n hn => by
    obtain ⟨us, h1, h2⟩ := hneeds n hn
    have hall := List.all_eq_true.1 c5 n hn
    obtain ⟨us', h3⟩ := evs_some (ρ := runB ct.eff.binds (ρ.take ct.m)) (l := n.args) (by rw [runB_len, hl]; exact hall)
    have h4 := evs_more (MR β) h3
    rw [h1] at h4; simp at h4; subst h4
    exact ⟨us, h3, h2⟩
  have hT := H (ρ.take ct.m) hl (denL_facts _ hvt) (factsB fun k c hc => by obtain ⟨n, ys, _, h2, _⟩ := hBt k c hc; exact denL_facts _ h2) hneed
  rw [← ht] at hT
  refine (calls_eval hcts hdr hf fuel ct.m hl hT inj bd dom hBt hvt).mono fun e w' ⟨β', ρ', st', a', r, v, S, hleaf, hr, he⟩ => ?_
  obtain ⟨⟨r', h1, h2⟩, h3, h4, h5⟩ := hleaf
  have h1' : [r] = [r'] := h1
  simp at h1'; subst h1'
  have hsame : ∀ k, k < ct.blks.length → β' k = β k := fun k hk => by
    obtain ⟨n, ys, g1, _, _⟩ := hB k _ (List.getElem?_eq_getElem hk)
    rw [g1]; exact S.b0 k n g1
  have hget : ∀ (k : Nat) (d : List AV), k < ct.blks.length → (cutS ct.blks.length jn r st').h[k]? = some (some d) → st'.h[k]? = some (some d) := fun k d hk hd => by
    have hd' : (st'.h.take ct.blks.length ++ tailS ct.blks.length jn st'.h)[k]? = some (some d) := hd
    rcases Nat.lt_or_ge k (st'.h.take ct.blks.length).length with hlt | hge
    · rw [List.getElem?_append_left hlt, List.getElem?_take_of_lt hk] at hd'; exact hd'
    · rw [List.getElem?_append_right hge] at hd'
      have hlen : (st'.h.take ct.blks.length).length ≤ k := hge
      rw [List.length_take] at hlen
      have hall : st'.h.length ≤ k := by omega
      exfalso
      cases hjn : jn with
      | none => rw [hjn] at hd'; simp [tailS] at hd'
      | some j =>
        rw [hjn] at hd'
        unfold tailS at hd'
        dsimp only at hd'
        have h0 : k - (st'.h.take ct.blks.length).length = 0 := by
          rcases Nat.eq_zero_or_pos (k - (st'.h.take ct.blks.length).length) with h0 | h0
          · exact h0
          · rw [List.getElem?_eq_none (by simp; simp at h0; omega)] at hd'; simp at hd'
        rw [h0] at hd'
        simp only [List.getElem?_cons_zero, Option.some.injEq] at hd'
        split at hd'
        · rename_i hj
          rw [List.getD_eq_getElem?_getD, List.getElem?_eq_none (by omega)] at hd'
          simp at hd'
        · simp at hd'
  have upd : ∀ (γ : Blocks), (∀ k, k < nbT ct → renB ct.blks.length jn β' k = γ k) → ∀ k c, (k, c) ∈ ct.eff.upd → ∃ n vs, β k = some n ∧ denL γ ρ c = some vs ∧ CellsAt n vs w' := fun γ hγ k c hk => by
    obtain ⟨d, g1, g2⟩ := h3 k c hk
    have hk2 := List.all_eq_true.1 c2 (k, c) hk
    simp only [Bool.and_eq_true, decide_eq_true_eq] at hk2
    obtain ⟨n, ys, k1, k3, k4⟩ := S.h k d (hget k d hk2.1 g1)
    refine ⟨n, ys, by rw [← hsame k hk2.1]; exact k1, ?_, k4⟩
    rw [g2 β'] at k3
    rw [inBL_den (β := γ) hγ c hk2.2] at k3
    exact denL_more (MR γ) c k3
  have old : ∀ n, n < w.heap.size → (∀ k c, (k, c) ∈ ct.eff.upd → β k ≠ some n) → w'.heap[n]? = w.heap[n]? := fun n hn hno => S.old n hn fun k hk hb => by
    rcases Nat.lt_or_ge k ct.blks.length with hlt | hge
    · have := h4 k (by show k ∈ st'.wr.filter _; simp; exact ⟨hk, hlt⟩)
      simp at this
      obtain ⟨c, hc⟩ := this
      exact hno k c hc hb
    · rw [dom k hge] at hb; cases hb
  cases hnew : ct.eff.new with
  | none =>
    have hj : jn = none := by cases jn <;> simp_all
    subst hj
    have hnb : nbT ct = ct.blks.length := by unfold nbT; rw [hnew]
    have hγ : ∀ k, k < nbT ct → renB ct.blks.length none β' k = β k := fun k hk => hsame k (by omega)
    refine ⟨β, v, ⟨S.os, S.tape, S.output, S.size, old, upd β hγ, by rw [hnew]; rfl⟩, ?_, he⟩
    rw [h2 β', inB_den hγ _ c3] at hr
    exact den_more (MR β) _ hr
  | some c =>
    obtain ⟨d, g1, g2⟩ := h5 c hnew
    cases hjj : jn with
    | none => rw [hnew, hjj] at c4; simp at c4
    | some j =>
      subst hjj
      have hnb : nbT ct = ct.blks.length + 1 := by unfold nbT; rw [hnew]
      have hd' : (st'.h.take ct.blks.length ++ [if ct.blks.length ≤ j then st'.h.getD j none else none])[ct.blks.length]? = some (some d) := g1
      have hlen : (st'.h.take ct.blks.length).length = ct.blks.length := by
        rcases Nat.lt_or_ge st'.h.length ct.blks.length with hlt | hge
        · rw [List.getElem?_eq_none (by simp; omega)] at hd'; simp at hd'
        · simp; omega
      rw [List.getElem?_append_right (by omega), hlen, Nat.sub_self] at hd'
      simp only [List.getElem?_cons_zero, Option.some.injEq] at hd'
      have hj : ct.blks.length ≤ j ∧ st'.h[j]? = some (some d) := by
        split at hd'
        · rename_i hle
          refine ⟨hle, ?_⟩
          rw [List.getD_eq_getElem?_getD] at hd'
          cases hq : st'.h[j]? with
          | none => rw [hq] at hd'; simp at hd'
          | some x => rw [hq] at hd'; simp at hd'; rw [hd']
        · simp at hd'
      obtain ⟨n, ys, k1, k3, k4⟩ := S.h j d hj.2
      have hγ : ∀ k, k < nbT ct → renB ct.blks.length (some j) β' k = extB β ct.blks.length n k := fun k hk => by
        unfold renB extB
        dsimp only
        by_cases hk2 : k = ct.blks.length
        · rw [if_pos hk2, if_pos hk2]; exact k1
        · rw [if_neg hk2, if_neg hk2]; exact hsame k (by omega)
      have hc : denL (extB β ct.blks.length n) ρ c = some ys := by
        rw [g2 β'] at k3
        rw [hnew] at c4
        rw [inBL_den hγ c c4] at k3
        exact denL_more (MR _) c k3
      refine ⟨extB β ct.blks.length n, v, ⟨S.os, S.tape, S.output, S.size, old, upd _ hγ, ?_⟩, ?_, he⟩
      · rw [hnew]
        exact ⟨n, ys, S.new j n k1 (dom j hj.1), S.bd j n k1, rfl, hc, k4⟩
      · rw [h2 β', inB_den hγ _ c3] at hr
        exact den_more (MR _) _ hr
/-! The ends, number by number -/
mutual
def EqV (ρ σ : List U) : AV → AV → Prop
  | .fl e, .fl e' => e.ev ρ = e'.ev σ
  | .it k e, .it k' e' => k = k' ∧ e.ev ρ = e'.ev σ
  | .bo e, .bo e' => e.ev ρ = e'.ev σ
  | .ptr b o, .ptr b' o' => b = b' ∧ o = o'
  | .pnil, .pnil => True
  | .slc a b c d, .slc a' b' c' d' => a = a' ∧ b = b' ∧ c = c' ∧ d = d'
  | .snil, .snil => True
  | .fn f a c, .fn f' a' c' => f = f' ∧ EqL ρ σ a a' ∧ EqL ρ σ c c'
  | .fnil, .fnil => True
  | .agg l, .agg l' => EqL ρ σ l l'
  | .tup l, .tup l' => EqL ρ σ l l'
  | .und, .und => True
  | .str a, .str b => a = b
  | .val e t, .val e' t' => t = t' ∧ e.ev ρ = e'.ev σ
  | _, _ => False
def EqL (ρ σ : List U) : List AV → List AV → Prop
  | [], [] => True
  | a :: l, b :: m => EqV ρ σ a b ∧ EqL ρ σ l m
  | _, _ => False
end
mutual
theorem eqV_den {ρ σ : List U} (β : Blocks) : ∀ (a b : AV), EqV ρ σ a b → den β ρ a = den β σ b
  | .fl e, b, h => by cases b <;> simp [EqV] at h; unfold den; rw [h]
  | .it k e, b, h => by cases b <;> simp [EqV] at h; unfold den; rw [h.1, h.2]
  | .bo e, b, h => by cases b <;> simp [EqV] at h; unfold den; rw [h]
  | .ptr x y, b, h => by cases b <;> simp [EqV] at h; unfold den; rw [h.1, h.2]
  | .pnil, b, h => by cases b <;> simp [EqV] at h; rfl
  | .slc x y z t, b, h => by cases b <;> simp [EqV] at h; unfold den; rw [h.1, h.2.1, h.2.2.1, h.2.2.2]
  | .snil, b, h => by cases b <;> simp [EqV] at h; rfl
  | .fn f x y, b, h => by
    cases b with
    | fn f' x' y' => simp [EqV] at h; unfold den; rw [h.1, eqL_den β x x' h.2.1, eqL_den β y y' h.2.2]
    | _ => simp [EqV] at h
  | .fnil, b, h => by cases b <;> simp [EqV] at h; rfl
  | .agg l, b, h => by
    cases b with
    | agg l' => simp [EqV] at h; unfold den; rw [eqL_den β l l' h]
    | _ => simp [EqV] at h
  | .tup l, b, h => by
    cases b with
    | tup l' => simp [EqV] at h; unfold den; rw [eqL_den β l l' h]
    | _ => simp [EqV] at h
  | .und, b, h => by cases b <;> simp [EqV] at h; rfl
  | .str s, b, h => by cases b <;> simp [EqV] at h; rw [h]; rfl
  | .val e t, b, h => by cases b <;> simp [EqV] at h; unfold den; rw [h.1, h.2]
theorem eqL_den {ρ σ : List U} (β : Blocks) : ∀ (a b : List AV), EqL ρ σ a b → denL β ρ a = denL β σ b
  | [], b, h => by cases b <;> simp [EqL] at h; rfl
  | x :: a, b, h => by
    cases b with
    | nil => simp [EqL] at h
    | cons y b => simp [EqL] at h; rw [denL, denL, eqV_den β x y h.1, eqL_den β a b h.2]
end
def UpdOk (ρ σ : List U) (h : Heap) : List (Nat × List AV) → Prop
  | [] => True
  | (k, c) :: l => (match h[k]? with
    | some (some d) => EqL ρ σ d c
    | _ => False) ∧ UpdOk ρ σ h l
def Leaf2 (ct : Ct) (σ : List U) (ρ : List U) (_ : Ex) (st : SF) : Prop :=
  (match st.tm with
    | [r] => EqV ρ σ r ct.eff.val
    | _ => False) ∧ UpdOk ρ σ st.h ct.eff.upd ∧ (st.wr.all fun k => (ct.eff.upd.map (·.1)).contains k) = true
theorem updOk_in {ρ σ : List U} {h : Heap} : ∀ {l : List (Nat × List AV)}, UpdOk ρ σ h l → ∀ k c, (k, c) ∈ l → ∃ d, h[k]? = some (some d) ∧ ∀ β, denL β ρ d = denL β σ c
  | [], _, k, c, hm => by cases hm
  | (j, d) :: l, hu, k, c, hm => by
    obtain ⟨h1, h2⟩ := hu
    rcases List.mem_cons.1 hm with e | hm
    · simp at e; obtain ⟨rfl, rfl⟩ := e
      split at h1
      · rename_i x hx; exact ⟨x, hx, fun β => eqL_den β _ _ h1⟩
      · exact h1.elim
    · exact updOk_in h2 k c hm
theorem Leaf2.leaf {ct : Ct} {σ ρ : List U} {x : Ex} {st : SF} (hnew : ct.eff.new = none) (h : Leaf2 ct σ ρ x st) : Leaf ct none σ ρ x st := by
  obtain ⟨h1, h2, h3⟩ := h
  refine ⟨?_, fun k c hk => updOk_in h2 k c hk, fun k hk => ?_, fun c hc => by rw [hnew] at hc; cases hc⟩
  · split at h1
    · rename_i r hr; exact ⟨r, hr, fun β => eqV_den β _ _ h1⟩
    · exact h1.elim
  · exact List.contains_iff_mem.1 (List.all_eq_true.1 h3 k hk)
theorem T.holds_mono {Q Q' : List U → Ex → SF → Prop} (hq : ∀ ρ x st, Q ρ x st → Q' ρ x st) : ∀ (t : T) {L : List (List U → Prop)} {ρ : List U}, t.holdsL Q L ρ → t.holdsL Q' L ρ
  | .done x st, L, ρ, h => hq _ _ _ h
  | .bind b t, L, ρ, h => by
    unfold T.holdsL at h ⊢
    split
    · rename_i us hus; rw [hus] at h; exact T.holds_mono hq t h
    · rename_i hus; rw [hus] at h; exact h
  | .need n t, L, ρ, h => by
    unfold T.holdsL at h ⊢
    exact ⟨h.1, T.holds_mono hq t h.2⟩
  | .ite e t f, L, ρ, h => by
    unfold T.holdsL at h ⊢
    split
    · rename_i x hx; rw [hx] at h; exact ⟨fun g => T.holds_mono hq t (h.1 g), fun g => T.holds_mono hq f (h.2 g)⟩
    · rename_i hx; split at h
      · rename_i x hx'; exact absurd hx' (hx x)
      · exact h
  | .bad n, L, ρ, h => h
  | .loop ks es body, L, ρ, h => by
    unfold T.holdsL at h ⊢
    obtain ⟨I, μ, h1, h2⟩ := h
    exact ⟨I, μ, h1, fun us d ht hi => T.holds_mono hq body (h2 us d ht hi)⟩
  | .again es, L, ρ, h => h
  | .out t, L, ρ, h => by
    unfold T.holdsL at h ⊢
    exact T.holds_mono hq t h
/-- A function's contract by its text, number by number. -/
theorem CtOk.of_eval2 (hcts : AllOk P cts) (hdr : DrOk P dr) {f : Nat} {fn : Func} (hf : P.funcs[f]? = some fn) (hb : fn.body.isSome = true) (hn : (fn.name == "runtime.NumGoroutine") = false) (lh : List (Nat × LHint)) (fuel : Nat) {ct : Ct} (hct : ctB ct none = true) (hnew : ct.eff.new = none) (t : T) (ht : evF P cts dr lh fuel fn ct.m ct.blks ct.args none = t)
    (hv0 : (ct.args.all fun a => varsIn ct.m a) = true) (hv1 : (ct.blks.all fun c => c.all fun a => varsIn ct.m a) = true)
    (H : ∀ us, us.length = ct.m → FactsL us ct.args → FactsB us ct.blks → NeedsAt (runB ct.eff.binds us) ct.eff.needs → t.holds (Leaf2 ct (runB ct.eff.binds us)) us) : CtOk P f ct :=
  CtOk.of_eval hcts hdr hf hb hn lh fuel hct ht (fun us h1 h2 h3 h4 => T.holds_mono (fun _ _ _ h => h.leaf hnew) t (H us h1 h2 h3 h4)) hv0 hv1

/-! Functions of one way -/
def inE (m : Nat) (l : List E) : Bool := l.all fun e => match e with | .v n => decide (n < m) | .l _ => true
def T.flat : T → Nat → Option (List Bind × List Need × SF)
  | .done .ret st, _ => some ([], [], st)
  | .bind b t, m => if inE m b.args = true then match t.flat (m + b.m) with
    | some (bs, ns, st) => some (b :: bs, ns, st)
    | none => none
    else none
  | .need n t, m => if inE m n.args = true then match t.flat m with
    | some (bs, ns, st) => some (bs, n :: ns, st)
    | none => none
    else none
  | _, _ => none
theorem runB_more : ∀ (l : List Bind) (us : List U) (k : Nat) (u : U), us[k]? = some u → (runB l us)[k]? = some u
  | [], us, k, u, h => h
  | b :: l, us, k, u, h => by
    unfold runB
    exact runB_more l _ k u (by rw [List.getElem?_append_left (List.getElem?_eq_some_iff.1 h).1]; exact h)
theorem flat_holds {Q : List U → Ex → SF → Prop} : ∀ (t : T) {ρ : List U} {bs : List Bind} {ns : List Need} {st : SF}, t.flat ρ.length = some (bs, ns, st) → NeedsAt (runB bs ρ) ns → Q (runB bs ρ) .ret st → t.holds Q ρ
  | .done .ret st, ρ, bs, ns, st', h, _, q => by simp [T.flat] at h; obtain ⟨rfl, rfl, rfl⟩ := h; exact q
  | .done .nrm st, ρ, bs, ns, st', h, _, q => by simp [T.flat] at h
  | .done (.ext i) st, ρ, bs, ns, st', h, _, q => by simp [T.flat] at h
  | .bind b t, ρ, bs, ns, st', h, hn, q => by
    unfold T.flat at h
    split at h
    · rename_i hin
      split at h
      · rename_i bs' ns' st'' ht
        simp at h; obtain ⟨rfl, rfl, rfl⟩ := h
        obtain ⟨us, hus⟩ := evs_some (ρ := ρ) hin
        unfold T.holdsL
        rw [hus]
        have hr : runB (b :: bs') ρ = runB bs' (ρ ++ resl b us) := by rw [runB, hus]; rfl
        rw [hr] at hn q
        exact flat_holds t (by rw [List.length_append, show (resl b us).length = b.m by simp [resl]]; exact ht) hn q
      · simp at h
    · simp at h
  | .need n t, ρ, bs, ns, st', h, hn, q => by
    unfold T.flat at h
    split at h
    · rename_i hin
      split at h
      · rename_i bs' ns' st'' ht
        simp at h; obtain ⟨rfl, rfl, rfl⟩ := h
        obtain ⟨us, hus⟩ := evs_some (ρ := ρ) hin
        obtain ⟨us', h1, h2⟩ := hn n (by simp)
        have h3 := evs_more (β := fun _ => none) (β' := fun _ => none) ⟨fun _ _ h => h, runB_more bs' ρ⟩ hus
        rw [h1] at h3; simp at h3; subst h3
        unfold T.holdsL
        rw [hus]
        exact ⟨h2, flat_holds t ht (fun k hk => hn k (by simp [hk])) q⟩
      · simp at h
    · simp at h
  | .ite e t f, ρ, bs, ns, st', h, _, q => by simp [T.flat] at h
  | .bad n, ρ, bs, ns, st', h, _, q => by simp [T.flat] at h
  | .loop _ _ _, ρ, bs, ns, st', h, _, q => by simp [T.flat] at h
  | .again _, ρ, bs, ns, st', h, _, q => by simp [T.flat] at h
  | .out _, ρ, bs, ns, st', h, _, q => by simp [T.flat] at h
def flatB (ct : Ct) (st : SF) : Bool := (st.tm.length == 1) && (st.wr.all fun k => match st.h[k]? with | some (some _) => (ct.eff.upd.map (·.1)).contains k | _ => false)
theorem CtOk.flat (hcts : AllOk P cts) (hdr : DrOk P dr) {f : Nat} {fn : Func} (hf : P.funcs[f]? = some fn) (hb : fn.body.isSome = true) (hn : (fn.name == "runtime.NumGoroutine") = false) (lh : List (Nat × LHint)) (fuel : Nat) {ct : Ct} (st : SF)
    (ht : (evF P cts dr lh fuel fn ct.m ct.blks ct.args none).flat ct.m = some (ct.eff.binds, ct.eff.needs, st)) (hval : ct.eff.val = st.tm.headD .und) (hupd : ct.eff.upd = st.wr.eraseDups.map fun k => (k, (st.h.getD k none).getD [])) (hnew : ct.eff.new = none) (hct : ctB ct none = true) (hfl : flatB ct st = true) (hv0 : (ct.args.all fun a => varsIn ct.m a) = true) (hv1 : (ct.blks.all fun c => c.all fun a => varsIn ct.m a) = true) : CtOk P f ct := by
  simp only [flatB, Bool.and_eq_true] at hfl
  obtain ⟨h1, h2⟩ := hfl
  refine CtOk.of_eval hcts hdr hf hb hn lh fuel hct rfl (fun us hl _ _ hN => flat_holds _ (by rw [hl]; exact ht) hN ?_) hv0 hv1
  refine ⟨⟨st.tm.headD .und, ?_, fun β => by rw [hval]; rfl⟩, fun k c hk => ?_, fun k hk => ?_, fun c hc => by rw [hnew] at hc; cases hc⟩
  · have : st.tm.length = 1 := by simpa using h1
    match hm : st.tm, this with
    | [x], _ => rfl
  · rw [hupd] at hk
    obtain ⟨k', hk', e⟩ := List.mem_map.1 hk
    simp at e; obtain ⟨rfl, rfl⟩ := e
    have h3 := List.all_eq_true.1 h2 k' (List.mem_eraseDups.1 hk')
    split at h3
    · rename_i d hd
      refine ⟨d, hd, fun β => ?_⟩
      rw [show (st.h[k']?.getD none).getD [] = d by rw [hd]; rfl]; rfl
    · simp at h3
  · have h3 := List.all_eq_true.1 h2 k hk
    split at h3
    · exact List.contains_iff_mem.1 h3
    · simp at h3
end
end Go.Proofs.Ythfgdhobldejmaa
