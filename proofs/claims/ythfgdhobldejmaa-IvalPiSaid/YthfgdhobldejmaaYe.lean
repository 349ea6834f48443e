/- A reckoning of programs by symbols: regions in their text's order, code, functions. -/
import Derived.Test.YthfgdhobldejmaaYd
import Derived.Test.YthfgdhobldejmaaMa
namespace Go.Proofs.Ythfgdhobldejmaa
open Go Go.RowKit

/-- A frame and its memory, by symbols. -/
structure SF where
  tm : List AV
  h : Heap
  nv : Nat
  wr : List Nat
def nvB : List Bind → Nat
  | [] => 0
  | b :: l => b.m + nvB l
def SF.setT (st : SF) (d : Nat) (v : AV) : SF := { st with tm := st.tm.set d v }
def putL (tm : List AV) (dst : Option Tmp) (v : AV) : List AV := match dst with
  | some d => tm.set d v
  | none => tm
def SF.put (st : SF) (dst : Option Tmp) (v : AV) : SF := { st with tm := putL st.tm dst v }
def updH (h : Heap) : List (Nat × List AV) → Heap
  | [] => h
  | (k, c) :: l => updH (h.set k (some c)) l
def newH : Option (List AV) → Heap
  | none => []
  | some c => [some c]
def SF.eff (st : SF) (dst : Option Tmp) (e : Eff) : SF :=
  { tm := putL st.tm dst e.val, h := updH st.h e.upd ++ newH e.new, nv := st.nv + nvB e.binds, wr := st.wr ++ e.upd.map (·.1) }

inductive Ex where
  | nrm
  | ext (id : Nat)
  | ret
def Kd.is : Kd → U → Prop
  | .f, u => ∃ n, u = .f n ∧ n < W64
  | .i, u => ∃ n, u = .i n
  | .b, u => ∃ n, u = .b n
def Typed : List Kd → List U → Prop
  | [], [] => True
  | k :: ks, u :: us => k.is u ∧ Typed ks us
  | _, _ => False
/-- What is to be shown. -/
inductive T where
  | done (x : Ex) (st : SF)
  | bind (b : Bind) (t : T)
  | need (n : Need) (t : T)
  | ite (e : E) (t f : T)
  | bad (n : Nat)
  | loop (ks : List Kd) (es : List E) (body : T)
  | again (es : List E)
  | out (t : T)
def resl (b : Bind) (us : List U) : List U := (List.range b.m).map (b.f us)
def againH (L : List (List U → Prop)) (us : List U) : Prop := match L with
  | R :: _ => R us
  | [] => False
def T.holdsL (Q : List U → Ex → SF → Prop) : T → List (List U → Prop) → List U → Prop
  | .done x st, _, ρ => Q ρ x st
  | .bind b t, L, ρ => match evs ρ b.args with
    | some us => t.holdsL Q L (ρ ++ resl b us)
    | none => False
  | .need n t, L, ρ => (match evs ρ n.args with
    | some us => n.p us = true
    | none => False) ∧ t.holdsL Q L ρ
  | .ite e t f, L, ρ => match e.ev ρ with
    | some (.b x) => (x = true → t.holdsL Q L ρ) ∧ (x = false → f.holdsL Q L ρ)
    | _ => False
  | .bad _, _, _ => False
  | .loop ks es body, L, ρ => ∃ (I : List U → Prop) (μ : List U → Nat), (match evs ρ es with
    | some us => I us
    | none => False) ∧ ∀ us d, Typed ks us → I us → body.holdsL Q ((fun us' => I us' ∧ μ us' < μ us) :: L) (d :: us)
  | .again es, L, ρ => match evs ρ es with
    | some us => againH L us
    | none => False
  | .out t, L, ρ => t.holdsL Q L.tail ρ
abbrev T.holds (Q : List U → Ex → SF → Prop) (t : T) (ρ : List U) : Prop := t.holdsL Q [] ρ
/-- Where all numbers are known: the end that is come to. -/
def T.exec : T → List U → Option (List U × Ex × SF)
  | .done x st, ρ => some (ρ, x, st)
  | .bind b t, ρ => match evs ρ b.args with
    | some us => t.exec (ρ ++ resl b us)
    | none => none
  | .need n t, ρ => match evs ρ n.args with
    | some us => if n.p us = true then t.exec ρ else none
    | none => none
  | .ite e t f, ρ => match e.ev ρ with
    | some (.b x) => if x then t.exec ρ else f.exec ρ
    | _ => none
  | _, _ => none
theorem T.exec_holds {Q : List U → Ex → SF → Prop} {L : List (List U → Prop)} : ∀ (t : T) {ρ ρ' : List U} {x : Ex} {st : SF}, t.exec ρ = some (ρ', x, st) → Q ρ' x st → t.holdsL Q L ρ
  | .done x st, ρ, ρ', x', st', h, q => by simp [T.exec] at h; obtain ⟨rfl, rfl, rfl⟩ := h; exact q
  | .bind b t, ρ, ρ', x', st', h, q => by
    unfold T.exec at h
    unfold T.holdsL
    split at h
    · exact T.exec_holds t h q
    · simp at h
  | .need n t, ρ, ρ', x', st', h, q => by
    unfold T.exec at h
    unfold T.holdsL
    split at h
    · rename_i us hus
      split at h
      · rename_i hp; exact ⟨hp, T.exec_holds t h q⟩
      · simp at h
    · simp at h
  | .ite e t f, ρ, ρ', x', st', h, q => by
    unfold T.exec at h
    unfold T.holdsL
    split at h
    · rename_i y hy
      cases y with
      | true => exact ⟨fun _ => T.exec_holds t h q, fun hh => by cases hh⟩
      | false => exact ⟨fun hh => (by cases hh), fun _ => T.exec_holds f h q⟩
    · simp at h
def preB : List Bind → T → T
  | [], t => t
  | b :: l, t => .bind b (preB l t)
def preN : List Need → T → T
  | [], t => t
  | n :: l, t => .need n (preN l t)

/-- Is an operation wanted? -/
inductive Gd where
  | yes
  | no
  | unk (d : Nat) (e : E) (want : Bool)
  | bad
def guardOf (ops : Array Oper) (tm : List AV) (o : Oper) : Gd := match o.guard with
  | none => .yes
  | some (j, want) => match (ops[j]?).bind (·.dst) with
    | none => .no
    | some d => match tm[d]? with
      | some (.bo (.l (.b x))) => if x = want then .yes else .no
      | some (.bo e) => .unk d e want
      | some .und => .no
      | _ => .bad

section
variable (P : Program) (cts : List (Nat × Ct))
def opT (st : SF) (o : Oper) (k : SF → T) : T := match evOp P cts st.tm st.h st.nv st.h.length o with
  | some e => preB e.binds (preN e.needs (k (st.eff o.dst e)))
  | none => .bad 1
def evOps (ops : Array Oper) : List Oper → SF → (SF → T) → T
  | [], st, k => k st
  | o :: l, st, k => match guardOf ops st.tm o with
    | .yes => opT P cts st o fun st => evOps ops l st k
    | .no => evOps ops l (st.put o.dst .und) k
    | .unk d e want => if want then
        .ite e (opT P cts (st.setT d (.bo (.l (.b true)))) o fun st => evOps ops l st k) (evOps ops l ((st.setT d (.bo (.l (.b false)))).put o.dst .und) k)
      else .ite e (evOps ops l ((st.setT d (.bo (.l (.b true)))).put o.dst .und) k) (opT P cts (st.setT d (.bo (.l (.b false)))) o fun st => evOps ops l st k)
    | .bad => .bad 2
end

/-- The frame and the memory are as the symbols say; block k of the call's own is β0 k at the start. -/
structure SRel (β0 : Blocks) (w0 : World) (β : Blocks) (ρ : List U) (st : SF) (a : Act) (w : World) : Prop where
  tm : ∀ (t : Nat) (v : AV), st.tm[t]? = some v → ∃ u, den β ρ v = some u ∧ a.tmps[t]? = some u
  sz : a.tmps.size = st.tm.length
  h : ∀ (k : Nat) (c : List AV), st.h[k]? = some (some c) → ∃ n vs, β k = some n ∧ denL β ρ c = some vs ∧ CellsAt n vs w
  inj : ∀ (k l n : Nat), β k = some n → β l = some n → k = l
  bd : ∀ (k n : Nat), β k = some n → n < w.heap.size
  dom : ∀ (k : Nat), st.h.length ≤ k → β k = none
  b0 : ∀ (k n : Nat), β0 k = some n → β k = some n
  new : ∀ (k n : Nat), β k = some n → β0 k = none → w0.heap.size ≤ n
  os : w.os = w0.os
  tape : w.tape = w0.tape
  output : w.output = w0.output
  size : w0.heap.size ≤ w.heap.size
  old : ∀ (n : Nat), n < w0.heap.size → (∀ k, k ∈ st.wr → β0 k ≠ some n) → w.heap[n]? = w0.heap[n]?
  df : a.defers = []
  nv : ρ.length = st.nv

theorem updH_len : ∀ (l : List (Nat × List AV)) (h : Heap), (updH h l).length = h.length
  | [], h => rfl
  | (k, c) :: l, h => by rw [updH, updH_len l, List.length_set]
theorem updH_get : ∀ (l : List (Nat × List AV)) (h : Heap) (k : Nat) (c : List AV), (updH h l)[k]? = some (some c) → (k, c) ∈ l ∨ (h[k]? = some (some c) ∧ ∀ d, (k, d) ∉ l)
  | [], h, k, c, hk => .inr ⟨hk, fun d hd => by cases hd⟩
  | (j, d) :: l, h, k, c, hk => by
    rcases updH_get l (h.set j (some d)) k c hk with h1 | ⟨h1, h2⟩
    · exact .inl (List.mem_cons_of_mem _ h1)
    · by_cases hjk : j = k
      · subst hjk
        have hlt : j < h.length := by have := (List.getElem?_eq_some_iff.1 h1).1; simpa using this
        rw [List.getElem?_set_self hlt] at h1
        simp at h1; subst h1
        exact .inl (by simp)
      · rw [List.getElem?_set_ne hjk] at h1
        exact .inr ⟨h1, fun d' hd' => by
          rcases List.mem_cons.1 hd' with e | hd'
          · simp at e; exact hjk e.1.symm
          · exact h2 d' hd'⟩

theorem BindsAt.more {β β' : Blocks} {ρ ρ' : List U} (M : More β β' ρ ρ') : ∀ {l : List Bind} {nv : Nat}, BindsAt ρ nv l → BindsAt ρ' nv l
  | [], _, _ => trivial
  | b :: l, nv, h => by
    obtain ⟨⟨us, h1, h2⟩, h3⟩ := h
    exact ⟨⟨us, evs_more M h1, fun i hi => M.r _ _ (h2 i hi)⟩, BindsAt.more M h3⟩
theorem More.app (β : Blocks) (ρ σ : List U) : More β β ρ (ρ ++ σ) := ⟨fun _ _ h => h, fun k u h => by rw [List.getElem?_append_left (List.getElem?_eq_some_iff.1 h).1]; exact h⟩

section
variable {P : Program} {cts : List (Nat × Ct)} {Q : List U → Ex → SF → Prop} {L : List (List U → Prop)}
theorem preB_holds : ∀ {l : List Bind} {t : T} {ρ : List U}, (preB l t).holdsL Q L ρ → ∃ σ, t.holdsL Q L (ρ ++ σ) ∧ σ.length = nvB l ∧ BindsAt (ρ ++ σ) ρ.length l
  | [], t, ρ, h => ⟨[], by rw [List.append_nil]; exact h, rfl, trivial⟩
  | b :: l, t, ρ, h => by
    have h' : (match evs ρ b.args with | some us => (preB l t).holdsL Q L (ρ ++ resl b us) | none => False) := h
    split at h'
    · rename_i us hus
      obtain ⟨σ, h1, h2, h3⟩ := preB_holds h'
      have hl : (resl b us).length = b.m := by simp [resl]
      refine ⟨resl b us ++ σ, by rw [← List.append_assoc]; exact h1, by rw [List.length_append, hl, h2]; rfl, ?_, ?_⟩
      · refine ⟨us, evs_more (More.app (fun _ => none) ρ _) hus, fun i hi => ?_⟩
        rw [List.getElem?_append_right (by omega), List.getElem?_append_left (by omega), show ρ.length + i - ρ.length = i by omega]
        unfold resl
        rw [List.getElem?_map, List.getElem?_range hi]; rfl
      · rw [← List.append_assoc]
        rw [List.length_append, hl] at h3
        exact h3
    · exact h'.elim
theorem preN_holds : ∀ {l : List Need} {t : T} {ρ : List U}, (preN l t).holdsL Q L ρ → NeedsAt ρ l ∧ t.holdsL Q L ρ
  | [], t, ρ, h => ⟨fun _ hn => (by cases hn), h⟩
  | n :: l, t, ρ, h => by
    have h' : (match evs ρ n.args with | some us => n.p us = true | none => False) ∧ (preN l t).holdsL Q L ρ := h
    obtain ⟨h1, h2⟩ := h'
    obtain ⟨h3, h4⟩ := preN_holds h2
    refine ⟨fun m hm => ?_, h4⟩
    rcases List.mem_cons.1 hm with rfl | hm
    · split at h1
      · rename_i us hus; exact ⟨us, hus, h1⟩
      · exact h1.elim
    · exact h3 m hm

variable {β0 : Blocks} {w0 : World} {β : Blocks} {ρ : List U} {st : SF} {a : Act} {w : World}
theorem SRel.ops (S : SRel β0 w0 β ρ st a w) (l : List Operand) : Ops β ρ st.tm a l := fun t _ v hv => by
  obtain ⟨u, h1, h2⟩ := S.tm t v hv
  rw [h1]
  have hlt := (Array.getElem?_eq_some_iff.1 h2).1
  simp only [Array.getD_eq_getD_getElem?, h2, Option.getD_some]
theorem SRel.rel (S : SRel β0 w0 β ρ st a w) : Rel β ρ st.h w := ⟨S.h, S.inj, S.bd⟩
theorem SRel.more (S : SRel β0 w0 β ρ st a w) (σ : List U) {nv : Nat} (hn : ρ.length + σ.length = nv) : SRel β0 w0 β (ρ ++ σ) { st with nv := nv } a w :=
  ⟨fun t v hv => (S.tm t v hv).imp fun u h => ⟨den_more (More.app β ρ σ) v h.1, h.2⟩, S.sz, fun k c hc => by
    obtain ⟨n, vs, h1, h2, h3⟩ := S.h k c hc
    exact ⟨n, vs, h1, denL_more (More.app β ρ σ) c h2, h3⟩, S.inj, S.bd, S.dom, S.b0, S.new, S.os, S.tape, S.output, S.size, S.old, S.df, by rw [List.length_append]; exact hn⟩

/-- A slot gets a value. -/
theorem SRel.putT (S : SRel β0 w0 β ρ st a w) (dst : Option Tmp) {v : AV} {u : Value} (hd : den β ρ v = some u) : SRel β0 w0 β ρ (st.put dst v) (a.put dst u) w := by
  cases dst with
  | none => exact S
  | some d =>
    refine ⟨fun t x hx => ?_, ?_, S.h, S.inj, S.bd, S.dom, S.b0, S.new, S.os, S.tape, S.output, S.size, S.old, S.df, S.nv⟩
    · have hx' : (st.tm.set d v)[t]? = some x := hx
      by_cases hdt : d = t
      · subst hdt
        have hlt : d < st.tm.length := by have := (List.getElem?_eq_some_iff.1 hx').1; simpa using this
        rw [List.getElem?_set_self hlt] at hx'
        simp at hx'; subst hx'
        refine ⟨u, hd, ?_⟩
        show (a.tmps.setIfInBounds d u)[d]? = some u
        rw [Array.getElem?_setIfInBounds_self_of_lt (by rw [S.sz]; exact hlt)]
      · rw [List.getElem?_set_ne hdt] at hx'
        obtain ⟨y, h1, h2⟩ := S.tm t x hx'
        refine ⟨y, h1, ?_⟩
        show (a.tmps.setIfInBounds d u)[t]? = some y
        rw [Array.getElem?_setIfInBounds_ne hdt]; exact h2
    · show (a.tmps.setIfInBounds d u).size = (st.tm.set d v).length
      rw [Array.size_setIfInBounds, List.length_set]; exact S.sz
/-- A slot's value by another symbol. -/
theorem SRel.same (S : SRel β0 w0 β ρ st a w) {d : Nat} {v v' : AV} (hv : st.tm[d]? = some v) (he : den β ρ v' = den β ρ v) : SRel β0 w0 β ρ (st.setT d v') a w := by
  refine ⟨fun t x hx => ?_, ?_, S.h, S.inj, S.bd, S.dom, S.b0, S.new, S.os, S.tape, S.output, S.size, S.old, S.df, S.nv⟩
  · have hx' : (st.tm.set d v')[t]? = some x := hx
    by_cases hdt : d = t
    · subst hdt
      have hlt : d < st.tm.length := by have := (List.getElem?_eq_some_iff.1 hx').1; simpa using this
      rw [List.getElem?_set_self hlt] at hx'
      simp at hx'; subst hx'
      rw [he]; exact S.tm d v hv
    · rw [List.getElem?_set_ne hdt] at hx'
      exact S.tm t x hx'
  · show a.tmps.size = (st.tm.set d v').length
    rw [List.length_set]; exact S.sz
theorem More.new {β : Blocks} {nb n : Nat} (h : β nb = none) (ρ : List U) : More β (extB β nb n) ρ ρ :=
  ⟨fun k m hk => by unfold extB; split; rename_i hq; subst hq; rw [h] at hk; cases hk; exact hk, fun _ _ h => h⟩
/-- Behind an operation. -/
theorem SRel.step (S : SRel β0 w0 β ρ st a w) {β' : Blocks} {w' : World} {e : Eff} {v : Value} {dst : Option Tmp} (hp : Post β β' ρ st.h.length e w w') (hv : den β' ρ e.val = some v) :
    SRel β0 w0 β' ρ { tm := putL st.tm dst e.val, h := updH st.h e.upd ++ newH e.new, nv := st.nv, wr := st.wr ++ e.upd.map (·.1) } (a.put dst v) w' := by
  have hnb := S.dom st.h.length (Nat.le_refl _)
  have M : More β β' ρ ρ := by
    have hn := hp.new
    cases he : e.new with
    | none => rw [he] at hn; rw [show β' = β from hn]; exact More.refl _ _
    | some c => rw [he] at hn; obtain ⟨n, vs, _, _, h3, _⟩ := hn; rw [h3]; exact More.new hnb ρ
  have hnew : ∀ k n, β' k = some n → β k = some n ∨ (k = st.h.length ∧ w.heap.size ≤ n ∧ n < w'.heap.size ∧ e.new ≠ none) := by
    intro k n hk
    have hn := hp.new
    cases he : e.new with
    | none => rw [he] at hn; rw [show β' = β from hn] at hk; exact .inl hk
    | some c =>
      rw [he] at hn; obtain ⟨m, vs, h1, h2, h3, _⟩ := hn
      rw [h3] at hk
      unfold extB at hk
      split at hk
      · rename_i hq; simp at hk; subst hk; exact .inr ⟨hq, h1, h2, by simp⟩
      · exact .inl hk
  have keep : ∀ k n, β k = some n → (∀ d, (k, d) ∉ e.upd) → w'.heap[n]? = w.heap[n]? := fun k n hk hno => hp.old n (S.bd k n hk) fun k' c' hm hb => by
    have := S.inj k' k n hb hk
    subst this
    exact hno _ hm
  have S1 : SRel β0 w0 β' ρ { st with h := updH st.h e.upd ++ newH e.new, wr := st.wr ++ e.upd.map (·.1) } a w' := by
    refine ⟨fun t x hx => ?_, S.sz, fun k c hk => ?_, fun k l n hk hl => ?_, fun k n hk => ?_, fun k hk => ?_, fun k n hk => M.b _ _ (S.b0 k n hk), fun k n hk h0 => ?_, hp.os.trans S.os, hp.tape.trans S.tape, hp.output.trans S.output, Nat.le_trans S.size hp.size, fun n hn hw => ?_, S.df, S.nv⟩
    · obtain ⟨u, h1, h2⟩ := S.tm t x hx
      exact ⟨u, den_more M x h1, h2⟩
    · dsimp only at hk
      rcases Nat.lt_or_ge k st.h.length with hlt | hge
      · rw [List.getElem?_append_left (by rw [updH_len]; exact hlt)] at hk
        rcases updH_get _ _ _ _ hk with h1 | ⟨h1, h2⟩
        · obtain ⟨n, vs, g1, g2, g3⟩ := hp.upd k c h1
          exact ⟨n, vs, M.b _ _ g1, g2, g3⟩
        · obtain ⟨n, vs, g1, g2, g3⟩ := S.h k c h1
          have hb := keep k n g1 h2
          exact ⟨n, vs, M.b _ _ g1, denL_more M c g2, fun j u hj => by rw [cell_of_block hb, frozen_of_block hb]; exact g3 j u hj⟩
      · rw [List.getElem?_append_right (by rw [updH_len]; exact hge), updH_len] at hk
        have hn := hp.new
        cases he : e.new with
        | none => rw [he] at hk; simp [newH] at hk
        | some d =>
          rw [he] at hk hn
          obtain ⟨n, vs, h1, h2, h3, h4, h5⟩ := hn
          have : k - st.h.length = 0 := by
            rcases Nat.eq_zero_or_pos (k - st.h.length) with h0 | h0
            · exact h0
            · rw [newH, List.getElem?_eq_none (by simp; omega)] at hk; simp at hk
          rw [this] at hk
          simp [newH] at hk; subst hk
          refine ⟨n, vs, ?_, h4, h5⟩
          rw [h3]; unfold extB; rw [if_pos (by omega)]
    · rcases hnew k n hk with h1 | ⟨h1, h2, _, _⟩ <;> rcases hnew l n hl with g1 | ⟨g1, g2, _, _⟩
      · exact S.inj k l n h1 g1
      · have := S.bd k n h1; omega
      · have := S.bd l n g1; omega
      · omega
    · rcases hnew k n hk with h1 | ⟨_, _, h2, _⟩
      · exact Nat.lt_of_lt_of_le (S.bd k n h1) hp.size
      · exact h2
    · dsimp only at hk
      rw [List.length_append, updH_len] at hk
      cases hq : β' k with
      | none => rfl
      | some n =>
        rcases hnew k n hq with h1 | ⟨h1, _, _, h2⟩
        · rw [S.dom k (by omega)] at h1; cases h1
        · cases he : e.new with
          | none => exact absurd he h2
          | some d => rw [he] at hk; simp [newH] at hk; omega
    · rcases hnew k n hk with h1 | ⟨_, h2, _, _⟩
      · exact S.new k n h1 h0
      · exact Nat.le_trans S.size h2
    · rw [hp.old n (Nat.lt_of_lt_of_le hn S.size) fun k c hm hb => ?_]
      · exact S.old n hn fun k hk => hw k (by simp [hk])
      · cases h0 : β0 k with
        | none => have := S.new k n hb h0; omega
        | some m =>
          have := S.b0 k m h0
          rw [hb] at this; simp at this; subst this
          exact hw k (by simp; exact .inr ⟨c, hm⟩) h0
  have := S1.putT dst hv
  cases dst <;> exact this

theorem und_den (β : Blocks) (ρ : List U) : den β ρ .und = some undef := rfl
theorem opT_ok (hcts : AllOk P cts) {o : Oper} {k : SF → T} {K : Act → World → Prop} {Qx : Exit → Act → World → Prop}
    (hk : ∀ β' ρ' st' a' w', (k st').holdsL Q L ρ' → SRel β0 w0 β' ρ' st' a' w' → K a' w')
    (hh : (opT P cts st o k).holdsL Q L ρ) (S : SRel β0 w0 β ρ st a w) : o.wp P a w K Qx := by
  unfold opT at hh
  split at hh
  · rename_i e he
    obtain ⟨σ, h1, h2, h3⟩ := preB_holds hh
    obtain ⟨h4, h5⟩ := preN_holds h1
    have S' := S.more σ (nv := st.nv + nvB e.binds) (by rw [S.nv, h2])
    have hD := evOp_ok (P := P) (o := o) hcts he (S'.ops _) S'.rel (S'.dom _ (Nat.le_refl _)) (by rw [← S.nv]; exact h3) h4
    refine hD K Qx fun β' w' v hp hv => ?_
    exact hk β' (ρ ++ σ) _ _ _ h5 (S'.step (dst := o.dst) hp hv)
  · exact hh.elim

theorem wanted_none {ops : Array Oper} {o : Oper} (h : o.guard = none) (tmps : Array Value) : Region.wanted o (yielded ops tmps) = true := by unfold Region.wanted; rw [h]
/-- The slot that a guard looks at. -/
def gdT (ops : Array Oper) (o : Oper) : List Nat := match o.guard with
  | none => []
  | some (j, _) => match (ops[j]?).bind (·.dst) with
    | some d => [d]
    | none => []
def TmAt (β : Blocks) (ρ : List U) (tm : List AV) (a : Act) (l : List Nat) : Prop := ∀ (t : Nat), t ∈ l → ∀ v, tm[t]? = some v → ∃ u, den β ρ v = some u ∧ a.tmps[t]? = some u
theorem guard_yes {ops : Array Oper} {o : Oper} {tm : List AV} (S : TmAt β ρ tm a (gdT ops o)) (h : guardOf ops tm o = .yes) : Region.wanted o (yielded ops a.tmps) = true := by
  unfold guardOf at h
  split at h
  · rename_i hg; exact wanted_none hg _
  · rename_i j want hg
    split at h
    · simp at h
    · rename_i d hd
      split at h
      · rename_i x hx
        split at h
        · rename_i hxw
          obtain ⟨u, h1, h2⟩ := S d (by unfold gdT; rw [hg]; dsimp only; rw [hd]; simp) _ hx
          simp [den, E.ev] at h1; subst h1
          unfold Region.wanted yielded
          rw [hg]
          simp [hd, h2, hxw]
        · simp at h
      · simp at h
      · simp at h
      · simp at h
theorem guard_no {ops : Array Oper} {o : Oper} {tm : List AV} (S : TmAt β ρ tm a (gdT ops o)) (h : guardOf ops tm o = .no) : Region.wanted o (yielded ops a.tmps) = false := by
  unfold guardOf at h
  split at h
  · simp at h
  · rename_i j want hg
    split at h
    · rename_i hd
      unfold Region.wanted yielded
      rw [hg]
      simp [hd]
    · rename_i d hd
      have hmem : d ∈ gdT ops o := by unfold gdT; rw [hg]; dsimp only; rw [hd]; simp
      split at h
      · rename_i x hx
        split at h
        · simp at h
        · rename_i hxw
          obtain ⟨u, h1, h2⟩ := S d hmem _ hx
          simp [den, E.ev] at h1; subst h1
          unfold Region.wanted yielded
          rw [hg]
          simp [hd, h2]
          cases x <;> cases want <;> simp_all
      · simp at h
      · rename_i hx
        obtain ⟨u, h1, h2⟩ := S d hmem _ hx
        simp [den] at h1; subst h1
        unfold Region.wanted yielded
        rw [hg]
        simp [hd, h2, undef]
      · simp at h
theorem SRel.tmAt (S : SRel β0 w0 β ρ st a w) (l : List Nat) : TmAt β ρ st.tm a l := fun t _ v hv => S.tm t v hv
theorem guard_unk {ops : Array Oper} {o : Oper} {d : Nat} {e : E} {want : Bool} (S : SRel β0 w0 β ρ st a w) (h : guardOf ops st.tm o = .unk d e want) {x : Bool} (hx : e.ev ρ = some (.b x)) :
    SRel β0 w0 β ρ (st.setT d (.bo (.l (.b x)))) a w ∧ Region.wanted o (yielded ops a.tmps) = (x == want) := by
  unfold guardOf at h
  split at h
  · simp at h
  · rename_i j want' hg
    split at h
    · simp at h
    · rename_i d' hd
      split at h
      · split at h <;> simp at h
      · rename_i e' hne htm
        simp at h
        obtain ⟨rfl, rfl, rfl⟩ := h
        have hden : den β ρ (.bo e') = some (.bool x) := bo_den hx
        refine ⟨S.same htm (by rw [hden]; rfl), ?_⟩
        obtain ⟨u, h1, h2⟩ := S.tm d' _ htm
        rw [hden] at h1; simp at h1; subst h1
        unfold Region.wanted yielded
        rw [hg]
        simp [hd, h2]
      · simp at h
      · simp at h

theorem evOps_ok (hcts : AllOk P cts) (ops : Array Oper) {Qx : Exit → Act → World → Prop} {k : SF → T}
    (hk : ∀ β' ρ' st' a' w', (k st').holdsL Q L ρ' → SRel β0 w0 β' ρ' st' a' w' → Qx .normal a' w') :
    ∀ (l : List Oper) (i : Nat), (∀ j o, l[j]? = some o → ops[i + j]? = some o) → ∀ (β : Blocks) (ρ : List U) (st : SF) (a : Act) (w : World), (evOps P cts ops l st k).holdsL Q L ρ → SRel β0 w0 β ρ st a w →
      wpOps P ops Qx (List.range' i l.length) a w
  | [], i, _, β, ρ, st, a, w, hh, S => hk β ρ st a w hh S
  | o :: l, i, hl, β, ρ, st, a, w, hh, S => by
    have ho : ops[i]? = some o := hl 0 o rfl
    have hl' : ∀ j o', l[j]? = some o' → ops[i + 1 + j]? = some o' := fun j o' hj => by rw [show i + 1 + j = i + (j + 1) by omega]; exact hl (j + 1) o' (by simpa using hj)
    have ih := evOps_ok hcts ops hk l (i + 1) hl'
    rw [List.length_cons, List.range'_succ]
    unfold evOps at hh
    simp only [wpOps, ho]
    have yes : ∀ {st : SF}, (opT P cts st o fun st => evOps P cts ops l st k).holdsL Q L ρ → SRel β0 w0 β ρ st a w → o.wp P a w (wpOps P ops Qx (List.range' (i + 1) l.length)) Qx :=
      fun h1 S1 => opT_ok hcts (fun β' ρ' st' a' w' h2 S2 => ih β' ρ' st' a' w' h2 S2) h1 S1
    have no : ∀ {st : SF}, (evOps P cts ops l (st.put o.dst .und) k).holdsL Q L ρ → SRel β0 w0 β ρ st a w → wpOps P ops Qx (List.range' (i + 1) l.length) (a.put o.dst undef) w :=
      fun h1 S1 => ih β ρ _ _ _ h1 (S1.putT o.dst (und_den β ρ))
    split at hh
    · rename_i hg
      rw [guard_yes (S.tmAt _) hg]
      exact .inl (yes hh S)
    · rename_i hg
      rw [guard_no (S.tmAt _) hg]
      exact no hh S
    · rename_i d e want hg
      cases want with
      | true =>
        have hh' : (match e.ev ρ with | some (.b x) => (x = true → (opT P cts (st.setT d (.bo (.l (.b true)))) o fun st => evOps P cts ops l st k).holdsL Q L ρ) ∧ (x = false → (evOps P cts ops l ((st.setT d (.bo (.l (.b false)))).put o.dst .und) k).holdsL Q L ρ) | _ => False) := hh
        split at hh'
        · rename_i x hx
          obtain ⟨S1, hw⟩ := guard_unk S hg hx
          rw [hw]
          cases x with
          | true => exact .inl (yes (hh'.1 rfl) S1)
          | false => exact no (hh'.2 rfl) S1
        · exact hh'.elim
      | false =>
        have hh' : (match e.ev ρ with | some (.b x) => (x = true → (evOps P cts ops l ((st.setT d (.bo (.l (.b true)))).put o.dst .und) k).holdsL Q L ρ) ∧ (x = false → (opT P cts (st.setT d (.bo (.l (.b false)))) o fun st => evOps P cts ops l st k).holdsL Q L ρ) | _ => False) := hh
        split at hh'
        · rename_i x hx
          obtain ⟨S1, hw⟩ := guard_unk S hg hx
          rw [hw]
          cases x with
          | true => exact no (hh'.1 rfl) S1
          | false => exact .inl (yes (hh'.2 rfl) S1)
        · exact hh'.elim
    · exact hh.elim
end
end Go.Proofs.Ythfgdhobldejmaa
