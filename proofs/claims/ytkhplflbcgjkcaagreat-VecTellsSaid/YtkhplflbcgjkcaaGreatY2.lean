/- A reckoning of programs by symbols: regions in their text's order, code, functions. A reckoning of programs by symbols: code, functions, contracts of functions. A reckoning of programs by symbols: regions that draw their order. -/
import Derived.Test.YtkhplflbcgjkcaaGreatY1
import Derived.Deep.Draws
import Derived.Test.YtkhplflbcgjkcaaGreatN1
import Derived.LoopN
import Derived.Test.YtkhplflbcgjkcaaGreatSt
namespace Go.Proofs.YtkhplflbcgjkcaaGreat
open Go Go.RowKit
structure SF where
 tm : List AV
 h : Heap
 nv : Nat
 wr : List Nat
def nvB : List Bind → Nat
 | [] => 0
 | b :: l => b.m + nvB l
def SF.setT (st : SF) (d : Nat) (v : AV) : SF := { st with tm := st.tm.set d v }
def putL (tm : List AV) (dst : Option Tmp) (v : AV) : List AV := match dst with
 | some d => tm.set d v
 | none => tm
def SF.put (st : SF) (dst : Option Tmp) (v : AV) : SF := { st with tm := putL st.tm dst v }
def updH (h : Heap) : List (Nat × List AV) → Heap
 | [] => h
 | (k, c) :: l => updH (h.set k (some c)) l
def newH : Option (List AV) → Heap
 | none => []
 | some c => [some c]
def SF.eff (st : SF) (dst : Option Tmp) (e : Eff) : SF :=
 { tm := putL st.tm dst e.val, h := updH st.h e.upd ++ newH e.new, nv := st.nv + nvB e.binds, wr := st.wr ++ e.upd.map (·.1) }
inductive Ex where
 | nrm
 | ext (id : Nat)
 | ret
def Kd.is : Kd → U → Prop
 | .f, u => ∃ n, u = .f n ∧ n < W64
 | .i, u => ∃ n, u = .i n
 | .b, u => ∃ n, u = .b n
def Typed : List Kd → List U → Prop
 | [], [] => True
 | k :: ks, u :: us => k.is u ∧ Typed ks us
 | _, _ => False
inductive T where
 | done (x : Ex) (st : SF)
 | bind (b : Bind) (t : T)
 | need (n : Need) (t : T)
 | ite (e : E) (t f : T)
 | bad (n : Nat)
 | loop (ks : List Kd) (es : List E) (body : T)
 | again (es : List E)
 | out (t : T)
 | pick (t : T)
def resl (b : Bind) (us : List U) : List U := (List.range b.m).map (b.f us)
def againH (L : List (List U → Prop)) (us : List U) : Prop := match L with
 | R :: _ => R us
 | [] => False
def T.holdsL (Q : List U → Ex → SF → Prop) : T → List (List U → Prop) → List U → Prop
 | .done x st, _, ρ => Q ρ x st
 | .bind b t, L, ρ => match evs ρ b.args with
  | some us => t.holdsL Q L (ρ ++ resl b us)
  | none => False
 | .need n t, L, ρ => (match evs ρ n.args with
  | some us => n.p us = true
  | none => False) ∧ t.holdsL Q L ρ
 | .ite e t f, L, ρ => match e.ev ρ with
  | some (.b x) => (x = true → t.holdsL Q L ρ) ∧ (x = false → f.holdsL Q L ρ)
  | _ => False
 | .bad _, _, _ => False
 | .loop ks es body, L, ρ => ∃ (I : List U → Prop) (μ : List U → Nat), (match evs ρ es with
  | some us => I us
  | none => False) ∧ ∀ us d, Typed ks us → I us → body.holdsL Q ((fun us' => I us' ∧ μ us' < μ us) :: L) (d :: us)
 | .again es, L, ρ => match evs ρ es with
  | some us => againH L us
  | none => False
 | .out t, L, ρ => t.holdsL Q L.tail ρ
 | .pick t, L, ρ => ∀ x, x < W64 → t.holdsL Q L (ρ ++ [.f x])
abbrev T.holds (Q : List U → Ex → SF → Prop) (t : T) (ρ : List U) : Prop := t.holdsL Q [] ρ
def T.exec : T → List U → Option (List U × Ex × SF)
 | .done x st, ρ => some (ρ, x, st)
 | .bind b t, ρ => match evs ρ b.args with
  | some us => t.exec (ρ ++ resl b us)
  | none => none
 | .need n t, ρ => match evs ρ n.args with
  | some us => if n.p us = true then t.exec ρ else none
  | none => none
 | .ite e t f, ρ => match e.ev ρ with
  | some (.b x) => if x then t.exec ρ else f.exec ρ
  | _ => none
 | _, _ => none
theorem T.exec_holds {Q : List U → Ex → SF → Prop} {L : List (List U → Prop)} : ∀ (t : T) {ρ ρ' : List U} {x : Ex} {st : SF}, t.exec ρ = some (ρ', x, st) → Q ρ' x st → t.holdsL Q L ρ
 | .done x st, ρ, ρ', x', st', h, q => by simp [T.exec] at h; obtain ⟨rfl, rfl, rfl⟩ := h; exact q
 | .bind b t, ρ, ρ', x', st', h, q => by
  unfold T.exec at h
  unfold T.holdsL
  split at h
  ·exact T.exec_holds t h q
  ·simp at h
 | .need n t, ρ, ρ', x', st', h, q => by
  unfold T.exec at h
  unfold T.holdsL
  split at h
  ·rename_i us hus
   split at h
   ·rename_i hp; exact ⟨hp, T.exec_holds t h q⟩
   ·simp at h
  ·simp at h
 | .ite e t f, ρ, ρ', x', st', h, q => by
  unfold T.exec at h
  unfold T.holdsL
  split at h
  ·rename_i y hy
   cases y with
   | true => exact ⟨fun _ => T.exec_holds t h q, fun hh => by cases hh⟩
   | false => exact ⟨fun hh => (by cases hh), fun _ => T.exec_holds f h q⟩
  ·simp at h
def preB : List Bind → T → T
 | [], t => t
 | b :: l, t => .bind b (preB l t)
def preN : List Need → T → T
 | [], t => t
 | n :: l, t => .need n (preN l t)
inductive Gd where
 | yes
 | no
 | unk (d : Nat) (e : E) (want : Bool)
 | bad
def guardOf (ops : Array Oper) (tm : List AV) (o : Oper) : Gd := match o.guard with
 | none => .yes
 | some (j, want) => match (ops[j]?).bind (·.dst) with
  | none => .no
  | some d => match tm[d]? with
   | some (.bo (.l (.b x))) => if x = want then .yes else .no
   | some (.bo e) => .unk d e want
   | some .und => .no
   | _ => .bad
section
variable (P : Program) (cts : List (Nat × Ct))
def keyIn (n : Nat) : List (Nat × Ct) → Bool
 | [] => false
 | c :: l => Nat.beq c.1 n || keyIn n l
def fl23 : Option (List AV) → Bool
 | some [.fl _, .fl _] => true
 | some [.fl _, .fl _, .fl _] => true
 | _ => false
def dkOp (tm : List AV) (o : Oper) : Bool := match o.op with
 | .call c => (match c.callee with
  | .builtin .min => keyIn 1000003 cts && fl23 (opds tm c.args.toList)
  | .builtin .max => keyIn 1000003 cts && fl23 (opds tm c.args.toList)
  | _ => false)
 | .binOp op _ x y _ => (match op with
  | .sub => (match opd tm x, opd tm y with
   | some (.fl _), some (.fl _) => keyIn 1000004 cts
   | _, _ => false)
  | _ => false)
 | _ => false
def dkEff (nv : Nat) : Eff := { binds := [⟨fun _ _ => .no, 1, []⟩], val := .fl (.v nv) }
def opT (st : SF) (o : Oper) (k : SF → T) : T := match dkOp cts st.tm o with
 | true => .pick (k (st.eff o.dst (dkEff st.nv)))
 | false => match evOp P cts st.tm st.h st.nv st.h.length o with
  | some e => preB e.binds (preN e.needs (k (st.eff o.dst e)))
  | none => .bad 1
def evOps (ops : Array Oper) : List Oper → SF → (SF → T) → T
 | [], st, k => k st
 | o :: l, st, k => match guardOf ops st.tm o with
  | .yes => opT P cts st o fun st => evOps ops l st k
  | .no => evOps ops l (st.put o.dst .und) k
  | .unk d e want => if want then
    .ite e (opT P cts (st.setT d (.bo (.l (.b true)))) o fun st => evOps ops l st k) (evOps ops l ((st.setT d (.bo (.l (.b false)))).put o.dst .und) k)
   else .ite e (evOps ops l ((st.setT d (.bo (.l (.b true)))).put o.dst .und) k) (opT P cts (st.setT d (.bo (.l (.b false)))) o fun st => evOps ops l st k)
  | .bad => .bad 2
end
structure SRel (β0 : Blocks) (w0 : World) (β : Blocks) (ρ : List U) (st : SF) (a : Act) (w : World) : Prop where
 tm : ∀ (t : Nat) (v : AV), st.tm[t]? = some v → ∃ u, den β ρ v = some u ∧ a.tmps[t]? = some u
 sz : a.tmps.size = st.tm.length
 h : ∀ (k : Nat) (c : List AV), st.h[k]? = some (some c) → ∃ n vs, β k = some n ∧ denL β ρ c = some vs ∧ CellsAt n vs w
 inj : ∀ (k l n : Nat), β k = some n → β l = some n → k = l
 bd : ∀ (k n : Nat), β k = some n → n < w.heap.size
 dom : ∀ (k : Nat), st.h.length ≤ k → β k = none
 b0 : ∀ (k n : Nat), β0 k = some n → β k = some n
 new : ∀ (k n : Nat), β k = some n → β0 k = none → w0.heap.size ≤ n
 os : w.os = w0.os
 tape : w.tape = w0.tape
 output : w.output = w0.output
 size : w0.heap.size ≤ w.heap.size
 old : ∀ (n : Nat), n < w0.heap.size → (∀ k, k ∈ st.wr → β0 k ≠ some n) → w.heap[n]? = w0.heap[n]?
 df : a.defers = []
 nv : ρ.length = st.nv
theorem updH_len : ∀ (l : List (Nat × List AV)) (h : Heap), (updH h l).length = h.length
 | [], h => rfl
 | (k, c) :: l, h => by rw [updH, updH_len l, List.length_set]
theorem updH_get : ∀ (l : List (Nat × List AV)) (h : Heap) (k : Nat) (c : List AV), (updH h l)[k]? = some (some c) → (k, c) ∈ l ∨ (h[k]? = some (some c) ∧ ∀ d, (k, d) ∉ l)
 | [], h, k, c, hk => .inr ⟨hk, fun d hd => by cases hd⟩
 | (j, d) :: l, h, k, c, hk => by
  rcases updH_get l (h.set j (some d)) k c hk with h1 | ⟨h1, h2⟩
  ·exact .inl (List.mem_cons_of_mem _ h1)
  ·by_cases hjk : j = k
   ·subst hjk
    have hlt : j < h.length := by have := (List.getElem?_eq_some_iff.1 h1).1; simpa using this
    rw [List.getElem?_set_self hlt] at h1
    simp at h1; subst h1
    exact .inl (by simp)
   ·rw [List.getElem?_set_ne hjk] at h1
    exact .inr ⟨h1, fun d' hd' => by
     rcases List.mem_cons.1 hd' with e | hd'
     ·simp at e; exact hjk e.1.symm
     ·exact h2 d' hd'⟩
theorem BindsAt.more {β β' : Blocks} {ρ ρ' : List U} (M : More β β' ρ ρ') : ∀ {l : List Bind} {nv : Nat}, BindsAt ρ nv l → BindsAt ρ' nv l
 | [], _, _ => trivial
 | b :: l, nv, h => by
  obtain ⟨⟨us, h1, h2⟩, h3⟩ := h
  exact ⟨⟨us, evs_more M h1, fun i hi => M.r _ _ (h2 i hi)⟩, BindsAt.more M h3⟩
theorem More.app (β : Blocks) (ρ σ : List U) : More β β ρ (ρ ++ σ) := ⟨fun _ _ h => h, fun k u h => by rw [List.getElem?_append_left (List.getElem?_eq_some_iff.1 h).1]; exact h⟩
section
variable {P : Program} {cts : List (Nat × Ct)} {Q : List U → Ex → SF → Prop} {L : List (List U → Prop)}
theorem preB_holds : ∀ {l : List Bind} {t : T} {ρ : List U}, (preB l t).holdsL Q L ρ → ∃ σ, t.holdsL Q L (ρ ++ σ) ∧ σ.length = nvB l ∧ BindsAt (ρ ++ σ) ρ.length l
 | [], t, ρ, h => ⟨[], by rw [List.append_nil]; exact h, rfl, trivial⟩
 | b :: l, t, ρ, h => by
  have h' : (match evs ρ b.args with | some us => (preB l t).holdsL Q L (ρ ++ resl b us) | none => False) := h
  split at h'
  ·rename_i us hus
   obtain ⟨σ, h1, h2, h3⟩ := preB_holds h'
   have hl : (resl b us).length = b.m := by simp [resl]
   refine ⟨resl b us ++ σ, by rw [← List.append_assoc]; exact h1, by rw [List.length_append, hl, h2]; rfl, ?_, ?_⟩
   ·refine ⟨us, evs_more (More.app (fun _ => none) ρ _) hus, fun i hi => ?_⟩
    rw [List.getElem?_append_right (by omega), List.getElem?_append_left (by omega), show ρ.length + i - ρ.length = i by omega]
    unfold resl
    rw [List.getElem?_map, List.getElem?_range hi]; rfl
   ·rw [← List.append_assoc]
    rw [List.length_append, hl] at h3
    exact h3
  ·exact h'.elim
theorem preN_holds : ∀ {l : List Need} {t : T} {ρ : List U}, (preN l t).holdsL Q L ρ → NeedsAt ρ l ∧ t.holdsL Q L ρ
 | [], t, ρ, h => ⟨fun _ hn => (by cases hn), h⟩
 | n :: l, t, ρ, h => by
  have h' : (match evs ρ n.args with | some us => n.p us = true | none => False) ∧ (preN l t).holdsL Q L ρ := h
  obtain ⟨h1, h2⟩ := h'
  obtain ⟨h3, h4⟩ := preN_holds h2
  refine ⟨fun m hm => ?_, h4⟩
  rcases List.mem_cons.1 hm with rfl | hm
  ·split at h1
   ·rename_i us hus; exact ⟨us, hus, h1⟩
   ·exact h1.elim
  ·exact h3 m hm
variable {β0 : Blocks} {w0 : World} {β : Blocks} {ρ : List U} {st : SF} {a : Act} {w : World}
theorem SRel.ops (S : SRel β0 w0 β ρ st a w) (l : List Operand) : Ops β ρ st.tm a l := fun t _ v hv => by
 obtain ⟨u, h1, h2⟩ := S.tm t v hv
 rw [h1]
 have hlt := (Array.getElem?_eq_some_iff.1 h2).1
 simp only [Array.getD_eq_getD_getElem?, h2, Option.getD_some]
theorem SRel.rel (S : SRel β0 w0 β ρ st a w) : Rel β ρ st.h w := ⟨S.h, S.inj, S.bd⟩
theorem SRel.more (S : SRel β0 w0 β ρ st a w) (σ : List U) {nv : Nat} (hn : ρ.length + σ.length = nv) : SRel β0 w0 β (ρ ++ σ) { st with nv := nv } a w :=
 ⟨fun t v hv => (S.tm t v hv).imp fun u h => ⟨den_more (More.app β ρ σ) v h.1, h.2⟩, S.sz, fun k c hc => by
  obtain ⟨n, vs, h1, h2, h3⟩ := S.h k c hc
  exact ⟨n, vs, h1, denL_more (More.app β ρ σ) c h2, h3⟩, S.inj, S.bd, S.dom, S.b0, S.new, S.os, S.tape, S.output, S.size, S.old, S.df, by rw [List.length_append]; exact hn⟩
theorem SRel.putT (S : SRel β0 w0 β ρ st a w) (dst : Option Tmp) {v : AV} {u : Value} (hd : den β ρ v = some u) : SRel β0 w0 β ρ (st.put dst v) (a.put dst u) w := by
 cases dst with
 | none => exact S
 | some d =>
  refine ⟨fun t x hx => ?_, ?_, S.h, S.inj, S.bd, S.dom, S.b0, S.new, S.os, S.tape, S.output, S.size, S.old, S.df, S.nv⟩
  ·have hx' : (st.tm.set d v)[t]? = some x := hx
   by_cases hdt : d = t
   ·subst hdt
    have hlt : d < st.tm.length := by have := (List.getElem?_eq_some_iff.1 hx').1; simpa using this
    rw [List.getElem?_set_self hlt] at hx'
    simp at hx'; subst hx'
    refine ⟨u, hd, ?_⟩
    show (a.tmps.setIfInBounds d u)[d]? = some u
    rw [Array.getElem?_setIfInBounds_self_of_lt (by rw [S.sz]; exact hlt)]
   ·rw [List.getElem?_set_ne hdt] at hx'
    obtain ⟨y, h1, h2⟩ := S.tm t x hx'
    refine ⟨y, h1, ?_⟩
    show (a.tmps.setIfInBounds d u)[t]? = some y
    rw [Array.getElem?_setIfInBounds_ne hdt]; exact h2
  ·show (a.tmps.setIfInBounds d u).size = (st.tm.set d v).length
   rw [Array.size_setIfInBounds, List.length_set]; exact S.sz
theorem SRel.same (S : SRel β0 w0 β ρ st a w) {d : Nat} {v v' : AV} (hv : st.tm[d]? = some v) (he : den β ρ v' = den β ρ v) : SRel β0 w0 β ρ (st.setT d v') a w := by
 refine ⟨fun t x hx => ?_, ?_, S.h, S.inj, S.bd, S.dom, S.b0, S.new, S.os, S.tape, S.output, S.size, S.old, S.df, S.nv⟩
 ·have hx' : (st.tm.set d v')[t]? = some x := hx
  by_cases hdt : d = t
  ·subst hdt
   have hlt : d < st.tm.length := by have := (List.getElem?_eq_some_iff.1 hx').1; simpa using this
   rw [List.getElem?_set_self hlt] at hx'
   simp at hx'; subst hx'
   rw [he]; exact S.tm d v hv
  ·rw [List.getElem?_set_ne hdt] at hx'
   exact S.tm t x hx'
 ·show a.tmps.size = (st.tm.set d v').length
  rw [List.length_set]; exact S.sz
theorem More.new {β : Blocks} {nb n : Nat} (h : β nb = none) (ρ : List U) : More β (extB β nb n) ρ ρ :=
 ⟨fun k m hk => by unfold extB; split; rename_i hq; subst hq; rw [h] at hk; cases hk; exact hk, fun _ _ h => h⟩
theorem SRel.step (S : SRel β0 w0 β ρ st a w) {β' : Blocks} {w' : World} {e : Eff} {v : Value} {dst : Option Tmp} (hp : Post β β' ρ st.h.length e w w') (hv : den β' ρ e.val = some v) :
  SRel β0 w0 β' ρ { tm := putL st.tm dst e.val, h := updH st.h e.upd ++ newH e.new, nv := st.nv, wr := st.wr ++ e.upd.map (·.1) } (a.put dst v) w' := by
 have hnb := S.dom st.h.length (Nat.le_refl _)
 have M : More β β' ρ ρ := by
  have hn := hp.new
  cases he : e.new with
  | none => rw [he] at hn; rw [show β' = β from hn]; exact More.refl _ _
  | some c => rw [he] at hn; obtain ⟨n, vs, _, _, h3, _⟩ := hn; rw [h3]; exact More.new hnb ρ
 have hnew : ∀ k n, β' k = some n → β k = some n ∨ (k = st.h.length ∧ w.heap.size ≤ n ∧ n < w'.heap.size ∧ e.new ≠ none) := by
  intro k n hk
  have hn := hp.new
  cases he : e.new with
  | none => rw [he] at hn; rw [show β' = β from hn] at hk; exact .inl hk
  | some c =>
   rw [he] at hn; obtain ⟨m, vs, h1, h2, h3, _⟩ := hn
   rw [h3] at hk
   unfold extB at hk
   split at hk
   ·rename_i hq; simp at hk; subst hk; exact .inr ⟨hq, h1, h2, by simp⟩
   ·exact .inl hk
 have keep : ∀ k n, β k = some n → (∀ d, (k, d) ∉ e.upd) → w'.heap[n]? = w.heap[n]? := fun k n hk hno => hp.old n (S.bd k n hk) fun k' c' hm hb => by
  have := S.inj k' k n hb hk
  subst this
  exact hno _ hm
 have S1 : SRel β0 w0 β' ρ { st with h := updH st.h e.upd ++ newH e.new, wr := st.wr ++ e.upd.map (·.1) } a w' := by
  refine ⟨fun t x hx => ?_, S.sz, fun k c hk => ?_, fun k l n hk hl => ?_, fun k n hk => ?_, fun k hk => ?_, fun k n hk => M.b _ _ (S.b0 k n hk), fun k n hk h0 => ?_, hp.os.trans S.os, hp.tape.trans S.tape, hp.output.trans S.output, Nat.le_trans S.size hp.size, fun n hn hw => ?_, S.df, S.nv⟩
  ·obtain ⟨u, h1, h2⟩ := S.tm t x hx
   exact ⟨u, den_more M x h1, h2⟩
  ·dsimp only at hk
   rcases Nat.lt_or_ge k st.h.length with hlt | hge
   ·rw [List.getElem?_append_left (by rw [updH_len]; exact hlt)] at hk
    rcases updH_get _ _ _ _ hk with h1 | ⟨h1, h2⟩
    ·obtain ⟨n, vs, g1, g2, g3⟩ := hp.upd k c h1
     exact ⟨n, vs, M.b _ _ g1, g2, g3⟩
    ·obtain ⟨n, vs, g1, g2, g3⟩ := S.h k c h1
     have hb := keep k n g1 h2
     exact ⟨n, vs, M.b _ _ g1, denL_more M c g2, fun j u hj => by rw [cell_of_block hb, frozen_of_block hb]; exact g3 j u hj⟩
   ·rw [List.getElem?_append_right (by rw [updH_len]; exact hge), updH_len] at hk
    have hn := hp.new
    cases he : e.new with
    | none => rw [he] at hk; simp [newH] at hk
    | some d =>
     rw [he] at hk hn
     obtain ⟨n, vs, h1, h2, h3, h4, h5⟩ := hn
     have : k - st.h.length = 0 := by
      rcases Nat.eq_zero_or_pos (k - st.h.length) with h0 | h0
      ·exact h0
      ·rw [newH, List.getElem?_eq_none (by simp; omega)] at hk; simp at hk
     rw [this] at hk
     simp [newH] at hk; subst hk
     refine ⟨n, vs, ?_, h4, h5⟩
     rw [h3]; unfold extB; rw [if_pos (by omega)]
  ·rcases hnew k n hk with h1 | ⟨h1, h2, _, _⟩ <;> rcases hnew l n hl with g1 | ⟨g1, g2, _, _⟩
   ·exact S.inj k l n h1 g1
   ·have := S.bd k n h1; omega
   ·have := S.bd l n g1; omega
   ·omega
  ·rcases hnew k n hk with h1 | ⟨_, _, h2, _⟩
   ·exact Nat.lt_of_lt_of_le (S.bd k n h1) hp.size
   ·exact h2
  ·dsimp only at hk
   rw [List.length_append, updH_len] at hk
   cases hq : β' k with
   | none => rfl
   | some n =>
    rcases hnew k n hq with h1 | ⟨h1, _, _, h2⟩
    ·rw [S.dom k (by omega)] at h1; cases h1
    ·cases he : e.new with
     | none => exact absurd he h2
     | some d => rw [he] at hk; simp [newH] at hk; omega
  ·rcases hnew k n hk with h1 | ⟨_, h2, _, _⟩
   ·exact S.new k n h1 h0
   ·exact Nat.le_trans S.size h2
  ·rw [hp.old n (Nat.lt_of_lt_of_le hn S.size) fun k c hm hb => ?_]
   ·exact S.old n hn fun k hk => hw k (by simp [hk])
   ·cases h0 : β0 k with
    | none => have := S.new k n hb h0; omega
    | some m =>
     have := S.b0 k m h0
     rw [hb] at this; simp at this; subst this
     exact hw k (by simp; exact .inr ⟨c, hm⟩) h0
 have := S1.putT dst hv
 cases dst <;> exact this
theorem und_den (β : Blocks) (ρ : List U) : den β ρ .und = some undef := rfl
theorem Post.drew {nb : Nat} {e : Eff} {w : World} {n : Nat} (h1 : e.upd = []) (h2 : e.new = none) : Post β β ρ nb e w (w.drewN n) :=
 ⟨rfl, rfl, rfl, Nat.le_refl _, fun _ _ _ => rfl, fun k c h => (by rw [h1] at h; cases h), by rw [h2]; rfl⟩
theorem cut_lt (a b t : Nat) (m : Bool) : (Question.nanMinMax .f64 m a b).cut t < W64 ∧ (Question.nanBits .f64 a b).cut t < W64 := by
 have h : (t % 2) * 2 ^ 63 + 0x7ff0000000000000 + 1 + (t / 2) % (2 ^ 52 - 1) < W64 := by unfold W64; omega
 exact ⟨h, h⟩
theorem max2_any (x y : Nat) (hx : x < W64) (hy : y < W64) (w : World) : ∃ r n, r < W64 ∧ (Builtin.max2 (.float .f64 x) (.float .f64 y)).run P w = .ok (.float .f64 r) (w.drewN n) := by
 unfold Builtin.max2
 cases h : FloatKind.f64.format.order x y with
 | none =>
  refine ⟨_, 1, (cut_lt x y (w.tape w.drawn (.nanMinMax .f64 true x y)) true).1, ?_⟩
  simp [h, Question.forced, World.drew_is_drewN]
 | some c =>
  cases c with
  | lt => exact ⟨y, 0, hy, by simp [h, World.drewN_zero]⟩
  | gt => exact ⟨x, 0, hx, by simp [h, World.drewN_zero]⟩
  | eq => exact ⟨if (FloatKind.f64.decode x).neg then y else x, 0, by split <;> assumption, by simp [h, World.drewN_zero]⟩
theorem min2_any (x y : Nat) (hx : x < W64) (hy : y < W64) (w : World) : ∃ r n, r < W64 ∧ (Builtin.min2 (.float .f64 x) (.float .f64 y)).run P w = .ok (.float .f64 r) (w.drewN n) := by
 unfold Builtin.min2
 cases h : FloatKind.f64.format.order x y with
 | none =>
  refine ⟨_, 1, (cut_lt x y (w.tape w.drawn (.nanMinMax .f64 false x y)) false).1, ?_⟩
  simp [h, Question.forced, World.drew_is_drewN]
 | some c =>
  cases c with
  | lt => exact ⟨x, 0, hx, by simp [h, World.drewN_zero]⟩
  | gt => exact ⟨y, 0, hy, by simp [h, World.drewN_zero]⟩
  | eq => exact ⟨if (FloatKind.f64.decode x).neg then x else y, 0, by split <;> assumption, by simp [h, World.drewN_zero]⟩
theorem fsub_any (x y : Nat) (t : TypeId) (w : World) : ∃ r n, r < W64 ∧ (binOp .sub t (.float .f64 x) (.float .f64 y)).run P w = .ok (.float .f64 r) (w.drewN n) := by
 cases h : Ieee.double.sub x y with
 | none => exact ⟨_, 1, (cut_lt x y (w.tape w.drawn (.nanBits .f64 x y)) true).2, by simp [binOp, Op.floatArith, FloatKind.format, h, Question.forced, World.drew_is_drewN]⟩
 | some r => exact ⟨r, 0, Ieee.Format.sub_lt _ h, by simp [binOp, Op.floatArith, FloatKind.format, h, World.drewN_zero]⟩
theorem drawn_min2 {x y r : Nat} {c : Call} {a : Act} {w w' : World} (hc : c.callee = .builtin .min) (t : TypeId) (ha : (c.args.map a.eval) = #[.float .f64 x, .float .f64 y]) (h : (Builtin.min2 (.float .f64 x) (.float .f64 y)).run P w = .ok (.float .f64 r) w') :
  ((do let d ← resolve a.eval c t; invoke d.target d.args) : Sem Next).run P w = .ok (.value (.float .f64 r)) w' := by
 unfold resolve
 rw [hc]
 simp only [ha, Sem.run_bind, Sem.run_pure, Result.andThen_ok, invoke, builtin]
 simp [Builtin.min_, h]
theorem drawn_min3 {x y z r s : Nat} {c : Call} {a : Act} {w w' w2 : World} (hc : c.callee = .builtin .min) (t : TypeId) (ha : (c.args.map a.eval) = #[.float .f64 x, .float .f64 y, .float .f64 z]) (h : (Builtin.min2 (.float .f64 x) (.float .f64 y)).run P w = .ok (.float .f64 r) w') (h2 : (Builtin.min2 (.float .f64 r) (.float .f64 z)).run P w' = .ok (.float .f64 s) w2) :
  ((do let d ← resolve a.eval c t; invoke d.target d.args) : Sem Next).run P w = .ok (.value (.float .f64 s)) w2 := by
 unfold resolve
 rw [hc]
 simp only [ha, Sem.run_bind, Sem.run_pure, Result.andThen_ok, invoke, builtin]
 simp [Builtin.min_, h, h2]
theorem drawn_max2 {x y r : Nat} {c : Call} {a : Act} {w w' : World} (hc : c.callee = .builtin .max) (t : TypeId) (ha : (c.args.map a.eval) = #[.float .f64 x, .float .f64 y]) (h : (Builtin.max2 (.float .f64 x) (.float .f64 y)).run P w = .ok (.float .f64 r) w') :
  ((do let d ← resolve a.eval c t; invoke d.target d.args) : Sem Next).run P w = .ok (.value (.float .f64 r)) w' := by
 unfold resolve
 rw [hc]
 simp only [ha, Sem.run_bind, Sem.run_pure, Result.andThen_ok, invoke, builtin]
 simp [Builtin.max_, h]
theorem drawn_max3 {x y z r s : Nat} {c : Call} {a : Act} {w w' w2 : World} (hc : c.callee = .builtin .max) (t : TypeId) (ha : (c.args.map a.eval) = #[.float .f64 x, .float .f64 y, .float .f64 z]) (h : (Builtin.max2 (.float .f64 x) (.float .f64 y)).run P w = .ok (.float .f64 r) w') (h2 : (Builtin.max2 (.float .f64 r) (.float .f64 z)).run P w' = .ok (.float .f64 s) w2) :
  ((do let d ← resolve a.eval c t; invoke d.target d.args) : Sem Next).run P w = .ok (.value (.float .f64 s)) w2 := by
 unfold resolve
 rw [hc]
 simp only [ha, Sem.run_bind, Sem.run_pure, Result.andThen_ok, invoke, builtin]
 simp [Builtin.max_, h, h2]
theorem call_any {o : Oper} {tm : List AV} {a : Act} {w : World} {c : Call} (ho : o.op = .call c) (hT : Ops β ρ tm a o.op.operands.toList) (hm : c.callee = .builtin .min ∨ c.callee = .builtin .max) (h : fl23 (opds tm c.args.toList) = true) :
  ∃ r n, r < W64 ∧ (execOp a.eval o).run P w = .ok (.value (.float .f64 r)) (w.drewN n) := by
 have hargs : ∀ {vs : List AV}, opds tm c.args.toList = some vs → denL β ρ vs = some (c.args.toList.map a.eval) := fun {vs} hv => by
  have hT' : Ops β ρ tm a c.operands.toList := by have := hT; rw [ho] at this; exact this
  exact opds_den hT' (fun x hx => by unfold Call.operands; simp; exact .inr (by simpa using hx)) hv
 cases hv : opds tm c.args.toList with
 | none => rw [hv] at h; simp [fl23] at h
 | some vs =>
  rw [hv] at h
  unfold fl23 at h
  split at h
  ·rename_i p q he
   simp at he; subst he
   obtain ⟨x, y, h1, h2, h3⟩ := denL_cons.1 (hargs hv)
   obtain ⟨x', y', h1', h2', rfl⟩ := denL_cons.1 h2
   rw [denL_nil.1 h2'] at h3
   obtain ⟨m, em, wm, rfl⟩ := den_fl h1
   obtain ⟨n, en, wn, rfl⟩ := den_fl h1'
   have h4 : c.args.map a.eval = #[.float .f64 m, .float .f64 n] := by apply Array.ext'; simpa using h3
   rcases hm with hc | hc
   ·obtain ⟨r, k, hr, e⟩ := min2_any (P := P) m n wm wn w
    refine ⟨r, k, hr, ?_⟩
    unfold execOp; rw [ho]
    exact drawn_min2 hc o.type h4 e
   ·obtain ⟨r, k, hr, e⟩ := max2_any (P := P) m n wm wn w
    refine ⟨r, k, hr, ?_⟩
    unfold execOp; rw [ho]
    exact drawn_max2 hc o.type h4 e
  ·rename_i p q l he
   simp at he; subst he
   obtain ⟨x, y, h1, h2, h3⟩ := denL_cons.1 (hargs hv)
   obtain ⟨x', y', h1', h2', rfl⟩ := denL_cons.1 h2
   obtain ⟨x2, y2, h12, h22, rfl⟩ := denL_cons.1 h2'
   rw [denL_nil.1 h22] at h3
   obtain ⟨m, em, wm, rfl⟩ := den_fl h1
   obtain ⟨n, en, wn, rfl⟩ := den_fl h1'
   obtain ⟨u, eu, wu, rfl⟩ := den_fl h12
   have h4 : c.args.map a.eval = #[.float .f64 m, .float .f64 n, .float .f64 u] := by apply Array.ext'; simpa using h3
   rcases hm with hc | hc
   ·obtain ⟨r, k, hr, e⟩ := min2_any (P := P) m n wm wn w
    obtain ⟨r', k', hr', e'⟩ := min2_any (P := P) r u hr wu (w.drewN k)
    refine ⟨r', k + k', hr', ?_⟩
    unfold execOp; rw [ho]
    refine (drawn_min3 hc o.type h4 e e').trans ?_
    rw [World.drewN_drewN]
   ·obtain ⟨r, k, hr, e⟩ := max2_any (P := P) m n wm wn w
    obtain ⟨r', k', hr', e'⟩ := max2_any (P := P) r u hr wu (w.drewN k)
    refine ⟨r', k + k', hr', ?_⟩
    unfold execOp; rw [ho]
    refine (drawn_max3 hc o.type h4 e e').trans ?_
    rw [World.drewN_drewN]
  ·simp at h
theorem dk_run {o : Oper} {tm : List AV} {a : Act} {w : World} (h : dkOp cts tm o = true) (hT : Ops β ρ tm a o.op.operands.toList) : ∃ r n, r < W64 ∧ (execOp a.eval o).run P w = .ok (.value (.float .f64 r)) (w.drewN n) := by
 unfold dkOp at h
 split at h
 ·rename_i c ho
  split at h
  ·rename_i hc
   exact call_any ho hT (.inl hc) (Bool.and_eq_true_iff.1 h).2
  ·rename_i hc
   exact call_any ho hT (.inr hc) (Bool.and_eq_true_iff.1 h).2
  ·simp at h
 ·rename_i op t x y yt ho
  split at h
  ·split at h
   ·rename_i p q hx hy
    have dx := opd_den hT (by rw [ho]; simp [Op.operands]) hx
    have dy := opd_den hT (by rw [ho]; simp [Op.operands]) hy
    obtain ⟨m, em, wm, vm⟩ := den_fl dx
    obtain ⟨n, en, wn, vn⟩ := den_fl dy
    obtain ⟨r, k, hr, e⟩ := fsub_any (P := P) m n t w
    refine ⟨r, k, hr, ?_⟩
    have hg : (eqGuard .sub t x y (a.eval x) (a.eval y)).run P w = .ok () w := by rw [vm, vn]; exact guard_ok rfl (by simp)
    rw [← vm, ← vn] at e
    unfold execOp; rw [ho]
    simp [hg, e]
   ·simp at h
  ·simp at h
 ·simp at h
theorem opT_ok (hcts : AllOk P cts) {o : Oper} {k : SF → T} {K : Act → World → Prop} {Qx : Exit → Act → World → Prop}
  (hk : ∀ β' ρ' st' a' w', (k st').holdsL Q L ρ' → SRel β0 w0 β' ρ' st' a' w' → K a' w')
  (hh : (opT P cts st o k).holdsL Q L ρ) (S : SRel β0 w0 β ρ st a w) : o.wp P a w K Qx := by
 unfold opT at hh
 cases hdk : dkOp cts st.tm o with
 | true =>
  rw [hdk] at hh
  obtain ⟨r, n, hr, hrun⟩ := dk_run (P := P) (w := w) hdk (S.ops o.op.operands.toList)
  have S' := S.more [.f r] (nv := st.nv + nvB (dkEff st.nv).binds) (by simp [S.nv, nvB, dkEff])
  have hv : den β (ρ ++ [.f r]) (dkEff st.nv).val = some (.float .f64 r) := fl_den (by show (ρ ++ [U.f r])[st.nv]? = _; rw [← S.nv]; simp) hr
  unfold Oper.wp
  rw [hrun]
  exact hk β (ρ ++ [.f r]) _ _ _ (hh r hr) (S'.step (dst := o.dst) (Post.drew rfl rfl) hv)
 | false =>
  rw [hdk] at hh
  dsimp only at hh
  split at hh
  ·rename_i e he
   obtain ⟨σ, h1, h2, h3⟩ := preB_holds hh
   obtain ⟨h4, h5⟩ := preN_holds h1
   have S' := S.more σ (nv := st.nv + nvB e.binds) (by rw [S.nv, h2])
   have hD := evOp_ok (P := P) (o := o) hcts he (S'.ops _) S'.rel (S'.dom _ (Nat.le_refl _)) (by rw [← S.nv]; exact h3) h4
   refine hD K Qx fun β' w' v hp hv => ?_
   exact hk β' (ρ ++ σ) _ _ _ h5 (S'.step (dst := o.dst) hp hv)
  ·exact hh.elim
theorem wanted_none {ops : Array Oper} {o : Oper} (h : o.guard = none) (tmps : Array Value) : Region.wanted o (yielded ops tmps) = true := by unfold Region.wanted; rw [h]
def gdT (ops : Array Oper) (o : Oper) : List Nat := match o.guard with
 | none => []
 | some (j, _) => match (ops[j]?).bind (·.dst) with
  | some d => [d]
  | none => []
def TmAt (β : Blocks) (ρ : List U) (tm : List AV) (a : Act) (l : List Nat) : Prop := ∀ (t : Nat), t ∈ l → ∀ v, tm[t]? = some v → ∃ u, den β ρ v = some u ∧ a.tmps[t]? = some u
theorem guard_yes {ops : Array Oper} {o : Oper} {tm : List AV} (S : TmAt β ρ tm a (gdT ops o)) (h : guardOf ops tm o = .yes) : Region.wanted o (yielded ops a.tmps) = true := by
 unfold guardOf at h
 split at h
 ·rename_i hg; exact wanted_none hg _
 ·rename_i j want hg
  split at h
  ·simp at h
  ·rename_i d hd
   split at h
   ·rename_i x hx
    split at h
    ·rename_i hxw
     obtain ⟨u, h1, h2⟩ := S d (by unfold gdT; rw [hg]; dsimp only; rw [hd]; simp) _ hx
     simp [den, E.ev] at h1; subst h1
     unfold Region.wanted yielded
     rw [hg]
     simp [hd, h2, hxw]
    ·simp at h
   ·simp at h
   ·simp at h
   ·simp at h
theorem guard_no {ops : Array Oper} {o : Oper} {tm : List AV} (S : TmAt β ρ tm a (gdT ops o)) (h : guardOf ops tm o = .no) : Region.wanted o (yielded ops a.tmps) = false := by
 unfold guardOf at h
 split at h
 ·simp at h
 ·rename_i j want hg
  split at h
  ·rename_i hd
   unfold Region.wanted yielded
   rw [hg]
   simp [hd]
  ·rename_i d hd
   have hmem : d ∈ gdT ops o := by unfold gdT; rw [hg]; dsimp only; rw [hd]; simp
   split at h
   ·rename_i x hx
    split at h
    ·simp at h
    ·rename_i hxw
     obtain ⟨u, h1, h2⟩ := S d hmem _ hx
     simp [den, E.ev] at h1; subst h1
     unfold Region.wanted yielded
     rw [hg]
     simp [hd, h2]
     cases x <;> cases want <;> simp_all
   ·simp at h
   ·rename_i hx
    obtain ⟨u, h1, h2⟩ := S d hmem _ hx
    simp [den] at h1; subst h1
    unfold Region.wanted yielded
    rw [hg]
    simp [hd, h2, undef]
   ·simp at h
theorem SRel.tmAt (S : SRel β0 w0 β ρ st a w) (l : List Nat) : TmAt β ρ st.tm a l := fun t _ v hv => S.tm t v hv
theorem guard_unk {ops : Array Oper} {o : Oper} {d : Nat} {e : E} {want : Bool} (S : SRel β0 w0 β ρ st a w) (h : guardOf ops st.tm o = .unk d e want) {x : Bool} (hx : e.ev ρ = some (.b x)) :
  SRel β0 w0 β ρ (st.setT d (.bo (.l (.b x)))) a w ∧ Region.wanted o (yielded ops a.tmps) = (x == want) := by
 unfold guardOf at h
 split at h
 ·simp at h
 ·rename_i j want' hg
  split at h
  ·simp at h
  ·rename_i d' hd
   split at h
   ·split at h <;> simp at h
   ·rename_i e' hne htm
    simp at h
    obtain ⟨rfl, rfl, rfl⟩ := h
    have hden : den β ρ (.bo e') = some (.bool x) := bo_den hx
    refine ⟨S.same htm (by rw [hden]; rfl), ?_⟩
    obtain ⟨u, h1, h2⟩ := S.tm d' _ htm
    rw [hden] at h1; simp at h1; subst h1
    unfold Region.wanted yielded
    rw [hg]
    simp [hd, h2]
   ·simp at h
   ·simp at h
theorem evOps_ok (hcts : AllOk P cts) (ops : Array Oper) {Qx : Exit → Act → World → Prop} {k : SF → T}
  (hk : ∀ β' ρ' st' a' w', (k st').holdsL Q L ρ' → SRel β0 w0 β' ρ' st' a' w' → Qx .normal a' w') :
  ∀ (l : List Oper) (i : Nat), (∀ j o, l[j]? = some o → ops[i + j]? = some o) → ∀ (β : Blocks) (ρ : List U) (st : SF) (a : Act) (w : World), (evOps P cts ops l st k).holdsL Q L ρ → SRel β0 w0 β ρ st a w →
   wpOps P ops Qx (List.range' i l.length) a w
 | [], i, _, β, ρ, st, a, w, hh, S => hk β ρ st a w hh S
 | o :: l, i, hl, β, ρ, st, a, w, hh, S => by
  have ho : ops[i]? = some o := hl 0 o rfl
  have hl' : ∀ j o', l[j]? = some o' → ops[i + 1 + j]? = some o' := fun j o' hj => by rw [show i + 1 + j = i + (j + 1) by omega]; exact hl (j + 1) o' (by simpa using hj)
  have ih := evOps_ok hcts ops hk l (i + 1) hl'
  rw [List.length_cons, List.range'_succ]
  unfold evOps at hh
  simp only [wpOps, ho]
  have yes : ∀ {st : SF}, (opT P cts st o fun st => evOps P cts ops l st k).holdsL Q L ρ → SRel β0 w0 β ρ st a w → o.wp P a w (wpOps P ops Qx (List.range' (i + 1) l.length)) Qx :=
   fun h1 S1 => opT_ok hcts (fun β' ρ' st' a' w' h2 S2 => ih β' ρ' st' a' w' h2 S2) h1 S1
  have no : ∀ {st : SF}, (evOps P cts ops l (st.put o.dst .und) k).holdsL Q L ρ → SRel β0 w0 β ρ st a w → wpOps P ops Qx (List.range' (i + 1) l.length) (a.put o.dst undef) w :=
   fun h1 S1 => ih β ρ _ _ _ h1 (S1.putT o.dst (und_den β ρ))
  split at hh
  ·rename_i hg
   rw [guard_yes (S.tmAt _) hg]
   exact .inl (yes hh S)
  ·rename_i hg
   rw [guard_no (S.tmAt _) hg]
   exact no hh S
  ·rename_i d e want hg
   cases want with
   | true =>
    have hh' : (match e.ev ρ with | some (.b x) => (x = true → (opT P cts (st.setT d (.bo (.l (.b true)))) o fun st => evOps P cts ops l st k).holdsL Q L ρ) ∧ (x = false → (evOps P cts ops l ((st.setT d (.bo (.l (.b false)))).put o.dst .und) k).holdsL Q L ρ) | _ => False) := hh
    split at hh'
    ·rename_i x hx
     obtain ⟨S1, hw⟩ := guard_unk S hg hx
     rw [hw]
     cases x with
     | true => exact .inl (yes (hh'.1 rfl) S1)
     | false => exact no (hh'.2 rfl) S1
    ·exact hh'.elim
   | false =>
    have hh' : (match e.ev ρ with | some (.b x) => (x = true → (evOps P cts ops l ((st.setT d (.bo (.l (.b true)))).put o.dst .und) k).holdsL Q L ρ) ∧ (x = false → (opT P cts (st.setT d (.bo (.l (.b false)))) o fun st => evOps P cts ops l st k).holdsL Q L ρ) | _ => False) := hh
    split at hh'
    ·rename_i x hx
     obtain ⟨S1, hw⟩ := guard_unk S hg hx
     rw [hw]
     cases x with
     | true => exact no (hh'.1 rfl) S1
     | false => exact .inl (yes (hh'.2 rfl) S1)
    ·exact hh'.elim
  ·exact hh.elim
end
end Go.Proofs.YtkhplflbcgjkcaaGreat
namespace Go.Proofs.YtkhplflbcgjkcaaGreat
open Go Go.RowKit
def Ex.out : Ex → Exit
 | .nrm => .normal
 | .ext id => .exit id
 | .ret => .ret
mutual
def inB (n : Nat) : AV → Bool
 | .ptr b _ => decide (b < n)
 | .slc b _ _ _ => decide (b < n)
 | .fn _ a c => inBL n a && inBL n c
 | .agg l => inBL n l
 | .tup l => inBL n l
 | _ => true
def inBL (n : Nat) : List AV → Bool
 | [] => true
 | a :: l => inB n a && inBL n l
end
mutual
theorem inB_den {β β' : Blocks} {ρ : List U} {n : Nat} (h : ∀ k, k < n → β' k = β k) : ∀ (a : AV), inB n a = true → den β' ρ a = den β ρ a
 | .ptr b o, hn => by simp [inB] at hn; unfold den; rw [h b hn]
 | .slc b o l c, hn => by simp [inB] at hn; unfold den; rw [h b hn]
 | .fn f a c, hn => by simp [inB] at hn; unfold den; rw [inBL_den h a hn.1, inBL_den h c hn.2]
 | .agg l, hn => by simp [inB] at hn; unfold den; rw [inBL_den h l hn]
 | .tup l, hn => by simp [inB] at hn; unfold den; rw [inBL_den h l hn]
 | .fl _, _ => rfl
 | .it _ _, _ => rfl
 | .bo _, _ => rfl
 | .pnil, _ => rfl
 | .snil, _ => rfl
 | .fnil, _ => rfl
 | .und, _ => rfl
 | .str _, _ => rfl
 | .val _ _, _ => rfl
theorem inBL_den {β β' : Blocks} {ρ : List U} {n : Nat} (h : ∀ k, k < n → β' k = β k) : ∀ (l : List AV), inBL n l = true → denL β' ρ l = denL β ρ l
 | [], _ => rfl
 | a :: l, hn => by
  simp [inBL] at hn
  rw [denL, denL, inB_den h a hn.1, inBL_den h l hn.2]
end
mutual
def varsIn (m : Nat) : AV → Bool
 | .fl e => varE m e
 | .it _ e => varE m e
 | .bo e => varE m e
 | .val e _ => varE m e
 | .fn _ a c => varsL m a && varsL m c
 | .agg l => varsL m l
 | .tup l => varsL m l
 | _ => true
def varsL (m : Nat) : List AV → Bool
 | [] => true
 | a :: l => varsIn m a && varsL m l
def varE (m : Nat) : E → Bool
 | .v n => decide (n < m)
 | .l _ => true
end
theorem varE_ev {ρ σ : List U} {m : Nat} (h : ∀ (k : Nat), k < m → σ[k]? = ρ[k]?) {e : E} (he : varE m e = true) : e.ev σ = e.ev ρ := by
 cases e with
 | v n => exact h n (by simpa [varE] using he)
 | l u => rfl
mutual
theorem vars_den {β : Blocks} {ρ σ : List U} {m : Nat} (h : ∀ (k : Nat), k < m → σ[k]? = ρ[k]?) : ∀ (a : AV), varsIn m a = true → den β σ a = den β ρ a
 | .fl e, he => by unfold den; rw [varE_ev h he]
 | .it k e, he => by unfold den; rw [varE_ev h he]
 | .bo e, he => by unfold den; rw [varE_ev h he]
 | .fn f a c, he => by simp [varsIn] at he; unfold den; rw [varsL_den' h a he.1, varsL_den' h c he.2]
 | .agg l, he => by simp [varsIn] at he; unfold den; rw [varsL_den' h l he]
 | .tup l, he => by simp [varsIn] at he; unfold den; rw [varsL_den' h l he]
 | .ptr _ _, _ => rfl
 | .pnil, _ => rfl
 | .slc _ _ _ _, _ => rfl
 | .snil, _ => rfl
 | .fnil, _ => rfl
 | .und, _ => rfl
 | .str _, _ => rfl
 | .val e t, he => by unfold den; rw [varE_ev h he]
theorem varsL_den' {β : Blocks} {ρ σ : List U} {m : Nat} (h : ∀ (k : Nat), k < m → σ[k]? = ρ[k]?) : ∀ (l : List AV), varsL m l = true → denL β σ l = denL β ρ l
 | [], _ => rfl
 | a :: l, he => by simp [varsL] at he; rw [denL, denL, vars_den h a he.1, varsL_den' h l he.2]
end
theorem varsL_den {β : Blocks} {ρ σ : List U} {m : Nat} (h : ∀ (k : Nat), k < m → σ[k]? = ρ[k]?) : ∀ (l : List AV), (∀ a ∈ l, varsIn m a = true) → denL β σ l = denL β ρ l
 | [], _ => rfl
 | a :: l, he => by rw [denL, denL, vars_den h a (he a (by simp)), varsL_den h l (fun b hb => he b (by simp [hb]))]
def E.isV : E → Bool
 | .v _ => true
 | .l _ => false
mutual
def genV (fs : Bool) (n : Nat) : AV → Option (AV × List Kd × List E)
 | .fl e => if fs || e.isV then some (.fl (.v n), [.f], [e]) else some (.fl e, [], [])
 | .it k e => if fs || e.isV then some (.it k (.v n), [.i], [e]) else some (.it k e, [], [])
 | .bo e => if fs || e.isV then some (.bo (.v n), [.b], [e]) else some (.bo e, [], [])
 | .agg l => match genVs fs n l with
  | some (l', ks, es) => some (.agg l', ks, es)
  | none => none
 | .tup l => match genVs fs n l with
  | some (l', ks, es) => some (.tup l', ks, es)
  | none => none
 | v => if varsIn 0 v = true then some (v, [], []) else none
def genVs (fs : Bool) (n : Nat) : List AV → Option (List AV × List Kd × List E)
 | [] => some ([], [], [])
 | v :: l => match genV fs n v with
  | some (v', ks, es) => match genVs fs (n + es.length) l with
   | some (l', ks', es') => some (v' :: l', ks ++ ks', es ++ es')
   | none => none
  | none => none
end
def genTm (F D : Nat → Bool) (n i : Nat) : List AV → Option (List AV × List Kd × List E)
 | [] => some ([], [], [])
 | v :: l => if D i = true then match genTm F D n (i + 1) l with
   | some (l', ks, es) => some (.val (.v 0) i :: l', ks, es)
   | none => none
  else match genV (F i) n v with
   | some (v', ks, es) => match genTm F D (n + es.length) (i + 1) l with
    | some (l', ks', es') => some (v' :: l', ks ++ ks', es ++ es')
    | none => none
   | none => none
def genHp (F : Nat → Nat → Bool) (n k : Nat) : Heap → Option (Heap × List Kd × List E)
 | [] => some ([], [], [])
 | none :: h => match genHp F n (k + 1) h with
  | some (h', ks, es) => some (none :: h', ks, es)
  | none => none
 | some c :: h => match genTm (F k) (fun _ => false) n 0 c with
  | some (c', ks, es) => match genHp F (n + es.length) (k + 1) h with
   | some (h', ks', es') => some (some c' :: h', ks ++ ks', es ++ es')
   | none => none
  | none => none
structure LHint where
 tm : List Nat
 cells : List (Nat × Nat)
def dstsO : List Oper → List Nat
 | [] => []
 | o :: l => match o.dst with
  | some d => d :: dstsO l
  | none => dstsO l
def dstsC : Code → List Nat
 | .region _ ops _ => dstsO ops.toList
 | .seq a b => dstsC a ++ dstsC b
 | .cond _ t f => dstsC t ++ dstsC f
 | .block _ b => dstsC b
 | .loop b => dstsC b
 | _ => []
def firstR : Code → Option Nat
 | .region id _ _ => some id
 | .seq a b => match firstR a with
  | some n => some n
  | none => firstR b
 | .cond _ t f => match firstR t with
  | some n => some n
  | none => firstR f
 | .block _ b => firstR b
 | .loop b => firstR b
 | _ => none
def valAt (l : List AV) (i : Nat) : Bool := match l[i]? with
 | some (.val _ _) => true
 | _ => false
def genS (hint : LHint) (ds : List Nat) (len : Nat) (st : SF) : Option (SF × List Kd × List E) :=
 match genTm (fun i => hint.tm.contains i) (fun i => (ds.contains i || valAt st.tm i) && !hint.tm.contains i) 1 0 st.tm with
 | some (tm, ks, es) => match genHp (fun b o => hint.cells.contains (b, o)) (1 + es.length) 0 (st.h.take len) with
  | some (h, ks', es') => if (tm.all (inB len) && h.all fun c => match c with | some c => inBL len c | none => true) = true then some ({ tm := tm, h := h, nv := 1 + es.length + es'.length, wr := st.wr ++ hint.cells.map (·.1) }, ks ++ ks', es ++ es') else none
  | none => none
 | none => none
def sameH : Heap → Heap → Bool
 | [], [] => true
 | none :: h, none :: g => sameH h g
 | some c :: h, some d :: g => sameL c d && sameH h g
 | _, _ => false
def Kd.same : Kd → Kd → Bool
 | .f, .f => true
 | .i, .i => true
 | .b, .b => true
 | _, _ => false
def sameK : List Kd → List Kd → Bool
 | [], [] => true
 | k :: l, k' :: l' => k.same k' && sameK l l'
 | _, _ => false
def againT (hint : LHint) (ds : List Nat) (head : SF) (ks : List Kd) (st : SF) : T := match genS hint ds head.h.length st with
 | some (st', ks', es') => if (sameL st'.tm head.tm && sameH st'.h head.h && sameK ks' ks && Nat.beq st'.nv head.nv && decide (head.h.length ≤ st.h.length) && st.wr.all fun k => head.wr.contains k || decide (head.h.length ≤ k)) = true then .again es' else .bad 20
 | none => .bad 21
def hintOf (lh : List (Nat × LHint)) (c : Code) : Option LHint := match firstR c with
 | some n => (lh.find? fun x => x.1 == n).map (·.2)
 | none => none
section
variable (P : Program) (cts : List (Nat × Ct)) (dr : Array Oper → SF → (SF → T) → T) (lh : List (Nat × LHint))
def setO (st : SF) (c : Operand) (x : Bool) : SF := match c with
 | .tmp t => st.setT t (.bo (.l (.b x)))
 | _ => st
def evC : Nat → Code → SF → (Ex → SF → T) → T
 | 0, _, _, _ => .bad 3
 | n + 1, c, st, k => match c with
  | .skip => k .nrm st
  | .label _ => k .nrm st
  | .region _ ops draw => if draw then dr ops st (k .nrm) else evOps P cts ops ops.toList st (k .nrm)
  | .seq a b => evC n a st fun x st => match x with
   | .nrm => evC n b st k
   | x => k x st
  | .cond c t f => match opd st.tm c with
   | some (.bo (.l (.b x))) => evC n (if x then t else f) st k
   | some (.bo e) => .ite e (evC n t (setO st c true) k) (evC n f (setO st c false) k)
   | _ => .bad 4
  | .block id body => evC n body st fun x st => match x with
   | .ext i => if i = id then k .nrm st else k (.ext i) st
   | x => k x st
  | .loop body => match hintOf lh body with
   | none => evC n body st fun x st => match x with
    | .nrm => evC n (.loop body) st k
    | x => k x st
   | some hint => match genS hint (dstsC body) st.h.length st with
    | some (head, ks, es) => .loop ks es (evC n body head fun x st => match x with
     | .nrm => againT hint (dstsC body) head ks st
     | x => .out (k x st))
    | none => .bad 22
  | .exit id => k (.ext id) st
  | .ret => k .ret st
  | _ => .bad 5
def resL (st : SF) : List ResultVar → Option (List AV)
 | [] => some []
 | .tmp t :: l => match st.tm[t]?, resL st l with
  | some x, some y => some (x :: y)
  | _, _ => none
 | .cell a t :: l => match st.tm[a]?, resL st l with
  | some (.ptr b o), some y => match st.h[b]? with
   | some (some c) => match partAV P t c o with
    | some x => some (x :: y)
    | none => none
   | _ => none
  | _, _ => none
def res1 : List AV → AV
 | [x] => x
 | l => .tup l
def tailS (nb : Nat) (jn : Option Nat) (h : Heap) : Heap := match jn with
 | some j => [if nb ≤ j then h.getD j none else none]
 | none => []
def cutS (nb : Nat) (jn : Option Nat) (r : AV) (st : SF) : SF :=
 { tm := [r], h := st.h.take nb ++ tailS nb jn st.h, nv := st.nv, wr := st.wr.filter fun k => decide (k < nb) }
def evK (rs : List ResultVar) (nb : Nat) (jn : Option Nat) (x : Ex) (st : SF) : T := match x with
 | .ext _ => .bad 6
 | _ => match resL P st rs with
  | some l => .done .ret (cutS nb jn (res1 l) st)
  | none => .bad 7
def evF (fuel : Nat) (fn : Func) (m : Nat) (blks : List (List AV)) (args : List AV) (jn : Option Nat) : T := match fn.body with
 | some c => evC P cts dr lh fuel c { tm := args ++ List.replicate (fn.ntmps - args.length) .und, h := blks.map some, nv := m, wr := [] } (evK P fn.results.toList blks.length jn)
 | none => .bad 8
end
theorem Typed.len : ∀ {ks : List Kd} {us : List U}, Typed ks us → us.length = ks.length
 | [], [], _ => rfl
 | _ :: ks, _ :: us, h => by rw [List.length_cons, List.length_cons, Typed.len h.2]
 | [], _ :: _, h => h.elim
 | _ :: _, [], h => h.elim
theorem Typed.append : ∀ {ks ks' : List Kd} {us us' : List U}, Typed ks us → Typed ks' us' → Typed (ks ++ ks') (us ++ us')
 | [], _, [], _, _, h => h
 | _ :: _, _, _ :: _, _, h, h' => ⟨h.1, Typed.append h.2 h'⟩
 | [], _, _ :: _, _, h, _ => h.elim
 | _ :: _, _, [], _, h, _ => h.elim
theorem evs_len {ρ : List U} : ∀ {l : List E} {us : List U}, evs ρ l = some us → us.length = l.length
 | [], us, h => by unfold evs at h; simp at h; subst h; rfl
 | e :: l, us, h => by
  unfold evs at h
  split at h
  ·rename_i x xs h1 h2; simp at h; subst h; rw [List.length_cons, List.length_cons, evs_len h2]
  ·simp at h
theorem evs_append {ρ : List U} : ∀ {l m : List E} {us vs : List U}, evs ρ l = some us → evs ρ m = some vs → evs ρ (l ++ m) = some (us ++ vs)
 | [], m, us, vs, h, k => by unfold evs at h; simp at h; subst h; exact k
 | e :: l, m, us, vs, h, k => by
  unfold evs at h
  split at h
  ·rename_i x xs h1 h2; simp at h; subst h
   show evs ρ (e :: (l ++ m)) = _
   unfold evs
   rw [h1, evs_append h2 k]; rfl
  ·simp at h
def At (σ : List U) (n : Nat) (us : List U) : Prop := ∀ (i : Nat) (x : U), us[i]? = some x → σ[n + i]? = some x
theorem At.left {σ : List U} {n : Nat} {us vs : List U} (h : At σ n (us ++ vs)) : At σ n us := fun i x hx => h i x (by rw [List.getElem?_append_left (List.getElem?_eq_some_iff.1 hx).1]; exact hx)
theorem At.right {σ : List U} {n m : Nat} {us vs : List U} (h : At σ n (us ++ vs)) (hm : us.length = m) : At σ (n + m) vs := fun i x hx => by
 have := h (us.length + i) x (by rw [List.getElem?_append_right (by omega)]; simpa using hx)
 rwa [show n + m + i = n + (us.length + i) by omega]
theorem genC_den {β : Blocks} {ρ : List U} {fs : Bool} {n : Nat} {v v' : AV} {ks : List Kd} {es : List E} {u : Value} (h : genV fs n v = some (v', ks, es)) (hd : den β ρ v = some u) (hv : genV fs n v = if varsIn 0 v = true then some (v, [], []) else none) :
  ∃ us, evs ρ es = some us ∧ Typed ks us ∧ ∀ σ, At σ n us → den β σ v' = some u := by
 rw [hv] at h
 split at h
 ·rename_i hc
  simp at h; obtain ⟨rfl, rfl, rfl⟩ := h
  exact ⟨[], rfl, trivial, fun σ _ => by rw [vars_den (m := 0) (fun k hk => by omega) v hc]; exact hd⟩
 ·simp at h
section
variable {β : Blocks} {ρ : List U}
mutual
theorem genV_den : ∀ (v : AV) {fs : Bool} {n : Nat} {v' : AV} {ks : List Kd} {es : List E} {u : Value}, genV fs n v = some (v', ks, es) → den β ρ v = some u →
  ∃ us, evs ρ es = some us ∧ Typed ks us ∧ ∀ σ, At σ n us → den β σ v' = some u
 | .fl e, fs, n, v', ks, es, u, h, hd => by
  unfold genV at h
  split at h
  ·simp at h; obtain ⟨rfl, rfl, rfl⟩ := h
   obtain ⟨x, h1, h2, rfl⟩ := den_fl hd
   exact ⟨[.f x], evs1 h1, ⟨⟨x, rfl, h2⟩, trivial⟩, fun σ hσ => fl_den (hσ 0 _ rfl) h2⟩
  ·rename_i hc
   simp at h; obtain ⟨rfl, rfl, rfl⟩ := h
   cases e with
   | v k => simp [E.isV] at hc
   | l x => exact ⟨[], rfl, trivial, fun σ _ => hd⟩
 | .it k e, fs, n, v', ks, es, u, h, hd => by
  unfold genV at h
  split at h
  ·simp at h; obtain ⟨rfl, rfl, rfl⟩ := h
   obtain ⟨x, h1, rfl⟩ := den_it hd
   exact ⟨[.i x], evs1 h1, ⟨⟨x, rfl⟩, trivial⟩, fun σ hσ => it_den (hσ 0 _ rfl)⟩
  ·rename_i hc
   simp at h; obtain ⟨rfl, rfl, rfl⟩ := h
   cases e with
   | v k => simp [E.isV] at hc
   | l x => exact ⟨[], rfl, trivial, fun σ _ => hd⟩
 | .bo e, fs, n, v', ks, es, u, h, hd => by
  unfold genV at h
  split at h
  ·simp at h; obtain ⟨rfl, rfl, rfl⟩ := h
   obtain ⟨x, h1, rfl⟩ := den_bo hd
   exact ⟨[.b x], evs1 h1, ⟨⟨x, rfl⟩, trivial⟩, fun σ hσ => bo_den (hσ 0 _ rfl)⟩
  ·rename_i hc
   simp at h; obtain ⟨rfl, rfl, rfl⟩ := h
   cases e with
   | v k => simp [E.isV] at hc
   | l x => exact ⟨[], rfl, trivial, fun σ _ => hd⟩
 | .agg l, fs, n, v', ks, es, u, h, hd => by
  unfold genV at h
  split at h
  ·rename_i hl
   simp at h; obtain ⟨rfl, rfl, rfl⟩ := h
   obtain ⟨x, h1, rfl⟩ := den_agg hd
   obtain ⟨us, h2, h3, h4⟩ := genVs_den l hl h1
   exact ⟨us, h2, h3, fun σ hσ => by unfold den; rw [h4 σ hσ]⟩
  ·simp at h
 | .tup l, fs, n, v', ks, es, u, h, hd => by
  unfold genV at h
  split at h
  ·rename_i hl
   simp at h; obtain ⟨rfl, rfl, rfl⟩ := h
   obtain ⟨x, h1, rfl⟩ := den_tup hd
   obtain ⟨us, h2, h3, h4⟩ := genVs_den l hl h1
   exact ⟨us, h2, h3, fun σ hσ => by unfold den; rw [h4 σ hσ]⟩
  ·simp at h
 | .ptr b o, fs, n, v', ks, es, u, h, hd => genC_den h hd rfl
 | .pnil, fs, n, v', ks, es, u, h, hd => genC_den h hd rfl
 | .slc b o x y, fs, n, v', ks, es, u, h, hd => genC_den h hd rfl
 | .snil, fs, n, v', ks, es, u, h, hd => genC_den h hd rfl
 | .fn f a c, fs, n, v', ks, es, u, h, hd => genC_den h hd rfl
 | .fnil, fs, n, v', ks, es, u, h, hd => genC_den h hd rfl
 | .und, fs, n, v', ks, es, u, h, hd => genC_den h hd rfl
 | .str s, fs, n, v', ks, es, u, h, hd => genC_den h hd rfl
 | .val e t, fs, n, v', ks, es, u, h, hd => genC_den h hd rfl
theorem genVs_den : ∀ (l : List AV) {fs : Bool} {n : Nat} {l' : List AV} {ks : List Kd} {es : List E} {vs : List Value}, genVs fs n l = some (l', ks, es) → denL β ρ l = some vs →
  ∃ us, evs ρ es = some us ∧ Typed ks us ∧ ∀ σ, At σ n us → denL β σ l' = some vs
 | [], fs, n, l', ks, es, vs, h, hd => by
  unfold genVs at h; simp at h; obtain ⟨rfl, rfl, rfl⟩ := h
  exact ⟨[], rfl, trivial, fun σ _ => hd⟩
 | v :: l, fs, n, l', ks, es, vs, h, hd => by
  unfold genVs at h
  obtain ⟨x, xs, hx, hxs, rfl⟩ := denL_cons.1 hd
  split at h
  ·rename_i v1 k1 e1 h1
   split at h
   ·rename_i l2 k2 e2 h2
    simp at h; obtain ⟨rfl, rfl, rfl⟩ := h
    obtain ⟨us, a1, a2, a3⟩ := genV_den v h1 hx
    obtain ⟨us', b1, b2, b3⟩ := genVs_den l h2 hxs
    exact ⟨us ++ us', evs_append a1 b1, a2.append b2, fun σ hσ => denL_cons.2 ⟨x, xs, a3 σ hσ.left, b3 σ (hσ.right (evs_len a1)), rfl⟩⟩
   ·simp at h
  ·simp at h
end
theorem genTm_den {F D : Nat → Bool} {g : Nat → Value} : ∀ {l : List AV} {n i : Nat} {l' : List AV} {ks : List Kd} {es : List E}, genTm F D n i l = some (l', ks, es) → (∀ (j : Nat) (v : AV), l[j]? = some v → den β ρ v = some (g (i + j))) →
  ∃ us, evs ρ es = some us ∧ Typed ks us ∧ l'.length = l.length ∧ ∀ σ, (∀ j, D j = true → σ[0]? = some (.any g)) → At σ n us → ∀ (j : Nat) (v : AV), l'[j]? = some v → den β σ v = some (g (i + j))
 | [], n, i, l', ks, es, h, hd => by
  unfold genTm at h; simp at h; obtain ⟨rfl, rfl, rfl⟩ := h
  exact ⟨[], rfl, trivial, rfl, fun σ _ _ j v hv => by simp at hv⟩
 | v :: l, n, i, l', ks, es, h, hd => by
  have hd' : ∀ (j : Nat) (v : AV), l[j]? = some v → den β ρ v = some (g (i + 1 + j)) := fun j v hv => by rw [show i + 1 + j = i + (j + 1) by omega]; exact hd (j + 1) v (by simpa using hv)
  unfold genTm at h
  split at h
  ·rename_i hD
   split at h
   ·rename_i l2 k2 e2 h2
    simp at h; obtain ⟨rfl, rfl, rfl⟩ := h
    obtain ⟨us, b1, b2, b3, b4⟩ := genTm_den h2 hd'
    refine ⟨us, b1, b2, by rw [List.length_cons, b3]; rfl, fun σ h0 hσ j v hv => ?_⟩
    cases j with
    | zero =>
     simp at hv; subst hv
     unfold den
     rw [show (E.v 0).ev σ = σ[0]? from rfl, h0 i hD]; rfl
    | succ j => rw [show i + (j + 1) = i + 1 + j by omega]; exact b4 σ h0 hσ j v (by simpa using hv)
   ·simp at h
  ·split at h
   ·rename_i v1 k1 e1 h1
    split at h
    ·rename_i l2 k2 e2 h2
     simp at h; obtain ⟨rfl, rfl, rfl⟩ := h
     obtain ⟨us, a1, a2, a3⟩ := genV_den v h1 (hd 0 v rfl)
     obtain ⟨us', b1, b2, b3, b4⟩ := genTm_den h2 hd'
     refine ⟨us ++ us', evs_append a1 b1, a2.append b2, by rw [List.length_cons, b3]; rfl, fun σ h0 hσ j v hv => ?_⟩
     cases j with
     | zero => simp at hv; subst hv; exact a3 σ hσ.left
     | succ j => rw [show i + (j + 1) = i + 1 + j by omega]; exact b4 σ h0 (hσ.right (evs_len a1)) j v (by simpa using hv)
    ·simp at h
   ·simp at h
theorem denL_pt : ∀ {l : List AV} {vs : List Value}, l.length = vs.length → (∀ (j : Nat) (v : AV), l[j]? = some v → den β ρ v = some (vs.getD j undef)) → denL β ρ l = some vs
 | [], [], _, _ => rfl
 | v :: l, x :: vs, hl, h => denL_cons.2 ⟨x, vs, h 0 v rfl, denL_pt (by simpa using hl) (fun j v hv => h (j + 1) v (by simpa using hv)), rfl⟩
 | [], _ :: _, hl, _ => by simp at hl
 | _ :: _, [], hl, _ => by simp at hl
theorem genHp_den {F : Nat → Nat → Bool} {w : World} : ∀ {h : Heap} {n k : Nat} {h' : Heap} {ks : List Kd} {es : List E}, genHp F n k h = some (h', ks, es) → (∀ (j : Nat) (c : List AV), h[j]? = some (some c) → ∃ m vs, β (k + j) = some m ∧ denL β ρ c = some vs ∧ CellsAt m vs w) →
  ∃ us, evs ρ es = some us ∧ Typed ks us ∧ h'.length = h.length ∧ ∀ σ, At σ n us → ∀ (j : Nat) (c : List AV), h'[j]? = some (some c) → ∃ m vs, β (k + j) = some m ∧ denL β σ c = some vs ∧ CellsAt m vs w
 | [], n, k, h', ks, es, h, hd => by
  unfold genHp at h; simp at h; obtain ⟨rfl, rfl, rfl⟩ := h
  exact ⟨[], rfl, trivial, rfl, fun σ _ j c hc => by simp at hc⟩
 | none :: g, n, k, h', ks, es, h, hd => by
  have hd' : ∀ (j : Nat) (c : List AV), g[j]? = some (some c) → ∃ m vs, β (k + 1 + j) = some m ∧ denL β ρ c = some vs ∧ CellsAt m vs w := fun j c hc => by rw [show k + 1 + j = k + (j + 1) by omega]; exact hd (j + 1) c (by simpa using hc)
  unfold genHp at h
  split at h
  ·rename_i h2 k2 e2 h1
   simp at h; obtain ⟨rfl, rfl, rfl⟩ := h
   obtain ⟨us, b1, b2, b3, b4⟩ := genHp_den h1 hd'
   refine ⟨us, b1, b2, by rw [List.length_cons, b3]; rfl, fun σ hσ j c hc => ?_⟩
   cases j with
   | zero => simp at hc
   | succ j => rw [show k + (j + 1) = k + 1 + j by omega]; exact b4 σ hσ j c (by simpa using hc)
  ·simp at h
 | some c0 :: g, n, k, h', ks, es, h, hd => by
  have hd' : ∀ (j : Nat) (c : List AV), g[j]? = some (some c) → ∃ m vs, β (k + 1 + j) = some m ∧ denL β ρ c = some vs ∧ CellsAt m vs w := fun j c hc => by rw [show k + 1 + j = k + (j + 1) by omega]; exact hd (j + 1) c (by simpa using hc)
  obtain ⟨m, vs, c1, c2, c3⟩ := hd 0 c0 rfl
  unfold genHp at h
  split at h
  ·rename_i l1 k1 e1 h1
   split at h
   ·rename_i h2 k2 e2 hh
    simp at h; obtain ⟨rfl, rfl, rfl⟩ := h
    obtain ⟨us, a1, a2, a3, a4⟩ := genTm_den (g := fun j => vs.getD j undef) h1 (fun j v hv => by
     obtain ⟨x, x1, x2⟩ := denL_get c2 hv
     rw [x1, Nat.zero_add, List.getD_eq_getElem?_getD, x2]; rfl)
    obtain ⟨us', b1, b2, b3, b4⟩ := genHp_den hh hd'
    refine ⟨us ++ us', evs_append a1 b1, a2.append b2, by rw [List.length_cons, b3]; rfl, fun σ hσ j c hc => ?_⟩
    cases j with
    | zero =>
     simp at hc; subst hc
     exact ⟨m, vs, c1, denL_pt (by rw [a3, denL_len c2]) (fun j v hv => by have := a4 σ (fun j hj => by simp at hj) hσ.left j v hv; rwa [Nat.zero_add] at this), c3⟩
    | succ j => rw [show k + (j + 1) = k + 1 + j by omega]; exact b4 σ (hσ.right (evs_len a1)) j c (by simpa using hc)
   ·simp at h
  ·simp at h
end
def restr (len : Nat) (β : Blocks) : Blocks := fun k => if k < len then β k else none
theorem restr_some {len : Nat} {β : Blocks} {k n : Nat} (h : restr len β k = some n) : k < len ∧ β k = some n := by
 unfold restr at h
 split at h
 ·rename_i hk; exact ⟨hk, h⟩
 ·simp at h
theorem restr_eq {len : Nat} {β : Blocks} : ∀ k, k < len → restr len β k = β k := fun _ hk => if_pos hk
theorem SRel.gen {β0 β : Blocks} {w0 w : World} {ρ : List U} {st head : SF} {a : Act} (S : SRel β0 w0 β ρ st a w) {len : Nat} (hlen : len ≤ st.h.length) (hb0 : ∀ k n, β0 k = some n → k < len) {hint : LHint} {ds : List Nat} {ks : List Kd} {es : List E}
  (hg : genS hint ds len st = some (head, ks, es)) : ∃ us d, evs ρ es = some us ∧ Typed ks us ∧ head.h.length = len ∧ SRel β0 w0 (restr len β) (d :: us) head a w := by
 unfold genS at hg
 split at hg
 ·rename_i tm k1 e1 h1
  split at hg
  ·rename_i h k2 e2 h2
   split at hg
   ·rename_i hcond
    simp at hg; obtain ⟨rfl, rfl, rfl⟩ := hg
    simp only [Bool.and_eq_true] at hcond
    obtain ⟨q1, q2⟩ := hcond
    obtain ⟨us, a1, a2, a3, a4⟩ := genTm_den (g := fun t => a.tmps.getD t undef) h1 (fun j v hv => by
     obtain ⟨x, x1, x2⟩ := S.tm j v hv
     rw [x1, Nat.zero_add, Array.getD_eq_getD_getElem?, x2]; rfl)
    obtain ⟨us', b1, b2, b3, b4⟩ := genHp_den (w := w) h2 (fun j c hc => by
     rw [Nat.zero_add]
     refine S.h j c ?_
     rw [List.getElem?_take] at hc
     split at hc
     ·exact hc
     ·simp at hc)
    have hA : At (U.any (fun t => a.tmps.getD t undef) :: (us ++ us')) 1 (us ++ us') := fun i x hx => by rw [Nat.add_comm]; simpa using hx
    have hl : h.length = len := by rw [b3, List.length_take]; omega
    refine ⟨us ++ us', .any (fun t => a.tmps.getD t undef), evs_append a1 b1, a2.append b2, hl, ?_⟩
    refine ⟨fun t v hv => ?_, by rw [S.sz]; exact a3.symm, fun k c hc => ?_, fun k l n hk hl => S.inj k l n (restr_some hk).2 (restr_some hl).2, fun k n hk => S.bd k n (restr_some hk).2, fun k hk => ?_, fun k n hk => by rw [restr_eq k (hb0 k n hk)]; exact S.b0 k n hk,
     fun k n hk h0 => S.new k n (restr_some hk).2 h0, S.os, S.tape, S.output, S.size, fun n hn hw => S.old n hn fun k hk => hw k (by show k ∈ st.wr ++ _; simp [hk]), S.df, ?_⟩
    ·have hv' : tm[t]? = some v := hv
     have h5 := a4 _ (fun j _ => rfl) hA.left t v hv'
     have hin : inB len v = true := List.all_eq_true.1 q1 v (List.mem_of_getElem? hv')
     rw [Nat.zero_add] at h5
     refine ⟨_, by rw [inB_den (n := len) (β := β) restr_eq v hin]; exact h5, ?_⟩
     have ht : t < a.tmps.size := by rw [S.sz, ← a3]; exact (List.getElem?_eq_some_iff.1 hv').1
     simp [Array.getD_eq_getD_getElem?, ht]
    ·have hc' : h[k]? = some (some c) := hc
     obtain ⟨m, vs, d1, d2, d3⟩ := b4 _ (hA.right (evs_len a1)) k c hc'
     rw [Nat.zero_add] at d1
     have hk : k < len := by rw [← hl]; exact (List.getElem?_eq_some_iff.1 hc').1
     have hin : inBL len c = true := by have := List.all_eq_true.1 q2 _ (List.mem_of_getElem? hc'); exact this
     exact ⟨m, vs, by rw [restr_eq k hk]; exact d1, by rw [inBL_den (n := len) (β := β) restr_eq c hin]; exact d2, d3⟩
    ·have hk' : h.length ≤ k := hk
     unfold restr; rw [if_neg (by omega)]
    ·show (us ++ us').length + 1 = 1 + e1.length + e2.length
     rw [List.length_append, evs_len a1, evs_len b1]; omega
   ·simp at hg
  ·simp at hg
 ·simp at hg
theorem sameH_eq : ∀ {h g : Heap}, sameH h g = true → h = g
 | [], [], _ => rfl
 | none :: h, none :: g, e => by rw [sameH] at e; rw [sameH_eq e]
 | some c :: h, some d :: g, e => by
  rw [sameH, Bool.and_eq_true] at e
  rw [sameL_eq _ _ e.1, sameH_eq e.2]
 | none :: _, some _ :: _, e => by simp [sameH] at e
 | some _ :: _, none :: _, e => by simp [sameH] at e
 | [], _ :: _, e => by simp [sameH] at e
 | _ :: _, [], e => by simp [sameH] at e
theorem sameK_eq : ∀ {h g : List Kd}, sameK h g = true → h = g
 | [], [], _ => rfl
 | k :: h, l :: g, e => by
  rw [sameK, Bool.and_eq_true] at e
  rw [sameK_eq e.2, show k = l by cases k <;> cases l <;> simp [Kd.same] at e ⊢]
 | [], _ :: _, e => by simp [sameK] at e
 | _ :: _, [], e => by simp [sameK] at e
theorem SRel.again {β0 β : Blocks} {w0 w : World} {ρ : List U} {st head : SF} {a : Act} (S : SRel β0 w0 β ρ st a w) (hb0 : ∀ k n, β0 k = some n → k < head.h.length) {hint : LHint} {ds : List Nat} {ks : List Kd} {Q : List U → Ex → SF → Prop} {L : List (List U → Prop)} {R : List U → Prop}
  (hh : (againT hint ds head ks st).holdsL Q (R :: L) ρ) : ∃ us d β', R us ∧ Typed ks us ∧ SRel β0 w0 β' (d :: us) head a w := by
 unfold againT at hh
 split at hh
 ·rename_i st' ks' es' hg
  split at hh
  ·rename_i hc
   simp only [Bool.and_eq_true] at hc
   obtain ⟨⟨⟨⟨⟨c1, c2⟩, c3⟩, c4⟩, c6⟩, c5⟩ := hc
   have hlen : head.h.length ≤ st.h.length := of_decide_eq_true c6
   obtain ⟨us, d, h1, h2, h3, S'⟩ := S.gen hlen hb0 hg
   generalize restr head.h.length β = β1 at S'
   have hR : (match evs ρ es' with | some us => againH (R :: L) us | none => False) := hh
   rw [h1] at hR
   have e1 := sameL_eq _ _ c1
   have e2 := sameH_eq c2
   have e3 := sameK_eq c3
   have e4 := Nat.eq_of_beq_eq_true c4
   refine ⟨us, d, _, hR, by rw [← e3]; exact h2, ⟨by rw [← e1]; exact S'.tm, by rw [← e1]; exact S'.sz, by rw [← e2]; exact S'.h, S'.inj, S'.bd, by rw [← e2]; exact S'.dom, S'.b0, S'.new, S'.os, S'.tape, S'.output, S'.size, fun n hn hw => S.old n hn fun k hk => ?_, S'.df, by rw [← e4]; exact S'.nv⟩⟩
   have h5 := List.all_eq_true.1 c5 k hk
   simp only [Bool.or_eq_true, decide_eq_true_eq] at h5
   rcases h5 with h5 | h5
   ·exact hw k (List.contains_iff_mem.1 h5)
   ·intro hbk
    have := hb0 k n hbk
    omega
  ·exact hh.elim
 ·exact hh.elim
def DrOk (P : Program) (dr : Array Oper → SF → (SF → T) → T) : Prop :=
 ∀ (Q : List U → Ex → SF → Prop) (L : List (List U → Prop)) (β0 : Blocks) (w0 : World) (id : Nat) (ops : Array Oper) (k : SF → T) (Qx : Exit → Act → World → Prop),
  (∀ β' ρ' st' a' w', (k st').holdsL Q L ρ' → SRel β0 w0 β' ρ' st' a' w' → Qx .normal a' w') →
  ∀ (β : Blocks) (ρ : List U) (st : SF) (a : Act) (w : World), (dr ops st k).holdsL Q L ρ → SRel β0 w0 β ρ st a w → (Code.region id ops true).wp P Qx a w
section
variable {P : Program} {cts : List (Nat × Ct)} {dr : Array Oper → SF → (SF → T) → T} {lh : List (Nat × LHint)} {Q : List U → Ex → SF → Prop} {β0 : Blocks} {w0 : World} {Qx : Exit → Act → World → Prop}
theorem SRel.setO {β : Blocks} {ρ : List U} {st : SF} {a : Act} {w : World} (S : SRel β0 w0 β ρ st a w) {c : Operand} {e : E} (hc : opd st.tm c = some (.bo e)) {x : Bool} (hx : e.ev ρ = some (.b x)) : SRel β0 w0 β ρ (setO st c x) a w := by
 cases c with
 | tmp t => exact S.same (opd_tmp hc).1 (by rw [bo_den hx]; rfl)
 | _ => exact S
theorem evC_ok (hcts : AllOk P cts) (hdr : DrOk P dr) : ∀ (n : Nat) (L : List (List U → Prop)),
  (∀ (c : Code) (Qx : Exit → Act → World → Prop) (k : Ex → SF → T), (∀ x β' ρ' st' a' w', (k x st').holdsL Q L ρ' → SRel β0 w0 β' ρ' st' a' w' → Qx x.out a' w') →
   ∀ (β : Blocks) (ρ : List U) (st : SF) (a : Act) (w : World), (evC P cts dr lh n c st k).holdsL Q L ρ → SRel β0 w0 β ρ st a w → c.wp P Qx a w) ∧
  (∀ (c : Code) (Qx : Exit → Act → World → Prop) (k : Ex → SF → T), hintOf lh c = none → (∀ x β' ρ' st' a' w', (k x st').holdsL Q L ρ' → SRel β0 w0 β' ρ' st' a' w' → Qx x.out a' w') →
   ∀ (β : Blocks) (ρ : List U) (st : SF) (a : Act) (w : World), (evC P cts dr lh n (.loop c) st k).holdsL Q L ρ → SRel β0 w0 β ρ st a w → Code.rounds P c Qx n a w)
 | 0, _ => ⟨fun c Qx k hk β ρ st a w hh S => hh.elim, fun c Qx k _ hk β ρ st a w hh S => hh.elim⟩
 | n + 1, L => by
  obtain ⟨ih, ihl⟩ := evC_ok hcts hdr n L
  have loop : ∀ (c : Code) (Qx : Exit → Act → World → Prop) (k : Ex → SF → T), hintOf lh c = none → (∀ x β' ρ' st' a' w', (k x st').holdsL Q L ρ' → SRel β0 w0 β' ρ' st' a' w' → Qx x.out a' w') →
   ∀ (β : Blocks) (ρ : List U) (st : SF) (a : Act) (w : World), (evC P cts dr lh (n + 1) (.loop c) st k).holdsL Q L ρ → SRel β0 w0 β ρ st a w → Code.rounds P c Qx (n + 1) a w := by
   intro c Qx k hnh hk β ρ st a w hh S
   rw [rounds_succ]
   unfold evC at hh
   dsimp only at hh
   rw [hnh] at hh
   dsimp only at hh
   refine ih c _ _ (fun x β' ρ' st' a' w' h1 S1 => ?_) β ρ st a w hh S
   cases x with
   | nrm => exact ihl c Qx k hnh hk β' ρ' st' a' w' h1 S1
   | ext id => exact hk (.ext id) β' ρ' st' a' w' h1 S1
   | ret => exact hk .ret β' ρ' st' a' w' h1 S1
  have loopH : ∀ (c : Code) (Qx : Exit → Act → World → Prop) (k : Ex → SF → T) (hint : LHint), hintOf lh c = some hint → (∀ x β' ρ' st' a' w', (k x st').holdsL Q L ρ' → SRel β0 w0 β' ρ' st' a' w' → Qx x.out a' w') →
   ∀ (β : Blocks) (ρ : List U) (st : SF) (a : Act) (w : World), (evC P cts dr lh (n + 1) (.loop c) st k).holdsL Q L ρ → SRel β0 w0 β ρ st a w → (Code.loop c).wp P Qx a w := by
   intro c Qx k hint hnh hk β ρ st a w hh S
   unfold evC at hh
   dsimp only at hh
   rw [hnh] at hh
   dsimp only at hh
   split at hh
   ·rename_i head ks es hg
    obtain ⟨I, μ, hI, hB⟩ := hh
    have hb0 : ∀ k n, β0 k = some n → k < st.h.length := fun k n hk => by
     rcases Nat.lt_or_ge k st.h.length with h1 | h1
     ·exact h1
     ·have := S.dom k h1
      rw [S.b0 k n hk] at this; cases this
    obtain ⟨us, d, h1, h2, h3, S0⟩ := S.gen (Nat.le_refl _) hb0 hg
    rw [h1] at hI
    have key : ∀ (N : Nat) (us : List U) (d : U) (β : Blocks) (a : Act) (w : World), μ us < N → I us → Typed ks us → SRel β0 w0 β (d :: us) head a w → Code.rounds P c Qx N a w := by
     intro N
     induction N with
     | zero => intro us d β a w h; omega
     | succ N ihN =>
      intro us d β a w hμ hIu hty Su
      rw [rounds_succ]
      refine (evC_ok hcts hdr n _).1 c _ _ (fun x β' ρ' st' a' w' g1 S1 => ?_) β (d :: us) head a w (hB us d hty hIu) Su
      cases x with
      | nrm =>
       obtain ⟨us', d', β'', hR, hty', S2⟩ := S1.again (by rw [h3]; exact hb0) g1
       exact ihN us' d' β'' a' w' (by have := hR.2; omega) hR.1 hty' S2
      | ext id => exact hk (.ext id) β' ρ' st' a' w' g1 S1
      | ret => exact hk .ret β' ρ' st' a' w' g1 S1
    exact wp_loop_rounds (μ us + 1) (key (μ us + 1) us d _ a w (by omega) hI h2 S0)
   ·exact hh.elim
  refine ⟨fun c Qx k hk β ρ st a w hh S => ?_, loop⟩
  cases c with
  | skip => exact wp_skip (hk .nrm β ρ st a w hh S)
  | label l => exact wp_label (hk .nrm β ρ st a w hh S)
  | region id ops draw =>
   cases draw with
   | true => exact hdr Q L β0 w0 id ops (k .nrm) Qx (fun β' ρ' st' a' w' h1 S1 => hk .nrm β' ρ' st' a' w' h1 S1) β ρ st a w hh S
   | false =>
    refine wp_region ?_
    have h1 := evOps_ok (Qx := Qx) (k := k .nrm) hcts ops (fun β' ρ' st' a' w' h1 S1 => hk .nrm β' ρ' st' a' w' h1 S1) ops.toList 0 (fun j o hj => by simpa using hj) β ρ st a w hh S
    rw [List.range_eq_range']
    simpa using h1
  | seq x y =>
   refine wp_seq (ih x _ _ (fun e β' ρ' st' a' w' h1 S1 => ?_) β ρ st a w hh S)
   cases e with
   | nrm => exact ih y Qx k hk β' ρ' st' a' w' h1 S1
   | ext id => exact hk (.ext id) β' ρ' st' a' w' h1 S1
   | ret => exact hk .ret β' ρ' st' a' w' h1 S1
  | cond c t f =>
   unfold evC at hh
   dsimp only at hh
   split at hh
   ·rename_i x hc
    obtain ⟨y, h1, h2⟩ := den_bo (opd_den (S.ops [c]) (by simp) hc)
    simp [E.ev] at h1; subst h1
    refine wp_cond h2 ?_
    cases x <;> exact ih _ Qx k hk β ρ st a w hh S
   ·rename_i e hne hc
    have hh' : (match e.ev ρ with | some (.b x) => (x = true → (evC P cts dr lh n t (setO st c true) k).holdsL Q L ρ) ∧ (x = false → (evC P cts dr lh n f (setO st c false) k).holdsL Q L ρ) | _ => False) := hh
    obtain ⟨y, h1, h2⟩ := den_bo (opd_den (S.ops [c]) (by simp) hc)
    rw [h1] at hh'
    refine wp_cond h2 ?_
    cases y with
    | true => exact ih _ Qx k hk β ρ _ a w (hh'.1 rfl) (S.setO hc h1)
    | false => exact ih _ Qx k hk β ρ _ a w (hh'.2 rfl) (S.setO hc h1)
   ·exact hh.elim
  | block id body =>
   refine wp_block (ih body _ _ (fun e β' ρ' st' a' w' h1 S1 => ?_) β ρ st a w hh S)
   cases e with
   | nrm => exact hk .nrm β' ρ' st' a' w' h1 S1
   | ext i =>
    dsimp only at h1
    show (if i = id then Qx .normal a' w' else Qx (.exit i) a' w')
    split
    ·rename_i hi
     rw [if_pos hi] at h1
     exact hk .nrm β' ρ' st' a' w' h1 S1
    ·rename_i hi
     rw [if_neg hi] at h1
     exact hk (.ext i) β' ρ' st' a' w' h1 S1
   | ret => exact hk .ret β' ρ' st' a' w' h1 S1
  | loop body =>
   cases hnh : hintOf lh body with
   | none => exact wp_loop_rounds (n + 1) (loop body Qx k hnh hk β ρ st a w hh S)
   | some hint => exact loopH body Qx k hint hnh hk β ρ st a w hh S
  | exit id => exact wp_exit (hk (.ext id) β ρ st a w hh S)
  | ret => exact wp_ret (hk .ret β ρ st a w hh S)
  | _ => exact hh.elim
def resFn (tmps : Array Value) (r : ResultVar) : Sem Value := match r with
 | .tmp t => pure (tmps.getD t undef)
 | .cell a t => do loadVar t (← asAddr (tmps.getD a undef))
theorem results_eq (fn : Func) (tmps : Array Value) : results fn tmps = (do
  let vs ← fn.results.mapM (resFn tmps)
  pure (if h : vs.size = 1 then vs[0] else .tuple vs)) := rfl
theorem resL_den {β : Blocks} {ρ : List U} {st : SF} {a : Act} {w : World} (S : SRel β0 w0 β ρ st a w) : ∀ {rs : List ResultVar} {l : List AV}, resL P st rs = some l →
  ∃ vs, denL β ρ l = some vs ∧ (rs.mapM (resFn a.tmps)).run P w = .ok vs w
 | [], l, h => by unfold resL at h; simp at h; subst h; exact ⟨[], rfl, by simp⟩
 | .tmp t :: rs, l, h => by
  unfold resL at h
  split at h
  ·rename_i x y hx hy
   simp at h; subst h
   obtain ⟨vs, h1, h2⟩ := resL_den S hy
   obtain ⟨u, h3, h4⟩ := S.tm t x hx
   refine ⟨u :: vs, denL_cons.2 ⟨u, vs, h3, h1, rfl⟩, ?_⟩
   rw [List.mapM_cons]
   have hg : a.tmps.getD t undef = u := by simp [Array.getD_eq_getD_getElem?, h4]
   simp only [resFn, Sem.run_bind, Sem.run_pure, Result.andThen_ok, h2, hg]
  ·simp at h
 | .cell x t :: rs, l, h => by
  unfold resL at h
  split at h
  ·rename_i b o y hx hy
   split at h
   ·rename_i c hc
    split at h
    ·rename_i v hv
     simp at h; subst h
     obtain ⟨vs, h1, h2⟩ := resL_den S hy
     obtain ⟨u, h3, h4⟩ := S.tm x _ hx
     obtain ⟨n, h5, h6⟩ := den_ptr h3
     obtain ⟨m, us, g1, g2, g3⟩ := S.h b c hc
     rw [h5] at g1; simp at g1; subst g1
     have hg : a.tmps.getD x undef = .pointer (some ⟨n, o, none⟩) := by simp [Array.getD_eq_getD_getElem?, h4, h6]
     have key : ∃ z, den β ρ v = some z ∧ (loadVar t ⟨n, o, none⟩).run P w = .ok z w := by
      unfold partAV at hv
      split at hv
      ·rename_i ha
       split at hv
       ·rename_i k hk
        split at hv
        ·rename_i hle
         simp at hv; subst hv
         obtain ⟨d, hd1, hd2⟩ := agg_desc ha
         have hl := denL_len g2
         refine ⟨.agg ((us.drop o).take k).toArray, by unfold den; rw [denL_take k (denL_drop o g2)], ?_⟩
         refine run_loadVar_mid (P := P) w n o t ((us.drop o).take k) d (fun j z hj => ?_) hd1 hd2 (by rw [size_info hk]; congr 1; simp; omega)
         have : us[o + j]? = some z := by
          rw [List.getElem?_take] at hj
          split at hj
          ·rwa [List.getElem?_drop] at hj
          ·simp at hj
         exact (g3 _ _ this).1
        ·simp at hv
       ·simp at hv
      ·rename_i ha
       obtain ⟨z, h7, h8⟩ := denL_get g2 hv
       exact ⟨z, h7, by simp [loadVar, run_agg ha, (g3 _ _ h8).1]⟩
      ·simp at hv
     obtain ⟨z, k1, k2⟩ := key
     refine ⟨z :: vs, denL_cons.2 ⟨z, vs, k1, h1, rfl⟩, ?_⟩
     rw [List.mapM_cons]
     rw [Sem.run_bind, show (resFn a.tmps (.cell x t)).run P w = .ok z w from by simp only [resFn, Sem.run_bind, hg, asAddr, Sem.run_pure, Result.andThen_ok, k2]]
     simp only [Sem.run_bind, Result.andThen_ok, h2, Sem.run_pure]
    ·simp at h
   ·simp at h
  ·simp at h
theorem results_ok {fn : Func} {β : Blocks} {ρ : List U} {st : SF} {a : Act} {w : World} (S : SRel β0 w0 β ρ st a w) {l : List AV} (h : resL P st fn.results.toList = some l) :
  ∃ v, den β ρ (res1 l) = some v ∧ (results fn a.tmps).run P w = .ok v w := by
 obtain ⟨vs, h1, h2⟩ := resL_den S h
 have hl := denL_len h1
 have h2' : (fn.results.mapM (resFn a.tmps)).run P w = .ok vs.toArray w := by
  rw [Array.mapM_eq_mapM_toList]
  simp only [Sem.run_map, h2, Result.andThen_ok]
 refine ⟨if h : vs.toArray.size = 1 then vs.toArray[0] else .tuple vs.toArray, ?_, ?_⟩
 ·unfold res1
  split
  ·rename_i x
   obtain ⟨u, us, k1, k2, rfl⟩ := denL_cons.1 h1
   rw [denL_nil.1 k2]
   simpa using k1
  ·rename_i hne
   have : vs.toArray.size ≠ 1 := by
    intro h3
    simp at h3
    rw [h3] at hl
    cases l with
    | nil => simp at hl
    | cons x t => cases t with
     | nil => exact hne x rfl
     | cons y t => simp at hl
   rw [dif_neg this]
   unfold den; rw [h1]
 ·rw [results_eq]
  simp only [Sem.run_bind, h2', Result.andThen_ok, Sem.run_pure]
theorem denL_repl (β : Blocks) (ρ : List U) : ∀ n, denL β ρ (List.replicate n .und) = some (List.replicate n undef)
 | 0 => rfl
 | n + 1 => by
  rw [List.replicate_succ, List.replicate_succ]
  exact denL_cons.2 ⟨undef, _, rfl, denL_repl β ρ n, rfl⟩
theorem calls_eval (hcts : AllOk P cts) (hdr : DrOk P dr) {f : Nat} {fn : Func} (hf : P.funcs[f]? = some fn) (fuel m : Nat) {blks : List (List AV)} {args : List AV} {us : List U} {β : Blocks} {w : World} {vs : List Value}
  (hm : us.length = m) {jn : Option Nat} (hh : (evF P cts dr lh fuel fn m blks args jn).holdsL Q [] us) (inj : ∀ (k l n : Nat), β k = some n → β l = some n → k = l) (bd : ∀ (k n : Nat), β k = some n → n < w.heap.size) (dom : ∀ k, blks.length ≤ k → β k = none)
  (hB : ∀ (k : Nat) (c : List AV), blks[k]? = some c → ∃ n ys, β k = some n ∧ denL β us c = some ys ∧ CellsAt n ys w) (hv : denL β us args = some vs) :
  Calls P f vs.toArray w fun e w' => ∃ β' ρ' st' a' r v, SRel β w β' ρ' st' a' w' ∧ Q ρ' .ret (cutS blks.length jn r st') ∧ den β' ρ' r = some v ∧ e = .returned v := by
 unfold evF at hh
 cases hb : fn.body with
 | none => rw [hb] at hh; exact hh.elim
 | some c =>
  rw [hb] at hh
  dsimp only at hh
  refine calls_of_wp hf hb ?_
  have htm : denL β us (args ++ List.replicate (fn.ntmps - args.length) .und) = some (vs ++ List.replicate (fn.ntmps - args.length) undef) := denL_append hv (denL_repl _ _ _)
  have hlen := denL_len hv
  have S : SRel β w β us { tm := args ++ List.replicate (fn.ntmps - args.length) .und, h := blks.map some, nv := m, wr := [] } { tmps := vs.toArray ++ Array.replicate (fn.ntmps - vs.toArray.size) undef, defers := [] } w := by
   refine ⟨fun t v ht => ?_, ?_, fun k c hk => hB k c (by rw [List.getElem?_map] at hk; cases h0 : blks[k]? <;> rw [h0] at hk <;> simp at hk; rw [hk]), inj, bd, (by rw [List.length_map]; exact dom), fun _ _ h => h, fun k n h1 h2 => (by rw [h1] at h2; cases h2), rfl, rfl, rfl, Nat.le_refl _, fun _ _ _ => rfl, rfl, hm⟩
   ·obtain ⟨u, h1, h2⟩ := denL_get htm ht
    refine ⟨u, h1, ?_⟩
    rw [← Array.getElem?_toList]
    simpa [hlen] using h2
   ·simp [hlen]
  refine (evC_ok (Q := Q) hcts hdr fuel []).1 c _ _ (fun x β' ρ' st' a' w' h1 S1 => ?_) β us _ _ w hh S
  have fin : ∀ {l : List AV}, resL P st' fn.results.toList = some l → Q ρ' .ret (cutS blks.length jn (res1 l) st') →
    a'.defers = [] ∧ ∃ v, (results fn a'.tmps).run P w' = .ok v w' ∧ ∃ β' ρ' st' a' r u, SRel β w β' ρ' st' a' w' ∧ Q ρ' .ret (cutS blks.length jn r st') ∧ den β' ρ' r = some u ∧ Ending.returned v = .returned u := by
   intro l hl hq
   obtain ⟨v, h2, h3⟩ := results_ok S1 hl
   exact ⟨S1.df, v, h3, β', ρ', st', a', res1 l, v, S1, hq, h2, rfl⟩
  unfold evK at h1
  cases x with
  | ext id => exact h1.elim
  | nrm =>
   dsimp only at h1
   split at h1
   ·rename_i l hl; exact fin hl h1
   ·exact h1.elim
  | ret =>
   dsimp only at h1
   split at h1
   ·rename_i l hl; exact fin hl h1
   ·exact h1.elim
mutual
def Facts (ρ : List U) : AV → Prop
 | .fl (.v n) => ∃ x, ρ[n]? = some (.f x) ∧ x < W64
 | .it _ (.v n) => ∃ x, ρ[n]? = some (.i x)
 | .bo (.v n) => ∃ x, ρ[n]? = some (.b x)
 | .fn _ a c => FactsL ρ a ∧ FactsL ρ c
 | .agg l => FactsL ρ l
 | .tup l => FactsL ρ l
 | _ => True
def FactsL (ρ : List U) : List AV → Prop
 | [] => True
 | a :: l => Facts ρ a ∧ FactsL ρ l
end
mutual
theorem den_facts {β : Blocks} {ρ : List U} : ∀ (a : AV) {v : Value}, den β ρ a = some v → Facts ρ a
 | .fl (.v n), v, h => by obtain ⟨x, h1, h2, _⟩ := den_fl h; exact ⟨x, h1, h2⟩
 | .fl (.l u), v, h => trivial
 | .it k (.v n), v, h => by obtain ⟨x, h1, _⟩ := den_it h; exact ⟨x, h1⟩
 | .it k (.l u), v, h => trivial
 | .bo (.v n), v, h => by obtain ⟨x, h1, _⟩ := den_bo h; exact ⟨x, h1⟩
 | .bo (.l u), v, h => trivial
 | .fn f a c, v, h => by obtain ⟨x, y, h1, h2, _⟩ := den_fn h; exact ⟨denL_facts a h1, denL_facts c h2⟩
 | .agg l, v, h => by obtain ⟨x, h1, _⟩ := den_agg h; exact denL_facts l h1
 | .tup l, v, h => by obtain ⟨x, h1, _⟩ := den_tup h; exact denL_facts l h1
 | .ptr _ _, v, h => trivial
 | .pnil, v, h => trivial
 | .slc _ _ _ _, v, h => trivial
 | .snil, v, h => trivial
 | .fnil, v, h => trivial
 | .und, v, h => trivial
 | .str _, v, h => trivial
 | .val _ _, v, h => trivial
theorem denL_facts {β : Blocks} {ρ : List U} : ∀ (l : List AV) {vs : List Value}, denL β ρ l = some vs → FactsL ρ l
 | [], _, _ => trivial
 | a :: l, vs, h => by
  obtain ⟨x, y, h1, h2, _⟩ := denL_cons.1 h
  exact ⟨den_facts a h1, denL_facts l h2⟩
end
def FactsB (ρ : List U) : List (List AV) → Prop
 | [] => True
 | c :: l => FactsL ρ c ∧ FactsB ρ l
theorem factsB {ρ : List U} : ∀ {l : List (List AV)}, (∀ (k : Nat) (c : List AV), l[k]? = some c → FactsL ρ c) → FactsB ρ l
 | [], _ => trivial
 | c :: l, h => ⟨h 0 c rfl, factsB fun k d hd => h (k + 1) d (by simpa using hd)⟩
def runB : List Bind → List U → List U
 | [], us => us
 | b :: l, us => runB l (us ++ resl b ((evs us b.args).getD []))
def argsIn (m : Nat) : List Bind → Bool
 | [] => true
 | b :: l => (b.args.all fun e => match e with | .v n => decide (n < m) | .l _ => true) && argsIn (m + b.m) l
theorem evs_some {ρ : List U} : ∀ {l : List E}, (l.all fun e => match e with | .v n => decide (n < ρ.length) | .l _ => true) = true → ∃ us, evs ρ l = some us
 | [], _ => ⟨[], rfl⟩
 | e :: l, h => by
  simp only [List.all_cons, Bool.and_eq_true] at h
  obtain ⟨us, h2⟩ := evs_some h.2
  cases e with
  | v n =>
   have hlt : n < ρ.length := by simpa using h.1
   exact ⟨ρ[n] :: us, by unfold evs; rw [show (E.v n).ev ρ = ρ[n]? from rfl, List.getElem?_eq_getElem hlt, h2]⟩
  | l u => exact ⟨u :: us, by unfold evs; rw [h2]; rfl⟩
theorem runB_pre {ρ : List U} : ∀ {l : List Bind} {us : List U}, argsIn us.length l = true → (∀ (k : Nat) (u : U), us[k]? = some u → ρ[k]? = some u) → BindsAt ρ us.length l → ∀ (k : Nat) (u : U), (runB l us)[k]? = some u → ρ[k]? = some u
 | [], us, _, hp, _ => hp
 | b :: l, us, ha, hp, hb => by
  simp only [argsIn, Bool.and_eq_true] at ha
  obtain ⟨⟨xs, h1, h2⟩, h3⟩ := hb
  obtain ⟨ys, h4⟩ := evs_some (ρ := us) ha.1
  have h5 := evs_more (β := fun _ => none) (β' := fun _ => none) ⟨fun _ _ h => h, hp⟩ h4
  rw [h1] at h5; simp at h5; subst h5
  have hl : (resl b xs).length = b.m := by simp [resl]
  unfold runB
  rw [h4, Option.getD_some]
  refine runB_pre (by rw [List.length_append, hl]; exact ha.2) (fun k u hk => ?_) (by rw [List.length_append, hl]; exact h3)
  rcases Nat.lt_or_ge k us.length with hlt | hge
  ·rw [List.getElem?_append_left hlt] at hk; exact hp k u hk
  ·rw [List.getElem?_append_right hge] at hk
   have hlt : k - us.length < b.m := by have := (List.getElem?_eq_some_iff.1 hk).1; omega
   unfold resl at hk
   rw [List.getElem?_map, List.getElem?_range hlt] at hk
   simp at hk; subst hk
   have := h2 _ hlt
   rwa [show us.length + (k - us.length) = k by omega] at this
def renB (nb : Nat) (jn : Option Nat) (β : Blocks) : Blocks := match jn with
 | some j => fun k => if k = nb then β j else β k
 | none => β
def Leaf (ct : Ct) (jn : Option Nat) (σ : List U) (ρ : List U) (_ : Ex) (st : SF) : Prop :=
 (∃ r, st.tm = [r] ∧ ∀ β, den β ρ r = den (renB ct.blks.length jn β) σ ct.eff.val) ∧ (∀ k c, (k, c) ∈ ct.eff.upd → ∃ d, st.h[k]? = some (some d) ∧ ∀ β, denL β ρ d = denL (renB ct.blks.length jn β) σ c) ∧ (∀ k, k ∈ st.wr → k ∈ ct.eff.upd.map (·.1)) ∧
 ∀ c, ct.eff.new = some c → ∃ d, st.h[ct.blks.length]? = some (some d) ∧ ∀ β, denL β ρ d = denL (renB ct.blks.length jn β) σ c
def nbT (ct : Ct) : Nat := match ct.eff.new with
 | some _ => ct.blks.length + 1
 | none => ct.blks.length
def ctB (ct : Ct) (jn : Option Nat) : Bool := argsIn ct.m ct.eff.binds && (ct.eff.upd.all fun x => decide (x.1 < ct.blks.length) && inBL (nbT ct) x.2) && inB (nbT ct) ct.eff.val && (match ct.eff.new, jn with | none, none => true | some c, some _ => inBL (nbT ct) c | _, _ => false) &&
 (ct.eff.needs.all fun n => n.args.all fun e => match e with | .v k => decide (k < ct.m + nvB ct.eff.binds) | .l _ => true)
theorem runB_len : ∀ (l : List Bind) (us : List U), (runB l us).length = us.length + nvB l
 | [], us => rfl
 | b :: l, us => by
  unfold runB
  rw [runB_len l, List.length_append, show (resl b ((evs us b.args).getD [])).length = b.m by simp [resl], nvB]; omega
theorem entersOk {f : Nat} {fn : Func} (hf : P.funcs[f]? = some fn) (hb : fn.body.isSome = true) (hn : (fn.name == "runtime.NumGoroutine") = false) (args : Array Value) (w : World) : (callFunc f args).run P w = .ok (.enter f args) w := by
 unfold callFunc
 have hb' : fn.body.isNone = false := by cases h : fn.body <;> simp_all
 simp only [Sem.run_bind, run_program, Result.andThen_ok, hf, hn, hb', Bool.false_eq_true, if_false]
 rfl
theorem CtOk.of_eval (hcts : AllOk P cts) (hdr : DrOk P dr) {f : Nat} {fn : Func} (hf : P.funcs[f]? = some fn) (hb : fn.body.isSome = true) (hn : (fn.name == "runtime.NumGoroutine") = false) (lh : List (Nat × LHint)) (fuel : Nat) {ct : Ct} {jn : Option Nat} (hct : ctB ct jn = true) {t : T} (ht : evF P cts dr lh fuel fn ct.m ct.blks ct.args jn = t)
  (H : ∀ us, us.length = ct.m → FactsL us ct.args → FactsB us ct.blks → NeedsAt (runB ct.eff.binds us) ct.eff.needs → t.holds (Leaf ct jn (runB ct.eff.binds us)) us) (hv0 : (ct.args.all fun a => varsIn ct.m a) = true) (hv1 : (ct.blks.all fun c => c.all fun a => varsIn ct.m a) = true) : CtOk P f ct := by
 simp only [ctB, Bool.and_eq_true] at hct
 obtain ⟨⟨⟨⟨c1, c2⟩, c3⟩, c4⟩, c5⟩ := hct
 refine CtOk.mk' (entersOk hf hb hn) fun β ρ w vs inj bd dom hB hv hm hbinds hneeds => ?_
 have hl : (ρ.take ct.m).length = ct.m := by simp; omega
 have hpre : ∀ (k : Nat) (u : U), (ρ.take ct.m)[k]? = some u → ρ[k]? = some u := fun k u hk => by
  rw [List.getElem?_take] at hk
  split at hk
  ·exact hk
  ·simp at hk
 have back : ∀ (k : Nat), k < ct.m → (ρ.take ct.m)[k]? = ρ[k]? := fun k hk => by rw [List.getElem?_take, if_pos hk]
 have hrun := runB_pre (ρ := ρ) (us := ρ.take ct.m) (by rw [hl]; exact c1) hpre (by rw [hl]; exact hbinds)
 have MR : ∀ β, More β β (runB ct.eff.binds (ρ.take ct.m)) ρ := fun β => ⟨fun _ _ h => h, hrun⟩
 have hvt : denL β (ρ.take ct.m) ct.args = some vs := by rw [varsL_den (fun k hk => back k hk) ct.args (by simpa using hv0)]; exact hv
 have hBt : ∀ (k : Nat) (c : List AV), ct.blks[k]? = some c → ∃ n ys, β k = some n ∧ denL β (ρ.take ct.m) c = some ys ∧ CellsAt n ys w := fun k c hc => by
  obtain ⟨n, ys, h1, h2, h3⟩ := hB k c hc
  exact ⟨n, ys, h1, by rw [varsL_den (fun k hk => back k hk) c (by have := List.all_eq_true.1 hv1 c (List.mem_of_getElem? hc); simpa using this)]; exact h2, h3⟩
 have hneed : NeedsAt (runB ct.eff.binds (ρ.take ct.m)) ct.eff.needs := fun n hn => by
  obtain ⟨us, h1, h2⟩ := hneeds n hn
  have hall := List.all_eq_true.1 c5 n hn
  obtain ⟨us', h3⟩ := evs_some (ρ := runB ct.eff.binds (ρ.take ct.m)) (l := n.args) (by rw [runB_len, hl]; exact hall)
  have h4 := evs_more (MR β) h3
  rw [h1] at h4; simp at h4; subst h4
  exact ⟨us, h3, h2⟩
 have hT := H (ρ.take ct.m) hl (denL_facts _ hvt) (factsB fun k c hc => by obtain ⟨n, ys, _, h2, _⟩ := hBt k c hc; exact denL_facts _ h2) hneed
 rw [← ht] at hT
 refine (calls_eval hcts hdr hf fuel ct.m hl hT inj bd dom hBt hvt).mono fun e w' ⟨β', ρ', st', a', r, v, S, hleaf, hr, he⟩ => ?_
 obtain ⟨⟨r', h1, h2⟩, h3, h4, h5⟩ := hleaf
 have h1' : [r] = [r'] := h1
 simp at h1'; subst h1'
 have hsame : ∀ k, k < ct.blks.length → β' k = β k := fun k hk => by
  obtain ⟨n, ys, g1, _, _⟩ := hB k _ (List.getElem?_eq_getElem hk)
  rw [g1]; exact S.b0 k n g1
 have hget : ∀ (k : Nat) (d : List AV), k < ct.blks.length → (cutS ct.blks.length jn r st').h[k]? = some (some d) → st'.h[k]? = some (some d) := fun k d hk hd => by
  have hd' : (st'.h.take ct.blks.length ++ tailS ct.blks.length jn st'.h)[k]? = some (some d) := hd
  rcases Nat.lt_or_ge k (st'.h.take ct.blks.length).length with hlt | hge
  ·rw [List.getElem?_append_left hlt, List.getElem?_take_of_lt hk] at hd'; exact hd'
  ·rw [List.getElem?_append_right hge] at hd'
   have hlen : (st'.h.take ct.blks.length).length ≤ k := hge
   rw [List.length_take] at hlen
   have hall : st'.h.length ≤ k := by omega
   exfalso
   cases hjn : jn with
   | none => rw [hjn] at hd'; simp [tailS] at hd'
   | some j =>
    rw [hjn] at hd'
    unfold tailS at hd'
    dsimp only at hd'
    have h0 : k - (st'.h.take ct.blks.length).length = 0 := by
     rcases Nat.eq_zero_or_pos (k - (st'.h.take ct.blks.length).length) with h0 | h0
     ·exact h0
     ·rw [List.getElem?_eq_none (by simp; simp at h0; omega)] at hd'; simp at hd'
    rw [h0] at hd'
    simp only [List.getElem?_cons_zero, Option.some.injEq] at hd'
    split at hd'
    ·rename_i hj
     rw [List.getD_eq_getElem?_getD, List.getElem?_eq_none (by omega)] at hd'
     simp at hd'
    ·simp at hd'
 have upd : ∀ (γ : Blocks), (∀ k, k < nbT ct → renB ct.blks.length jn β' k = γ k) → ∀ k c, (k, c) ∈ ct.eff.upd → ∃ n vs, β k = some n ∧ denL γ ρ c = some vs ∧ CellsAt n vs w' := fun γ hγ k c hk => by
  obtain ⟨d, g1, g2⟩ := h3 k c hk
  have hk2 := List.all_eq_true.1 c2 (k, c) hk
  simp only [Bool.and_eq_true, decide_eq_true_eq] at hk2
  obtain ⟨n, ys, k1, k3, k4⟩ := S.h k d (hget k d hk2.1 g1)
  refine ⟨n, ys, by rw [← hsame k hk2.1]; exact k1, ?_, k4⟩
  rw [g2 β'] at k3
  rw [inBL_den (β := γ) hγ c hk2.2] at k3
  exact denL_more (MR γ) c k3
 have old : ∀ n, n < w.heap.size → (∀ k c, (k, c) ∈ ct.eff.upd → β k ≠ some n) → w'.heap[n]? = w.heap[n]? := fun n hn hno => S.old n hn fun k hk hb => by
  rcases Nat.lt_or_ge k ct.blks.length with hlt | hge
  ·have := h4 k (by show k ∈ st'.wr.filter _; simp; exact ⟨hk, hlt⟩)
   simp at this
   obtain ⟨c, hc⟩ := this
   exact hno k c hc hb
  ·rw [dom k hge] at hb; cases hb
 cases hnew : ct.eff.new with
 | none =>
  have hj : jn = none := by cases jn <;> simp_all
  subst hj
  have hnb : nbT ct = ct.blks.length := by unfold nbT; rw [hnew]
  have hγ : ∀ k, k < nbT ct → renB ct.blks.length none β' k = β k := fun k hk => hsame k (by omega)
  refine ⟨β, v, ⟨S.os, S.tape, S.output, S.size, old, upd β hγ, by rw [hnew]; rfl⟩, ?_, he⟩
  rw [h2 β', inB_den hγ _ c3] at hr
  exact den_more (MR β) _ hr
 | some c =>
  obtain ⟨d, g1, g2⟩ := h5 c hnew
  cases hjj : jn with
  | none => rw [hnew, hjj] at c4; simp at c4
  | some j =>
   subst hjj
   have hnb : nbT ct = ct.blks.length + 1 := by unfold nbT; rw [hnew]
   have hd' : (st'.h.take ct.blks.length ++ [if ct.blks.length ≤ j then st'.h.getD j none else none])[ct.blks.length]? = some (some d) := g1
   have hlen : (st'.h.take ct.blks.length).length = ct.blks.length := by
    rcases Nat.lt_or_ge st'.h.length ct.blks.length with hlt | hge
    ·rw [List.getElem?_eq_none (by simp; omega)] at hd'; simp at hd'
    ·simp; omega
   rw [List.getElem?_append_right (by omega), hlen, Nat.sub_self] at hd'
   simp only [List.getElem?_cons_zero, Option.some.injEq] at hd'
   have hj : ct.blks.length ≤ j ∧ st'.h[j]? = some (some d) := by
    split at hd'
    ·rename_i hle
     refine ⟨hle, ?_⟩
     rw [List.getD_eq_getElem?_getD] at hd'
     cases hq : st'.h[j]? with
     | none => rw [hq] at hd'; simp at hd'
     | some x => rw [hq] at hd'; simp at hd'; rw [hd']
    ·simp at hd'
   obtain ⟨n, ys, k1, k3, k4⟩ := S.h j d hj.2
   have hγ : ∀ k, k < nbT ct → renB ct.blks.length (some j) β' k = extB β ct.blks.length n k := fun k hk => by
    unfold renB extB
    dsimp only
    by_cases hk2 : k = ct.blks.length
    ·rw [if_pos hk2, if_pos hk2]; exact k1
    ·rw [if_neg hk2, if_neg hk2]; exact hsame k (by omega)
   have hc : denL (extB β ct.blks.length n) ρ c = some ys := by
    rw [g2 β'] at k3
    rw [hnew] at c4
    rw [inBL_den hγ c c4] at k3
    exact denL_more (MR _) c k3
   refine ⟨extB β ct.blks.length n, v, ⟨S.os, S.tape, S.output, S.size, old, upd _ hγ, ?_⟩, ?_, he⟩
   ·rw [hnew]
    exact ⟨n, ys, S.new j n k1 (dom j hj.1), S.bd j n k1, rfl, hc, k4⟩
   ·rw [h2 β', inB_den hγ _ c3] at hr
    exact den_more (MR _) _ hr
mutual
def EqV (ρ σ : List U) : AV → AV → Prop
 | .fl e, .fl e' => e.ev ρ = e'.ev σ
 | .it k e, .it k' e' => k = k' ∧ e.ev ρ = e'.ev σ
 | .bo e, .bo e' => e.ev ρ = e'.ev σ
 | .ptr b o, .ptr b' o' => b = b' ∧ o = o'
 | .pnil, .pnil => True
 | .slc a b c d, .slc a' b' c' d' => a = a' ∧ b = b' ∧ c = c' ∧ d = d'
 | .snil, .snil => True
 | .fn f a c, .fn f' a' c' => f = f' ∧ EqL ρ σ a a' ∧ EqL ρ σ c c'
 | .fnil, .fnil => True
 | .agg l, .agg l' => EqL ρ σ l l'
 | .tup l, .tup l' => EqL ρ σ l l'
 | .und, .und => True
 | .str a, .str b => a = b
 | .val e t, .val e' t' => t = t' ∧ e.ev ρ = e'.ev σ
 | _, _ => False
def EqL (ρ σ : List U) : List AV → List AV → Prop
 | [], [] => True
 | a :: l, b :: m => EqV ρ σ a b ∧ EqL ρ σ l m
 | _, _ => False
end
mutual
theorem eqV_den {ρ σ : List U} (β : Blocks) : ∀ (a b : AV), EqV ρ σ a b → den β ρ a = den β σ b
 | .fl e, b, h => by cases b <;> simp [EqV] at h; unfold den; rw [h]
 | .it k e, b, h => by cases b <;> simp [EqV] at h; unfold den; rw [h.1, h.2]
 | .bo e, b, h => by cases b <;> simp [EqV] at h; unfold den; rw [h]
 | .ptr x y, b, h => by cases b <;> simp [EqV] at h; unfold den; rw [h.1, h.2]
 | .pnil, b, h => by cases b <;> simp [EqV] at h; rfl
 | .slc x y z t, b, h => by cases b <;> simp [EqV] at h; unfold den; rw [h.1, h.2.1, h.2.2.1, h.2.2.2]
 | .snil, b, h => by cases b <;> simp [EqV] at h; rfl
 | .fn f x y, b, h => by
  cases b with
  | fn f' x' y' => simp [EqV] at h; unfold den; rw [h.1, eqL_den β x x' h.2.1, eqL_den β y y' h.2.2]
  | _ => simp [EqV] at h
 | .fnil, b, h => by cases b <;> simp [EqV] at h; rfl
 | .agg l, b, h => by
  cases b with
  | agg l' => simp [EqV] at h; unfold den; rw [eqL_den β l l' h]
  | _ => simp [EqV] at h
 | .tup l, b, h => by
  cases b with
  | tup l' => simp [EqV] at h; unfold den; rw [eqL_den β l l' h]
  | _ => simp [EqV] at h
 | .und, b, h => by cases b <;> simp [EqV] at h; rfl
 | .str s, b, h => by cases b <;> simp [EqV] at h; rw [h]; rfl
 | .val e t, b, h => by cases b <;> simp [EqV] at h; unfold den; rw [h.1, h.2]
theorem eqL_den {ρ σ : List U} (β : Blocks) : ∀ (a b : List AV), EqL ρ σ a b → denL β ρ a = denL β σ b
 | [], b, h => by cases b <;> simp [EqL] at h; rfl
 | x :: a, b, h => by
  cases b with
  | nil => simp [EqL] at h
  | cons y b => simp [EqL] at h; rw [denL, denL, eqV_den β x y h.1, eqL_den β a b h.2]
end
def UpdOk (ρ σ : List U) (h : Heap) : List (Nat × List AV) → Prop
 | [] => True
 | (k, c) :: l => (match h[k]? with
  | some (some d) => EqL ρ σ d c
  | _ => False) ∧ UpdOk ρ σ h l
def Leaf2 (ct : Ct) (σ : List U) (ρ : List U) (_ : Ex) (st : SF) : Prop :=
 (match st.tm with
  | [r] => EqV ρ σ r ct.eff.val
  | _ => False) ∧ UpdOk ρ σ st.h ct.eff.upd ∧ (st.wr.all fun k => (ct.eff.upd.map (·.1)).contains k) = true
theorem updOk_in {ρ σ : List U} {h : Heap} : ∀ {l : List (Nat × List AV)}, UpdOk ρ σ h l → ∀ k c, (k, c) ∈ l → ∃ d, h[k]? = some (some d) ∧ ∀ β, denL β ρ d = denL β σ c
 | [], _, k, c, hm => by cases hm
 | (j, d) :: l, hu, k, c, hm => by
  obtain ⟨h1, h2⟩ := hu
  rcases List.mem_cons.1 hm with e | hm
  ·simp at e; obtain ⟨rfl, rfl⟩ := e
   split at h1
   ·rename_i x hx; exact ⟨x, hx, fun β => eqL_den β _ _ h1⟩
   ·exact h1.elim
  ·exact updOk_in h2 k c hm
theorem Leaf2.leaf {ct : Ct} {σ ρ : List U} {x : Ex} {st : SF} (hnew : ct.eff.new = none) (h : Leaf2 ct σ ρ x st) : Leaf ct none σ ρ x st := by
 obtain ⟨h1, h2, h3⟩ := h
 refine ⟨?_, fun k c hk => updOk_in h2 k c hk, fun k hk => ?_, fun c hc => by rw [hnew] at hc; cases hc⟩
 ·split at h1
  ·rename_i r hr; exact ⟨r, hr, fun β => eqV_den β _ _ h1⟩
  ·exact h1.elim
 ·exact List.contains_iff_mem.1 (List.all_eq_true.1 h3 k hk)
theorem T.holds_mono {Q Q' : List U → Ex → SF → Prop} (hq : ∀ ρ x st, Q ρ x st → Q' ρ x st) : ∀ (t : T) {L : List (List U → Prop)} {ρ : List U}, t.holdsL Q L ρ → t.holdsL Q' L ρ
 | .done x st, L, ρ, h => hq _ _ _ h
 | .bind b t, L, ρ, h => by
  unfold T.holdsL at h ⊢
  split
  ·rename_i us hus; rw [hus] at h; exact T.holds_mono hq t h
  ·rename_i hus; rw [hus] at h; exact h
 | .need n t, L, ρ, h => by
  unfold T.holdsL at h ⊢
  exact ⟨h.1, T.holds_mono hq t h.2⟩
 | .ite e t f, L, ρ, h => by
  unfold T.holdsL at h ⊢
  split
  ·rename_i x hx; rw [hx] at h; exact ⟨fun g => T.holds_mono hq t (h.1 g), fun g => T.holds_mono hq f (h.2 g)⟩
  ·rename_i hx; split at h
   ·rename_i x hx'; exact absurd hx' (hx x)
   ·exact h
 | .bad n, L, ρ, h => h
 | .loop ks es body, L, ρ, h => by
  unfold T.holdsL at h ⊢
  obtain ⟨I, μ, h1, h2⟩ := h
  exact ⟨I, μ, h1, fun us d ht hi => T.holds_mono hq body (h2 us d ht hi)⟩
 | .again es, L, ρ, h => h
 | .out t, L, ρ, h => by
  unfold T.holdsL at h ⊢
  exact T.holds_mono hq t h
 | .pick t, L, ρ, h => by
  unfold T.holdsL at h ⊢
  exact fun x hx => T.holds_mono hq t (h x hx)
theorem CtOk.of_eval2 (hcts : AllOk P cts) (hdr : DrOk P dr) {f : Nat} {fn : Func} (hf : P.funcs[f]? = some fn) (hb : fn.body.isSome = true) (hn : (fn.name == "runtime.NumGoroutine") = false) (lh : List (Nat × LHint)) (fuel : Nat) {ct : Ct} (hct : ctB ct none = true) (hnew : ct.eff.new = none) (t : T) (ht : evF P cts dr lh fuel fn ct.m ct.blks ct.args none = t)
  (hv0 : (ct.args.all fun a => varsIn ct.m a) = true) (hv1 : (ct.blks.all fun c => c.all fun a => varsIn ct.m a) = true)
  (H : ∀ us, us.length = ct.m → FactsL us ct.args → FactsB us ct.blks → NeedsAt (runB ct.eff.binds us) ct.eff.needs → t.holds (Leaf2 ct (runB ct.eff.binds us)) us) : CtOk P f ct :=
 CtOk.of_eval hcts hdr hf hb hn lh fuel hct ht (fun us h1 h2 h3 h4 => T.holds_mono (fun _ _ _ h => h.leaf hnew) t (H us h1 h2 h3 h4)) hv0 hv1
def inE (m : Nat) (l : List E) : Bool := l.all fun e => match e with | .v n => decide (n < m) | .l _ => true
def T.flat : T → Nat → Option (List Bind × List Need × SF)
 | .done .ret st, _ => some ([], [], st)
 | .bind b t, m => if inE m b.args = true then match t.flat (m + b.m) with
  | some (bs, ns, st) => some (b :: bs, ns, st)
  | none => none
  else none
 | .need n t, m => if inE m n.args = true then match t.flat m with
  | some (bs, ns, st) => some (bs, n :: ns, st)
  | none => none
  else none
 | _, _ => none
theorem runB_more : ∀ (l : List Bind) (us : List U) (k : Nat) (u : U), us[k]? = some u → (runB l us)[k]? = some u
 | [], us, k, u, h => h
 | b :: l, us, k, u, h => by
  unfold runB
  exact runB_more l _ k u (by rw [List.getElem?_append_left (List.getElem?_eq_some_iff.1 h).1]; exact h)
theorem flat_holds {Q : List U → Ex → SF → Prop} : ∀ (t : T) {ρ : List U} {bs : List Bind} {ns : List Need} {st : SF}, t.flat ρ.length = some (bs, ns, st) → NeedsAt (runB bs ρ) ns → Q (runB bs ρ) .ret st → t.holds Q ρ
 | .done .ret st, ρ, bs, ns, st', h, _, q => by simp [T.flat] at h; obtain ⟨rfl, rfl, rfl⟩ := h; exact q
 | .done .nrm st, ρ, bs, ns, st', h, _, q => by simp [T.flat] at h
 | .done (.ext i) st, ρ, bs, ns, st', h, _, q => by simp [T.flat] at h
 | .bind b t, ρ, bs, ns, st', h, hn, q => by
  unfold T.flat at h
  split at h
  ·rename_i hin
   split at h
   ·rename_i bs' ns' st'' ht
    simp at h; obtain ⟨rfl, rfl, rfl⟩ := h
    obtain ⟨us, hus⟩ := evs_some (ρ := ρ) hin
    unfold T.holdsL
    rw [hus]
    have hr : runB (b :: bs') ρ = runB bs' (ρ ++ resl b us) := by rw [runB, hus]; rfl
    rw [hr] at hn q
    exact flat_holds t (by rw [List.length_append, show (resl b us).length = b.m by simp [resl]]; exact ht) hn q
   ·simp at h
  ·simp at h
 | .need n t, ρ, bs, ns, st', h, hn, q => by
  unfold T.flat at h
  split at h
  ·rename_i hin
   split at h
   ·rename_i bs' ns' st'' ht
    simp at h; obtain ⟨rfl, rfl, rfl⟩ := h
    obtain ⟨us, hus⟩ := evs_some (ρ := ρ) hin
    obtain ⟨us', h1, h2⟩ := hn n (by simp)
    have h3 := evs_more (β := fun _ => none) (β' := fun _ => none) ⟨fun _ _ h => h, runB_more bs' ρ⟩ hus
    rw [h1] at h3; simp at h3; subst h3
    unfold T.holdsL
    rw [hus]
    exact ⟨h2, flat_holds t ht (fun k hk => hn k (by simp [hk])) q⟩
   ·simp at h
  ·simp at h
 | .ite e t f, ρ, bs, ns, st', h, _, q => by simp [T.flat] at h
 | .bad n, ρ, bs, ns, st', h, _, q => by simp [T.flat] at h
 | .loop _ _ _, ρ, bs, ns, st', h, _, q => by simp [T.flat] at h
 | .again _, ρ, bs, ns, st', h, _, q => by simp [T.flat] at h
 | .out _, ρ, bs, ns, st', h, _, q => by simp [T.flat] at h
 | .pick _, ρ, bs, ns, st', h, _, q => by simp [T.flat] at h
def flatB (ct : Ct) (st : SF) : Bool := (st.tm.length == 1) && (st.wr.all fun k => match st.h[k]? with | some (some _) => (ct.eff.upd.map (·.1)).contains k | _ => false)
theorem CtOk.flat (hcts : AllOk P cts) (hdr : DrOk P dr) {f : Nat} {fn : Func} (hf : P.funcs[f]? = some fn) (hb : fn.body.isSome = true) (hn : (fn.name == "runtime.NumGoroutine") = false) (lh : List (Nat × LHint)) (fuel : Nat) {ct : Ct} (st : SF)
  (ht : (evF P cts dr lh fuel fn ct.m ct.blks ct.args none).flat ct.m = some (ct.eff.binds, ct.eff.needs, st)) (hval : ct.eff.val = st.tm.headD .und) (hupd : ct.eff.upd = st.wr.eraseDups.map fun k => (k, (st.h.getD k none).getD [])) (hnew : ct.eff.new = none) (hct : ctB ct none = true) (hfl : flatB ct st = true) (hv0 : (ct.args.all fun a => varsIn ct.m a) = true) (hv1 : (ct.blks.all fun c => c.all fun a => varsIn ct.m a) = true) : CtOk P f ct := by
 simp only [flatB, Bool.and_eq_true] at hfl
 obtain ⟨h1, h2⟩ := hfl
 refine CtOk.of_eval hcts hdr hf hb hn lh fuel hct rfl (fun us hl _ _ hN => flat_holds _ (by rw [hl]; exact ht) hN ?_) hv0 hv1
 refine ⟨⟨st.tm.headD .und, ?_, fun β => by rw [hval]; rfl⟩, fun k c hk => ?_, fun k hk => ?_, fun c hc => by rw [hnew] at hc; cases hc⟩
 ·have : st.tm.length = 1 := by simpa using h1
  match hm : st.tm, this with
  | [x], _ => rfl
 ·rw [hupd] at hk
  obtain ⟨k', hk', e⟩ := List.mem_map.1 hk
  simp at e; obtain ⟨rfl, rfl⟩ := e
  have h3 := List.all_eq_true.1 h2 k' (List.mem_eraseDups.1 hk')
  split at h3
  ·rename_i d hd
   refine ⟨d, hd, fun β => ?_⟩
   rw [show (st.h[k']?.getD none).getD [] = d by rw [hd]; rfl]; rfl
  ·simp at h3
 ·have h3 := List.all_eq_true.1 h2 k hk
  split at h3
  ·exact List.contains_iff_mem.1 h3
  ·simp at h3
end
end Go.Proofs.YtkhplflbcgjkcaaGreat
namespace Go.Proofs.YtkhplflbcgjkcaaGreat
open Go Go.RowKit
section
variable {α : Type}
def lastW (L : Nat → Bool) (f : Nat → Option α) (z : Option α) : Nat → Option α
 | 0 => z
 | m + 1 => if L m then (match f m with
  | some v => some v
  | none => lastW L f z m) else lastW L f z m
theorem lastW_succ (L : Nat → Bool) (f : Nat → Option α) (z : Option α) (m : Nat) : lastW L f z (m + 1) = if L m then (match f m with | some v => some v | none => lastW L f z m) else lastW L f z m := rfl
theorem lastW_true (f : Nat → Option α) (z : Option α) (m : Nat) : lastW (fun _ => true) f z (m + 1) = match f m with | some v => some v | none => lastW (fun _ => true) f z m := by rw [lastW_succ, if_pos rfl]
theorem lastW_A {L : Nat → Bool} {f : Nat → Option α} {z : Option α} {N i : Nat} (hA : ∀ j, j < N → j ≠ i → f j ≠ none → (j < i → L j = true) ∧ (i < j → L j = false)) (hL : L i = false) (hi : i < N) : lastW L f z N = lastW (fun _ => true) f z i := by
 have h1 : ∀ m, m ≤ i → lastW L f z m = lastW (fun _ => true) f z m := by
  intro m
  induction m with
  | zero => intro _; rfl
  | succ m ih =>
   intro hm
   rw [lastW_succ, lastW_succ, ih (by omega)]
   cases hf : f m with
   | none => simp
   | some v => rw [(hA m (by omega) (by omega) (by rw [hf]; simp)).1 (by omega)]
 have h2 : ∀ d, i + d ≤ N → lastW L f z (i + d) = lastW L f z i := by
  intro d
  induction d with
  | zero => intro _; rfl
  | succ d ih =>
   intro hd
   rw [show i + (d + 1) = (i + d) + 1 by omega]
   rw [lastW_succ, ih (by omega)]
   rcases Nat.eq_zero_or_pos d with h0 | h0
   ·subst h0
    rw [Nat.add_zero, hL]; simp
   ·cases hf : f (i + d) with
    | none => simp
    | some v => rw [(hA (i + d) (by omega) (by omega) (by rw [hf]; simp)).2 (by omega)]; simp
 rw [← h1 i (Nat.le_refl _)]
 have := h2 (N - i) (by omega)
 rwa [show i + (N - i) = N by omega] at this
theorem lastW_B {L L' : Nat → Bool} {f : Nat → Option α} {z : Option α} {N i : Nat} (hL' : ∀ j, j ≠ i → L' j = L j) (hi' : L' i = true) (hi : i < N) (hA : f i ≠ none → ∀ j, j < N → i < j → f j ≠ none → L j = false) :
  lastW L' f z N = match f i with
   | some v => some v
   | none => lastW L f z N := by
 cases hf : f i with
 | none =>
  dsimp only
  have : ∀ m, lastW L' f z m = lastW L f z m := by
   intro m
   induction m with
   | zero => rfl
   | succ m ih =>
    rw [lastW_succ, lastW_succ, ih]
    by_cases hm : m = i
    ·subst hm; rw [hf]; simp
    ·rw [hL' m hm]
  exact this N
 | some v =>
  dsimp only
  have h2 : ∀ d, i + 1 + d ≤ N → lastW L' f z (i + 1 + d) = some v := by
   intro d
   induction d with
   | zero => intro _; rw [Nat.add_zero, lastW_succ, hi', hf]; simp
   | succ d ih =>
    intro hd
    rw [show i + 1 + (d + 1) = (i + 1 + d) + 1 by omega]
    rw [lastW_succ, ih (by omega), hL' _ (by omega)]
    cases hf2 : f (i + 1 + d) with
    | none => simp
    | some u => rw [hA (by rw [hf]; simp) (i + 1 + d) (by omega) (by omega) (by rw [hf2]; simp)]; simp
  have := h2 (N - (i + 1)) (by omega)
  rwa [show i + 1 + (N - (i + 1)) = N by omega] at this
theorem lastW_all {L : Nat → Bool} {f : Nat → Option α} {z : Option α} : ∀ {N : Nat}, (∀ j, j < N → L j = true) → lastW L f z N = lastW (fun _ => true) f z N
 | 0, _ => rfl
 | N + 1, h => by rw [lastW_succ, lastW_succ, lastW_all (N := N) (fun j hj => h j (by omega)), h N (by omega)]
theorem lastW_none {L : Nat → Bool} {f : Nat → Option α} {z : Option α} : ∀ {N : Nat}, (∀ j, j < N → L j = false) → lastW L f z N = z
 | 0, _ => rfl
 | N + 1, h => by rw [lastW_succ, h N (by omega), if_neg (by decide), lastW_none (N := N) (fun j hj => h j (by omega))]
end
def addAll : List Nat → List Nat → List Nat
 | [], s => s
 | x :: l, s => if s.contains x then addAll l s else x :: addAll l s
theorem addAll_mem {j : Nat} : ∀ {l s : List Nat}, j ∈ addAll l s → j ∈ l ∨ j ∈ s
 | [], s, h => .inr h
 | x :: l, s, h => by
  unfold addAll at h
  split at h
  ·rcases addAll_mem h with h1 | h1
   ·exact .inl (List.mem_cons_of_mem _ h1)
   ·exact .inr h1
  ·rcases List.mem_cons.1 h with rfl | h
   ·exact .inl (by simp)
   ·rcases addAll_mem h with h1 | h1
    ·exact .inl (List.mem_cons_of_mem _ h1)
    ·exact .inr h1
def ancE (acc : List (List Nat)) : List Edge → List Nat
 | [] => []
 | e :: l => if Region.binds .any e then addAll (e.on :: acc.getD e.on []) (ancE acc l) else ancE acc l
def ancs : List Oper → List (List Nat) → List (List Nat)
 | [], acc => acc
 | o :: l, acc => ancs l (acc ++ [ancE acc o.after.toList])
def Shut (ops : Array Oper) (L : Nat → Prop) : Prop := ∀ (i : Nat) (o : Oper), ops[i]? = some o → L i → ∀ e, e ∈ o.after → Region.binds .any e = true → L e.on
theorem ancE_mem {acc : List (List Nat)} {j : Nat} : ∀ {l : List Edge}, j ∈ ancE acc l → ∃ e, e ∈ l ∧ Region.binds .any e = true ∧ (j = e.on ∨ j ∈ acc.getD e.on [])
 | [], h => by cases h
 | e :: l, h => by
  unfold ancE at h
  split at h
  ·rename_i hb
   rcases addAll_mem h with h1 | h1
   ·exact ⟨e, by simp, hb, by simpa using h1⟩
   ·obtain ⟨e', h2, h3, h4⟩ := ancE_mem h1
    exact ⟨e', by simp [h2], h3, h4⟩
  ·obtain ⟨e', h2, h3, h4⟩ := ancE_mem h
   exact ⟨e', by simp [h2], h3, h4⟩
def AncOk (ops : Array Oper) (acc : List (List Nat)) : Prop := ∀ (i j : Nat), j ∈ acc.getD i [] → ∀ L : Nat → Prop, Shut ops L → L i → L j
theorem ancs_ok (ops : Array Oper) : ∀ (l : List Oper) (acc : List (List Nat)), (∀ (j : Nat) (o : Oper), l[j]? = some o → ops[acc.length + j]? = some o) → AncOk ops acc → AncOk ops (ancs l acc)
 | [], acc, _, h => h
 | o :: l, acc, hl, h => by
  refine ancs_ok ops l _ (fun j o' hj => ?_) (fun i j hj L hL hi => ?_)
  ·rw [List.length_append, show acc.length + [ancE acc o.after.toList].length + j = acc.length + (j + 1) by simp; omega]
   exact hl (j + 1) o' (by simpa using hj)
  ·rw [List.getD_eq_getElem?_getD] at hj
   rcases Nat.lt_trichotomy i acc.length with h1 | h1 | h1
   ·rw [List.getElem?_append_left h1, ← List.getD_eq_getElem?_getD] at hj
    exact h i j hj L hL hi
   ·subst h1
    rw [List.getElem?_append_right (Nat.le_refl _), Nat.sub_self] at hj
    simp at hj
    obtain ⟨e, h2, h3, h4⟩ := ancE_mem hj
    have he := hL _ o (hl 0 o rfl) hi e (by simpa using h2) h3
    rcases h4 with rfl | h4
    ·exact he
    ·exact h e.on j h4 L hL he
   ·rw [List.getElem?_append_right (by omega), List.getElem?_eq_none (by simp; omega)] at hj
    simp at hj
def maskH (hid : List Nat) : Nat → Heap → Heap
 | _, [] => []
 | k, c :: l => (if hid.contains k then none else c) :: maskH hid (k + 1) l
theorem maskH_get {hid : List Nat} : ∀ {h : Heap} {b k : Nat} {c : List AV}, (maskH hid b h)[k]? = some (some c) → h[k]? = some (some c) ∧ hid.contains (b + k) = false
 | [], b, k, c, hk => by unfold maskH at hk; simp at hk
 | x :: h, b, 0, c, hk => by
  unfold maskH at hk
  simp only [List.getElem?_cons_zero, Option.some.injEq] at hk
  split at hk
  ·cases hk
  ·rename_i hc; exact ⟨by rw [hk]; rfl, by simpa using hc⟩
 | x :: h, b, k + 1, c, hk => by
  unfold maskH at hk
  rw [List.getElem?_cons_succ] at hk
  obtain ⟨h1, h2⟩ := maskH_get hk
  exact ⟨by simpa using h1, by rwa [show b + 1 + k = b + (k + 1) by omega] at h2⟩
def efV (e : Option Eff) : AV := match e with
 | some e => e.val
 | none => .und
def efU (e : Option Eff) : List (Nat × List AV) := match e with
 | some e => e.upd
 | none => []
def efN (e : Option Eff) : Option (List AV) := match e with
 | some e => e.new
 | none => none
def efB (e : Option Eff) : List Bind := match e with
 | some e => e.binds
 | none => []
def nextD (st : SF) (o : Oper) (e : Option Eff) : SF :=
 { tm := putL st.tm o.dst (efV e), h := updH st.h (efU e) ++ [efN e], nv := st.nv + nvB (efB e), wr := st.wr ++ (efU e).map (·.1) }
section
variable (P : Program) (cts : List (Nat × Ct)) (ops : Array Oper)
def isG (i : Nat) : Bool := ops.toList.any fun o => match o.guard with
 | some (j, _) => Nat.beq j i
 | none => false
def unkG (i : Nat) (v : AV) : Option E := match v with
 | .bo (.v n) => if isG ops i = true then some (.v n) else none
 | _ => none
def restD (hid : List (List Nat)) : List Oper → Nat → SF → Option (List (Option Eff))
 | [], _, _ => some []
 | o :: l, i, st => match guardOf ops st.tm o with
  | .yes => match evOp P cts st.tm (maskH (hid.getD i []) 0 st.h) st.nv st.h.length o with
   | some e => match e.binds, e.needs, unkG ops i e.val with
    | [], [], none => match restD hid l (i + 1) (nextD st o (some e)) with
     | some es => some (some e :: es)
     | none => none
    | _, _, _ => none
   | none => none
  | .no => match restD hid l (i + 1) (nextD st o none) with
   | some es => some (none :: es)
   | none => none
  | _ => none
def traceT (hid : List (List Nat)) (fin : List (Option Eff) → T) : List Oper → Nat → SF → List (Option Eff) → T
 | [], _, _, acc => fin acc
 | o :: l, i, st, acc => match guardOf ops st.tm o with
  | .yes => match dkOp cts st.tm o with
   | true => (match restD P cts ops hid l (i + 1) (nextD st o (some (dkEff st.nv))) with
    | some es => .pick (fin (acc ++ some (dkEff st.nv) :: es))
    | none => .bad 14)
   | false => match evOp P cts st.tm (maskH (hid.getD i []) 0 st.h) st.nv st.h.length o with
   | some e => preB e.binds (preN e.needs (match unkG ops i e.val with
    | some x => .ite x (traceT hid fin l (i + 1) (nextD st o (some { e with val := .bo (.l (.b true)) })) (acc ++ [some { e with val := .bo (.l (.b true)) }])) (traceT hid fin l (i + 1) (nextD st o (some { e with val := .bo (.l (.b false)) })) (acc ++ [some { e with val := .bo (.l (.b false)) }]))
    | none => traceT hid fin l (i + 1) (nextD st o (some e)) (acc ++ [some e])))
   | none => .bad 11
  | .no => traceT hid fin l (i + 1) (nextD st o none) (acc ++ [none])
  | _ => .bad 10
def zipU : List (List Nat) → List (List Nat) → List (List Nat)
 | a :: l, b :: m => (a ++ b) :: zipU l m
 | [], m => m
 | l, [] => l
def traceW : List Oper → Nat → SF → List (List Nat)
 | [], _, _ => []
 | o :: l, i, st => match guardOf ops st.tm o with
  | .yes => match evOp P cts st.tm st.h st.nv st.h.length o with
   | some e => (st.h.length :: e.upd.map (·.1)) :: (match unkG ops i e.val with
    | some _ => zipU (traceW l (i + 1) (nextD st o (some { e with val := .bo (.l (.b true)) }))) (traceW l (i + 1) (nextD st o (some { e with val := .bo (.l (.b false)) })))
    | none => traceW l (i + 1) (nextD st o (some e)))
   | none => []
  | .no => [st.h.length] :: traceW l (i + 1) (nextD st o none)
  | _ => []
def stFrom : List Oper → List (Option Eff) → Nat → SF → SF
 | o :: l, e :: es, j + 1, st => stFrom l es j (nextD st o e)
 | _, _, _, st => st
def cmp (anc : List (List Nat)) (i j : Nat) : Bool := (anc.getD i []).contains j || (anc.getD j []).contains i
def wrs : List (Option Eff) → Nat → List (List Nat)
 | [], _ => []
 | e :: l, nb => (nb :: (efU e).map (·.1)) :: wrs l (nb + 1)
def reads (o : Oper) : List Nat := (o.op.operands.toList.filterMap fun | .tmp t => some t | _ => none) ++ gdT ops o
def hids (anc : List (List Nat)) (ws : List (List Nat)) (n : Nat) : List (List Nat) :=
 (List.range n).map fun i => (List.range n).flatMap fun j => if i == j || cmp anc i j then [] else ws.getD j []
def okD (anc : List (List Nat)) (hid ws : List (List Nat)) (es : List (Option Eff)) (l : List Oper) (nb : Nat) : Bool :=
 (List.range l.length).all fun i =>
  ((anc.getD i []).all fun j => decide (j < i)) &&
  (match es[i]? with | some e => (efU e).all fun x => decide (x.1 < nb + i) | none => false) &&
  (List.range l.length).all fun j => i == j || cmp anc i j ||
   (((ws.getD j []).all fun k => (hid.getD i []).contains k && !(ws.getD i []).contains k) &&
    (match l[i]?, l[j]? with
     | some oi, some oj => (match oj.dst with
      | some d => !(reads ops oi).contains d && !(oi.dst == some d)
      | none => true)
     | _, _ => false))
def drawnT (st : SF) (k : SF → T) : T :=
 let l := ops.toList
 let anc := ancs l []
 let hid := hids anc (traceW P cts ops l 0 st) l.length
 traceT P cts ops hid (fun es => if okD ops anc hid (wrs es st.h.length) es l st.h.length = true then k (stFrom l es l.length st) else .bad 12) l 0 st []
end
section
variable {P : Program} {cts : List (Nat × Ct)} {ops : Array Oper}
def EfOk (P : Program) (cts : List (Nat × Ct)) (ops : Array Oper) (hid : List Nat) (ρ : List U) (st : SF) (o : Oper) (e : Option Eff) : Prop := match e with
 | some e => guardOf ops st.tm o = .yes ∧ ∃ v0, evOp P cts st.tm (maskH hid 0 st.h) st.nv st.h.length o = some { e with val := v0 } ∧ ∀ β, den β ρ e.val = den β ρ v0
 | none => guardOf ops st.tm o = .no
theorem unkG_some {i : Nat} {v : AV} {x : E} (h : unkG ops i v = some x) : v = .bo x := by
 unfold unkG at h
 split at h
 ·split at h
  ·simp at h; subst h; rfl
  ·simp at h
 ·simp at h
theorem EfOk.more {hid : List Nat} {ρ σ : List U} {st : SF} {o : Oper} {e : Eff} {v0 : AV} (hg : guardOf ops st.tm o = .yes) (he : evOp P cts st.tm (maskH hid 0 st.h) st.nv st.h.length o = some { e with val := v0 }) (hv : e.val = v0 ∨ ∃ x y, v0 = .bo x ∧ e.val = .bo (.l (.b y)) ∧ x.ev ρ = some (.b y)) : EfOk P cts ops hid (ρ ++ σ) st o (some e) := by
 refine ⟨hg, v0, he, fun β => ?_⟩
 rcases hv with hv | ⟨x, y, rfl, h2, h3⟩
 ·rw [hv]
 ·rw [h2, bo_den (E.ev_more (More.app (fun _ => none) ρ σ) h3)]; rfl
theorem stFrom_zero (l : List Oper) (es : List (Option Eff)) (st : SF) : stFrom l es 0 st = st := by cases l <;> cases es <;> rfl
theorem restD_ok {hid : List (List Nat)} : ∀ {l : List Oper} {i : Nat} {st : SF} {es : List (Option Eff)}, restD P cts ops hid l i st = some es → es.length = l.length ∧ (stFrom l es l.length st).nv = st.nv ∧
  ∀ (j : Nat) (o : Oper), l[j]? = some o → ∃ e, es[j]? = some e ∧ (∀ ρ, EfOk P cts ops (hid.getD (i + j) []) ρ (stFrom l es j st) o e) ∧ ∀ e', e = some e' → e'.binds = [] ∧ e'.needs = []
 | [], i, st, es, h => by unfold restD at h; simp at h; subst h; exact ⟨rfl, rfl, fun j o hj => by simp at hj⟩
 | o :: l, i, st, es, h => by
  unfold restD at h
  have tail : ∀ {e : Option Eff} {es' : List (Option Eff)}, restD P cts ops hid l (i + 1) (nextD st o e) = some es' → (nextD st o e).nv = st.nv → (∀ ρ, EfOk P cts ops (hid.getD i []) ρ st o e) → (∀ e', e = some e' → e'.binds = [] ∧ e'.needs = []) → (e :: es').length = (o :: l).length ∧ (stFrom (o :: l) (e :: es') (o :: l).length st).nv = st.nv ∧
    ∀ (j : Nat) (o' : Oper), (o :: l)[j]? = some o' → ∃ e2, (e :: es')[j]? = some e2 ∧ (∀ ρ, EfOk P cts ops (hid.getD (i + j) []) ρ (stFrom (o :: l) (e :: es') j st) o' e2) ∧ ∀ e', e2 = some e' → e'.binds = [] ∧ e'.needs = [] := by
   intro e es' h1 h2 h3 h4
   obtain ⟨g1, g2, g3⟩ := restD_ok h1
   refine ⟨by rw [List.length_cons, List.length_cons, g1], g2.trans h2, fun j o' hj => ?_⟩
   cases j with
   | zero => simp at hj; subst hj; exact ⟨e, rfl, h3, h4⟩
   | succ j =>
    obtain ⟨e', k1, k2, k3⟩ := g3 j o' (by simpa using hj)
    exact ⟨e', by simpa using k1, by rw [show i + (j + 1) = i + 1 + j by omega]; exact k2, k3⟩
  split at h
  ·rename_i hg
   split at h
   ·rename_i e he
    split at h
    ·rename_i hb hn hu
     split at h
     ·rename_i es' hes
      simp at h; subst h
      refine tail hes ?_ (fun ρ => ⟨hg, e.val, he, fun _ => rfl⟩) (fun e' he' => by simp at he'; subst he'; exact ⟨hb, hn⟩)
      show st.nv + nvB (efB (some e)) = st.nv
      have : efB (some e) = [] := hb
      rw [this]; rfl
     ·simp at h
    ·simp at h
   ·simp at h
  ·rename_i hg
   split at h
   ·rename_i es' hes
    simp at h; subst h
    exact tail hes rfl (fun ρ => hg) (fun e' he' => by cases he')
   ·simp at h
  ·simp at h
def DkAt (cts : List (Nat × Ct)) (ops : Array Oper) (l : List Oper) (es : List (Option Eff)) (st : SF) (i0 n : Nat) : Prop := ∃ o, l[i0]? = some o ∧ guardOf ops (stFrom l es i0 st).tm o = .yes ∧ dkOp cts (stFrom l es i0 st).tm o = true ∧ es[i0]? = some (some (dkEff n))
theorem traceT_ok {hid : List (List Nat)} {fin : List (Option Eff) → T} {Q : List U → Ex → SF → Prop} {L : List (List U → Prop)} : ∀ {l : List Oper} {i : Nat} {st : SF} {acc : List (Option Eff)} {ρ : List U}, (traceT P cts ops hid fin l i st acc).holdsL Q L ρ → ρ.length = st.nv →
  ∃ (σ : List U) (es : List (Option Eff)) (i0 : Nat), es.length = l.length ∧
   (∀ (j : Nat) (o : Oper), l[j]? = some o → ∃ e, es[j]? = some e ∧ (j ≠ i0 → ∀ τ, EfOk P cts ops (hid.getD (i + j) []) (ρ ++ σ ++ τ) (stFrom l es j st) o e)) ∧
   (∀ (j : Nat) (e : Eff), j ≠ i0 → es[j]? = some (some e) → BindsAt (ρ ++ σ) (stFrom l es j st).nv e.binds ∧ NeedsAt (ρ ++ σ) e.needs) ∧
   ((l.length ≤ i0 ∧ (ρ ++ σ).length = (stFrom l es l.length st).nv ∧ (fin (acc ++ es)).holdsL Q L (ρ ++ σ)) ∨
     (DkAt cts ops l es st i0 (ρ ++ σ).length ∧ (ρ ++ σ).length + 1 = (stFrom l es l.length st).nv ∧ ∀ r, r < W64 → (fin (acc ++ es)).holdsL Q L (ρ ++ σ ++ [.f r])))
 | [], i, st, acc, ρ, h, hn => ⟨[], [], 0, rfl, fun j o hj => (by simp at hj), fun j e _ hj => (by simp at hj), .inl ⟨Nat.le_refl _, by rw [List.append_nil]; exact hn, by rw [List.append_nil, List.append_nil]; exact h⟩⟩
 | o :: l, i, st, acc, ρ, h, hn => by
  unfold traceT at h
  -- behind an operation
  have tail : ∀ {e : Option Eff} {σ : List U}, (traceT P cts ops hid fin l (i + 1) (nextD st o e) (acc ++ [e])).holdsL Q L (ρ ++ σ) → σ.length = nvB (efB e) → BindsAt (ρ ++ σ) ρ.length (efB e) → (match e with | some e => NeedsAt (ρ ++ σ) e.needs | none => True) → (∀ τ, EfOk P cts ops (hid.getD i []) (ρ ++ σ ++ τ) st o e) →
    ∃ (σ : List U) (es : List (Option Eff)) (i0 : Nat), es.length = (o :: l).length ∧
     (∀ (j : Nat) (o' : Oper), (o :: l)[j]? = some o' → ∃ e, es[j]? = some e ∧ (j ≠ i0 → ∀ τ, EfOk P cts ops (hid.getD (i + j) []) (ρ ++ σ ++ τ) (stFrom (o :: l) es j st) o' e)) ∧
     (∀ (j : Nat) (e : Eff), j ≠ i0 → es[j]? = some (some e) → BindsAt (ρ ++ σ) (stFrom (o :: l) es j st).nv e.binds ∧ NeedsAt (ρ ++ σ) e.needs) ∧
     (((o :: l).length ≤ i0 ∧ (ρ ++ σ).length = (stFrom (o :: l) es (o :: l).length st).nv ∧ (fin (acc ++ es)).holdsL Q L (ρ ++ σ)) ∨
       (DkAt cts ops (o :: l) es st i0 (ρ ++ σ).length ∧ (ρ ++ σ).length + 1 = (stFrom (o :: l) es (o :: l).length st).nv ∧ ∀ r, r < W64 → (fin (acc ++ es)).holdsL Q L (ρ ++ σ ++ [.f r]))) := by
   intro e σ h1 h2 h3 h4 h5
   obtain ⟨τ, es, i0, g2, g6, g4, g7⟩ := traceT_ok h1 (by rw [List.length_append, hn, h2]; rfl)
   have M : More (fun _ => none) (fun _ => none) (ρ ++ σ) (ρ ++ σ ++ τ) := More.app _ _ _
   have ac : acc ++ e :: es = acc ++ [e] ++ es := by simp
   refine ⟨σ ++ τ, e :: es, i0 + 1, by rw [List.length_cons, List.length_cons, g2], fun j o' hj => ?_, fun j e' hne hj => ?_, ?_⟩
   ·rw [← List.append_assoc]
    cases j with
    | zero => simp at hj; subst hj; exact ⟨e, rfl, fun _ τ' => by rw [List.append_assoc (ρ ++ σ)]; exact h5 (τ ++ τ')⟩
    | succ j =>
     obtain ⟨e', k1, k2⟩ := g6 j o' (by simpa using hj)
     exact ⟨e', by simpa using k1, fun hne => by rw [show i + (j + 1) = i + 1 + j by omega]; exact k2 (by omega)⟩
   ·rw [← List.append_assoc]
    cases j with
    | zero =>
     simp at hj; subst hj
     refine ⟨?_, fun n hnn => ?_⟩
     ·rw [stFrom_zero, ← hn]; exact BindsAt.more M h3
     ·obtain ⟨us, k1, k2⟩ := h4 n hnn; exact ⟨us, evs_more M k1, k2⟩
    | succ j => exact g4 j e' (by omega) (by simpa using hj)
   ·rw [← List.append_assoc, ac]
    rcases g7 with ⟨k1, k2, k3⟩ | ⟨⟨o', k0, k1, k2, k3⟩, k4, k5⟩
    ·exact .inl ⟨by rw [List.length_cons]; omega, k2, k3⟩
    ·exact .inr ⟨⟨o', by simpa using k0, k1, k2, by simpa using k3⟩, k4, k5⟩
  split at h
  ·rename_i hg
   split at h
   ·rename_i hdk
    split at h
    ·rename_i es hes
     obtain ⟨g1, g2, g3⟩ := restD_ok hes
     refine ⟨[], some (dkEff st.nv) :: es, 0, by rw [List.length_cons, List.length_cons, g1], fun j o' hj => ?_, fun j e' hne hj => ?_, .inr ⟨⟨o, rfl, by rw [stFrom_zero]; exact hg, by rw [stFrom_zero]; exact hdk, by rw [List.append_nil, hn]; rfl⟩, ?_, fun r hr => ?_⟩⟩
     ·cases j with
      | zero => exact ⟨_, rfl, fun hne => absurd rfl hne⟩
      | succ j =>
       obtain ⟨e', k1, k2, _⟩ := g3 j o' (by simpa using hj)
       exact ⟨e', by simpa using k1, fun _ τ => by rw [show i + (j + 1) = i + 1 + j by omega]; exact k2 _⟩
     ·cases j with
      | zero => exact absurd rfl hne
      | succ j =>
       have hj' : es[j]? = some (some e') := by simpa using hj
       have hlt : j < l.length := by have := (List.getElem?_eq_some_iff.1 hj').1; omega
       obtain ⟨e2, k1, _, k3⟩ := g3 j l[j] (by simp)
       rw [k1] at hj'; simp at hj'
       obtain ⟨b1, b2⟩ := k3 e' hj'
       rw [b1, b2]
       exact ⟨trivial, fun n hn => by cases hn⟩
     ·rw [List.append_nil]
      show ρ.length + 1 = (stFrom l es l.length (nextD st o (some (dkEff st.nv)))).nv
      rw [g2, hn]; rfl
     ·have := h r hr
      rw [List.append_nil]; exact this
    ·exact h.elim
   ·split at h
    ·rename_i e he
     obtain ⟨σ, h1, h2, h3⟩ := preB_holds h
     obtain ⟨h4, h5⟩ := preN_holds h1
     split at h5
     ·rename_i x hx
      have hval := unkG_some hx
      have h5' : (match x.ev (ρ ++ σ) with | some (.b y) => (y = true → _) ∧ (y = false → _) | _ => False) := h5
      split at h5'
      ·rename_i y hy
       cases y with
       | true => exact tail (e := some { e with val := .bo (.l (.b true)) }) (h5'.1 rfl) h2 h3 h4 (fun τ => EfOk.more (v0 := e.val) hg he (.inr ⟨x, true, hval, rfl, hy⟩))
       | false => exact tail (e := some { e with val := .bo (.l (.b false)) }) (h5'.2 rfl) h2 h3 h4 (fun τ => EfOk.more (v0 := e.val) hg he (.inr ⟨x, false, hval, rfl, hy⟩))
      ·exact h5'.elim
     ·exact tail (e := some e) h5 h2 h3 h4 (fun τ => EfOk.more (v0 := e.val) hg he (.inl rfl))
    ·exact h.elim
  ·rename_i hg
   exact tail (e := none) (σ := []) (by rw [List.append_nil]; exact h) rfl trivial trivial (fun τ => hg)
  ·exact h.elim
theorem stFrom_succ : ∀ {l : List Oper} {es : List (Option Eff)} {j : Nat} {st : SF} {o : Oper} {e : Option Eff}, l[j]? = some o → es[j]? = some e → stFrom l es (j + 1) st = nextD (stFrom l es j st) o e
 | [], es, j, st, o, e, h, _ => by simp at h
 | _ :: _, [], j, st, o, e, _, h => by simp at h
 | o' :: l, e' :: es, 0, st, o, e, h, k => by
  simp at h k; subst h k
  cases l <;> cases es <;> rfl
 | o' :: l, e' :: es, j + 1, st, o, e, h, k => by
  have := stFrom_succ (l := l) (es := es) (j := j) (st := nextD st o' e') (o := o) (e := e) (by simpa using h) (by simpa using k)
  exact this
def fT (l : List Oper) (es : List (Option Eff)) (t : Nat) (j : Nat) : Option AV := match l[j]?, es[j]? with
 | some o, some e => if o.dst = some t then some (efV e) else none
 | _, _ => none
def updAt : List (Nat × List AV) → Nat → Option (List AV)
 | [], _ => none
 | (j, c) :: l, k => match updAt l k with
  | some d => some d
  | none => if j = k then some c else none
def fBk (es : List (Option Eff)) (nb k j : Nat) : Option (Option (List AV)) := match es[j]? with
 | some e => if k = nb + j then some (efN e) else match updAt (efU e) k with
  | some c => some (some c)
  | none => none
 | none => none
theorem updH_at : ∀ (l : List (Nat × List AV)) (h : Heap) (k : Nat), (∀ x ∈ l, x.1 < h.length) → (updH h l)[k]? = match updAt l k with
  | some c => some (some c)
  | none => h[k]?
 | [], h, k, _ => rfl
 | (j, c) :: l, h, k, hl => by
  rw [updH, updH_at l _ k (fun x hx => by rw [List.length_set]; exact hl x (by simp [hx])), updAt]
  cases updAt l k with
  | some d => rfl
  | none =>
   dsimp only
   have := hl (j, c) (by simp)
   by_cases hjk : j = k
   ·subst hjk; rw [if_pos rfl, List.getElem?_set_self this]
   ·rw [if_neg hjk, List.getElem?_set_ne hjk]
theorem updAt_mem {k : Nat} {c : List AV} : ∀ {l : List (Nat × List AV)}, updAt l k = some c → (k, c) ∈ l
 | [], h => by simp [updAt] at h
 | (j, d) :: l, h => by
  unfold updAt at h
  split at h
  ·rename_i x hx; simp at h; subst h; exact List.mem_cons_of_mem _ (updAt_mem hx)
  ·split at h
   ·rename_i hj; simp at h; subst hj h; simp
   ·simp at h
theorem updAt_none {k : Nat} : ∀ {l : List (Nat × List AV)}, updAt l k = none → ∀ c, (k, c) ∉ l
 | [], _, c, hm => by cases hm
 | (j, d) :: l, h, c, hm => by
  unfold updAt at h
  split at h
  ·simp at h
  ·rename_i hx
   split at h
   ·simp at h
   ·rename_i hj
    rcases List.mem_cons.1 hm with e | hm
    ·simp at e; exact hj e.1.symm
    ·exact updAt_none hx c hm
structure Tr (P : Program) (cts : List (Nat × Ct)) (ops : Array Oper) (i0 : Nat) (hid : List (List Nat)) (ρ : List U) (es : List (Option Eff)) (st : SF) : Prop where
 len : es.length = ops.toList.length
 at_ : ∀ (j : Nat) (o : Oper), ops.toList[j]? = some o → ∃ e, es[j]? = some e ∧ (j ≠ i0 → EfOk P cts ops (hid.getD j []) ρ (stFrom ops.toList es j st) o e)
 upd : ∀ (j : Nat) (e : Option Eff), es[j]? = some e → ∀ x ∈ efU e, x.1 < st.h.length + j
variable {i0 : Nat}
theorem canon_len {hid : List (List Nat)} {ρ : List U} {es : List (Option Eff)} {st : SF} (tr : Tr P cts ops i0 hid ρ es st) : ∀ (i : Nat), i ≤ ops.size → (stFrom ops.toList es i st).h.length = st.h.length + i ∧ (stFrom ops.toList es i st).tm.length = st.tm.length := by
 intro i
 induction i with
 | zero => intro _; rw [stFrom_zero]; exact ⟨rfl, rfl⟩
 | succ i ih =>
  intro hi
  obtain ⟨h1, h2⟩ := ih (by omega)
  have ho : ops.toList[i]? = some ops[i] := by simp
  obtain ⟨e, he, _⟩ := tr.at_ i _ ho
  rw [stFrom_succ ho he]
  refine ⟨?_, ?_⟩
  ·show (updH _ _ ++ [efN e]).length = _
   rw [List.length_append, updH_len, h1]; simp; omega
  ·show (putL _ _ _).length = _
   unfold putL; split
   ·rw [List.length_set, h2]
   ·exact h2
theorem canonT {hid : List (List Nat)} {ρ : List U} {es : List (Option Eff)} {st : SF} (tr : Tr P cts ops i0 hid ρ es st) {t : Nat} (ht : t < st.tm.length) : ∀ (i : Nat), i ≤ ops.size → (stFrom ops.toList es i st).tm[t]? = lastW (fun _ => true) (fT ops.toList es t) st.tm[t]? i := by
 intro i
 induction i with
 | zero => intro _; rw [stFrom_zero]; rfl
 | succ i ih =>
  intro hi
  have ho : ops.toList[i]? = some ops[i] := by simp
  obtain ⟨e, he, _⟩ := tr.at_ i _ ho
  rw [stFrom_succ ho he]
  rw [lastW_true, ← ih (by omega)]
  have hf : fT ops.toList es t i = if ops[i].dst = some t then some (efV e) else none := by unfold fT; rw [ho, he]
  rw [hf]
  show (putL _ _ _)[t]? = _
  unfold putL
  cases hd : ops[i].dst with
  | none => simp
  | some d =>
   dsimp only
   by_cases hdt : d = t
   ·subst hdt
    rw [List.getElem?_set_self (by rw [(canon_len tr i (by omega)).2]; exact ht), if_pos rfl]
   ·rw [List.getElem?_set_ne hdt, if_neg (fun h => hdt (by simpa using h))]
theorem canonB {hid : List (List Nat)} {ρ : List U} {es : List (Option Eff)} {st : SF} (tr : Tr P cts ops i0 hid ρ es st) {k : Nat} : ∀ (i : Nat), i ≤ ops.size → (stFrom ops.toList es i st).h[k]? = lastW (fun _ => true) (fBk es st.h.length k) st.h[k]? i := by
 intro i
 induction i with
 | zero => intro _; rw [stFrom_zero]; rfl
 | succ i ih =>
  intro hi
  have ho : ops.toList[i]? = some ops[i] := by simp
  obtain ⟨e, he, _⟩ := tr.at_ i _ ho
  rw [stFrom_succ ho he]
  obtain ⟨hl, _⟩ := canon_len tr i (by omega)
  rw [lastW_true, ← ih (by omega)]
  have hf : fBk es st.h.length k i = if k = st.h.length + i then some (efN e) else match updAt (efU e) k with | some c => some (some c) | none => none := by unfold fBk; rw [he]
  rw [hf]
  show (updH _ _ ++ [efN e])[k]? = _
  have hu := tr.upd i e he
  rcases Nat.lt_trichotomy k (st.h.length + i) with h1 | h1 | h1
  ·rw [List.getElem?_append_left (by rw [updH_len, hl]; exact h1), updH_at _ _ _ (fun x hx => by rw [hl]; exact hu x hx), if_neg (by omega)]
   cases updAt (efU e) k <;> simp
  ·rw [List.getElem?_append_right (by rw [updH_len, hl]; omega), updH_len, hl, if_pos h1]
   subst h1; simp
  ·rw [List.getElem?_append_right (by rw [updH_len, hl]; omega), List.getElem?_eq_none (by simp [updH_len, hl]; omega), if_neg (by omega)]
   cases hua : updAt (efU e) k with
   | some c => have := hu _ (updAt_mem hua); dsimp only at this; omega
   | none =>
    dsimp only
    rw [List.getElem?_eq_none (by rw [hl]; omega)]
variable {β0 : Blocks} {w0 : World}
structure DI (P : Program) (ops : Array Oper) (β0 : Blocks) (w0 : World) (ρ : List U) (st : SF) (es : List (Option Eff)) (listed : Array Bool) (β : Blocks) (a : Act) (w : World) : Prop where
 inv : HeadInv .any ops ops.size listed
 tm : ∀ (t : Nat) (v : AV), t < st.tm.length → lastW (fun i => listed.getD i false) (fT ops.toList es t) st.tm[t]? ops.size = some v → ∃ u, den β ρ v = some u ∧ a.tmps[t]? = some u
 sz : a.tmps.size = st.tm.length
 h : ∀ (k : Nat) (c : List AV), lastW (fun i => listed.getD i false) (fBk es st.h.length k) st.h[k]? ops.size = some (some c) → ∃ n vs, β k = some n ∧ denL β ρ c = some vs ∧ CellsAt n vs w
 inj : ∀ (k l n : Nat), β k = some n → β l = some n → k = l
 bd : ∀ (k n : Nat), β k = some n → n < w.heap.size
 dom : ∀ (k n : Nat), β k = some n → k < st.h.length ∨ ∃ i, i < ops.size ∧ listed.getD i false = true ∧ k = st.h.length + i
 b0 : ∀ (k n : Nat), β0 k = some n → β k = some n
 new : ∀ (k n : Nat), β k = some n → β0 k = none → w0.heap.size ≤ n
 os : w.os = w0.os
 tape : w.tape = w0.tape
 output : w.output = w0.output
 size : w0.heap.size ≤ w.heap.size
 old : ∀ (n : Nat), n < w0.heap.size → (∀ k, k ∈ (stFrom ops.toList es ops.toList.length st).wr → β0 k ≠ some n) → w.heap[n]? = w0.heap[n]?
 df : a.defers = []
theorem wr_mono {l : List Oper} : ∀ {es : List (Option Eff)} {st : SF}, es.length = l.length → (∀ k, k ∈ st.wr → k ∈ (stFrom l es l.length st).wr) ∧ ∀ (j : Nat) (e : Option Eff), es[j]? = some e → ∀ x ∈ efU e, x.1 ∈ (stFrom l es l.length st).wr := by
 induction l with
 | nil => intro es st hl; cases es <;> simp at hl; exact ⟨fun k hk => hk, fun j e hj => by simp at hj⟩
 | cons o l ih =>
  intro es st hl
  cases es with
  | nil => simp at hl
  | cons e es =>
   obtain ⟨h1, h2⟩ := ih (es := es) (st := nextD st o e) (by simpa using hl)
   refine ⟨fun k hk => h1 k (by show k ∈ st.wr ++ _; simp [hk]), fun j e' hj x hx => ?_⟩
   cases j with
   | zero => simp at hj; subst hj; exact h1 _ (by show x.1 ∈ st.wr ++ (efU e).map (·.1); simp; exact .inr ⟨x.2, hx⟩)
   | succ j => exact h2 j e' (by simpa using hj) x hx
structure Chk (ops : Array Oper) (anc hid : List (List Nat)) (es : List (Option Eff)) (nb : Nat) : Prop where
 lt : ∀ (i j : Nat), i < ops.size → j ∈ anc.getD i [] → j < i
 blk : ∀ (i j : Nat) (e : Option Eff), i < ops.size → j < ops.size → i ≠ j → cmp anc i j = false → es[j]? = some e → ∀ k, (k = nb + j ∨ ∃ c, (k, c) ∈ efU e) → (hid.getD i []).contains k = true ∧ ∀ e', es[i]? = some e' → ¬ (k = nb + i ∨ ∃ c, (k, c) ∈ efU e')
 tmp : ∀ (i j : Nat) (oi oj : Oper) (d : Nat), i ≠ j → cmp anc i j = false → ops[i]? = some oi → ops[j]? = some oj → oj.dst = some d → d ∉ reads ops oi ∧ oi.dst ≠ some d
theorem wrs_get : ∀ {es : List (Option Eff)} {nb j : Nat} {e : Option Eff}, es[j]? = some e → (wrs es nb).getD j [] = (nb + j) :: (efU e).map (·.1)
 | [], nb, j, e, h => by simp at h
 | x :: es, nb, 0, e, h => by simp at h; subst h; rfl
 | x :: es, nb, j + 1, e, h => by
  unfold wrs
  rw [List.getD_cons_succ, wrs_get (es := es) (by simpa using h)]
  rw [show nb + 1 + j = nb + (j + 1) by omega]
theorem okD_chk {anc hid : List (List Nat)} {es : List (Option Eff)} {nb : Nat} (h : okD ops anc hid (wrs es nb) es ops.toList nb = true) (hlen : es.length = ops.toList.length) : Chk ops anc hid es nb ∧ ∀ (j : Nat) (e : Option Eff), es[j]? = some e → ∀ x ∈ efU e, x.1 < nb + j := by
 unfold okD at h
 rw [List.all_eq_true] at h
 have hi : ∀ i, i < ops.size → _ := fun i hi => h i (by simpa using hi)
 have get : ∀ i, i < ops.size → ∃ e, es[i]? = some e := fun i hi => ⟨_, List.getElem?_eq_getElem (by rw [hlen]; simpa using hi)⟩
 refine ⟨⟨fun i j hlt hj => ?_, fun i j e hlt hjlt hij hc he k hk => ?_, fun i j oi oj d hij hc hoi hoj hd => ?_⟩, fun j e he x hx => ?_⟩
 ·have := hi i hlt
  simp only [Bool.and_eq_true] at this
  simpa using List.all_eq_true.1 this.1.1 j hj
 ·have := hi i hlt
  simp only [Bool.and_eq_true] at this
  have h2 := List.all_eq_true.1 this.2 j (by simpa using hjlt)
  have hne : (i == j) = false := by simpa using hij
  rw [hne, hc] at h2
  simp only [Bool.false_or, Bool.and_eq_true] at h2
  have h3 := h2.1
  rw [wrs_get he] at h3
  have hkm : k ∈ (nb + j) :: (efU e).map (·.1) := by
   rcases hk with rfl | ⟨c, hc'⟩
   ·simp
   ·simp; exact .inr ⟨c, hc'⟩
  have h4 := List.all_eq_true.1 h3 k hkm
  simp only [Bool.and_eq_true] at h4
  refine ⟨h4.1, fun e' he' hh => ?_⟩
  have h5 := h4.2
  rw [wrs_get he'] at h5
  have : k ∈ (nb + i) :: (efU e').map (·.1) := by
   rcases hh with rfl | ⟨c, hc'⟩
   ·simp
   ·simp; exact .inr ⟨c, hc'⟩
  simp at h5
  rcases List.mem_cons.1 this with e1 | e1
  ·exact h5.1 e1
  ·simp at e1; obtain ⟨c, e2⟩ := e1; exact h5.2 c e2
 ·have hil : i < ops.size := (Array.getElem?_eq_some_iff.1 hoi).1
  have hjl : j < ops.size := (Array.getElem?_eq_some_iff.1 hoj).1
  have := hi i hil
  simp only [Bool.and_eq_true] at this
  have h2 := List.all_eq_true.1 this.2 j (by simpa using hjl)
  have hne : (i == j) = false := by simpa using hij
  rw [hne, hc] at h2
  simp only [Bool.false_or, Bool.and_eq_true] at h2
  have h3 := h2.2
  rw [show ops.toList[i]? = some oi by simpa using hoi, show ops.toList[j]? = some oj by simpa using hoj] at h3
  dsimp only at h3
  rw [hd] at h3
  dsimp only at h3
  simp only [Bool.and_eq_true, Bool.not_eq_true'] at h3
  exact ⟨fun hm => (by have := h3.1; rw [List.contains_iff_mem.2 hm] at this; cases this), fun hh => (by have := h3.2; rw [hh] at this; simp at this)⟩
 ·have hjl : j < ops.size := by have := (List.getElem?_eq_some_iff.1 he).1; rw [hlen] at this; simpa using this
  have := hi j hjl
  simp only [Bool.and_eq_true] at this
  have h2 := this.1.2
  rw [he] at h2
  simpa using List.all_eq_true.1 h2 x hx
theorem dinv_done {ρ : List U} {st : SF} {es : List (Option Eff)} {hid : List (List Nat)} (tr : Tr P cts ops i0 hid ρ es st) {listed : Array Bool} {β : Blocks} {a : Act} {w : World} (D : DI P ops β0 w0 ρ st es listed β a w) (hall : ∀ i, i < ops.size → listed.getD i false = true)
  (hρ : ρ.length = (stFrom ops.toList es ops.toList.length st).nv) : SRel β0 w0 β ρ (stFrom ops.toList es ops.toList.length st) a w := by
 have hn : ops.toList.length = ops.size := by simp
 obtain ⟨hl1, hl2⟩ := canon_len tr ops.size (Nat.le_refl _)
 refine ⟨fun t v ht => ?_, ?_, fun k c hk => ?_, D.inj, D.bd, fun k hk => ?_, D.b0, D.new, D.os, D.tape, D.output, D.size, D.old, D.df, hρ⟩
 ·rw [hn] at ht
  have hlt : t < st.tm.length := by have := (List.getElem?_eq_some_iff.1 ht).1; omega
  refine D.tm t v hlt ?_
  rw [lastW_all (fun j hj => hall j hj), ← canonT tr hlt ops.size (Nat.le_refl _)]; exact ht
 ·rw [hn, hl2]; exact D.sz
 ·rw [hn] at hk
  refine D.h k c ?_
  rw [lastW_all (fun j hj => hall j hj), ← canonB tr ops.size (Nat.le_refl _)]; exact hk
 ·rw [hn, hl1] at hk
  cases hq : β k with
  | none => rfl
  | some n => rcases D.dom k n hq with h1 | ⟨i, h1, _, h2⟩ <;> omega
theorem listed_ne {listed : Array Bool} {i j : Nat} (h : j ≠ i) : (listed.setIfInBounds i true).getD j false = listed.getD j false := getD_set_ne false (fun h' => h h'.symm)
theorem listed_i {listed : Array Bool} {i : Nat} (h : i < listed.size) : (listed.setIfInBounds i true).getD i false = true := by simp [h]
theorem DI.step {ρ : List U} {st : SF} {es : List (Option Eff)} {hid anc : List (List Nat)} (hcts : AllOk P cts) (tr : Tr P cts ops i0 hid ρ es st) (ck : Chk ops anc hid es st.h.length) (ha : AncOk ops anc)
  (hb : ∀ (j : Nat) (e : Eff), j ≠ i0 → es[j]? = some (some e) → BindsAt ρ (stFrom ops.toList es j st).nv e.binds ∧ NeedsAt ρ e.needs)
  {listed : Array Bool} {β : Blocks} {a : Act} {w : World} (D : DI P ops β0 w0 ρ st es listed β a w) {i : Nat} (hi : i ∈ Region.ready .any ops listed) (hdk : i = i0 → DkAt cts ops ops.toList es st i0 ρ.length) {Q : Exit → Act → World → Prop} {K : Act → World → Prop}
  (hK : i ≠ i0 → ∀ β' a' w', DI P ops β0 w0 ρ st es (listed.setIfInBounds i true) β' a' w' → K a' w') (hKd : i = i0 → ∀ r β' a' w', r < W64 → DI P ops β0 w0 (ρ ++ [.f r]) st es (listed.setIfInBounds i true) β' a' w' → K a' w') : wpOp P ops Q i K a w := by
 obtain ⟨hun, o, ho, hpre⟩ := mem_ready.1 hi
 have hil : i < ops.size := (Array.getElem?_eq_some_iff.1 ho).1
 have hls : i < listed.size := by rw [D.inv.size]; exact hil
 have hLi : listed.getD i false = false := getD_both hun
 have hol : ops.toList[i]? = some o := by simpa using ho
 obtain ⟨ef, hef, hok⟩ := tr.at_ i o hol
 obtain ⟨hcl, hct⟩ := canon_len tr i (Nat.le_of_lt hil)
 have shut : Shut ops (fun j => listed.getD j false = true) := fun j oj hoj hlj e he hbd => D.inv.closed j oj hoj hlj e he hbd
 have shut' : Shut ops (fun j => listed.getD j false = true ∨ j = i) := fun j oj hoj hlj e he hbd => by
  rcases hlj with hlj | rfl
  ·exact .inl (D.inv.closed j oj hoj hlj e he hbd)
  ·rw [ho] at hoj; simp at hoj; subst hoj; exact .inl (hpre e he hbd)
 have before : ∀ j, j ∈ anc.getD i [] → listed.getD j false = true := fun j hj => by
  rcases ha i j hj _ shut' (.inr rfl) with h1 | h1
  ·exact h1
  ·have := ck.lt i j hil hj; omega
 have behind : ∀ j, j < ops.size → i ∈ anc.getD j [] → listed.getD j false = false := fun j _ hj => by
  cases hq : listed.getD j false with
  | false => rfl
  | true => have := ha j i hj _ shut hq; rw [hLi] at this; cases this
 have both : ∀ j, j < ops.size → j ≠ i → cmp anc i j = true → (j < i → listed.getD j false = true) ∧ (i < j → listed.getD j false = false) := fun j hj hne hc => by
  simp only [cmp, Bool.or_eq_true, List.contains_iff_mem] at hc
  rcases hc with hc | hc
  ·exact ⟨fun _ => before j hc, fun hlt => by have := ck.lt i j hil hc; omega⟩
  ·exact ⟨fun hlt => by have := ck.lt j i hj hc; omega, fun _ => behind j hj hc⟩
 -- slots
 have fT_at : ∀ t j, fT ops.toList es t j ≠ none → ∃ oj, ops[j]? = some oj ∧ oj.dst = some t := fun t j hj => by
  unfold fT at hj
  split at hj
  ·rename_i oj e h1 h2
   split at hj
   ·rename_i hd; exact ⟨oj, by simpa using h1, hd⟩
   ·exact absurd rfl hj
  ·exact absurd rfl hj
 have readT : ∀ t, t ∈ reads ops o → ∀ v, (stFrom ops.toList es i st).tm[t]? = some v → ∃ u, den β ρ v = some u ∧ a.tmps[t]? = some u := fun t ht v hv => by
  have hlt : t < st.tm.length := by have := (List.getElem?_eq_some_iff.1 hv).1; omega
  refine D.tm t v hlt ?_
  rw [lastW_A (fun j hj hne hf => ?_) hLi hil, ← canonT tr hlt i (Nat.le_of_lt hil)]
  ·exact hv
  ·obtain ⟨oj, h1, h2⟩ := fT_at t j hf
   refine both j hj hne ?_
   cases hc : cmp anc i j with
   | true => rfl
   | false => exact absurd ht (ck.tmp i j o oj t (Ne.symm hne) hc ho h1 h2).1
 have fB_at : ∀ k j, fBk es st.h.length k j ≠ none → ∃ e, es[j]? = some e ∧ (k = st.h.length + j ∨ ∃ c, (k, c) ∈ efU e) := fun k j hj => by
  unfold fBk at hj
  split at hj
  ·rename_i e h1
   refine ⟨e, h1, ?_⟩
   split at hj
   ·rename_i hk; exact .inl hk
   ·split at hj
    ·rename_i c hc; exact .inr ⟨c, updAt_mem hc⟩
    ·exact absurd rfl hj
  ·exact absurd rfl hj
 have hRel : Rel β ρ (maskH (hid.getD i []) 0 (stFrom ops.toList es i st).h) w := by
  refine ⟨fun k c hk => ?_, D.inj, D.bd⟩
  obtain ⟨h1, h2⟩ := maskH_get hk
  rw [Nat.zero_add] at h2
  refine D.h k c ?_
  rw [lastW_A (fun j hj hne hf => ?_) hLi hil, ← canonB tr i (Nat.le_of_lt hil)]
  ·exact h1
  ·obtain ⟨e, h3, h4⟩ := fB_at k j hf
   refine both j hj hne ?_
   cases hc : cmp anc i j with
   | true => rfl
   | false =>
    have := (ck.blk i j e hil hj (Ne.symm hne) hc h3 k h4).1
    rw [h2] at this; cases this
 have hnb : β (st.h.length + i) = none := by
  cases hq : β (st.h.length + i) with
  | none => rfl
  | some n =>
   rcases D.dom _ n hq with h1 | ⟨j, _, h2, h3⟩
   ·omega
   ·have : j = i := by omega
    subst this; rw [hLi] at h2; cases h2
 have inv' := D.inv.set hi hil
 -- behind the operation
 have fin : ∀ (β' : Blocks) (ρ' : List U) (v : Value) (w' : World), More β β' ρ ρ' → den β' ρ' (efV ef) = some v →
   w'.os = w.os → w'.tape = w.tape → w'.output = w.output → w.heap.size ≤ w'.heap.size →
   (∀ n, n < w.heap.size → (∀ k c, (k, c) ∈ efU ef → β k ≠ some n) → w'.heap[n]? = w.heap[n]?) →
   (∀ k c, (k, c) ∈ efU ef → ∃ n vs, β k = some n ∧ denL β' ρ' c = some vs ∧ CellsAt n vs w') →
   (∀ k n, β' k = some n → β k = some n ∨ (k = st.h.length + i ∧ w.heap.size ≤ n ∧ n < w'.heap.size)) →
   (∀ c, efN ef = some c → ∃ n vs, β' (st.h.length + i) = some n ∧ denL β' ρ' c = some vs ∧ CellsAt n vs w') →
   DI P ops β0 w0 ρ' st es (listed.setIfInBounds i true) β' (a.put o.dst v) w' := by
  intro β' ρ' v w' M hv h1 h2 h3 h4 h5 h6 h7 h8
  refine ⟨inv', fun t x hlt hx => ?_, ?_, fun k c hk => ?_, fun k l n hk hl => ?_, fun k n hk => ?_, fun k n hk => ?_, fun k n hk => M.b _ _ (D.b0 k n hk), fun k n hk h0 => ?_, h1.trans D.os, h2.trans D.tape, h3.trans D.output, Nat.le_trans D.size h4, fun n hn hw => ?_, ?_⟩
  ·rw [lastW_B (L := fun i => listed.getD i false) (i := i) (fun j hj => listed_ne hj) (listed_i hls) hil (fun hf j hj hij hfj => ?_)] at hx
   ·have hft : fT ops.toList es t i = if o.dst = some t then some (efV ef) else none := by unfold fT; rw [hol, hef]
    rw [hft] at hx
    by_cases hd : o.dst = some t
    ·rw [if_pos hd] at hx
     simp at hx; subst hx
     refine ⟨v, hv, ?_⟩
     rw [hd]
     show (a.tmps.setIfInBounds t v)[t]? = some v
     rw [Array.getElem?_setIfInBounds_self_of_lt (by rw [D.sz]; exact hlt)]
    ·rw [if_neg hd] at hx
     obtain ⟨u, g1, g2⟩ := D.tm t x hlt hx
     refine ⟨u, den_more M x g1, ?_⟩
     cases hdd : o.dst with
     | none => exact g2
     | some d =>
      show (a.tmps.setIfInBounds d v)[t]? = some u
      rw [Array.getElem?_setIfInBounds_ne (fun e => hd (by rw [hdd, e]))]; exact g2
   ·obtain ⟨oj, g1, g2⟩ := fT_at t j hfj
    obtain ⟨oi, g3, g4⟩ := fT_at t i hf
    rw [ho] at g3; simp at g3; subst g3
    refine (both j hj (by omega) ?_).2 hij
    cases hc : cmp anc i j with
    | true => rfl
    | false => exact absurd g4 (ck.tmp i j o oj t (by omega) hc ho g1 g2).2
  ·cases hdd : o.dst with
   | none => exact D.sz
   | some d => show (a.tmps.setIfInBounds d v).size = _; rw [Array.size_setIfInBounds]; exact D.sz
  ·rw [lastW_B (L := fun i => listed.getD i false) (i := i) (fun j hj => listed_ne hj) (listed_i hls) hil (fun hf j hj hij hfj => ?_)] at hk
   ·have hfb : fBk es st.h.length k i = if k = st.h.length + i then some (efN ef) else match updAt (efU ef) k with | some c => some (some c) | none => none := by unfold fBk; rw [hef]
    rw [hfb] at hk
    by_cases hkn : k = st.h.length + i
    ·rw [if_pos hkn] at hk
     simp at hk
     subst hkn
     exact h8 c hk
    ·rw [if_neg hkn] at hk
     cases hua : updAt (efU ef) k with
     | some d =>
      rw [hua] at hk
      simp at hk; subst hk
      obtain ⟨n, vs, g1, g2, g3⟩ := h6 k d (updAt_mem hua)
      exact ⟨n, vs, M.b _ _ g1, g2, g3⟩
     | none =>
      rw [hua] at hk
      dsimp only at hk
      obtain ⟨n, vs, g1, g2, g3⟩ := D.h k c hk
      have hbk := h5 n (D.bd k n g1) (fun k' c' hm hb' => by
       have := D.inj k' k n hb' g1
       subst this
       exact updAt_none hua _ hm)
      exact ⟨n, vs, M.b _ _ g1, denL_more M c g2, fun j u hj => by rw [cell_of_block hbk, frozen_of_block hbk]; exact g3 j u hj⟩
   ·obtain ⟨e, g1, g2⟩ := fB_at k j hfj
    obtain ⟨e', g3, g4⟩ := fB_at k i hf
    refine (both j hj (by omega) ?_).2 hij
    cases hc : cmp anc i j with
    | true => rfl
    | false => exact absurd g4 ((ck.blk i j e hil hj (by omega) hc g1 k g2).2 e' g3)
  ·rcases h7 k n hk with g1 | ⟨g1, g2, _⟩ <;> rcases h7 l n hl with k1 | ⟨k1, k2, _⟩
   ·exact D.inj k l n g1 k1
   ·have := D.bd k n g1; omega
   ·have := D.bd l n k1; omega
   ·omega
  ·rcases h7 k n hk with g1 | ⟨_, _, g2⟩
   ·exact Nat.lt_of_lt_of_le (D.bd k n g1) h4
   ·exact g2
  ·rcases h7 k n hk with g1 | ⟨g1, _, _⟩
   ·rcases D.dom k n g1 with k1 | ⟨j, k1, k2, k3⟩
    ·exact .inl k1
    ·exact .inr ⟨j, k1, by
      by_cases hji : j = i
      ·subst hji; exact listed_i hls
      ·rw [listed_ne hji]; exact k2, k3⟩
   ·exact .inr ⟨i, hil, listed_i hls, g1⟩
  ·rcases h7 k n hk with g1 | ⟨_, g2, _⟩
   ·exact D.new k n g1 h0
   ·exact Nat.le_trans D.size g2
  ·rw [h5 n (Nat.lt_of_lt_of_le hn D.size) fun k c hm hb' => ?_]
   ·exact D.old n hn hw
   ·have hmem := (wr_mono (l := ops.toList) (es := es) (st := st) tr.len).2 i ef hef (k, c) hm
    cases h0 : β0 k with
    | none => have := D.new k n hb' h0; omega
    | some m =>
     have := D.b0 k m h0
     rw [hb'] at this; simp at this; subst this
     exact hw k hmem h0
  ·have := D.df
   cases o.dst <;> exact this
 unfold wpOp
 simp only [ho]
 have hgd : TmAt β ρ (stFrom ops.toList es i st).tm a (gdT ops o) := fun t ht v hv => readT t (by unfold reads; simp [ht]) v hv
 have hOps : Ops β ρ (stFrom ops.toList es i st).tm a o.op.operands.toList := fun t ht v hv => by
  obtain ⟨u, g1, g2⟩ := readT t (by unfold reads; simp; exact .inl ⟨.tmp t, by simpa using ht, rfl⟩) v hv
  rw [g1]
  simp only [Array.getD_eq_getD_getElem?, g2, Option.getD_some]
 by_cases hii : i = i0
 ·obtain ⟨o', q0, q1, q2, q3⟩ := hdk hii
  subst hii
  rw [hol] at q0; simp at q0; subst q0
  rw [hef] at q3; simp at q3; subst q3
  rw [guard_yes hgd q1]
  refine .inl ?_
  obtain ⟨r, n, hr, hrun⟩ := dk_run (P := P) (w := w) q2 hOps
  have hv : den β (ρ ++ [.f r]) (efV (some (dkEff ρ.length))) = some (.float .f64 r) := fl_den (by show (ρ ++ [U.f r])[ρ.length]? = _; simp) hr
  unfold Oper.wp
  rw [hrun]
  exact hKd rfl r β _ _ hr (fin β (ρ ++ [.f r]) (.float .f64 r) (w.drewN n) (More.app _ _ _) hv rfl rfl rfl (Nat.le_refl _) (fun _ _ _ => rfl) (fun k c hm => by cases hm) (fun k n hk => .inl hk) (fun c hc => by cases hc))
 have hok := hok hii
 cases ef with
 | none =>
  have hg : guardOf ops (stFrom ops.toList es i st).tm o = .no := hok
  rw [guard_no hgd hg]
  exact hK hii β _ w (fin β ρ undef w (More.refl _ _) rfl rfl rfl rfl (Nat.le_refl _) (fun _ _ _ => rfl) (fun k c hm => by cases hm) (fun k n hk => .inl hk) (fun c hc => by cases hc))
 | some e =>
  obtain ⟨hg, v0, hev, hden⟩ := hok
  rw [guard_yes hgd hg]
  refine .inl ?_
  have hD := evOp_ok (P := P) (o := o) (a := a) (w := w) (β := β) (ρ := ρ) hcts hev hOps hRel (by rw [hcl]; exact hnb) (hb i e hii hef).1 (hb i e hii hef).2
  refine hD K Q fun β' w' v hp hv => ?_
  have hn := hp.new
  rw [hcl] at hn
  have M : More β β' ρ ρ := by
   cases hen : e.new with
   | none => rw [hen] at hn; rw [show β' = β from hn]; exact More.refl _ _
   | some c => rw [hen] at hn; obtain ⟨n, vs, _, _, h3, _⟩ := hn; rw [h3]; exact More.new hnb ρ
  refine hK hii β' _ w' (fin β' ρ v w' M (show den β' ρ e.val = some v by rw [hden]; exact hv) hp.os hp.tape hp.output hp.size hp.old hp.upd (fun k n hk => ?_) (fun c hc => ?_))
  ·cases hen : e.new with
   | none => rw [hen] at hn; rw [show β' = β from hn] at hk; exact .inl hk
   | some c =>
    rw [hen] at hn; obtain ⟨m, vs, g1, g2, g3, _⟩ := hn
    rw [g3] at hk
    unfold extB at hk
    split at hk
    ·rename_i hq; simp at hk; subst hk; exact .inr ⟨hq, g1, g2⟩
    ·exact .inl hk
  ·have hc' : e.new = some c := hc
   rw [hc'] at hn
   obtain ⟨m, vs, g1, g2, g3, g4, g5⟩ := hn
   exact ⟨m, vs, by rw [g3, extB_same], g4, g5⟩
theorem wpAny_di {ρ : List U} {st : SF} {es : List (Option Eff)} {hid anc : List (List Nat)} (hcts : AllOk P cts) (tr : ∀ τ, Tr P cts ops i0 hid (ρ ++ τ) es st) (ck : Chk ops anc hid es st.h.length) (ha : AncOk ops anc) (hback : backB ops ops.size = true)
  (hb : ∀ (j : Nat) (e : Eff), j ≠ i0 → es[j]? = some (some e) → BindsAt ρ (stFrom ops.toList es j st).nv e.binds ∧ NeedsAt ρ e.needs) (hdk : i0 < ops.size → DkAt cts ops ops.toList es st i0 ρ.length)
  (hρ : ops.size ≤ i0 → ρ.length = (stFrom ops.toList es ops.toList.length st).nv) (hρ2 : i0 < ops.size → ρ.length + 1 = (stFrom ops.toList es ops.toList.length st).nv)
  {Q : Exit → Act → World → Prop} (fin : ops.size ≤ i0 → ∀ β a w, SRel β0 w0 β ρ (stFrom ops.toList es ops.toList.length st) a w → Q .normal a w) (fin2 : i0 < ops.size → ∀ r, r < W64 → ∀ β a w, SRel β0 w0 β (ρ ++ [.f r]) (stFrom ops.toList es ops.toList.length st) a w → Q .normal a w) :
  ∀ (m : Nat) (listed : Array Bool) (β : Blocks) (a : Act) (w : World), unl ops.size listed ≤ m → ((listed.getD i0 false = false ∧ DI P ops β0 w0 ρ st es listed β a w) ∨ (i0 < ops.size ∧ listed.getD i0 false = true ∧ ∃ r, r < W64 ∧ DI P ops β0 w0 (ρ ++ [.f r]) st es listed β a w)) → wpAny P .any ops Q m listed a w := by
 have tr0 : Tr P cts ops i0 hid ρ es st := by have := tr []; rwa [List.append_nil] at this
 have done : ∀ (listed : Array Bool) (β : Blocks) (a : Act) (w : World), (∀ i, i < ops.size → listed.getD i true = true) → ((listed.getD i0 false = false ∧ DI P ops β0 w0 ρ st es listed β a w) ∨ (i0 < ops.size ∧ listed.getD i0 false = true ∧ ∃ r, r < W64 ∧ DI P ops β0 w0 (ρ ++ [.f r]) st es listed β a w)) → Region.ready .any ops listed = [] ∧ Q .normal a w := by
  intro listed β a w hall D
  have hsz : listed.size = ops.size := by
   rcases D with ⟨_, D⟩ | ⟨_, _, r, _, D⟩
   ·exact D.inv.size
   ·exact D.inv.size
  have hall' : ∀ i, i < ops.size → listed.getD i false = true := fun i hi => by
   have h1 := hall i hi
   have h2 : i < listed.size := by rw [hsz]; exact hi
   simp [h2] at h1 ⊢; exact h1
  refine ⟨?_, ?_⟩
  ·rw [List.eq_nil_iff_forall_not_mem]
   intro i hi
   obtain ⟨hun, o, ho, _⟩ := mem_ready.1 hi
   have hlt : i < ops.size := (Array.getElem?_eq_some_iff.1 ho).1
   rw [hall i hlt] at hun; cases hun
  ·rcases D with ⟨h0, D⟩ | ⟨h0, _, r, hr, D⟩
   ·have hle : ops.size ≤ i0 := by
     rcases Nat.lt_or_ge i0 ops.size with h1 | h1
     ·rw [hall' i0 h1] at h0; cases h0
     ·exact h1
    exact fin hle β a w (dinv_done tr0 D hall' (hρ hle))
   ·exact fin2 h0 r hr β a w (dinv_done (tr [.f r]) D hall' (by rw [List.length_append]; exact hρ2 h0))
 intro m
 induction m with
 | zero =>
  intro listed β a w hm D
  refine done listed β a w (fun i hi => ?_) D
  cases hv : listed.getD i true with
  | true => rfl
  | false => have := unl_set hi hv; omega
 | succ m ih =>
  intro listed β a w hm D
  have hsz : listed.size = ops.size := by
   rcases D with ⟨_, D⟩ | ⟨_, _, r, _, D⟩
   ·exact D.inv.size
   ·exact D.inv.size
  refine ⟨fun h0 => (done listed β a w (fun i hi => ?_) D).2, fun i hi => ?_⟩
  ·cases hv : listed.getD i true with
   | true => rfl
   | false =>
    obtain ⟨j, _, hj⟩ := some_ready' hback hsz i i (Nat.le_refl _) hi hv
    rw [h0] at hj; cases hj
  ·obtain ⟨hun, o, ho, hall⟩ := mem_ready.1 hi
   have hin : i < ops.size := (Array.getElem?_eq_some_iff.1 ho).1
   have hun' : listed.getD i false = false := getD_both hun
   have hlt : unl ops.size (listed.setIfInBounds i true) ≤ m := by have := unl_set hin hun; omega
   rcases D with ⟨h0, D⟩ | ⟨h0, h1, r, hr, D⟩
   ·refine D.step hcts tr0 ck ha hb hi (fun e => hdk (e ▸ hin)) (fun hne β' a' w' D' => ih _ β' a' w' hlt (.inl ⟨?_, D'⟩)) (fun e r β' a' w' hr D' => ih _ β' a' w' hlt (.inr ⟨e ▸ hin, ?_, r, hr, D'⟩))
    ·rw [listed_ne (fun e => hne e.symm)]; exact h0
    ·subst e; exact listed_i (by rw [hsz]; exact hin)
   ·have hne : i ≠ i0 := fun e => by subst e; rw [h1] at hun'; cases hun'
    have M : More (fun _ => none) (fun _ => none) ρ (ρ ++ [.f r]) := More.app _ _ _
    refine D.step hcts (tr [.f r]) ck ha (fun j e hj he => ⟨BindsAt.more M (hb j e hj he).1, fun n hn => ?_⟩) hi (fun e => absurd e hne) (fun hne β' a' w' D' => ih _ β' a' w' hlt (.inr ⟨h0, ?_, r, hr, D'⟩)) (fun e => absurd e hne)
    ·obtain ⟨us, k1, k2⟩ := (hb j e hj he).2 n hn; exact ⟨us, evs_more M k1, k2⟩
    ·rw [listed_ne (fun e => hne e.symm)]; exact h1
def drD (P : Program) (cts : List (Nat × Ct)) (ops : Array Oper) (st : SF) (k : SF → T) : T := if backB ops ops.size = true then drawnT P cts ops st k else .bad 13
theorem drD_ok (hcts : AllOk P cts) (hm : P.follows .mixedOrders = true) : DrOk P (drD P cts) := by
 intro Q L β0 w0 id ops k Qx hk β ρ st a w hh S
 have hh : T.holdsL Q (if backB ops ops.size = true then drawnT P cts ops st k else T.bad 13) L ρ := hh
 split at hh
 ·rename_i hback
  unfold drawnT at hh
  dsimp only at hh
  obtain ⟨σ, es, i0, hlen, hat, hbn, hend⟩ := traceT_ok hh S.nv
  rw [List.nil_append] at hend
  have hokd : okD ops (ancs ops.toList []) (hids (ancs ops.toList []) (traceW P cts ops ops.toList 0 st) ops.toList.length) (wrs es st.h.length) es ops.toList st.h.length = true := by
   rcases hend with ⟨_, _, hfin⟩ | ⟨_, _, hfin⟩
   ·split at hfin
    ·assumption
    ·exact hfin.elim
   ·have hfin := hfin 0 (by unfold W64; decide)
    split at hfin
    ·assumption
    ·exact hfin.elim
  rw [if_pos hokd] at hend
  obtain ⟨ck, hupd⟩ := okD_chk hokd hlen
  have tr : ∀ τ, Tr P cts ops i0 _ (ρ ++ σ ++ τ) es st := fun τ => ⟨hlen, fun j o hj => by obtain ⟨e, k1, k2⟩ := hat j o hj; rw [Nat.zero_add] at k2; exact ⟨e, k1, fun hne => k2 hne τ⟩, hupd⟩
  have ha : AncOk ops (ancs ops.toList []) := ancs_ok ops _ [] (fun j o hj => by simpa using hj) (fun i j hj => by simp at hj)
  have hsl : ops.toList.length = ops.size := by simp
  have hdk : i0 < ops.size → DkAt cts ops ops.toList es st i0 (ρ ++ σ).length ∧ (ρ ++ σ).length + 1 = (stFrom ops.toList es ops.toList.length st).nv ∧ ∀ r, r < W64 → (k (stFrom ops.toList es ops.toList.length st)).holdsL Q L (ρ ++ σ ++ [.f r]) := fun hlt => by
   rcases hend with ⟨h1, _, _⟩ | h1
   ·omega
   ·exact h1
  have hnd : ops.size ≤ i0 → (ρ ++ σ).length = (stFrom ops.toList es ops.toList.length st).nv ∧ (k (stFrom ops.toList es ops.toList.length st)).holdsL Q L (ρ ++ σ) := fun hle => by
   rcases hend with ⟨_, h1⟩ | ⟨⟨o, h1, _⟩, _⟩
   ·exact h1
   ·have := (List.getElem?_eq_some_iff.1 h1).1; omega
  refine wp_region_any hm ?_
  have S' := S.more σ (nv := (ρ ++ σ).length) (by rw [List.length_append])
  have hfl : ∀ i, (Array.replicate ops.size false).getD i false = false := fun i => getD_replicate_false _ _
  refine wpAny_di (P := P) (cts := cts) (ops := ops) (i0 := i0) (β0 := β0) (w0 := w0) (ρ := ρ ++ σ) (st := st) (es := es) hcts tr ck ha hback hbn (fun h => (hdk h).1) (fun h => (hnd h).1) (fun h => (hdk h).2.1)
   (fun h β' a' w' S2 => hk β' (ρ ++ σ) _ a' w' (hnd h).2 S2) (fun h r hr β' a' w' S2 => hk β' (ρ ++ σ ++ [.f r]) _ a' w' ((hdk h).2.2 r hr) S2)
   ops.size _ β a _ (by unfold unl; exact Nat.le_trans (List.length_filter_le _ _) (by simp))
   (.inl ⟨hfl _, ⟨⟨by simp, fun j oj _ hl => (by rw [hfl] at hl; cases hl), fun t _ ht => getD_in (by simpa using ht) (hfl t)⟩, fun t v hlt hv => ?_, S'.sz, fun k c hk' => ?_, S'.inj, S'.bd, fun k n hk' => ?_, S'.b0, S'.new, S'.os, S'.tape, S'.output, S'.size, fun n hn hwr => ?_, S'.df⟩⟩)
  ·rw [lastW_none (fun j _ => hfl j)] at hv
   exact S'.tm t v hv
  ·rw [lastW_none (fun j _ => hfl j)] at hk'
   exact S'.h k c hk'
  ·refine .inl ?_
   rcases Nat.lt_or_ge k st.h.length with h6 | h6
   ·exact h6
   ·have := S'.dom k h6; rw [hk'] at this; cases this
  ·exact S'.old n hn fun k hk' => hwr k ((wr_mono (l := ops.toList) (es := es) (st := st) hlen).1 k hk')
 ·exact hh.elim
end
end Go.Proofs.YtkhplflbcgjkcaaGreat
