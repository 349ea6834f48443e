/- A reckoning of programs by symbols: what an operation makes of symbols is what it does. -/
import Derived.Test.YthfgdhobldejmaaYa
import Derived.Laws.StructEq
import Derived.ChangeKeysEq
import Derived.Deep.MidRow
namespace Go.Proofs.Ythfgdhobldejmaa
open Go Go.RowKit

abbrev Blocks := Nat → Option Nat
/-- More blocks, more variables. -/
structure More (β β' : Blocks) (ρ ρ' : List U) : Prop where
  b : ∀ (k n : Nat), β k = some n → β' k = some n
  r : ∀ (k : Nat) (u : U), ρ[k]? = some u → ρ'[k]? = some u
theorem More.refl (β : Blocks) (ρ : List U) : More β β ρ ρ := ⟨fun _ _ h => h, fun _ _ h => h⟩
theorem More.trans {β β' β'' : Blocks} {ρ ρ' ρ'' : List U} (h : More β β' ρ ρ') (k : More β' β'' ρ' ρ'') : More β β'' ρ ρ'' := ⟨fun _ _ x => k.b _ _ (h.b _ _ x), fun _ _ x => k.r _ _ (h.r _ _ x)⟩

section
variable {β β' : Blocks} {ρ ρ' : List U}
theorem E.ev_more (M : More β β' ρ ρ') {e : E} {u : U} (h : e.ev ρ = some u) : e.ev ρ' = some u := by
  cases e with
  | v n => exact M.r _ _ h
  | l u => exact h
theorem evs_more (M : More β β' ρ ρ') : ∀ {l : List E} {us : List U}, evs ρ l = some us → evs ρ' l = some us
  | [], _, h => h
  | e :: l, us, h => by
    unfold evs at h ⊢
    cases h1 : e.ev ρ with
    | none => simp [h1] at h
    | some u =>
      cases h2 : evs ρ l with
      | none => simp [h1, h2] at h
      | some vs => rw [E.ev_more M h1, evs_more M h2]; simpa [h1, h2] using h
mutual
theorem den_more (M : More β β' ρ ρ') : ∀ (a : AV) {v : Value}, den β ρ a = some v → den β' ρ' a = some v
  | .fl e, v, h => by
    unfold den at h ⊢
    cases h1 : e.ev ρ with
    | none => simp [h1] at h
    | some u => rw [E.ev_more M h1]; simpa [h1] using h
  | .it k e, v, h => by
    unfold den at h ⊢
    cases h1 : e.ev ρ with
    | none => simp [h1] at h
    | some u => rw [E.ev_more M h1]; simpa [h1] using h
  | .bo e, v, h => by
    unfold den at h ⊢
    cases h1 : e.ev ρ with
    | none => simp [h1] at h
    | some u => rw [E.ev_more M h1]; simpa [h1] using h
  | .ptr b o, v, h => by
    unfold den at h ⊢
    cases h1 : β b with
    | none => simp [h1] at h
    | some n => rw [M.b _ _ h1]; simpa [h1] using h
  | .pnil, v, h => h
  | .slc b o len cap, v, h => by
    unfold den at h ⊢
    cases h1 : β b with
    | none => simp [h1] at h
    | some n => rw [M.b _ _ h1]; simpa [h1] using h
  | .snil, v, h => h
  | .fn f a c, v, h => by
    unfold den at h ⊢
    cases h1 : denL β ρ a with
    | none => simp [h1] at h
    | some x =>
      cases h2 : denL β ρ c with
      | none => simp [h1, h2] at h
      | some y => rw [denL_more M a h1, denL_more M c h2]; simpa [h1, h2] using h
  | .fnil, v, h => h
  | .agg l, v, h => by
    unfold den at h ⊢
    cases h1 : denL β ρ l with
    | none => simp [h1] at h
    | some x => rw [denL_more M l h1]; simpa [h1] using h
  | .tup l, v, h => by
    unfold den at h ⊢
    cases h1 : denL β ρ l with
    | none => simp [h1] at h
    | some x => rw [denL_more M l h1]; simpa [h1] using h
  | .und, v, h => h
  | .str s, v, h => h
  | .val e t, v, h => by
    unfold den at h ⊢
    cases h1 : e.ev ρ with
    | none => simp [h1] at h
    | some u => rw [E.ev_more M h1]; simpa [h1] using h
theorem denL_more (M : More β β' ρ ρ') : ∀ (l : List AV) {vs : List Value}, denL β ρ l = some vs → denL β' ρ' l = some vs
  | [], vs, h => h
  | a :: l, vs, h => by
    unfold denL at h ⊢
    cases h1 : den β ρ a with
    | none => simp [h1] at h
    | some x =>
      cases h2 : denL β ρ l with
      | none => simp [h1, h2] at h
      | some y => rw [den_more M a h1, denL_more M l h2]; simpa [h1, h2] using h
end

/-! Lists of values -/
theorem denL_cons {a : AV} {l : List AV} {vs : List Value} : denL β ρ (a :: l) = some vs ↔ ∃ x y, den β ρ a = some x ∧ denL β ρ l = some y ∧ vs = x :: y := by
  rw [denL]
  cases den β ρ a <;> cases denL β ρ l <;> simp [eq_comm]
theorem denL_nil {vs : List Value} : denL β ρ [] = some vs ↔ vs = [] := by rw [denL]; simp [eq_comm]
theorem denL_len : ∀ {l : List AV} {vs : List Value}, denL β ρ l = some vs → vs.length = l.length
  | [], vs, h => by rw [denL_nil.1 h]; rfl
  | a :: l, vs, h => by
    obtain ⟨x, y, _, h2, rfl⟩ := denL_cons.1 h
    simp [denL_len h2]
theorem denL_get : ∀ {l : List AV} {vs : List Value} {i : Nat} {a : AV}, denL β ρ l = some vs → l[i]? = some a → ∃ x, den β ρ a = some x ∧ vs[i]? = some x
  | b :: l, vs, 0, a, h, hi => by
    obtain ⟨x, y, h1, _, rfl⟩ := denL_cons.1 h
    simp at hi; subst hi
    exact ⟨x, h1, rfl⟩
  | b :: l, vs, i + 1, a, h, hi => by
    obtain ⟨x, y, _, h2, rfl⟩ := denL_cons.1 h
    simpa using denL_get h2 (by simpa using hi)
theorem denL_append : ∀ {l m : List AV} {vs ws : List Value}, denL β ρ l = some vs → denL β ρ m = some ws → denL β ρ (l ++ m) = some (vs ++ ws)
  | [], m, vs, ws, h, k => by rw [denL_nil.1 h]; exact k
  | a :: l, m, vs, ws, h, k => by
    obtain ⟨x, y, h1, h2, rfl⟩ := denL_cons.1 h
    exact denL_cons.2 ⟨x, y ++ ws, h1, denL_append h2 k, rfl⟩
theorem denL_take : ∀ {l : List AV} {vs : List Value} (n : Nat), denL β ρ l = some vs → denL β ρ (l.take n) = some (vs.take n)
  | _, vs, 0, _ => by simp [denL]
  | [], vs, n + 1, h => by rw [denL_nil.1 h]; rfl
  | a :: l, vs, n + 1, h => by
    obtain ⟨x, y, h1, h2, rfl⟩ := denL_cons.1 h
    exact denL_cons.2 ⟨x, y.take n, h1, denL_take n h2, rfl⟩
theorem denL_drop : ∀ {l : List AV} {vs : List Value} (n : Nat), denL β ρ l = some vs → denL β ρ (l.drop n) = some (vs.drop n)
  | _, vs, 0, h => h
  | [], vs, n + 1, h => by rw [denL_nil.1 h]; rfl
  | a :: l, vs, n + 1, h => by
    obtain ⟨x, y, h1, h2, rfl⟩ := denL_cons.1 h
    exact denL_drop n h2

theorem den_one {a : AV} {v : Value} (h : den β ρ a = some v) (hs : a.scalar = true) : v.oneCell' = true := by
  cases a <;> simp [AV.scalar] at hs <;> unfold den at h <;> (repeat' split at h) <;> simp at h <;> subst h <;> rfl
theorem den_cells {a : AV} {v : Value} (h : den β ρ a = some v) (hn : a.isVal = false := by rfl) : denL β ρ a.cells = some v.cells.toList := by
  cases a with
  | agg l =>
    unfold den at h
    cases h1 : denL β ρ l with
    | none => simp [h1] at h
    | some x => simp [h1] at h; subst h; simpa [AV.cells, Value.cells] using h1
  | tup l =>
    have h' := h
    unfold den at h
    cases h1 : denL β ρ l with
    | none => simp [h1] at h
    | some x => simp [h1] at h; subst h; exact denL_cons.2 ⟨_, [], h', rfl, rfl⟩
  | und =>
    have h' := h
    unfold den at h
    simp at h; subst h
    exact denL_cons.2 ⟨_, [], h', rfl, rfl⟩
  | val e t => simp [AV.isVal] at hn
  | _ =>
    have h1 := den_one h rfl
    have h2 : v.cells.toList = [v] := by cases v <;> first | rfl | (simp [Value.oneCell'] at h1)
    rw [h2]
    exact denL_cons.2 ⟨v, [], h, rfl, rfl⟩
theorem denL_one : ∀ {l : List AV} {vs : List Value}, denL β ρ l = some vs → l.all AV.scalar = true → ∀ v ∈ vs, v.oneCell' = true
  | [], vs, h, _, v, hv => by rw [denL_nil.1 h] at hv; cases hv
  | a :: l, vs, h, hs, v, hv => by
    obtain ⟨x, y, h1, h2, rfl⟩ := denL_cons.1 h
    simp only [List.all_cons, Bool.and_eq_true] at hs
    rcases List.mem_cons.1 hv with rfl | hv
    · exact den_one h1 hs.1
    · exact denL_one h2 hs.2 v hv

theorem constS_den {v : Value} {a : AV} (h : constS v = some a) : den β ρ a = some v := by
  unfold constS at h
  split at h
  · split at h
    · rename_i n hn; simp at h; subst h; simp [den, E.ev, hn]
    · simp at h
  all_goals first
    | (simp at h; subst h; simp [den, E.ev]; done)
    | (rename_i f a c
       split at h
       · rename_i hn
         simp at h; subst h
         simp only [Bool.and_eq_true, beq_iff_eq] at hn
         have h1 : a = #[] := Array.size_eq_zero_iff.1 hn.1
         have h2 : c = #[] := Array.size_eq_zero_iff.1 hn.2
         subst h1 h2
         simp [den, denL]
       · simp at h)
    | (simp at h)
theorem constL_den : ∀ {l : List Value} {xs : List AV}, constL l = some xs → denL β ρ xs = some l
  | [], xs, h => by unfold constL at h; simp at h; subst h; rfl
  | v :: l, xs, h => by
    unfold constL at h
    cases h1 : constS v with
    | none => simp [h1] at h
    | some x =>
      cases h2 : constL l with
      | none => simp [h1, h2] at h
      | some y => simp [h1, h2] at h; subst h; exact denL_cons.2 ⟨v, l, constS_den h1, constL_den h2, rfl⟩
theorem constAV_den {v : Value} {a : AV} (h : constAV v = some a) : den β ρ a = some v := by
  unfold constAV at h
  split at h
  · rename_i cs
    cases h1 : constL cs.toList with
    | none => simp [h1] at h
    | some x => simp [h1] at h; subst h; unfold den; rw [constL_den h1]
  · exact constS_den h

theorem constS_val {v : Value} {a : AV} (h : constS v = some a) : a.isVal = false := by
  unfold constS at h
  split at h
  · split at h
    · simp at h; subst h; rfl
    · simp at h
  all_goals first
    | (simp at h; subst h; rfl)
    | (split at h; · simp at h; subst h; rfl
       · simp at h)
    | simp at h
theorem constAV_val {v : Value} {a : AV} (h : constAV v = some a) : a.isVal = false := by
  unfold constAV at h
  split at h
  · rename_i cs
    cases h1 : constL cs.toList with
    | none => simp [h1] at h
    | some x => simp [h1] at h; subst h; rfl
  · exact constS_val h
theorem opd_tmp {tm : List AV} {t : Nat} {v : AV} (h : opd tm (.tmp t) = some v) : tm[t]? = some v ∧ v.isVal = false := by
  unfold opd at h
  dsimp only at h
  split at h
  · simp at h
  · rename_i hne
    refine ⟨h, ?_⟩
    cases v with
    | val e k => exact absurd h (fun h => hne _ _ h)
    | _ => rfl
theorem opd_val {tm : List AV} {o : Operand} {v : AV} (h : opd tm o = some v) : v.isVal = false := by
  cases o with
  | tmp t => exact (opd_tmp h).2
  | const c => exact constAV_val h
  | global g => simp [opd] at h
  | func f => simp [opd] at h; subst h; rfl
/-- The operands' values. -/
def Ops (β : Blocks) (ρ : List U) (tm : List AV) (a : Act) (l : List Operand) : Prop := ∀ t, Operand.tmp t ∈ l → ∀ v, tm[t]? = some v → den β ρ v = some (a.tmps.getD t undef)
theorem opd_den {tm : List AV} {a : Act} {l : List Operand} (hT : Ops β ρ tm a l) {x : Operand} (hx : x ∈ l) {v : AV} (h : opd tm x = some v) : den β ρ v = some (a.eval x) := by
  cases x with
  | tmp t => exact hT t hx v (opd_tmp h).1
  | const c => exact constAV_den h
  | global g => simp [opd] at h
  | func f => simp [opd] at h; subst h; simp [den, denL, Act.eval]
theorem opds_den {tm : List AV} {a : Act} {l : List Operand} (hT : Ops β ρ tm a l) : ∀ {xs : List Operand} {vs : List AV}, (∀ x ∈ xs, x ∈ l) → opds tm xs = some vs → denL β ρ vs = some (xs.map a.eval)
  | [], vs, _, h => by unfold opds at h; simp at h; subst h; rfl
  | x :: xs, vs, hx, h => by
    unfold opds at h
    cases h1 : opd tm x with
    | none => simp [h1] at h
    | some y =>
      cases h2 : opds tm xs with
      | none => simp [h1, h2] at h
      | some z =>
        simp [h1, h2] at h; subst h
        exact denL_cons.2 ⟨_, _, opd_den hT (hx x (by simp)) h1, opds_den hT (fun y hy => hx y (by simp [hy])) h2, rfl⟩

/-! Memory -/
def CellsAt (n : Nat) (vs : List Value) (w : World) : Prop := ∀ j v, vs[j]? = some v → w.cell? ⟨n, j, none⟩ = some v ∧ w.frozen? ⟨n, j, none⟩ = false
structure Rel (β : Blocks) (ρ : List U) (h : Heap) (w : World) : Prop where
  cells : ∀ k c, h[k]? = some (some c) → ∃ n vs, β k = some n ∧ denL β ρ c = some vs ∧ CellsAt n vs w
  inj : ∀ k l n, β k = some n → β l = some n → k = l
  bd : ∀ k n, β k = some n → n < w.heap.size
def extB (β : Blocks) (nb n : Nat) : Blocks := fun k => if k = nb then some n else β k
def NewAs (β β' : Blocks) (ρ : List U) (nb : Nat) (w w' : World) : Option (List AV) → Prop
  | none => β' = β
  | some c => ∃ n vs, w.heap.size ≤ n ∧ n < w'.heap.size ∧ β' = extB β nb n ∧ denL β' ρ c = some vs ∧ CellsAt n vs w'
structure Post (β β' : Blocks) (ρ : List U) (nb : Nat) (e : Eff) (w w' : World) : Prop where
  os : w'.os = w.os
  tape : w'.tape = w.tape
  output : w'.output = w.output
  size : w.heap.size ≤ w'.heap.size
  old : ∀ n, n < w.heap.size → (∀ k c, (k, c) ∈ e.upd → β k ≠ some n) → w'.heap[n]? = w.heap[n]?
  upd : ∀ k c, (k, c) ∈ e.upd → ∃ n vs, β k = some n ∧ denL β' ρ c = some vs ∧ CellsAt n vs w'
  new : NewAs β β' ρ nb w w' e.new
theorem Post.same {nb : Nat} {e : Eff} {w : World} (h1 : e.upd = []) (h2 : e.new = none) : Post β β ρ nb e w w :=
  ⟨rfl, rfl, rfl, Nat.le_refl _, fun _ _ _ => rfl, fun k c h => (by rw [h1] at h; cases h), by rw [h2]; rfl⟩

def BindsAt (ρ : List U) (nv : Nat) : List Bind → Prop
  | [] => True
  | b :: l => (∃ us, evs ρ b.args = some us ∧ ∀ i, i < b.m → ρ[nv + i]? = some (b.f us i)) ∧ BindsAt ρ (nv + b.m) l
def NeedsAt (ρ : List U) (l : List Need) : Prop := ∀ n ∈ l, ∃ us, evs ρ n.args = some us ∧ n.p us = true

/-- What an operation does, by symbols. -/
def Does (P : Program) (o : Oper) (a : Act) (w : World) (β : Blocks) (ρ : List U) (nb : Nat) (e : Eff) : Prop :=
  ∀ (K : Act → World → Prop) (Q : Exit → Act → World → Prop), (∀ β' w' v, Post β β' ρ nb e w w' → den β' ρ e.val = some v → K (a.put o.dst v) w') → o.wp P a w K Q

theorem Does.value {P : Program} {o : Oper} {a : Act} {w : World} {nb : Nat} {e : Eff} {v : Value} (hr : (execOp a.eval o).run P w = .ok (.value v) w) (hv : den β ρ e.val = some v) (h1 : e.upd = []) (h2 : e.new = none) : Does P o a w β ρ nb e := by
  intro K Q hK
  unfold Oper.wp
  rw [hr]
  exact hK β w v (Post.same h1 h2) hv

theorem litU_ev {e : E} {u : U} (h : litU e = some u) : e.ev ρ = some u := by
  cases e with
  | v n => simp [litU] at h
  | l x => simpa [litU, E.ev] using h
theorem litsU_evs : ∀ {l : List E} {us : List U}, litsU l = some us → evs ρ l = some us
  | [], us, h => h
  | e :: l, us, h => by
    unfold litsU at h
    unfold evs
    cases h1 : litU e with
    | none => simp [h1] at h
    | some u =>
      cases h2 : litsU l with
      | none => simp [h1, h2] at h
      | some x => rw [litU_ev h1, litsU_evs h2]; simpa [h1, h2] using h
theorem app_ev {nv : Nat} {f : List U → U} {args : List E} {us : List U} (he : evs ρ args = some us) (hb : BindsAt ρ nv (app nv f args).2) : (app nv f args).1.ev ρ = some (f us) := by
  unfold app at hb ⊢
  cases h : litsU args with
  | some vs =>
    have := litsU_evs (ρ := ρ) h
    rw [he] at this
    simp at this; subst this
    simp [E.ev]
  | none =>
    rw [h] at hb
    obtain ⟨⟨vs, h1, h2⟩, _⟩ := hb
    rw [he] at h1
    simp at h1; subst h1
    simpa [E.ev] using h2 0 (Nat.lt_succ_self _)

theorem den_fl {e : E} {v : Value} (h : den β ρ (.fl e) = some v) : ∃ n, e.ev ρ = some (.f n) ∧ n < W64 ∧ v = .float .f64 n := by
  unfold den at h
  split at h
  · rename_i n hn
    split at h
    · rename_i hw; simp at h; exact ⟨n, hn, hw, h.symm⟩
    · simp at h
  · simp at h
theorem den_it {k : IntKind} {e : E} {v : Value} (h : den β ρ (.it k e) = some v) : ∃ n, e.ev ρ = some (.i n) ∧ v = .int k n := by
  unfold den at h
  split at h
  · rename_i n hn; simp at h; exact ⟨n, hn, h.symm⟩
  · simp at h
theorem den_bo {e : E} {v : Value} (h : den β ρ (.bo e) = some v) : ∃ x, e.ev ρ = some (.b x) ∧ v = .bool x := by
  unfold den at h
  split at h
  · rename_i n hn; simp at h; exact ⟨n, hn, h.symm⟩
  · simp at h
theorem den_ptr {b o : Nat} {v : Value} (h : den β ρ (.ptr b o) = some v) : ∃ n, β b = some n ∧ v = .pointer (some ⟨n, o, none⟩) := by
  unfold den at h
  split at h
  · rename_i n hn; simp at h; exact ⟨n, hn, h.symm⟩
  · simp at h
theorem den_slc {b o l c : Nat} {v : Value} (h : den β ρ (.slc b o l c) = some v) : ∃ n, β b = some n ∧ v = .slice (some ⟨n, o, none⟩) l c := by
  unfold den at h
  split at h
  · rename_i n hn; simp at h; exact ⟨n, hn, h.symm⟩
  · simp at h
theorem den_agg {l : List AV} {v : Value} (h : den β ρ (.agg l) = some v) : ∃ x, denL β ρ l = some x ∧ v = .agg x.toArray := by
  unfold den at h
  split at h
  · rename_i n hn; simp at h; exact ⟨n, hn, h.symm⟩
  · simp at h
theorem den_tup {l : List AV} {v : Value} (h : den β ρ (.tup l) = some v) : ∃ x, denL β ρ l = some x ∧ v = .tuple x.toArray := by
  unfold den at h
  split at h
  · rename_i n hn; simp at h; exact ⟨n, hn, h.symm⟩
  · simp at h
theorem den_fn {f : Nat} {a c : List AV} {v : Value} (h : den β ρ (.fn f a c) = some v) : ∃ x y, denL β ρ a = some x ∧ denL β ρ c = some y ∧ v = .func (.func f) x.toArray y.toArray := by
  unfold den at h
  split at h
  · rename_i x y h1 h2; simp at h; exact ⟨x, y, h1, h2, h.symm⟩
  · simp at h
theorem fl_den {e : E} {n : Nat} (h : e.ev ρ = some (.f n)) (hw : n < W64) : den β ρ (.fl e) = some (.float .f64 n) := by
  unfold den; rw [h]; simp [hw]
theorem it_den {k : IntKind} {e : E} {n : Int} (h : e.ev ρ = some (.i n)) : den β ρ (.it k e) = some (.int k n) := by
  unfold den; rw [h]
theorem bo_den {e : E} {x : Bool} (h : e.ev ρ = some (.b x)) : den β ρ (.bo e) = some (.bool x) := by
  unfold den; rw [h]
theorem evs1 {a : E} {u : U} (h : a.ev ρ = some u) : evs ρ [a] = some [u] := by simp [evs, h]
theorem evs2 {a b : E} {u v : U} (h : a.ev ρ = some u) (k : b.ev ρ = some v) : evs ρ [a, b] = some [u, v] := by simp [evs, h, k]
theorem need1 {ns : List Need} {p : List U → Bool} {args : List E} {us : List U} (hn : NeedsAt ρ ns) (h : ⟨p, args⟩ ∈ ns) (he : evs ρ args = some us) : p us = true := by
  obtain ⟨vs, h1, h2⟩ := hn _ h
  rw [he] at h1
  simp at h1; subst h1
  exact h2

theorem okF_of {o : Option Nat} (h : okF o = true) : ∃ r, o = some r ∧ r < W64 := by
  unfold okF at h
  split at h
  · rename_i r; exact ⟨r, rfl, by simpa using h⟩
  · simp at h
/-! Types -/
variable {P : Program}
theorem run_size {t : TypeId} {n : Nat} (h : tSize P t = some n) (w : World) : (sizeOf t).run P w = .ok n w := by
  unfold tSize at h
  split at h
  · rename_i i hi; simp at h; subst h; simp [sizeOf, typeInfo, hi]
  · simp at h
theorem size_info {t : TypeId} {n : Nat} (h : tSize P t = some n) : (P.info? t).map (·.size) = some n := by
  unfold tSize at h
  split at h
  · rename_i i hi; simp at h; subst h; rw [hi]; rfl
  · simp at h
theorem run_zero {t : TypeId} {z : AV} (h : tZero P t = some z) (w : World) : ∃ v, (zeroValue t).run P w = .ok v w ∧ ∀ β ρ, den β ρ z = some v := by
  unfold tZero at h
  split at h
  · rename_i i hi
    split at h
    · rename_i v hv; exact ⟨v, by simp [zeroValue, typeInfo, hi, hv], fun β ρ => constAV_den h⟩
    · simp at h
  · simp at h
theorem agg_desc {t : TypeId} (h : tAgg P t = some true) : ∃ d, P.underlying t = some d ∧ d.isRow = true := by
  unfold tAgg at h
  split at h
  · rename_i f hf; exact ⟨_, hf, rfl⟩
  · rename_i n e hf; exact ⟨_, hf, rfl⟩
  · simp at h
  · simp at h
theorem run_agg {t : TypeId} {b : Bool} (h : tAgg P t = some b) (w : World) : (isAgg t).run P w = .ok b w := by
  unfold tAgg at h
  unfold isAgg
  split at h
  · rename_i f hf; simp at h; subst h; rw [Sem.run_bind, run_underlying hf w]; rfl
  · rename_i n e hf; simp at h; subst h; rw [Sem.run_bind, run_underlying hf w]; rfl
  · rename_i d h1 h2 hd
    simp at h; subst h; rw [Sem.run_bind, run_underlying hd w]
    cases d <;> first | rfl | (exact absurd rfl (h1 _)) | (exact absurd rfl (h2 _ _))
  · simp at h
theorem run_part {t : TypeId} {cs : List AV} {off : Nat} {v : AV} (h : partAV P t cs off = some v) {xs : List Value} (hx : denL β ρ cs = some xs) (w : World) : ∃ u, (part t xs.toArray off).run P w = .ok u w ∧ den β ρ v = some u := by
  unfold partAV at h
  split at h
  · rename_i ha
    split at h
    · rename_i n hn
      split at h
      · simp at h; subst h
        refine ⟨.agg ((xs.drop off).take n).toArray, ?_, ?_⟩
        · simp only [part, Sem.run_bind, run_agg ha, Result.andThen_ok, if_true, run_size hn, Sem.run_pure]
          congr 2
          apply Array.ext'
          simp
        · unfold den; rw [denL_take n (denL_drop off hx)]
      · simp at h
    · simp at h
  · rename_i ha
    obtain ⟨u, h1, h2⟩ := denL_get hx h
    refine ⟨u, ?_, h1⟩
    simp [part, run_agg ha, h2]
  · simp at h
end

section
variable {β : Blocks} {ρ : List U} {P : Program} {tm : List AV} {h : Heap} {a : Act} {w : World} {nb nv : Nat} {o : Oper} {e : Eff}

theorem ok_load {t : TypeId} {x : Operand} (ho : o.op = .load t x) (he : evLoad P tm h t x = some e) (hT : Ops β ρ tm a [x]) (hR : Rel β ρ h w) : Does P o a w β ρ nb e := by
  unfold evLoad at he
  split at he
  · rename_i b off hx
    split at he
    · rename_i c hc
      split at he
      · rename_i v hv
        simp at he; subst he
        obtain ⟨n, h1, h2⟩ := den_ptr (opd_den hT (by simp) hx)
        obtain ⟨m, vs, h3, h4, h5⟩ := hR.cells b c hc
        rw [h1] at h3; simp at h3; subst h3
        have hx' : a.eval x = .pointer (some ⟨n, off, none⟩) := h2
        unfold partAV at hv
        split at hv
        · rename_i ha
          split at hv
          · rename_i k hk
            split at hv
            · rename_i hle
              simp at hv; subst hv
              obtain ⟨d, hd1, hd2⟩ := agg_desc ha
              have hl := denL_len h4
              have hrun := run_loadAt_mid (P := P) w n off t ((vs.drop off).take k) d (fun j u hj => by
                have : vs[off + j]? = some u := by
                  rw [List.getElem?_take] at hj
                  split at hj
                  · rwa [List.getElem?_drop] at hj
                  · simp at hj
                exact (h5 _ _ this).1) hd1 hd2 (by rw [size_info hk]; congr 1; simp; omega)
              refine Does.value (v := .agg ((vs.drop off).take k).toArray) ?_ ?_ rfl rfl
              · unfold execOp; rw [ho]; simp only [hx', Sem.run_bind, hrun, Result.andThen_ok, Sem.run_pure]
              · unfold den; rw [denL_take k (denL_drop off h4)]
            · simp at hv
          · simp at hv
        · rename_i ha
          obtain ⟨u, h6, h7⟩ := denL_get h4 hv
          refine Does.value (v := u) ?_ h6 rfl rfl
          unfold execOp; rw [ho]
          simp [hx', Instr.loadAt, Instr.sureAddr, loadVar, run_agg ha, (h5 _ _ h7).1]
        · simp at hv
      · simp at he
    · simp at he
  · simp at he

theorem splice_get {c : List Value} {o : Nat} {xs : List Value} (h : o + xs.length ≤ c.length) (j : Nat) : (c.take o ++ xs ++ c.drop (o + xs.length))[j]? = if o ≤ j ∧ j < o + xs.length then xs[j - o]? else c[j]? := by
  have e1 : (c.take o).length = o := by simp; omega
  have e2 : (c.take o ++ xs).length = o + xs.length := by simp; omega
  rcases Nat.lt_or_ge j (o + xs.length) with h1 | h1
  · rw [List.getElem?_append_left (by omega)]
    rcases Nat.lt_or_ge j o with h2 | h2
    · rw [List.getElem?_append_left (by omega), if_neg (by omega), List.getElem?_take_of_lt h2]
    · rw [List.getElem?_append_right (by omega), if_pos ⟨h2, h1⟩, e1]
  · rw [List.getElem?_append_right (by omega), if_neg (by omega), e2, List.getElem?_drop]
    congr 1; omega
theorem denL_splice {c xs : List AV} {vs ys : List Value} {off : Nat} (hc : denL β ρ c = some vs) (hx : denL β ρ xs = some ys) : denL β ρ (splice c off xs) = some (vs.take off ++ ys ++ vs.drop (off + ys.length)) := by
  unfold splice
  rw [← denL_len hx]
  exact denL_append (denL_append (denL_take off hc) hx) (denL_drop _ hc)

theorem heap_setCells (n : Nat) : ∀ (vs : List Value) (o : Nat) (w : World) (k : Nat), k ≠ n → (w.setCells n o vs).heap[k]? = w.heap[k]?
  | [], _, _, _, _ => rfl
  | v :: r, o, w, k, hk => by rw [World.setCells, heap_setCells n r (o + 1) _ k hk, Below.heap_setCell _ _ _ _ (by simpa using hk)]
theorem size_setCells (n : Nat) : ∀ (vs : List Value) (o : Nat) (w : World), (w.setCells n o vs).heap.size = w.heap.size
  | [], _, _ => rfl
  | v :: r, o, w => by rw [World.setCells, size_setCells n r (o + 1)]; simp [World.setCell]
theorem world_setCells (n : Nat) : ∀ (vs : List Value) (o : Nat) (w : World), (w.setCells n o vs).os = w.os ∧ (w.setCells n o vs).tape = w.tape ∧ (w.setCells n o vs).output = w.output
  | [], _, _ => ⟨rfl, rfl, rfl⟩
  | v :: r, o, w => by
    rw [World.setCells]
    obtain ⟨h1, h2, h3⟩ := world_setCells n r (o + 1) (w.setCell ⟨n, o, none⟩ v)
    exact ⟨h1, h2, h3⟩

theorem ok_store {t : TypeId} {x y : Operand} (ho : o.op = .store t x y) (he : evStore P tm h t x y = some e) (hT : Ops β ρ tm a [x, y]) (hR : Rel β ρ h w) : Does P o a w β ρ nb e := by
  unfold evStore at he
  split at he
  · rename_i b off v hx hy
    split at he
    · rename_i c n hc hn
      split at he
      · rename_i hcond
        obtain ⟨c1, c2, c3⟩ := hcond
        simp at he; subst he
        obtain ⟨m, h1, h2⟩ := den_ptr (opd_den hT (by simp) hx)
        obtain ⟨m', vs, h3, h4, h5⟩ := hR.cells b c hc
        rw [h1] at h3; simp at h3; subst h3
        have hv := opd_den hT (by simp) hy
        have hcs := den_cells hv (opd_val hy)
        have hlen := denL_len hcs
        have hvl := denL_len h4
        have hone := denL_one hcs c3
        have ht : w.there m off (a.eval y).cells.size := fun j hj => by
          have hj' : off + j < vs.length := by simp at hlen; omega
          obtain ⟨h6, h7⟩ := h5 (off + j) _ (List.getElem?_eq_getElem hj')
          exact ⟨by rw [h6]; rfl, h7⟩
        have hrun := run_storeVar_mid (P := P) w m off t (a.eval y).cells ht (by rw [size_info hn]; simp at hlen; congr 1; omega) (Array.all_eq_true_iff_forall_mem.2 (fun u hu => hone u (by simpa using hu)))
        have hst : (storeVar t ⟨m, off, none⟩ (a.eval y)).run P w = .ok () (w.setCells m off (a.eval y).cells.toList) := by
          have : storeVar t ⟨m, off, none⟩ (a.eval y) = storeVar t ⟨m, off, none⟩ (.agg (a.eval y).cells) := by unfold storeVar; rfl
          rw [this]; exact hrun
        intro K Q hK
        unfold Oper.wp execOp
        rw [ho]
        simp only [h2, Instr.storeAt, Instr.sureAddr, Sem.run_bind, Sem.run_pure, Result.andThen_ok, hst]
        have hsp := denL_splice (off := off) h4 hcs
        refine hK β _ undef ⟨(world_setCells _ _ _ _).1, (world_setCells _ _ _ _).2.1, (world_setCells _ _ _ _).2.2, by rw [size_setCells]; exact Nat.le_refl _, fun k _ hk2 => heap_setCells _ _ _ _ _ (fun e => hk2 b (splice c off v.cells) (by simp) (by rw [e]; exact h1)), fun k d hkd => ?_, rfl⟩ rfl
        simp at hkd
        obtain ⟨rfl, rfl⟩ := hkd
        refine ⟨m, _, h1, hsp, fun j u hj => ?_⟩
        have hle : off + (a.eval y).cells.toList.length ≤ vs.length := by omega
        rw [splice_get hle] at hj
        split at hj
        · rename_i hin
          refine ⟨?_, ?_⟩
          · have := World.cell?_setCells_in m (a.eval y).cells.toList off w (fun i hi => (ht i (by simpa using hi)).1) (j - off) (by omega)
            rw [show off + (j - off) = j by omega] at this
            rw [this, ← hj, List.getElem?_eq_getElem]
          · rw [World.frozen?_setCells]
            have hj' : j < vs.length := by omega
            exact (h5 j _ (List.getElem?_eq_getElem hj')).2
        · rename_i hout
          obtain ⟨h6, h7⟩ := h5 j u hj
          refine ⟨?_, by rw [World.frozen?_setCells]; exact h7⟩
          rw [World.cell?_setCells_out m _ off w _ (fun _ _ => by dsimp only; omega)]
          exact h6
      · simp at he
    · simp at he
  · simp at he

theorem cellsAt_new (w : World) (cs : List Value) (t : TypeId) : CellsAt w.heap.size cs (w.alloc (.cells cs.toArray t)) := fun j v hj => by
  have hb : (w.alloc (.cells cs.toArray t)).heap[w.heap.size]? = some (.cells cs.toArray t) := by
    show (w.heap.push _)[w.heap.size]? = _
    simp
  refine ⟨?_, ?_⟩
  · unfold World.cell?; dsimp only; rw [hb]; simpa using hj
  · unfold World.frozen?; dsimp only; rw [hb]; simp
/-- A new block. -/
theorem Does.alloc {cs : List AV} {xs : List Value} {t : TypeId} (v : Value) (hr : (execOp a.eval o).run P w = .ok (.value v) (w.alloc (.cells xs.toArray t))) (hx : denL β ρ cs = some xs) (hnb : β nb = none)
    (h1 : e.upd = []) (h2 : e.new = some cs) (hv : den (extB β nb w.heap.size) ρ e.val = some v) : Does P o a w β ρ nb e := by
  intro K Q hK
  unfold Oper.wp
  rw [hr]
  have M : More β (extB β nb w.heap.size) ρ ρ := ⟨fun k n hk => by unfold extB; split; rename_i hq; subst hq; rw [hnb] at hk; cases hk; exact hk, fun _ _ h => h⟩
  refine hK (extB β nb w.heap.size) _ v ⟨rfl, rfl, rfl, by simp, fun n hn _ => Below.heap_alloc _ _ _ hn, fun k c hk => (by rw [h1] at hk; cases hk), ?_⟩ hv
  rw [h2]
  exact ⟨w.heap.size, xs, Nat.le_refl _, by simp, rfl, denL_more M _ hx, cellsAt_new w xs t⟩
theorem extB_same (β : Blocks) (nb n : Nat) : extB β nb n nb = some n := if_pos rfl

theorem tZero_val {t : TypeId} {z : AV} (h : tZero P t = some z) : z.isVal = false := by
  unfold tZero at h
  split at h
  · split at h
    · exact constAV_val h
    · simp at h
  · simp at h
theorem ok_alloc {t : TypeId} (ho : o.op = .alloc t) {z : AV} (hz : tZero P t = some z) (he : e = { val := .ptr nb 0, new := some z.cells }) (hnb : β nb = none) : Does P o a w β ρ nb e := by
  subst he
  obtain ⟨v, h1, h2⟩ := run_zero hz w
  refine Does.alloc (xs := v.cells.toList) (t := t) (cs := z.cells) (.pointer (some ⟨w.heap.size, 0, none⟩)) ?_ (den_cells (h2 β ρ) (tZero_val hz)) hnb rfl rfl ?_
  · unfold execOp; rw [ho]
    simp [Instr.alloc, h1, newVar, newRow]
  · unfold den; rw [extB_same]
theorem ok_box {t : TypeId} {x : Operand} (ho : o.op = .box t x) {v : AV} (hx : opd tm x = some v) (he : e = { val := .ptr nb 0, new := some v.cells }) (hT : Ops β ρ tm a [x]) (hnb : β nb = none) : Does P o a w β ρ nb e := by
  subst he
  refine Does.alloc (xs := (a.eval x).cells.toList) (t := t) (cs := v.cells) (.pointer (some ⟨w.heap.size, 0, none⟩)) ?_ (den_cells (opd_den hT (by simp) hx) (opd_val hx)) hnb rfl rfl ?_
  · unfold execOp; rw [ho]
    simp [Instr.box, newVar, newRow]
  · unfold den; rw [extB_same]

/-! Numbers -/
theorem run_bin {op : BinOp} {t : TypeId} {x y : Operand} {yt : TypeId} (ho : o.op = .binOp op t x y yt) {v : Value} (hg : (eqGuard op t x y (a.eval x) (a.eval y)).run P w = .ok () w) (hr : (binOp op t (a.eval x) (a.eval y)).run P w = .ok v w) :
    (execOp a.eval o).run P w = .ok (.value v) w := by
  unfold execOp; rw [ho]
  simp [hg, hr]
theorem guard_ok {op : BinOp} {t : TypeId} {x y : Operand} {u v : Value} (h : u.oneCell' = true) (k : u ≠ .nilIface) : (eqGuard op t x y u v).run P w = .ok () w := by
  cases u <;> first
    | (exact absurd rfl k)
    | (simp [Value.oneCell'] at h; done)
    | (cases op <;> rfl)

theorem float_fn {op : BinOp} {g : Nat → Nat → Option Nat} (hg : floatFn op = some g) {x y r : Nat} (hr : g x y = some r) (t : TypeId) : (binOp op t (.float .f64 x) (.float .f64 y)).run P w = .ok (.float .f64 r) w := by
  cases op <;> simp [floatFn] at hg <;> subst hg <;> simp [binOp, Op.floatArith, FloatKind.format, hr]
theorem float_rel {op : BinOp} {g : Nat → Nat → Bool} (hg : floatRel op = some g) (x y : Nat) (t : TypeId) : (binOp op t (.float .f64 x) (.float .f64 y)).run P w = .ok (.bool (g x y)) w := by
  cases op <;> simp [floatRel] at hg <;> subst hg <;> simp [binOp, Op.floatCmp, FloatKind.format, Dy.feq, Dy.fne, Dy.flt, Dy.fgt]
theorem int_fn {k : IntKind} {op : BinOp} {g : Int → Int → Int} (hg : intFn k op = some g) (x y : Int) (t : TypeId) : (binOp op t (.int k x) (.int k y)).run P w = .ok (.int k (g x y)) w := by
  cases op <;> simp [intFn] at hg <;> subst hg <;> simp [binOp, Op.intArith, Op.intBits]
theorem sh_fn {k k' : IntKind} {op : BinOp} {g : Int → Int → Int} (hg : shFn k op = some g) (x y : Int) (hy : 0 ≤ y) (t : TypeId) : (binOp op t (.int k x) (.int k' y)).run P w = .ok (.int k (g x y)) w := by
  have h : ¬ y < 0 := by omega
  cases op <;> simp [shFn] at hg <;> subst hg <;> simp [binOp, Op.shift, h]
theorem int_dv {k : IntKind} {op : BinOp} {g : Int → Int → Int} (hg : intDv k op = some g) (x y : Int) (hy : y ≠ 0) (t : TypeId) : (binOp op t (.int k x) (.int k y)).run P w = .ok (.int k (g x y)) w := by
  cases op <;> simp [intDv] at hg <;> subst hg <;> simp [binOp, Op.intDiv, hy]
theorem int_rel {k : IntKind} {op : BinOp} {g : Int → Int → Bool} (hg : intRel op = some g) (x y : Int) (t : TypeId) : (binOp op t (.int k x) (.int k y)).run P w = .ok (.bool (g x y)) w := by
  cases op <;> simp [intRel] at hg <;> subst hg <;> simp [binOp, Op.intCmp]
theorem isBool_run {t : TypeId} (h : isBoolT P t = true) : P.underlying t = some .bool := by
  unfold isBoolT at h; split at h
  · assumption
  · simp at h
theorem isPtr_run {t : TypeId} (h : isPtrT P t = true) : ∃ e, P.underlying t = some (.pointer e) := by
  unfold isPtrT at h; split at h
  · rename_i e he; exact ⟨e, he⟩
  · simp at h
theorem bool_equalIn {t : TypeId} (h : isBoolT P t = true) (x y : Bool) (d : Nat) : (Op.equalIn (d + 1) t (.bool x) (.bool y)).run P w = .ok (x == y) w := by
  have hu := isBool_run h
  simp [Op.equalIn, run_underlying hu w]
theorem bool_equal {t : TypeId} (h : isBoolT P t = true) (x y : Bool) : (Op.equal t (.bool x) (.bool y)).run P w = .ok (x == y) w := bool_equalIn h x y 9999
theorem ptr_equalIn {t : TypeId} (h : isPtrT P t = true) (x : Addr) (d : Nat) : (Op.equalIn (d + 1) t (.pointer (some x)) (.pointer none)).run P w = .ok false w ∧ (Op.equalIn (d + 1) t (.pointer none) (.pointer none)).run P w = .ok true w := by
  obtain ⟨e, hu⟩ := isPtr_run h
  exact ⟨by simp [Op.equalIn, run_underlying hu w], by simp [Op.equalIn, run_underlying hu w]⟩
theorem ptr_equal {t : TypeId} (h : isPtrT P t = true) (x : Addr) : (Op.equal t (.pointer (some x)) (.pointer none)).run P w = .ok false w ∧ (Op.equal t (.pointer none) (.pointer none)).run P w = .ok true w := ptr_equalIn h x 9999

theorem evs_app {ρ : List U} : ∀ {l m : List E} {us vs : List U}, evs ρ l = some us → evs ρ m = some vs → evs ρ (l ++ m) = some (us ++ vs)
  | [], m, us, vs, h, k => by unfold evs at h; simp at h; subst h; exact k
  | e :: l, m, us, vs, h, k => by
    unfold evs at h
    split at h
    · rename_i x xs h1 h2; simp at h; subst h
      show evs ρ (e :: (l ++ m)) = _
      unfold evs
      rw [h1, evs_app h2 k]; rfl
    · simp at h
theorem flat2_app : ∀ (l m : List (Kd × E × E)), flat2 (l ++ m) = flat2 l ++ flat2 m
  | [], _ => rfl
  | (_, _, _) :: l, m => by show _ :: _ :: flat2 (l ++ m) = _; rw [flat2_app l m]; rfl
theorem eqN_app : ∀ (l : List (Kd × E × E)) {m : List Kd} {us vs : List U}, evs ρ (flat2 l) = some us → eqN (l.map (·.1) ++ m) (us ++ vs) = (eqN (l.map (·.1)) us && eqN m vs)
  | [], m, us, vs, h => by unfold flat2 evs at h; simp at h; subst h; simp [eqN]
  | (k, x, y) :: l, m, us, vs, h => by
    have h' : evs ρ (x :: y :: flat2 l) = some us := h
    unfold evs at h'
    split at h'
    · rename_i u us1 h1 h2
      simp at h'; subst h'
      unfold evs at h2
      split at h2
      · rename_i v us2 h3 h4
        simp at h2; subst h2
        show (eqK k u v && eqN (l.map (·.1) ++ m) (us2 ++ vs)) = ((eqK k u v && eqN (l.map (·.1)) us2) && eqN m vs)
        rw [eqN_app l h4, Bool.and_assoc]
      · simp at h2
    · simp at h'
theorem eqFs_ok {d : Nat} {r : TypeId → AV → AV → Option (List (Kd × E × E))} (hr : ∀ (t : TypeId) (a b : AV) (l : List (Kd × E × E)) (u v : Value), r t a b = some l → den β ρ a = some u → den β ρ b = some v → ∀ w, ∃ us, evs ρ (flat2 l) = some us ∧ (Op.equalIn d t u v).run P w = .ok (eqN (l.map (·.1)) us) w)
    {xs ys : List AV} {us vs : List Value} (hx : denL β ρ xs = some us) (hy : denL β ρ ys = some vs) : ∀ {fs : List Field} {l : List (Kd × E × E)}, eqFs P r xs ys fs = some l → ∀ w, ∃ ns, evs ρ (flat2 l) = some ns ∧ (Op.eqFields d us.toArray vs.toArray fs).run P w = .ok (eqN (l.map (·.1)) ns) w
  | [], l, h, w => by unfold eqFs at h; simp at h; subst h; exact ⟨[], rfl, rfl⟩
  | f :: fs, l, h, w => by
    unfold eqFs at h
    split at h
    · rename_i hn
      split at h
      · rename_i a b ha hb
        split at h
        · rename_i l1 l2 h1 h2
          simp at h; subst h
          obtain ⟨u, u1, u2⟩ := run_part ha hx w
          obtain ⟨v, v1, v2⟩ := run_part hb hy w
          obtain ⟨n1, e1, e2⟩ := hr f.type a b l1 u v h1 u2 v2 w
          obtain ⟨n2, g1, g2⟩ := eqFs_ok hr hx hy h2 w
          refine ⟨n1 ++ n2, by rw [flat2_app]; exact evs_app e1 g1, ?_⟩
          rw [List.map_append, eqN_app l1 e1]
          unfold Op.eqFields
          rw [if_pos hn]
          simp only [Sem.run_bind, u1, v1, e2, Result.andThen_ok]
          cases eqN (l1.map (·.1)) n1
          · simp
          · simp [g2]
        · simp at h
      · simp at h
    · rename_i hn
      obtain ⟨n2, g1, g2⟩ := eqFs_ok hr hx hy h w
      refine ⟨n2, g1, ?_⟩
      unfold Op.eqFields
      rw [if_neg hn]
      exact g2
theorem eqIs_ok {d : Nat} {e : TypeId} {r : AV → AV → Option (List (Kd × E × E))} (hr : ∀ (a b : AV) (l : List (Kd × E × E)) (u v : Value), r a b = some l → den β ρ a = some u → den β ρ b = some v → ∀ w, ∃ us, evs ρ (flat2 l) = some us ∧ (Op.equalIn d e u v).run P w = .ok (eqN (l.map (·.1)) us) w)
    {n : Nat} {xs ys : List AV} {us vs : List Value} (hx : denL β ρ xs = some us) (hy : denL β ρ ys = some vs) : ∀ {is : List Nat} {l : List (Kd × E × E)}, eqIs P r e n xs ys is = some l → ∀ w, ∃ ns, evs ρ (flat2 l) = some ns ∧ (Op.eqItems d e n us.toArray vs.toArray is).run P w = .ok (eqN (l.map (·.1)) ns) w
  | [], l, h, w => by unfold eqIs at h; simp at h; subst h; exact ⟨[], rfl, rfl⟩
  | i :: is, l, h, w => by
    unfold eqIs at h
    split at h
    · rename_i a b ha hb
      split at h
      · rename_i l1 l2 h1 h2
        simp at h; subst h
        obtain ⟨u, u1, u2⟩ := run_part ha hx w
        obtain ⟨v, v1, v2⟩ := run_part hb hy w
        obtain ⟨n1, e1, e2⟩ := hr a b l1 u v h1 u2 v2 w
        obtain ⟨n2, g1, g2⟩ := eqIs_ok hr hx hy h2 w
        refine ⟨n1 ++ n2, by rw [flat2_app]; exact evs_app e1 g1, ?_⟩
        rw [List.map_append, eqN_app l1 e1]
        unfold Op.eqItems
        simp only [Sem.run_bind, u1, v1, e2, Result.andThen_ok]
        cases eqN (l1.map (·.1)) n1
        · simp
        · simp [g2]
      · simp at h
    · simp at h
theorem eqE_ok : ∀ {d : Nat} {t : TypeId} {a b : AV} {l : List (Kd × E × E)} {u v : Value}, eqE P d t a b = some l → den β ρ a = some u → den β ρ b = some v → ∀ w, ∃ us, evs ρ (flat2 l) = some us ∧ (Op.equalIn d t u v).run P w = .ok (eqN (l.map (·.1)) us) w
  | 0, _, _, _, _, _, _, h, _, _, _ => by simp [eqE] at h
  | d + 1, t, a, b, l, u, v, h, ha, hb, w => by
    unfold eqE at h
    split at h
    · rename_i x y hu
      simp at h; subst h
      obtain ⟨m, em, rfl⟩ := den_bo ha
      obtain ⟨n, en, rfl⟩ := den_bo hb
      exact ⟨_, evs2 em en, by rw [run_equalIn_bool' w d t m n hu]; simp [eqN, eqK, U.B]⟩
    · rename_i k0 k x k' y hu
      split at h
      · rename_i hk
        subst hk
        simp at h; subst h
        obtain ⟨m, em, rfl⟩ := den_it ha
        obtain ⟨n, en, rfl⟩ := den_it hb
        exact ⟨_, evs2 em en, by rw [run_equalIn_int w d t k k0 m n hu]; simp [eqN, eqK, U.I]⟩
      · simp at h
    · rename_i k0 x y hu
      simp at h; subst h
      obtain ⟨m, em, _, rfl⟩ := den_fl ha
      obtain ⟨n, en, _, rfl⟩ := den_fl hb
      refine ⟨_, evs2 em en, ?_⟩
      unfold Op.equalIn
      simp only [Sem.run_bind, run_underlying hu, Result.andThen_ok]
      simp [eqN, eqK, U.F, Op.floatEq, Dy.feq, FloatKind.format]
    · rename_i fs xs ys hu
      split at h
      · rename_i hst
        obtain ⟨xs', h1, rfl⟩ := den_agg ha
        obtain ⟨ys', h2, rfl⟩ := den_agg hb
        have hf : P.fieldsOf t = fs := by unfold Program.fieldsOf; rw [hu]
        obtain ⟨ns, e1, e2⟩ := eqFs_ok (d := d) (fun t a b l u v hr h3 h4 w => eqE_ok hr h3 h4 w) h1 h2 h w
        exact ⟨ns, e1, by rw [run_equalIn_struct w d t _ _ (by rw [hf]; exact hu) hst, hf]; exact e2⟩
      · simp at h
    · rename_i n e xs ys hu
      split at h
      · rename_i s hs
        obtain ⟨xs', h1, rfl⟩ := den_agg ha
        obtain ⟨ys', h2, rfl⟩ := den_agg hb
        have hsz := size_info hs
        cases hi : P.info? e with
        | none => rw [hi] at hsz; simp at hsz
        | some ti =>
          have hce : P.cellsOf e = s := by unfold Program.cellsOf; rw [hi] at hsz ⊢; simpa using hsz
          obtain ⟨ns, e1, e2⟩ := eqIs_ok (d := d) (e := e) (fun a b l u v hr h3 h4 w => eqE_ok hr h3 h4 w) h1 h2 h w
          exact ⟨ns, e1, by rw [run_equalIn_array w d _ _ hu hi, hce]; exact e2⟩
      · simp at h
    · simp at h
theorem ok_bin {op : BinOp} {t : TypeId} {x y : Operand} {yt : TypeId} (ho : o.op = .binOp op t x y yt) {u v : AV} (hx : opd tm x = some u) (hy : opd tm y = some v) (he : evBin P nv op t u v = some e) (hT : Ops β ρ tm a [x, y]) (hb : BindsAt ρ nv e.binds) (hn : NeedsAt ρ e.needs) : Does P o a w β ρ nb e := by
  have dx := opd_den hT (by simp) hx
  have dy := opd_den hT (by simp) hy
  unfold evBin at he
  split at he
  · rename_i p q
    obtain ⟨m, em, wm, vm⟩ := den_fl dx
    obtain ⟨n, en, wn, vn⟩ := den_fl dy
    have e2 := evs2 em en
    split at he
    · rename_i g hg
      simp at he; subst he
      obtain ⟨r, hr, hw⟩ := okF_of (need1 hn (List.mem_singleton.2 rfl) e2)
      refine Does.value (v := .float .f64 r) (run_bin ho (by rw [vm, vn]; exact guard_ok rfl (by simp)) (by rw [vm, vn]; exact float_fn hg hr t)) ?_ rfl rfl
      refine fl_den ?_ hw
      have e3 := app_ev e2 hb
      rw [e3]
      simp [fB, U.F] at hr ⊢
      rw [hr]; rfl
    · split at he
      · rename_i g hg
        simp at he; subst he
        refine Does.value (v := .bool (g m n)) (run_bin ho (by rw [vm, vn]; exact guard_ok rfl (by simp)) (by rw [vm, vn]; exact float_rel hg m n t)) ?_ rfl rfl
        exact bo_den (app_ev e2 hb)
      · simp at he
  · rename_i k p k' q
    split at he
    · rename_i g hg
      obtain ⟨m, em, vm⟩ := den_it dx
      obtain ⟨n, en, vn⟩ := den_it dy
      have e2 := evs2 em en
      have hgd : (eqGuard op t x y (a.eval x) (a.eval y)).run P w = .ok () w := by rw [vm, vn]; exact guard_ok rfl (by simp)
      simp at he; subst he
      have hz := of_decide_eq_true (need1 hn (List.mem_singleton.2 rfl) e2)
      refine Does.value (v := .int k (g m n)) (run_bin ho hgd (by rw [vm, vn]; exact sh_fn hg m n hz t)) ?_ rfl rfl
      exact it_den (app_ev e2 hb)
    split at he
    · rename_i hk
      subst hk
      obtain ⟨m, em, vm⟩ := den_it dx
      obtain ⟨n, en, vn⟩ := den_it dy
      have e2 := evs2 em en
      have hgd : (eqGuard op t x y (a.eval x) (a.eval y)).run P w = .ok () w := by rw [vm, vn]; exact guard_ok rfl (by simp)
      split at he
      · rename_i g hg
        simp at he; subst he
        refine Does.value (v := .int k (g m n)) (run_bin ho hgd (by rw [vm, vn]; exact int_fn hg m n t)) ?_ rfl rfl
        exact it_den (app_ev e2 hb)
      · split at he
        · rename_i g hg
          simp at he; subst he
          have hz := of_decide_eq_true (need1 hn (List.mem_singleton.2 rfl) e2)
          refine Does.value (v := .int k (g m n)) (run_bin ho hgd (by rw [vm, vn]; exact int_dv hg m n hz t)) ?_ rfl rfl
          exact it_den (app_ev e2 hb)
        · split at he
          · rename_i g hg
            simp at he; subst he
            refine Does.value (v := .bool (g m n)) (run_bin ho hgd (by rw [vm, vn]; exact int_rel hg m n t)) ?_ rfl rfl
            exact bo_den (app_ev e2 hb)
          · simp at he
    · simp at he
  · rename_i xs ys
    split at he
    · rename_i hgt
      split at he
      · rename_i l hl
        obtain ⟨us, h1, h2⟩ := eqE_ok hl dx dy w
        obtain ⟨xs', _, vm⟩ := den_agg dx
        obtain ⟨ys', _, vn⟩ := den_agg dy
        have hgd : (eqGuard op t x y (a.eval x) (a.eval y)).run P w = .ok () w := by rw [vm, vn]; exact run_eqGuard_agg w op t x y _ _ hgt
        rw [vm, vn] at h2
        split at he
        · simp at he; subst he
          refine Does.value (v := .bool (eqN (l.map (·.1)) us)) (run_bin ho hgd (by rw [vm, vn, run_eql_struct, h2]; rfl)) ?_ rfl rfl
          exact bo_den (app_ev h1 hb)
        · simp at he; subst he
          refine Does.value (v := .bool (!eqN (l.map (·.1)) us)) (run_bin ho hgd (by rw [vm, vn, run_neq_struct, h2]; rfl)) ?_ rfl rfl
          exact bo_den (app_ev h1 hb)
        · simp at he
      · simp at he
    · simp at he
  · rename_i p q
    split at he
    · rename_i ht
      obtain ⟨m, em, vm⟩ := den_bo dx
      obtain ⟨n, en, vn⟩ := den_bo dy
      have e2 := evs2 em en
      have hgd : (eqGuard op t x y (a.eval x) (a.eval y)).run P w = .ok () w := by rw [vm, vn]; exact guard_ok rfl (by simp)
      split at he
      · simp at he; subst he
        refine Does.value (v := .bool (m == n)) (run_bin ho hgd (by rw [vm, vn]; simp [binOp, bool_equal ht])) ?_ rfl rfl
        exact bo_den (app_ev e2 hb)
      · simp at he; subst he
        refine Does.value (v := .bool (!(m == n))) (run_bin ho hgd (by rw [vm, vn]; simp [binOp, bool_equal ht])) ?_ rfl rfl
        exact bo_den (app_ev e2 hb)
      · simp at he
    · simp at he
  · rename_i b1 o1
    split at he
    · rename_i ht
      obtain ⟨m, em, vm⟩ := den_ptr dx
      have vn : a.eval y = .pointer none := by unfold den at dy; simpa using dy.symm
      have hgd : (eqGuard op t x y (a.eval x) (a.eval y)).run P w = .ok () w := by rw [vm, vn]; exact guard_ok rfl (by simp)
      split at he
      · simp at he; subst he
        exact Does.value (v := .bool false) (run_bin ho hgd (by rw [vm, vn]; simp [binOp, (ptr_equal ht _).1])) rfl rfl rfl
      · simp at he; subst he
        exact Does.value (v := .bool true) (run_bin ho hgd (by rw [vm, vn]; simp [binOp, (ptr_equal ht _).1])) rfl rfl rfl
      · simp at he
    · simp at he
  · split at he
    · rename_i ht
      have vm : a.eval x = .pointer none := by unfold den at dx; simpa using dx.symm
      have vn : a.eval y = .pointer none := by unfold den at dy; simpa using dy.symm
      have hgd : (eqGuard op t x y (a.eval x) (a.eval y)).run P w = .ok () w := by rw [vm, vn]; exact guard_ok rfl (by simp)
      split at he
      · simp at he; subst he
        exact Does.value (v := .bool true) (run_bin ho hgd (by rw [vm, vn]; simp [binOp, (ptr_equal ht ⟨0, 0, none⟩).2])) rfl rfl rfl
      · simp at he; subst he
        exact Does.value (v := .bool false) (run_bin ho hgd (by rw [vm, vn]; simp [binOp, (ptr_equal ht ⟨0, 0, none⟩).2])) rfl rfl rfl
      · simp at he
    · simp at he
  · simp at he

theorem ok_un {op : UnOp} {t : TypeId} {x : Operand} (ho : o.op = .unOp op t x) {u : AV} (hx : opd tm x = some u) (he : evUn nv op u = some e) (hT : Ops β ρ tm a [x]) (hb : BindsAt ρ nv e.binds) (hn : NeedsAt ρ e.needs) : Does P o a w β ρ nb e := by
  have dx := opd_den hT (by simp) hx
  unfold evUn at he
  split at he
  · simp at he; subst he
    obtain ⟨m, em, vm⟩ := den_bo dx
    refine Does.value (v := .bool (!m)) (by unfold execOp; rw [ho]; simp [vm, Op.unary]) ?_ rfl rfl
    exact bo_den (app_ev (evs1 em) hb)
  · simp at he; subst he
    obtain ⟨m, em, wm, vm⟩ := den_fl dx
    refine Does.value (v := .float .f64 (Op.negFloat .f64 m)) (by unfold execOp; rw [ho]; simp [vm, Op.unary]) ?_ rfl rfl
    exact fl_den (app_ev (evs1 em) hb) (of_decide_eq_true (need1 hn (List.mem_singleton.2 rfl) (evs1 em)))
  · rename_i k p
    simp at he; subst he
    obtain ⟨m, em, vm⟩ := den_it dx
    refine Does.value (v := .int k (k.wrap (0 - m))) (by unfold execOp; rw [ho]; simp [vm, Op.unary, Op.intArith]) ?_ rfl rfl
    exact it_den (app_ev (evs1 em) hb)
  · simp at he

theorem ok_conv {s d : TypeId} {x : Operand} (ho : o.op = .convert s d x) {u : AV} (hx : opd tm x = some u) (he : evConv P nv s d u = some e) (hT : Ops β ρ tm a [x]) (hb : BindsAt ρ nv e.binds) (hn : NeedsAt ρ e.needs) : Does P o a w β ρ nb e := by
  have dx := opd_den hT (by simp) hx
  unfold evConv at he
  split at he
  · obtain ⟨m, em, vm⟩ := den_it dx
    split at he
    · rename_i k0 k h1 h2
      simp at he; subst he
      refine Does.value (v := .int k (k.wrap m)) (by unfold execOp; rw [ho]; simp [vm, convert, run_underlying h1 w, run_underlying h2 w, Conv.intToInt]) ?_ rfl rfl
      exact it_den (app_ev (evs1 em) hb)
    · rename_i k0 h1 h2
      simp at he; subst he
      refine Does.value (v := .float .f64 (FloatKind.f64.nearest m)) (by unfold execOp; rw [ho]; simp [vm, convert, run_underlying h1 w, run_underlying h2 w, Conv.intToFloat]) ?_ rfl rfl
      exact fl_den (app_ev (evs1 em) hb) (of_decide_eq_true (need1 hn (List.mem_singleton.2 rfl) (evs1 em)))
    · simp at he
  · obtain ⟨m, em, wm, vm⟩ := den_fl dx
    split at he
    · rename_i h1 h2
      simp at he; subst he
      exact Does.value (v := .float .f64 m) (by unfold execOp; rw [ho]; simp [vm, convert, run_underlying h1 w, run_underlying h2 w, Conv.floatToFloat]) (fl_den em wm) rfl rfl
    · simp at he
  · simp at he
end
end Go.Proofs.Ythfgdhobldejmaa
