/- A reckoning of programs by symbols: regions that draw their order. -/
import Derived.Test.YthfgdhobldejmaaYf
import Derived.Test.YthfgdhobldejmaaSt
namespace Go.Proofs.Ythfgdhobldejmaa
open Go Go.RowKit

/-! What is written last -/
section
variable {α : Type}
def lastW (L : Nat → Bool) (f : Nat → Option α) (z : Option α) : Nat → Option α
  | 0 => z
  | m + 1 => if L m then (match f m with
    | some v => some v
    | none => lastW L f z m) else lastW L f z m
theorem lastW_succ (L : Nat → Bool) (f : Nat → Option α) (z : Option α) (m : Nat) : lastW L f z (m + 1) = if L m then (match f m with | some v => some v | none => lastW L f z m) else lastW L f z m := rfl
theorem lastW_true (f : Nat → Option α) (z : Option α) (m : Nat) : lastW (fun _ => true) f z (m + 1) = match f m with | some v => some v | none => lastW (fun _ => true) f z m := by rw [lastW_succ, if_pos rfl]
theorem lastW_A {L : Nat → Bool} {f : Nat → Option α} {z : Option α} {N i : Nat} (hA : ∀ j, j < N → j ≠ i → f j ≠ none → (j < i → L j = true) ∧ (i < j → L j = false)) (hL : L i = false) (hi : i < N) : lastW L f z N = lastW (fun _ => true) f z i := by
  have h1 : ∀ m, m ≤ i → lastW L f z m = lastW (fun _ => true) f z m := by
    intro m
    induction m with
    | zero => intro _; rfl
    | succ m ih =>
      intro hm
      rw [lastW_succ, lastW_succ, ih (by omega)]
      cases hf : f m with
      | none => simp
      | some v => rw [(hA m (by omega) (by omega) (by rw [hf]; simp)).1 (by omega)]
  have h2 : ∀ d, i + d ≤ N → lastW L f z (i + d) = lastW L f z i := by
    intro d
    induction d with
    | zero => intro _; rfl
    | succ d ih =>
      intro hd
      rw [show i + (d + 1) = (i + d) + 1 by omega]
      rw [lastW_succ, ih (by omega)]
      rcases Nat.eq_zero_or_pos d with h0 | h0
      · subst h0
        rw [Nat.add_zero, hL]; simp
      · cases hf : f (i + d) with
        | none => simp
        | some v => rw [(hA (i + d) (by omega) (by omega) (by rw [hf]; simp)).2 (by omega)]; simp
  rw [← h1 i (Nat.le_refl _)]
  have := h2 (N - i) (by omega)
  rwa [show i + (N - i) = N by omega] at this
theorem lastW_B {L L' : Nat → Bool} {f : Nat → Option α} {z : Option α} {N i : Nat} (hL' : ∀ j, j ≠ i → L' j = L j) (hi' : L' i = true) (hi : i < N) (hA : f i ≠ none → ∀ j, j < N → i < j → f j ≠ none → L j = false) :
    lastW L' f z N = match f i with
      | some v => some v
      | none => lastW L f z N := by
  cases hf : f i with
  | none =>
    dsimp only
    have : ∀ m, lastW L' f z m = lastW L f z m := by
      intro m
      induction m with
      | zero => rfl
      | succ m ih =>
        rw [lastW_succ, lastW_succ, ih]
        by_cases hm : m = i
        · subst hm; rw [hf]; simp
        · rw [hL' m hm]
    exact this N
  | some v =>
    dsimp only
    have h2 : ∀ d, i + 1 + d ≤ N → lastW L' f z (i + 1 + d) = some v := by
      intro d
      induction d with
      | zero => intro _; rw [Nat.add_zero, lastW_succ, hi', hf]; simp
      | succ d ih =>
        intro hd
        rw [show i + 1 + (d + 1) = (i + 1 + d) + 1 by omega]
        rw [lastW_succ, ih (by omega), hL' _ (by omega)]
        cases hf2 : f (i + 1 + d) with
        | none => simp
        | some u => rw [hA (by rw [hf]; simp) (i + 1 + d) (by omega) (by omega) (by rw [hf2]; simp)]; simp
    have := h2 (N - (i + 1)) (by omega)
    rwa [show i + 1 + (N - (i + 1)) = N by omega] at this
theorem lastW_all {L : Nat → Bool} {f : Nat → Option α} {z : Option α} : ∀ {N : Nat}, (∀ j, j < N → L j = true) → lastW L f z N = lastW (fun _ => true) f z N
  | 0, _ => rfl
  | N + 1, h => by rw [lastW_succ, lastW_succ, lastW_all (N := N) (fun j hj => h j (by omega)), h N (by omega)]
theorem lastW_none {L : Nat → Bool} {f : Nat → Option α} {z : Option α} : ∀ {N : Nat}, (∀ j, j < N → L j = false) → lastW L f z N = z
  | 0, _ => rfl
  | N + 1, h => by rw [lastW_succ, h N (by omega), if_neg (by decide), lastW_none (N := N) (fun j hj => h j (by omega))]
end

/-! What waits for what -/
def addAll : List Nat → List Nat → List Nat
  | [], s => s
  | x :: l, s => if s.contains x then addAll l s else x :: addAll l s
theorem addAll_mem {j : Nat} : ∀ {l s : List Nat}, j ∈ addAll l s → j ∈ l ∨ j ∈ s
  | [], s, h => .inr h
  | x :: l, s, h => by
    unfold addAll at h
    split at h
    · rcases addAll_mem h with h1 | h1
      · exact .inl (List.mem_cons_of_mem _ h1)
      · exact .inr h1
    · rcases List.mem_cons.1 h with rfl | h
      · exact .inl (by simp)
      · rcases addAll_mem h with h1 | h1
        · exact .inl (List.mem_cons_of_mem _ h1)
        · exact .inr h1
def ancE (acc : List (List Nat)) : List Edge → List Nat
  | [] => []
  | e :: l => if Region.binds .any e then addAll (e.on :: acc.getD e.on []) (ancE acc l) else ancE acc l
def ancs : List Oper → List (List Nat) → List (List Nat)
  | [], acc => acc
  | o :: l, acc => ancs l (acc ++ [ancE acc o.after.toList])
/-- L holds with an operation for all that it waits for. -/
def Shut (ops : Array Oper) (L : Nat → Prop) : Prop := ∀ (i : Nat) (o : Oper), ops[i]? = some o → L i → ∀ e, e ∈ o.after → Region.binds .any e = true → L e.on
theorem ancE_mem {acc : List (List Nat)} {j : Nat} : ∀ {l : List Edge}, j ∈ ancE acc l → ∃ e, e ∈ l ∧ Region.binds .any e = true ∧ (j = e.on ∨ j ∈ acc.getD e.on [])
  | [], h => by cases h
  | e :: l, h => by
    unfold ancE at h
    split at h
    · rename_i hb
      rcases addAll_mem h with h1 | h1
      · exact ⟨e, by simp, hb, by simpa using h1⟩
      · obtain ⟨e', h2, h3, h4⟩ := ancE_mem h1
        exact ⟨e', by simp [h2], h3, h4⟩
    · obtain ⟨e', h2, h3, h4⟩ := ancE_mem h
      exact ⟨e', by simp [h2], h3, h4⟩
def AncOk (ops : Array Oper) (acc : List (List Nat)) : Prop := ∀ (i j : Nat), j ∈ acc.getD i [] → ∀ L : Nat → Prop, Shut ops L → L i → L j
theorem ancs_ok (ops : Array Oper) : ∀ (l : List Oper) (acc : List (List Nat)), (∀ (j : Nat) (o : Oper), l[j]? = some o → ops[acc.length + j]? = some o) → AncOk ops acc → AncOk ops (ancs l acc)
  | [], acc, _, h => h
  | o :: l, acc, hl, h => by
    refine ancs_ok ops l _ (fun j o' hj => ?_) (fun i j hj L hL hi => ?_)
    · rw [List.length_append, show acc.length + [ancE acc o.after.toList].length + j = acc.length + (j + 1) by simp; omega]
      exact hl (j + 1) o' (by simpa using hj)
    · rw [List.getD_eq_getElem?_getD] at hj
      rcases Nat.lt_trichotomy i acc.length with h1 | h1 | h1
      · rw [List.getElem?_append_left h1, ← List.getD_eq_getElem?_getD] at hj
        exact h i j hj L hL hi
      · subst h1
        rw [List.getElem?_append_right (Nat.le_refl _), Nat.sub_self] at hj
        simp at hj
        obtain ⟨e, h2, h3, h4⟩ := ancE_mem hj
        have he := hL _ o (hl 0 o rfl) hi e (by simpa using h2) h3
        rcases h4 with rfl | h4
        · exact he
        · exact h e.on j h4 L hL he
      · rw [List.getElem?_append_right (by omega), List.getElem?_eq_none (by simp; omega)] at hj
        simp at hj

/-! The operations, one behind the other -/
def maskH (hid : List Nat) : Nat → Heap → Heap
  | _, [] => []
  | k, c :: l => (if hid.contains k then none else c) :: maskH hid (k + 1) l
theorem maskH_get {hid : List Nat} : ∀ {h : Heap} {b k : Nat} {c : List AV}, (maskH hid b h)[k]? = some (some c) → h[k]? = some (some c) ∧ hid.contains (b + k) = false
  | [], b, k, c, hk => by unfold maskH at hk; simp at hk
  | x :: h, b, 0, c, hk => by
    unfold maskH at hk
    simp only [List.getElem?_cons_zero, Option.some.injEq] at hk
    split at hk
    · cases hk
    · rename_i hc; exact ⟨by rw [hk]; rfl, by simpa using hc⟩
  | x :: h, b, k + 1, c, hk => by
    unfold maskH at hk
    rw [List.getElem?_cons_succ] at hk
    obtain ⟨h1, h2⟩ := maskH_get hk
    exact ⟨by simpa using h1, by rwa [show b + 1 + k = b + (k + 1) by omega] at h2⟩
def efV (e : Option Eff) : AV := match e with
  | some e => e.val
  | none => .und
def efU (e : Option Eff) : List (Nat × List AV) := match e with
  | some e => e.upd
  | none => []
def efN (e : Option Eff) : Option (List AV) := match e with
  | some e => e.new
  | none => none
def efB (e : Option Eff) : List Bind := match e with
  | some e => e.binds
  | none => []
/-- Behind an operation; each has a block of its own. -/
def nextD (st : SF) (o : Oper) (e : Option Eff) : SF :=
  { tm := putL st.tm o.dst (efV e), h := updH st.h (efU e) ++ [efN e], nv := st.nv + nvB (efB e), wr := st.wr ++ (efU e).map (·.1) }
section
variable (P : Program) (cts : List (Nat × Ct)) (ops : Array Oper)
/-- Is an operation's answer a guard of others? -/
def isG (i : Nat) : Bool := ops.toList.any fun o => match o.guard with
  | some (j, _) => Nat.beq j i
  | none => false
/-- An answer that is a guard and is not known: both ways. -/
def unkG (i : Nat) (v : AV) : Option E := match v with
  | .bo (.v n) => if isG ops i = true then some (.v n) else none
  | _ => none
def traceT (hid : List (List Nat)) (fin : List (Option Eff) → T) : List Oper → Nat → SF → List (Option Eff) → T
  | [], _, _, acc => fin acc
  | o :: l, i, st, acc => match guardOf ops st.tm o with
    | .yes => match evOp P cts st.tm (maskH (hid.getD i []) 0 st.h) st.nv st.h.length o with
      | some e => preB e.binds (preN e.needs (match unkG ops i e.val with
        | some x => .ite x (traceT hid fin l (i + 1) (nextD st o (some { e with val := .bo (.l (.b true)) })) (acc ++ [some { e with val := .bo (.l (.b true)) }])) (traceT hid fin l (i + 1) (nextD st o (some { e with val := .bo (.l (.b false)) })) (acc ++ [some { e with val := .bo (.l (.b false)) }]))
        | none => traceT hid fin l (i + 1) (nextD st o (some e)) (acc ++ [some e])))
      | none => .bad 11
    | .no => traceT hid fin l (i + 1) (nextD st o none) (acc ++ [none])
    | _ => .bad 10
def zipU : List (List Nat) → List (List Nat) → List (List Nat)
  | a :: l, b :: m => (a ++ b) :: zipU l m
  | [], m => m
  | l, [] => l
/-- The blocks that each operation writes, whichever way. -/
def traceW : List Oper → Nat → SF → List (List Nat)
  | [], _, _ => []
  | o :: l, i, st => match guardOf ops st.tm o with
    | .yes => match evOp P cts st.tm st.h st.nv st.h.length o with
      | some e => (st.h.length :: e.upd.map (·.1)) :: (match unkG ops i e.val with
        | some _ => zipU (traceW l (i + 1) (nextD st o (some { e with val := .bo (.l (.b true)) }))) (traceW l (i + 1) (nextD st o (some { e with val := .bo (.l (.b false)) })))
        | none => traceW l (i + 1) (nextD st o (some e)))
      | none => []
    | .no => [st.h.length] :: traceW l (i + 1) (nextD st o none)
    | _ => []
def stFrom : List Oper → List (Option Eff) → Nat → SF → SF
  | o :: l, e :: es, j + 1, st => stFrom l es j (nextD st o e)
  | _, _, _, st => st
def allB : List (Option Eff) → List Bind
  | [] => []
  | e :: l => efB e ++ allB l
def allN : List (Option Eff) → List Need
  | [] => []
  | e :: l => (match e with | some e => e.needs | none => []) ++ allN l

def efNd (e : Option Eff) : List Need := match e with
  | some e => e.needs
  | none => []
def cmp (anc : List (List Nat)) (i j : Nat) : Bool := (anc.getD i []).contains j || (anc.getD j []).contains i
/-- Blocks that the operations write, the first one of the region's own being nb. -/
def wrs : List (Option Eff) → Nat → List (List Nat)
  | [], _ => []
  | e :: l, nb => (nb :: (efU e).map (·.1)) :: wrs l (nb + 1)
def reads (o : Oper) : List Nat := (o.op.operands.toList.filterMap fun | .tmp t => some t | _ => none) ++ gdT ops o
def hids (anc : List (List Nat)) (ws : List (List Nat)) (n : Nat) : List (List Nat) :=
  (List.range n).map fun i => (List.range n).flatMap fun j => if i == j || cmp anc i j then [] else ws.getD j []
def okD (anc : List (List Nat)) (hid ws : List (List Nat)) (es : List (Option Eff)) (l : List Oper) (nb : Nat) : Bool :=
  (List.range l.length).all fun i =>
    ((anc.getD i []).all fun j => decide (j < i)) &&
    (match es[i]? with | some e => (efU e).all fun x => decide (x.1 < nb + i) | none => false) &&
    (List.range l.length).all fun j => i == j || cmp anc i j ||
      (((ws.getD j []).all fun k => (hid.getD i []).contains k && !(ws.getD i []).contains k) &&
       (match l[i]?, l[j]? with
        | some oi, some oj => (match oj.dst with
          | some d => !(reads ops oi).contains d && !(oi.dst == some d)
          | none => true)
        | _, _ => false))
def drawnT (st : SF) (k : SF → T) : T :=
  let l := ops.toList
  let anc := ancs l []
  let hid := hids anc (traceW P cts ops l 0 st) l.length
  traceT P cts ops hid (fun es => if okD ops anc hid (wrs es st.h.length) es l st.h.length = true then k (stFrom l es l.length st) else .bad 12) l 0 st []
end

section
variable {P : Program} {cts : List (Nat × Ct)} {ops : Array Oper}
/-- An operation's effect is what was reckoned. -/
def EfOk (P : Program) (cts : List (Nat × Ct)) (ops : Array Oper) (hid : List Nat) (ρ : List U) (st : SF) (o : Oper) (e : Option Eff) : Prop := match e with
  | some e => guardOf ops st.tm o = .yes ∧ ∃ v0, evOp P cts st.tm (maskH hid 0 st.h) st.nv st.h.length o = some { e with val := v0 } ∧ ∀ β, den β ρ e.val = den β ρ v0
  | none => guardOf ops st.tm o = .no
theorem binds_append {ρ : List U} : ∀ {l m : List Bind} {nv : Nat}, BindsAt ρ nv l → BindsAt ρ (nv + nvB l) m → BindsAt ρ nv (l ++ m)
  | [], _, _, _, h => h
  | b :: l, m, nv, h, k => ⟨h.1, binds_append (l := l) h.2 (by rw [Nat.add_assoc]; exact k)⟩
theorem nvB_append : ∀ (l m : List Bind), nvB (l ++ m) = nvB l + nvB m
  | [], m => by simp [nvB]
  | b :: l, m => by show b.m + nvB (l ++ m) = b.m + nvB l + nvB m; rw [nvB_append l m]; omega
theorem unkG_some {i : Nat} {v : AV} {x : E} (h : unkG ops i v = some x) : v = .bo x := by
  unfold unkG at h
  split at h
  · split at h
    · simp at h; subst h; rfl
    · simp at h
  · simp at h
theorem EfOk.more {hid : List Nat} {ρ σ : List U} {st : SF} {o : Oper} {e : Eff} {v0 : AV} (hg : guardOf ops st.tm o = .yes) (he : evOp P cts st.tm (maskH hid 0 st.h) st.nv st.h.length o = some { e with val := v0 }) (hv : e.val = v0 ∨ ∃ x y, v0 = .bo x ∧ e.val = .bo (.l (.b y)) ∧ x.ev ρ = some (.b y)) : EfOk P cts ops hid (ρ ++ σ) st o (some e) := by
  refine ⟨hg, v0, he, fun β => ?_⟩
  rcases hv with hv | ⟨x, y, rfl, h2, h3⟩
  · rw [hv]
  · rw [h2, bo_den (E.ev_more (More.app (fun _ => none) ρ σ) h3)]; rfl
theorem traceT_ok {hid : List (List Nat)} {fin : List (Option Eff) → T} {Q : List U → Ex → SF → Prop} {L : List (List U → Prop)} : ∀ {l : List Oper} {i : Nat} {st : SF} {acc : List (Option Eff)} {ρ : List U}, (traceT P cts ops hid fin l i st acc).holdsL Q L ρ → ρ.length = st.nv →
    ∃ σ es, (fin (acc ++ es)).holdsL Q L (ρ ++ σ) ∧ es.length = l.length ∧ σ.length = nvB (allB es) ∧ BindsAt (ρ ++ σ) ρ.length (allB es) ∧ NeedsAt (ρ ++ σ) (allN es) ∧
      ∀ (j : Nat) (o : Oper), l[j]? = some o → ∃ e, es[j]? = some e ∧ EfOk P cts ops (hid.getD (i + j) []) (ρ ++ σ) (stFrom l es j st) o e
  | [], i, st, acc, ρ, h, hn => ⟨[], [], by rw [List.append_nil, List.append_nil]; exact h, rfl, rfl, trivial, fun n hn => (by cases hn), fun j o hj => by simp at hj⟩
  | o :: l, i, st, acc, ρ, h, hn => by
    unfold traceT at h
    -- behind an operation
    have tail : ∀ {e : Option Eff} {σ : List U}, (traceT P cts ops hid fin l (i + 1) (nextD st o e) (acc ++ [e])).holdsL Q L (ρ ++ σ) → σ.length = nvB (efB e) → BindsAt (ρ ++ σ) ρ.length (efB e) → (match e with | some e => NeedsAt (ρ ++ σ) e.needs | none => True) → (∀ τ, EfOk P cts ops (hid.getD i []) (ρ ++ σ ++ τ) st o e) →
        ∃ σ es, (fin (acc ++ es)).holdsL Q L (ρ ++ σ) ∧ es.length = (o :: l).length ∧ σ.length = nvB (allB es) ∧ BindsAt (ρ ++ σ) ρ.length (allB es) ∧ NeedsAt (ρ ++ σ) (allN es) ∧
          ∀ (j : Nat) (o' : Oper), (o :: l)[j]? = some o' → ∃ e, es[j]? = some e ∧ EfOk P cts ops (hid.getD (i + j) []) (ρ ++ σ) (stFrom (o :: l) es j st) o' e := by
      intro e σ h1 h2 h3 h4 h5
      obtain ⟨τ, es, g1, g2, g3, g4, g5, g6⟩ := traceT_ok h1 (by rw [List.length_append, hn, h2]; rfl)
      have M : More (fun _ => none) (fun _ => none) (ρ ++ σ) (ρ ++ σ ++ τ) := More.app _ _ _
      refine ⟨σ ++ τ, e :: es, ?_, by rw [List.length_cons, List.length_cons, g2], ?_, ?_, ?_, fun j o' hj => ?_⟩
      · rw [← List.append_assoc, show acc ++ e :: es = acc ++ [e] ++ es by simp]; exact g1
      · rw [List.length_append, h2, g3]; show _ = nvB (efB e ++ allB es); rw [nvB_append]
      · rw [← List.append_assoc]
        refine binds_append (BindsAt.more M h3) ?_
        rw [← h2, ← List.length_append]; exact g4
      · rw [← List.append_assoc]
        intro n hnn
        have hnn' : n ∈ efNd e ++ allN es := by cases e <;> exact hnn
        rcases List.mem_append.1 hnn' with h6 | h6
        · cases e with
          | none => cases h6
          | some e => obtain ⟨us, k1, k2⟩ := h4 n h6; exact ⟨us, evs_more M k1, k2⟩
        · exact g5 n h6
      · rw [← List.append_assoc]
        cases j with
        | zero => simp at hj; subst hj; exact ⟨e, rfl, h5 τ⟩
        | succ j =>
          obtain ⟨e', k1, k2⟩ := g6 j o' (by simpa using hj)
          exact ⟨e', by simpa using k1, by rw [show i + (j + 1) = i + 1 + j by omega]; exact k2⟩
    split at h
    · rename_i hg
      split at h
      · rename_i e he
        obtain ⟨σ, h1, h2, h3⟩ := preB_holds h
        obtain ⟨h4, h5⟩ := preN_holds h1
        split at h5
        · rename_i x hx
          have hval := unkG_some hx
          have h5' : (match x.ev (ρ ++ σ) with | some (.b y) => (y = true → _) ∧ (y = false → _) | _ => False) := h5
          split at h5'
          · rename_i y hy
            cases y with
            | true => exact tail (e := some { e with val := .bo (.l (.b true)) }) (h5'.1 rfl) h2 h3 h4 (fun τ => EfOk.more (v0 := e.val) hg he (.inr ⟨x, true, hval, rfl, hy⟩))
            | false => exact tail (e := some { e with val := .bo (.l (.b false)) }) (h5'.2 rfl) h2 h3 h4 (fun τ => EfOk.more (v0 := e.val) hg he (.inr ⟨x, false, hval, rfl, hy⟩))
          · exact h5'.elim
        · exact tail (e := some e) h5 h2 h3 h4 (fun τ => EfOk.more (v0 := e.val) hg he (.inl rfl))
      · exact h.elim
    · rename_i hg
      obtain ⟨σ, es, g1, g2, g3, g4, g5, g6⟩ := tail (e := none) (σ := []) (by rw [List.append_nil]; exact h) rfl trivial trivial (fun τ => hg)
      exact ⟨σ, es, g1, g2, g3, g4, g5, g6⟩
    · exact h.elim
theorem stFrom_succ : ∀ {l : List Oper} {es : List (Option Eff)} {j : Nat} {st : SF} {o : Oper} {e : Option Eff}, l[j]? = some o → es[j]? = some e → stFrom l es (j + 1) st = nextD (stFrom l es j st) o e
  | [], es, j, st, o, e, h, _ => by simp at h
  | _ :: _, [], j, st, o, e, _, h => by simp at h
  | o' :: l, e' :: es, 0, st, o, e, h, k => by
    simp at h k; subst h k
    cases l <;> cases es <;> rfl
  | o' :: l, e' :: es, j + 1, st, o, e, h, k => by
    have := stFrom_succ (l := l) (es := es) (j := j) (st := nextD st o' e') (o := o) (e := e) (by simpa using h) (by simpa using k)
    exact this
theorem stFrom_zero (l : List Oper) (es : List (Option Eff)) (st : SF) : stFrom l es 0 st = st := by cases l <;> cases es <;> rfl

theorem allB_at {ρ : List U} : ∀ {l : List Oper} {es : List (Option Eff)} {st : SF}, es.length = l.length → BindsAt ρ st.nv (allB es) → ∀ (j : Nat) (e : Eff), es[j]? = some (some e) → BindsAt ρ (stFrom l es j st).nv e.binds
  | [], es, st, hl, h, j, e, hj => by cases es <;> simp at hl hj
  | o :: l, [], st, hl, h, j, e, hj => by simp at hj
  | o :: l, x :: es, st, hl, h, j, e, hj => by
    have hsplit : BindsAt ρ st.nv (efB x) ∧ BindsAt ρ (st.nv + nvB (efB x)) (allB es) := by
      have : ∀ (a b : List Bind) (nv : Nat), BindsAt ρ nv (a ++ b) → BindsAt ρ nv a ∧ BindsAt ρ (nv + nvB a) b := by
        intro a
        induction a with
        | nil => intro b nv h; exact ⟨trivial, h⟩
        | cons y a ih =>
          intro b nv h
          obtain ⟨h1, h2⟩ := h
          obtain ⟨h3, h4⟩ := ih b _ h2
          exact ⟨⟨h1, h3⟩, by rw [nvB, ← Nat.add_assoc]; exact h4⟩
      exact this _ _ _ h
    cases j with
    | zero => simp at hj; subst hj; exact hsplit.1
    | succ j => exact allB_at (l := l) (es := es) (st := nextD st o x) (by simpa using hl) hsplit.2 j e (by simpa using hj)
theorem allN_at {ρ : List U} : ∀ {es : List (Option Eff)}, NeedsAt ρ (allN es) → ∀ (j : Nat) (e : Eff), es[j]? = some (some e) → NeedsAt ρ e.needs
  | [], h, j, e, hj => by simp at hj
  | x :: es, h, 0, e, hj => by simp at hj; subst hj; exact fun n hn => h n (by unfold allN; simp [hn])
  | x :: es, h, j + 1, e, hj => allN_at (es := es) (fun n hn => h n (by unfold allN; simp [hn])) j e (by simpa using hj)
theorem stFrom_nv : ∀ {l : List Oper} {es : List (Option Eff)} {st : SF}, es.length = l.length → (stFrom l es l.length st).nv = st.nv + nvB (allB es)
  | [], es, st, hl => by cases es <;> simp at hl; rfl
  | o :: l, [], st, hl => by simp at hl
  | o :: l, x :: es, st, hl => by
    have := stFrom_nv (l := l) (es := es) (st := nextD st o x) (by simpa using hl)
    show (stFrom l es l.length (nextD st o x)).nv = _
    rw [this]
    have hb : ∀ (a b : List Bind), nvB (a ++ b) = nvB a + nvB b := by
      intro a; induction a with
      | nil => intro b; simp [nvB]
      | cons y a ih => intro b; simp [nvB, ih]; omega
    show st.nv + nvB (efB x) + _ = st.nv + nvB (efB x ++ allB es)
    rw [hb]; omega

def fT (l : List Oper) (es : List (Option Eff)) (t : Nat) (j : Nat) : Option AV := match l[j]?, es[j]? with
  | some o, some e => if o.dst = some t then some (efV e) else none
  | _, _ => none
def updAt : List (Nat × List AV) → Nat → Option (List AV)
  | [], _ => none
  | (j, c) :: l, k => match updAt l k with
    | some d => some d
    | none => if j = k then some c else none
def fBk (es : List (Option Eff)) (nb k j : Nat) : Option (Option (List AV)) := match es[j]? with
  | some e => if k = nb + j then some (efN e) else match updAt (efU e) k with
    | some c => some (some c)
    | none => none
  | none => none
theorem updH_at : ∀ (l : List (Nat × List AV)) (h : Heap) (k : Nat), (∀ x ∈ l, x.1 < h.length) → (updH h l)[k]? = match updAt l k with
    | some c => some (some c)
    | none => h[k]?
  | [], h, k, _ => rfl
  | (j, c) :: l, h, k, hl => by
    rw [updH, updH_at l _ k (fun x hx => by rw [List.length_set]; exact hl x (by simp [hx])), updAt]
    cases updAt l k with
    | some d => rfl
    | none =>
      dsimp only
      have := hl (j, c) (by simp)
      by_cases hjk : j = k
      · subst hjk; rw [if_pos rfl, List.getElem?_set_self this]
      · rw [if_neg hjk, List.getElem?_set_ne hjk]
theorem updAt_mem {k : Nat} {c : List AV} : ∀ {l : List (Nat × List AV)}, updAt l k = some c → (k, c) ∈ l
  | [], h => by simp [updAt] at h
  | (j, d) :: l, h => by
    unfold updAt at h
    split at h
    · rename_i x hx; simp at h; subst h; exact List.mem_cons_of_mem _ (updAt_mem hx)
    · split at h
      · rename_i hj; simp at h; subst hj h; simp
      · simp at h
theorem updAt_none {k : Nat} : ∀ {l : List (Nat × List AV)}, updAt l k = none → ∀ c, (k, c) ∉ l
  | [], _, c, hm => by cases hm
  | (j, d) :: l, h, c, hm => by
    unfold updAt at h
    split at h
    · simp at h
    · rename_i hx
      split at h
      · simp at h
      · rename_i hj
        rcases List.mem_cons.1 hm with e | hm
        · simp at e; exact hj e.1.symm
        · exact updAt_none hx c hm

structure Tr (P : Program) (cts : List (Nat × Ct)) (ops : Array Oper) (hid : List (List Nat)) (ρ : List U) (es : List (Option Eff)) (st : SF) : Prop where
  len : es.length = ops.toList.length
  at_ : ∀ (j : Nat) (o : Oper), ops.toList[j]? = some o → ∃ e, es[j]? = some e ∧ EfOk P cts ops (hid.getD j []) ρ (stFrom ops.toList es j st) o e
  upd : ∀ (j : Nat) (e : Option Eff), es[j]? = some e → ∀ x ∈ efU e, x.1 < st.h.length + j

theorem canon_len {hid : List (List Nat)} {ρ : List U} {es : List (Option Eff)} {st : SF} (tr : Tr P cts ops hid ρ es st) : ∀ (i : Nat), i ≤ ops.size → (stFrom ops.toList es i st).h.length = st.h.length + i ∧ (stFrom ops.toList es i st).tm.length = st.tm.length := by
  intro i
  induction i with
  | zero => intro _; rw [stFrom_zero]; exact ⟨rfl, rfl⟩
  | succ i ih =>
    intro hi
    obtain ⟨h1, h2⟩ := ih (by omega)
    have ho : ops.toList[i]? = some ops[i] := by simp
    obtain ⟨e, he, _⟩ := tr.at_ i _ ho
    rw [stFrom_succ ho he]
    refine ⟨?_, ?_⟩
    · show (updH _ _ ++ [efN e]).length = _
      rw [List.length_append, updH_len, h1]; simp; omega
    · show (putL _ _ _).length = _
      unfold putL; split
      · rw [List.length_set, h2]
      · exact h2
theorem canonT {hid : List (List Nat)} {ρ : List U} {es : List (Option Eff)} {st : SF} (tr : Tr P cts ops hid ρ es st) {t : Nat} (ht : t < st.tm.length) : ∀ (i : Nat), i ≤ ops.size → (stFrom ops.toList es i st).tm[t]? = lastW (fun _ => true) (fT ops.toList es t) st.tm[t]? i := by
  intro i
  induction i with
  | zero => intro _; rw [stFrom_zero]; rfl
  | succ i ih =>
    intro hi
    have ho : ops.toList[i]? = some ops[i] := by simp
    obtain ⟨e, he, _⟩ := tr.at_ i _ ho
    rw [stFrom_succ ho he]
    rw [lastW_true, ← ih (by omega)]
    have hf : fT ops.toList es t i = if ops[i].dst = some t then some (efV e) else none := by unfold fT; rw [ho, he]
    rw [hf]
    show (putL _ _ _)[t]? = _
    unfold putL
    cases hd : ops[i].dst with
    | none => simp
    | some d =>
      dsimp only
      by_cases hdt : d = t
      · subst hdt
        rw [List.getElem?_set_self (by rw [(canon_len tr i (by omega)).2]; exact ht), if_pos rfl]
      · rw [List.getElem?_set_ne hdt, if_neg (fun h => hdt (by simpa using h))]
theorem canonB {hid : List (List Nat)} {ρ : List U} {es : List (Option Eff)} {st : SF} (tr : Tr P cts ops hid ρ es st) {k : Nat} : ∀ (i : Nat), i ≤ ops.size → (stFrom ops.toList es i st).h[k]? = lastW (fun _ => true) (fBk es st.h.length k) st.h[k]? i := by
  intro i
  induction i with
  | zero => intro _; rw [stFrom_zero]; rfl
  | succ i ih =>
    intro hi
    have ho : ops.toList[i]? = some ops[i] := by simp
    obtain ⟨e, he, _⟩ := tr.at_ i _ ho
    rw [stFrom_succ ho he]
    obtain ⟨hl, _⟩ := canon_len tr i (by omega)
    rw [lastW_true, ← ih (by omega)]
    have hf : fBk es st.h.length k i = if k = st.h.length + i then some (efN e) else match updAt (efU e) k with | some c => some (some c) | none => none := by unfold fBk; rw [he]
    rw [hf]
    show (updH _ _ ++ [efN e])[k]? = _
    have hu := tr.upd i e he
    rcases Nat.lt_trichotomy k (st.h.length + i) with h1 | h1 | h1
    · rw [List.getElem?_append_left (by rw [updH_len, hl]; exact h1), updH_at _ _ _ (fun x hx => by rw [hl]; exact hu x hx), if_neg (by omega)]
      cases updAt (efU e) k <;> simp
    · rw [List.getElem?_append_right (by rw [updH_len, hl]; omega), updH_len, hl, if_pos h1]
      subst h1; simp
    · rw [List.getElem?_append_right (by rw [updH_len, hl]; omega), List.getElem?_eq_none (by simp [updH_len, hl]; omega), if_neg (by omega)]
      cases hua : updAt (efU e) k with
      | some c => have := hu _ (updAt_mem hua); dsimp only at this; omega
      | none =>
        dsimp only
        rw [List.getElem?_eq_none (by rw [hl]; omega)]

variable {β0 : Blocks} {w0 : World}
/-- What holds while operations come up in some order. -/
structure DI (P : Program) (ops : Array Oper) (β0 : Blocks) (w0 : World) (ρ : List U) (st : SF) (es : List (Option Eff)) (listed : Array Bool) (β : Blocks) (a : Act) (w : World) : Prop where
  inv : HeadInv .any ops ops.size listed
  tm : ∀ (t : Nat) (v : AV), t < st.tm.length → lastW (fun i => listed.getD i false) (fT ops.toList es t) st.tm[t]? ops.size = some v → ∃ u, den β ρ v = some u ∧ a.tmps[t]? = some u
  sz : a.tmps.size = st.tm.length
  h : ∀ (k : Nat) (c : List AV), lastW (fun i => listed.getD i false) (fBk es st.h.length k) st.h[k]? ops.size = some (some c) → ∃ n vs, β k = some n ∧ denL β ρ c = some vs ∧ CellsAt n vs w
  inj : ∀ (k l n : Nat), β k = some n → β l = some n → k = l
  bd : ∀ (k n : Nat), β k = some n → n < w.heap.size
  dom : ∀ (k n : Nat), β k = some n → k < st.h.length ∨ ∃ i, i < ops.size ∧ listed.getD i false = true ∧ k = st.h.length + i
  b0 : ∀ (k n : Nat), β0 k = some n → β k = some n
  new : ∀ (k n : Nat), β k = some n → β0 k = none → w0.heap.size ≤ n
  os : w.os = w0.os
  tape : w.tape = w0.tape
  output : w.output = w0.output
  size : w0.heap.size ≤ w.heap.size
  old : ∀ (n : Nat), n < w0.heap.size → (∀ k, k ∈ (stFrom ops.toList es ops.toList.length st).wr → β0 k ≠ some n) → w.heap[n]? = w0.heap[n]?
  df : a.defers = []

theorem wr_mono {l : List Oper} : ∀ {es : List (Option Eff)} {st : SF}, es.length = l.length → (∀ k, k ∈ st.wr → k ∈ (stFrom l es l.length st).wr) ∧ ∀ (j : Nat) (e : Option Eff), es[j]? = some e → ∀ x ∈ efU e, x.1 ∈ (stFrom l es l.length st).wr := by
  induction l with
  | nil => intro es st hl; cases es <;> simp at hl; exact ⟨fun k hk => hk, fun j e hj => by simp at hj⟩
  | cons o l ih =>
    intro es st hl
    cases es with
    | nil => simp at hl
    | cons e es =>
      obtain ⟨h1, h2⟩ := ih (es := es) (st := nextD st o e) (by simpa using hl)
      refine ⟨fun k hk => h1 k (by show k ∈ st.wr ++ _; simp [hk]), fun j e' hj x hx => ?_⟩
      cases j with
      | zero => simp at hj; subst hj; exact h1 _ (by show x.1 ∈ st.wr ++ (efU e).map (·.1); simp; exact .inr ⟨x.2, hx⟩)
      | succ j => exact h2 j e' (by simpa using hj) x hx

/-- What was checked of two operations that do not wait for one another. -/
structure Chk (ops : Array Oper) (anc hid : List (List Nat)) (es : List (Option Eff)) (nb : Nat) : Prop where
  lt : ∀ (i j : Nat), i < ops.size → j ∈ anc.getD i [] → j < i
  blk : ∀ (i j : Nat) (e : Option Eff), i < ops.size → j < ops.size → i ≠ j → cmp anc i j = false → es[j]? = some e → ∀ k, (k = nb + j ∨ ∃ c, (k, c) ∈ efU e) → (hid.getD i []).contains k = true ∧ ∀ e', es[i]? = some e' → ¬ (k = nb + i ∨ ∃ c, (k, c) ∈ efU e')
  tmp : ∀ (i j : Nat) (oi oj : Oper) (d : Nat), i ≠ j → cmp anc i j = false → ops[i]? = some oi → ops[j]? = some oj → oj.dst = some d → d ∉ reads ops oi ∧ oi.dst ≠ some d

theorem wrs_get : ∀ {es : List (Option Eff)} {nb j : Nat} {e : Option Eff}, es[j]? = some e → (wrs es nb).getD j [] = (nb + j) :: (efU e).map (·.1)
  | [], nb, j, e, h => by simp at h
  | x :: es, nb, 0, e, h => by simp at h; subst h; rfl
  | x :: es, nb, j + 1, e, h => by
    unfold wrs
    rw [List.getD_cons_succ, wrs_get (es := es) (by simpa using h)]
    rw [show nb + 1 + j = nb + (j + 1) by omega]

theorem okD_chk {anc hid : List (List Nat)} {es : List (Option Eff)} {nb : Nat} (h : okD ops anc hid (wrs es nb) es ops.toList nb = true) (hlen : es.length = ops.toList.length) : Chk ops anc hid es nb ∧ ∀ (j : Nat) (e : Option Eff), es[j]? = some e → ∀ x ∈ efU e, x.1 < nb + j := by
  unfold okD at h
  rw [List.all_eq_true] at h
  have hi : ∀ i, i < ops.size → _ := fun i hi => h i (by simpa using hi)
  have get : ∀ i, i < ops.size → ∃ e, es[i]? = some e := fun i hi => ⟨_, List.getElem?_eq_getElem (by rw [hlen]; simpa using hi)⟩
  refine ⟨⟨fun i j hlt hj => ?_, fun i j e hlt hjlt hij hc he k hk => ?_, fun i j oi oj d hij hc hoi hoj hd => ?_⟩, fun j e he x hx => ?_⟩
  · have := hi i hlt
    simp only [Bool.and_eq_true] at this
    simpa using List.all_eq_true.1 this.1.1 j hj
  · have := hi i hlt
    simp only [Bool.and_eq_true] at this
    have h2 := List.all_eq_true.1 this.2 j (by simpa using hjlt)
    have hne : (i == j) = false := by simpa using hij
    rw [hne, hc] at h2
    simp only [Bool.false_or, Bool.and_eq_true] at h2
    have h3 := h2.1
    rw [wrs_get he] at h3
    have hkm : k ∈ (nb + j) :: (efU e).map (·.1) := by
      rcases hk with rfl | ⟨c, hc'⟩
      · simp
      · simp; exact .inr ⟨c, hc'⟩
    have h4 := List.all_eq_true.1 h3 k hkm
    simp only [Bool.and_eq_true] at h4
    refine ⟨h4.1, fun e' he' hh => ?_⟩
    have h5 := h4.2
    rw [wrs_get he'] at h5
    have : k ∈ (nb + i) :: (efU e').map (·.1) := by
      rcases hh with rfl | ⟨c, hc'⟩
      · simp
      · simp; exact .inr ⟨c, hc'⟩
    simp at h5
    rcases List.mem_cons.1 this with e1 | e1
    · exact h5.1 e1
    · simp at e1; obtain ⟨c, e2⟩ := e1; exact h5.2 c e2
  · have hil : i < ops.size := (Array.getElem?_eq_some_iff.1 hoi).1
    have hjl : j < ops.size := (Array.getElem?_eq_some_iff.1 hoj).1
    have := hi i hil
    simp only [Bool.and_eq_true] at this
    have h2 := List.all_eq_true.1 this.2 j (by simpa using hjl)
    have hne : (i == j) = false := by simpa using hij
    rw [hne, hc] at h2
    simp only [Bool.false_or, Bool.and_eq_true] at h2
    have h3 := h2.2
    rw [show ops.toList[i]? = some oi by simpa using hoi, show ops.toList[j]? = some oj by simpa using hoj] at h3
    dsimp only at h3
    rw [hd] at h3
    dsimp only at h3
    simp only [Bool.and_eq_true, Bool.not_eq_true'] at h3
    exact ⟨fun hm => (by have := h3.1; rw [List.contains_iff_mem.2 hm] at this; cases this), fun hh => (by have := h3.2; rw [hh] at this; simp at this)⟩
  · have hjl : j < ops.size := by have := (List.getElem?_eq_some_iff.1 he).1; rw [hlen] at this; simpa using this
    have := hi j hjl
    simp only [Bool.and_eq_true] at this
    have h2 := this.1.2
    rw [he] at h2
    simpa using List.all_eq_true.1 h2 x hx

theorem dinv_done {ρ : List U} {st : SF} {es : List (Option Eff)} {hid : List (List Nat)} (tr : Tr P cts ops hid ρ es st) {listed : Array Bool} {β : Blocks} {a : Act} {w : World} (D : DI P ops β0 w0 ρ st es listed β a w) (hall : ∀ i, i < ops.size → listed.getD i false = true)
    (hρ : ρ.length = (stFrom ops.toList es ops.toList.length st).nv) : SRel β0 w0 β ρ (stFrom ops.toList es ops.toList.length st) a w := by
  have hn : ops.toList.length = ops.size := by simp
  obtain ⟨hl1, hl2⟩ := canon_len tr ops.size (Nat.le_refl _)
  refine ⟨fun t v ht => ?_, ?_, fun k c hk => ?_, D.inj, D.bd, fun k hk => ?_, D.b0, D.new, D.os, D.tape, D.output, D.size, D.old, D.df, hρ⟩
  · rw [hn] at ht
    have hlt : t < st.tm.length := by have := (List.getElem?_eq_some_iff.1 ht).1; omega
    refine D.tm t v hlt ?_
    rw [lastW_all (fun j hj => hall j hj), ← canonT tr hlt ops.size (Nat.le_refl _)]; exact ht
  · rw [hn, hl2]; exact D.sz
  · rw [hn] at hk
    refine D.h k c ?_
    rw [lastW_all (fun j hj => hall j hj), ← canonB tr ops.size (Nat.le_refl _)]; exact hk
  · rw [hn, hl1] at hk
    cases hq : β k with
    | none => rfl
    | some n => rcases D.dom k n hq with h1 | ⟨i, h1, _, h2⟩ <;> omega

theorem listed_ne {listed : Array Bool} {i j : Nat} (h : j ≠ i) : (listed.setIfInBounds i true).getD j false = listed.getD j false := getD_set_ne false (fun h' => h h'.symm)
theorem listed_i {listed : Array Bool} {i : Nat} (h : i < listed.size) : (listed.setIfInBounds i true).getD i false = true := by simp [h]

theorem DI.step {ρ : List U} {st : SF} {es : List (Option Eff)} {hid anc : List (List Nat)} (hcts : AllOk P cts) (tr : Tr P cts ops hid ρ es st) (ck : Chk ops anc hid es st.h.length) (ha : AncOk ops anc)
    (hb : ∀ (j : Nat) (e : Eff), es[j]? = some (some e) → BindsAt ρ (stFrom ops.toList es j st).nv e.binds) (hnd : ∀ (j : Nat) (e : Eff), es[j]? = some (some e) → NeedsAt ρ e.needs)
    {listed : Array Bool} {β : Blocks} {a : Act} {w : World} (D : DI P ops β0 w0 ρ st es listed β a w) {i : Nat} (hi : i ∈ Region.ready .any ops listed) {Q : Exit → Act → World → Prop} {K : Act → World → Prop}
    (hK : ∀ β' a' w', DI P ops β0 w0 ρ st es (listed.setIfInBounds i true) β' a' w' → K a' w') : wpOp P ops Q i K a w := by
  obtain ⟨hun, o, ho, hpre⟩ := mem_ready.1 hi
  have hil : i < ops.size := (Array.getElem?_eq_some_iff.1 ho).1
  have hls : i < listed.size := by rw [D.inv.size]; exact hil
  have hLi : listed.getD i false = false := getD_both hun
  have hol : ops.toList[i]? = some o := by simpa using ho
  obtain ⟨ef, hef, hok⟩ := tr.at_ i o hol
  obtain ⟨hcl, hct⟩ := canon_len tr i (Nat.le_of_lt hil)
  have shut : Shut ops (fun j => listed.getD j false = true) := fun j oj hoj hlj e he hbd => D.inv.closed j oj hoj hlj e he hbd
  have shut' : Shut ops (fun j => listed.getD j false = true ∨ j = i) := fun j oj hoj hlj e he hbd => by
    rcases hlj with hlj | rfl
    · exact .inl (D.inv.closed j oj hoj hlj e he hbd)
    · rw [ho] at hoj; simp at hoj; subst hoj; exact .inl (hpre e he hbd)
  have before : ∀ j, j ∈ anc.getD i [] → listed.getD j false = true := fun j hj => by
    rcases ha i j hj _ shut' (.inr rfl) with h1 | h1
    · exact h1
    · have := ck.lt i j hil hj; omega
  have behind : ∀ j, j < ops.size → i ∈ anc.getD j [] → listed.getD j false = false := fun j _ hj => by
    cases hq : listed.getD j false with
    | false => rfl
    | true => have := ha j i hj _ shut hq; rw [hLi] at this; cases this
  have both : ∀ j, j < ops.size → j ≠ i → cmp anc i j = true → (j < i → listed.getD j false = true) ∧ (i < j → listed.getD j false = false) := fun j hj hne hc => by
    simp only [cmp, Bool.or_eq_true, List.contains_iff_mem] at hc
    rcases hc with hc | hc
    · exact ⟨fun _ => before j hc, fun hlt => by have := ck.lt i j hil hc; omega⟩
    · exact ⟨fun hlt => by have := ck.lt j i hj hc; omega, fun _ => behind j hj hc⟩
  -- slots
  have fT_at : ∀ t j, fT ops.toList es t j ≠ none → ∃ oj, ops[j]? = some oj ∧ oj.dst = some t := fun t j hj => by
    unfold fT at hj
    split at hj
    · rename_i oj e h1 h2
      split at hj
      · rename_i hd; exact ⟨oj, by simpa using h1, hd⟩
      · exact absurd rfl hj
    · exact absurd rfl hj
  have readT : ∀ t, t ∈ reads ops o → ∀ v, (stFrom ops.toList es i st).tm[t]? = some v → ∃ u, den β ρ v = some u ∧ a.tmps[t]? = some u := fun t ht v hv => by
    have hlt : t < st.tm.length := by have := (List.getElem?_eq_some_iff.1 hv).1; omega
    refine D.tm t v hlt ?_
    rw [lastW_A (fun j hj hne hf => ?_) hLi hil, ← canonT tr hlt i (Nat.le_of_lt hil)]
    · exact hv
    · obtain ⟨oj, h1, h2⟩ := fT_at t j hf
      refine both j hj hne ?_
      cases hc : cmp anc i j with
      | true => rfl
      | false => exact absurd ht (ck.tmp i j o oj t (Ne.symm hne) hc ho h1 h2).1
  have fB_at : ∀ k j, fBk es st.h.length k j ≠ none → ∃ e, es[j]? = some e ∧ (k = st.h.length + j ∨ ∃ c, (k, c) ∈ efU e) := fun k j hj => by
    unfold fBk at hj
    split at hj
    · rename_i e h1
      refine ⟨e, h1, ?_⟩
      split at hj
      · rename_i hk; exact .inl hk
      · split at hj
        · rename_i c hc; exact .inr ⟨c, updAt_mem hc⟩
        · exact absurd rfl hj
    · exact absurd rfl hj
  have hRel : Rel β ρ (maskH (hid.getD i []) 0 (stFrom ops.toList es i st).h) w := by
    refine ⟨fun k c hk => ?_, D.inj, D.bd⟩
    obtain ⟨h1, h2⟩ := maskH_get hk
    rw [Nat.zero_add] at h2
    refine D.h k c ?_
    rw [lastW_A (fun j hj hne hf => ?_) hLi hil, ← canonB tr i (Nat.le_of_lt hil)]
    · exact h1
    · obtain ⟨e, h3, h4⟩ := fB_at k j hf
      refine both j hj hne ?_
      cases hc : cmp anc i j with
      | true => rfl
      | false =>
        have := (ck.blk i j e hil hj (Ne.symm hne) hc h3 k h4).1
        rw [h2] at this; cases this
  have hnb : β (st.h.length + i) = none := by
    cases hq : β (st.h.length + i) with
    | none => rfl
    | some n =>
      rcases D.dom _ n hq with h1 | ⟨j, _, h2, h3⟩
      · omega
      · have : j = i := by omega
        subst this; rw [hLi] at h2; cases h2
  have inv' := D.inv.set hi hil
  -- behind the operation
  have fin : ∀ (β' : Blocks) (v : Value) (w' : World), More β β' ρ ρ → den β' ρ (efV ef) = some v →
      w'.os = w.os → w'.tape = w.tape → w'.output = w.output → w.heap.size ≤ w'.heap.size →
      (∀ n, n < w.heap.size → (∀ k c, (k, c) ∈ efU ef → β k ≠ some n) → w'.heap[n]? = w.heap[n]?) →
      (∀ k c, (k, c) ∈ efU ef → ∃ n vs, β k = some n ∧ denL β' ρ c = some vs ∧ CellsAt n vs w') →
      (∀ k n, β' k = some n → β k = some n ∨ (k = st.h.length + i ∧ w.heap.size ≤ n ∧ n < w'.heap.size)) →
      (∀ c, efN ef = some c → ∃ n vs, β' (st.h.length + i) = some n ∧ denL β' ρ c = some vs ∧ CellsAt n vs w') →
      K (a.put o.dst v) w' := by
    intro β' v w' M hv h1 h2 h3 h4 h5 h6 h7 h8
    refine hK β' _ _ ⟨inv', fun t x hlt hx => ?_, ?_, fun k c hk => ?_, fun k l n hk hl => ?_, fun k n hk => ?_, fun k n hk => ?_, fun k n hk => M.b _ _ (D.b0 k n hk), fun k n hk h0 => ?_, h1.trans D.os, h2.trans D.tape, h3.trans D.output, Nat.le_trans D.size h4, fun n hn hw => ?_, ?_⟩
    · rw [lastW_B (L := fun i => listed.getD i false) (i := i) (fun j hj => listed_ne hj) (listed_i hls) hil (fun hf j hj hij hfj => ?_)] at hx
      · have hft : fT ops.toList es t i = if o.dst = some t then some (efV ef) else none := by unfold fT; rw [hol, hef]
        rw [hft] at hx
        by_cases hd : o.dst = some t
        · rw [if_pos hd] at hx
          simp at hx; subst hx
          refine ⟨v, hv, ?_⟩
          rw [hd]
          show (a.tmps.setIfInBounds t v)[t]? = some v
          rw [Array.getElem?_setIfInBounds_self_of_lt (by rw [D.sz]; exact hlt)]
        · rw [if_neg hd] at hx
          obtain ⟨u, g1, g2⟩ := D.tm t x hlt hx
          refine ⟨u, den_more M x g1, ?_⟩
          cases hdd : o.dst with
          | none => exact g2
          | some d =>
            show (a.tmps.setIfInBounds d v)[t]? = some u
            rw [Array.getElem?_setIfInBounds_ne (fun e => hd (by rw [hdd, e]))]; exact g2
      · obtain ⟨oj, g1, g2⟩ := fT_at t j hfj
        obtain ⟨oi, g3, g4⟩ := fT_at t i hf
        rw [ho] at g3; simp at g3; subst g3
        refine (both j hj (by omega) ?_).2 hij
        cases hc : cmp anc i j with
        | true => rfl
        | false => exact absurd g4 (ck.tmp i j o oj t (by omega) hc ho g1 g2).2
    · cases hdd : o.dst with
      | none => exact D.sz
      | some d => show (a.tmps.setIfInBounds d v).size = _; rw [Array.size_setIfInBounds]; exact D.sz
    · rw [lastW_B (L := fun i => listed.getD i false) (i := i) (fun j hj => listed_ne hj) (listed_i hls) hil (fun hf j hj hij hfj => ?_)] at hk
      · have hfb : fBk es st.h.length k i = if k = st.h.length + i then some (efN ef) else match updAt (efU ef) k with | some c => some (some c) | none => none := by unfold fBk; rw [hef]
        rw [hfb] at hk
        by_cases hkn : k = st.h.length + i
        · rw [if_pos hkn] at hk
          simp at hk
          subst hkn
          exact h8 c hk
        · rw [if_neg hkn] at hk
          cases hua : updAt (efU ef) k with
          | some d =>
            rw [hua] at hk
            simp at hk; subst hk
            obtain ⟨n, vs, g1, g2, g3⟩ := h6 k d (updAt_mem hua)
            exact ⟨n, vs, M.b _ _ g1, g2, g3⟩
          | none =>
            rw [hua] at hk
            dsimp only at hk
            obtain ⟨n, vs, g1, g2, g3⟩ := D.h k c hk
            have hbk := h5 n (D.bd k n g1) (fun k' c' hm hb' => by
              have := D.inj k' k n hb' g1
              subst this
              exact updAt_none hua _ hm)
            exact ⟨n, vs, M.b _ _ g1, denL_more M c g2, fun j u hj => by rw [cell_of_block hbk, frozen_of_block hbk]; exact g3 j u hj⟩
      · obtain ⟨e, g1, g2⟩ := fB_at k j hfj
        obtain ⟨e', g3, g4⟩ := fB_at k i hf
        refine (both j hj (by omega) ?_).2 hij
        cases hc : cmp anc i j with
        | true => rfl
        | false => exact absurd g4 ((ck.blk i j e hil hj (by omega) hc g1 k g2).2 e' g3)
    · rcases h7 k n hk with g1 | ⟨g1, g2, _⟩ <;> rcases h7 l n hl with k1 | ⟨k1, k2, _⟩
      · exact D.inj k l n g1 k1
      · have := D.bd k n g1; omega
      · have := D.bd l n k1; omega
      · omega
    · rcases h7 k n hk with g1 | ⟨_, _, g2⟩
      · exact Nat.lt_of_lt_of_le (D.bd k n g1) h4
      · exact g2
    · rcases h7 k n hk with g1 | ⟨g1, _, _⟩
      · rcases D.dom k n g1 with k1 | ⟨j, k1, k2, k3⟩
        · exact .inl k1
        · exact .inr ⟨j, k1, by
            by_cases hji : j = i
            · subst hji; exact listed_i hls
            · rw [listed_ne hji]; exact k2, k3⟩
      · exact .inr ⟨i, hil, listed_i hls, g1⟩
    · rcases h7 k n hk with g1 | ⟨_, g2, _⟩
      · exact D.new k n g1 h0
      · exact Nat.le_trans D.size g2
    · rw [h5 n (Nat.lt_of_lt_of_le hn D.size) fun k c hm hb' => ?_]
      · exact D.old n hn hw
      · have hmem := (wr_mono (l := ops.toList) (es := es) (st := st) tr.len).2 i ef hef (k, c) hm
        cases h0 : β0 k with
        | none => have := D.new k n hb' h0; omega
        | some m =>
          have := D.b0 k m h0
          rw [hb'] at this; simp at this; subst this
          exact hw k hmem h0
    · have := D.df
      cases o.dst <;> exact this
  unfold wpOp
  simp only [ho]
  have hgd : TmAt β ρ (stFrom ops.toList es i st).tm a (gdT ops o) := fun t ht v hv => readT t (by unfold reads; simp [ht]) v hv
  cases ef with
  | none =>
    have hg : guardOf ops (stFrom ops.toList es i st).tm o = .no := hok
    rw [guard_no hgd hg]
    exact fin β undef w (More.refl _ _) rfl rfl rfl rfl (Nat.le_refl _) (fun _ _ _ => rfl) (fun k c hm => by cases hm) (fun k n hk => .inl hk) (fun c hc => by cases hc)
  | some e =>
    obtain ⟨hg, v0, hev, hden⟩ := hok
    rw [guard_yes hgd hg]
    refine .inl ?_
    have hOps : Ops β ρ (stFrom ops.toList es i st).tm a o.op.operands.toList := fun t ht v hv => by
      obtain ⟨u, g1, g2⟩ := readT t (by unfold reads; simp; exact .inl ⟨.tmp t, by simpa using ht, rfl⟩) v hv
      rw [g1]
      simp only [Array.getD_eq_getD_getElem?, g2, Option.getD_some]
    have hD := evOp_ok (P := P) (o := o) (a := a) (w := w) (β := β) (ρ := ρ) hcts hev hOps hRel (by rw [hcl]; exact hnb) (hb i e hef) (hnd i e hef)
    refine hD K Q fun β' w' v hp hv => ?_
    have hn := hp.new
    rw [hcl] at hn
    have M : More β β' ρ ρ := by
      cases hen : e.new with
      | none => rw [hen] at hn; rw [show β' = β from hn]; exact More.refl _ _
      | some c => rw [hen] at hn; obtain ⟨n, vs, _, _, h3, _⟩ := hn; rw [h3]; exact More.new hnb ρ
    refine fin β' v w' M (show den β' ρ e.val = some v by rw [hden]; exact hv) hp.os hp.tape hp.output hp.size hp.old hp.upd (fun k n hk => ?_) (fun c hc => ?_)
    · cases hen : e.new with
      | none => rw [hen] at hn; rw [show β' = β from hn] at hk; exact .inl hk
      | some c =>
        rw [hen] at hn; obtain ⟨m, vs, g1, g2, g3, _⟩ := hn
        rw [g3] at hk
        unfold extB at hk
        split at hk
        · rename_i hq; simp at hk; subst hk; exact .inr ⟨hq, g1, g2⟩
        · exact .inl hk
    · have hc' : e.new = some c := hc
      rw [hc'] at hn
      obtain ⟨m, vs, g1, g2, g3, g4, g5⟩ := hn
      exact ⟨m, vs, by rw [g3, extB_same], g4, g5⟩

theorem wpAny_di {ρ : List U} {st : SF} {es : List (Option Eff)} {hid anc : List (List Nat)} (hcts : AllOk P cts) (tr : Tr P cts ops hid ρ es st) (ck : Chk ops anc hid es st.h.length) (ha : AncOk ops anc) (hback : backB ops ops.size = true)
    (hb : ∀ (j : Nat) (e : Eff), es[j]? = some (some e) → BindsAt ρ (stFrom ops.toList es j st).nv e.binds) (hnd : ∀ (j : Nat) (e : Eff), es[j]? = some (some e) → NeedsAt ρ e.needs) (hρ : ρ.length = (stFrom ops.toList es ops.toList.length st).nv)
    {Q : Exit → Act → World → Prop} (fin : ∀ β a w, SRel β0 w0 β ρ (stFrom ops.toList es ops.toList.length st) a w → Q .normal a w) :
    ∀ (m : Nat) (listed : Array Bool) (β : Blocks) (a : Act) (w : World), unl ops.size listed ≤ m → DI P ops β0 w0 ρ st es listed β a w → wpAny P .any ops Q m listed a w := by
  have done : ∀ (listed : Array Bool) (β : Blocks) (a : Act) (w : World), (∀ i, i < ops.size → listed.getD i true = true) → DI P ops β0 w0 ρ st es listed β a w → Region.ready .any ops listed = [] ∧ Q .normal a w := by
    intro listed β a w hall D
    have hall' : ∀ i, i < ops.size → listed.getD i false = true := fun i hi => by
      have h1 := hall i hi
      have h2 : i < listed.size := by rw [D.inv.size]; exact hi
      simp [h2] at h1 ⊢; exact h1
    refine ⟨?_, fin β a w (dinv_done tr D hall' hρ)⟩
    rw [List.eq_nil_iff_forall_not_mem]
    intro i hi
    obtain ⟨hun, o, ho, _⟩ := mem_ready.1 hi
    have hlt : i < ops.size := (Array.getElem?_eq_some_iff.1 ho).1
    rw [hall i hlt] at hun; cases hun
  intro m
  induction m with
  | zero =>
    intro listed β a w hm D
    refine done listed β a w (fun i hi => ?_) D
    cases hv : listed.getD i true with
    | true => rfl
    | false => have := unl_set hi hv; omega
  | succ m ih =>
    intro listed β a w hm D
    refine ⟨fun h0 => (done listed β a w (fun i hi => ?_) D).2, fun i hi => ?_⟩
    · cases hv : listed.getD i true with
      | true => rfl
      | false =>
        obtain ⟨j, _, hj⟩ := some_ready' hback D.inv.size i i (Nat.le_refl _) hi hv
        rw [h0] at hj; cases hj
    · obtain ⟨hun, o, ho, hall⟩ := mem_ready.1 hi
      have hin : i < ops.size := (Array.getElem?_eq_some_iff.1 ho).1
      refine D.step hcts tr ck ha hb hnd hi fun β' a' w' D' => ih _ β' a' w' ?_ D'
      have := unl_set hin hun; omega

/-- Drawn regions. -/
def drD (P : Program) (cts : List (Nat × Ct)) (ops : Array Oper) (st : SF) (k : SF → T) : T := if backB ops ops.size = true then drawnT P cts ops st k else .bad 13
theorem drD_ok (hcts : AllOk P cts) (hm : P.follows .mixedOrders = true) : DrOk P (drD P cts) := by
  intro Q L β0 w0 id ops k Qx hk β ρ st a w hh S
  have hh : T.holdsL Q (if backB ops ops.size = true then drawnT P cts ops st k else T.bad 13) L ρ := hh
  split at hh
  · rename_i hback
    unfold drawnT at hh
    dsimp only at hh
    obtain ⟨σ, es, hfin, hlen, h2, h3, h4, hat⟩ := traceT_ok hh S.nv
    rw [List.nil_append] at hfin
    split at hfin
    · rename_i hokd
      · · · have h5 := hfin
            obtain ⟨ck, hupd⟩ := okD_chk hokd hlen
            have tr : Tr P cts ops _ (ρ ++ σ) es st := ⟨hlen, fun j o hj => by have := hat j o hj; rwa [Nat.zero_add] at this, hupd⟩
            have ha : AncOk ops (ancs ops.toList []) := ancs_ok ops _ [] (fun j o hj => by simpa using hj) (fun i j hj => by simp at hj)
            refine wp_region_any hm ?_
            have hw : ({ w with drawn := w.drawn + 1 } : World).heap = w.heap := rfl
            have hnvl : (ρ ++ σ).length = (stFrom ops.toList es ops.toList.length st).nv := by rw [List.length_append, S.nv, h2, stFrom_nv hlen]
            have S' := S.more σ (nv := st.nv + nvB (allB es)) (by rw [S.nv, h2])
            have hfl : ∀ i, (Array.replicate ops.size false).getD i false = false := fun i => getD_replicate_false _ _
            refine wpAny_di (P := P) (cts := cts) (ops := ops) (β0 := β0) (w0 := w0) (ρ := ρ ++ σ) (st := st) (es := es) hcts tr ck ha hback
              (fun j e hj => allB_at hlen (by rw [← S.nv]; exact h3) j e hj) (fun j e hj => allN_at h4 j e hj) hnvl (fun β' a' w' S2 => hk β' (ρ ++ σ) _ a' w' h5 S2)
              ops.size _ β a _ (by unfold unl; exact Nat.le_trans (List.length_filter_le _ _) (by simp))
              ⟨⟨by simp, fun j oj _ hl => (by rw [hfl] at hl; cases hl), fun t _ ht => getD_in (by simpa using ht) (hfl t)⟩, fun t v hlt hv => ?_, S'.sz, fun k c hk' => ?_, S'.inj, S'.bd, fun k n hk' => ?_, S'.b0, S'.new, S'.os, S'.tape, S'.output, S'.size, fun n hn hwr => ?_, S'.df⟩
            · rw [lastW_none (fun j _ => hfl j)] at hv
              exact S'.tm t v hv
            · rw [lastW_none (fun j _ => hfl j)] at hk'
              exact S'.h k c hk'
            · refine .inl ?_
              rcases Nat.lt_or_ge k st.h.length with h6 | h6
              · exact h6
              · have := S'.dom k h6; rw [hk'] at this; cases this
            · exact S'.old n hn fun k hk' => hwr k ((wr_mono (l := ops.toList) (es := es) (st := st) hlen).1 k hk')
    · exact hfin.elim
  · exact hh.elim
end
end Go.Proofs.Ythfgdhobldejmaa
