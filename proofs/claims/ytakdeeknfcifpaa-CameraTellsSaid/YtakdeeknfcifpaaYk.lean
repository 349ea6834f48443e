/- A reckoning of programs by symbols: functions that answer at once; a law's call. -/
import Derived.Test.YtakdeeknfcifpaaYh
namespace Go.Proofs.Ytakdeeknfcifpaa
open Go Go.RowKit


/-! One way of a tree -/
def pT (us : List U) : Bool := match us with
  | [.b x] => x
  | _ => false
def pF (us : List U) : Bool := match us with
  | [.b x] => !x
  | _ => false
def T.prune : T → List Bool → T
  | .ite e t _, true :: o => .need ⟨pT, [e]⟩ (t.prune o)
  | .ite e _ f, false :: o => .need ⟨pF, [e]⟩ (f.prune o)
  | .bind b t, o => .bind b (t.prune o)
  | .need n t, o => .need n (t.prune o)
  | .pick t, o => .pick (t.prune o)
  | t, _ => t
theorem evs_one {ρ : List U} {e : E} {us : List U} (h : evs ρ [e] = some us) : ∃ u, us = [u] ∧ e.ev ρ = some u := by
  unfold evs at h
  split at h
  · rename_i u us1 h1 h2
    simp [evs] at h2; subst h2
    simp at h; exact ⟨u, h.symm, h1⟩
  · simp at h
theorem T.prune_holds {Q : List U → Ex → SF → Prop} {L : List (List U → Prop)} : ∀ (t : T) (o : List Bool) {ρ : List U}, (t.prune o).holdsL Q L ρ → t.holdsL Q L ρ
  | .ite e t f, true :: o, ρ, h => by
    have h' : (match evs ρ [e] with | some us => pT us = true | none => False) ∧ (t.prune o).holdsL Q L ρ := h
    obtain ⟨h1, h2⟩ := h'
    split at h1
    · rename_i us hus
      obtain ⟨u, rfl, hu⟩ := evs_one hus
      cases u with
      | b x =>
        have hx : x = true := h1
        exact T.ite_t hu hx (T.prune_holds t o h2)
      | _ => simp [pT] at h1
    · exact h1.elim
  | .ite e t f, false :: o, ρ, h => by
    have h' : (match evs ρ [e] with | some us => pF us = true | none => False) ∧ (f.prune o).holdsL Q L ρ := h
    obtain ⟨h1, h2⟩ := h'
    split at h1
    · rename_i us hus
      obtain ⟨u, rfl, hu⟩ := evs_one hus
      cases u with
      | b x =>
        have hx : (!x) = true := h1
        exact T.ite_f hu (by simpa using hx) (T.prune_holds f o h2)
      | _ => simp [pF] at h1
    · exact h1.elim
  | .bind b t, o, ρ, h => by
    have h' : (match evs ρ b.args with | some us => (t.prune o).holdsL Q L (ρ ++ resl b us) | none => False) := h
    unfold T.holdsL
    split at h'
    · rename_i us hus; rw [hus]; exact T.prune_holds t o h'
    · exact h'.elim
  | .need n t, o, ρ, h => by
    unfold T.holdsL
    exact ⟨h.1, T.prune_holds t o h.2⟩
  | .pick t, o, ρ, h => fun x hx => T.prune_holds t o (h x hx)
  | .ite e t f, [], ρ, h => h
  | .done x st, o, ρ, h => h
  | .bad n, o, ρ, h => h
  | .loop ks es b, o, ρ, h => h
  | .again es, o, ρ, h => h
  | .out t, o, ρ, h => h

/-- A law's end: it tells true. -/
def LawQ (ρ : List U) (_ : Ex) (st : SF) : Prop := match st.tm with
  | [.bo e] => e.ev ρ = some (.b true)
  | _ => False
theorem law_calls {P : Program} {cts : List (Nat × Ct)} {dr : Array Oper → SF → (SF → T) → T} (hcts : AllOk P cts) (hdr : DrOk P dr) {f : Nat} {fn : Func} (hf : P.funcs[f]? = some fn) (lh : List (Nat × LHint)) (fuel m : Nat) {args : List AV} {us : List U} {w : World} {vs : List Value}
    (hm : us.length = m) {t : T} (o : List Bool) (ht : (evF P cts dr lh fuel fn m [] args none).prune o = t) (hh : t.holds LawQ us) (hv : denL (fun _ => none) us args = some vs) :
    Calls P f vs.toArray w fun e w' => e = .returned (.bool true) ∧ Below w.heap.size w w' := by
  subst ht
  have hh := T.prune_holds _ o hh
  refine (calls_eval (β := fun _ => none) hcts hdr hf fuel m hm hh (fun k l n h _ => by cases h) (fun k n h => by cases h) (fun _ _ => rfl) (fun k c hc => by simp at hc) hv).mono fun e w' ⟨β', ρ', st', a', r, v, S, hq, hr, he⟩ => ?_
  have hq' : (match [r] with | [.bo e] => e.ev ρ' = some (.b true) | _ => False) := hq
  split at hq'
  · rename_i e0 heq
    simp at heq; subst heq
    rw [bo_den hq'] at hr
    simp at hr; subst hr
    exact ⟨he, S.os, S.tape, S.output, S.size, fun n hn => S.old n hn fun k _ h => by cases h⟩
  · exact hq'.elim

def ctBits : Ct := ctP 1 [vf 0] (fun us _ => .i (gF us 0 : Nat)) 1 (vi .u64 1)
theorem bits_ct : CtOk Try.prog 41 ctBits := by
  refine ctX_ok Try.func41 (by decide) rfl (by kernel_rfl) (e := Extern.MathFloatBits.float64bits) (by kernel_rfl) rfl rfl (fun us w vs hl hv _ => ?_) rfl
  match us, hl with
  | [u0], _ =>
    obtain ⟨x, y, hx, hy, rfl⟩ := denL_cons.1 hv
    rw [denL_nil.1 hy]
    obtain ⟨a1, e1, w1, rfl⟩ := den_fl hx
    simp [E.ev] at e1; subst e1
    exact ⟨.int .u64 (a1 : Nat), rfl, rfl⟩
def nFrom (us : List U) : Bool := decide ((gI us 0).toNat < W64)
def ctFrom : Ct := ctP 1 [vi .u64 0] (fun us _ => .f (gI us 0).toNat) 1 (vf 1) [⟨nFrom, [.v 0]⟩]
theorem from_ct : CtOk Try.prog 45 ctFrom := by
  refine ctX_ok Try.func45 (by decide) rfl (by kernel_rfl) (e := Extern.MathFloatBits.float64frombits) (by kernel_rfl) rfl rfl (fun us w vs hl hv hn => ?_) rfl
  match us, hl with
  | [u0], _ =>
    obtain ⟨x, y, hx, hy, rfl⟩ := denL_cons.1 hv
    rw [denL_nil.1 hy]
    obtain ⟨a1, e1, rfl⟩ := den_it hx
    simp [E.ev] at e1; subst e1
    obtain ⟨xs, h1, h2⟩ := hn _ (List.mem_singleton.2 rfl)
    simp [evs, E.ev] at h1; subst h1
    have h3 : a1.toNat < W64 := of_decide_eq_true h2
    exact ⟨.float .f64 a1.toNat, fl_den rfl h3, rfl⟩

/-! Contracts out of trees alone -/
theorem evs_split {ρ : List U} : ∀ {l m : List E} {us : List U}, evs ρ (l ++ m) = some us → ∃ a b, evs ρ l = some a ∧ evs ρ m = some b ∧ us = a ++ b
  | [], m, us, h => ⟨[], us, rfl, h, rfl⟩
  | e :: l, m, us, h => by
    have h' : evs ρ (e :: (l ++ m)) = some us := h
    unfold evs at h'
    split at h'
    · rename_i u us1 h1 h2
      simp at h'; subst h'
      obtain ⟨a, b, g1, g2, rfl⟩ := evs_split h2
      exact ⟨u :: a, b, by unfold evs; rw [h1, g1], g2, rfl⟩
    · simp at h'
mutual
def plainV : AV → Bool
  | .fn _ _ _ => false
  | .val _ _ => false
  | .str _ => false
  | .agg l => plainL l
  | .tup l => plainL l
  | _ => true
def plainL : List AV → Bool
  | [] => true
  | v :: l => plainV v && plainL l
end
mutual
theorem genV_eq {ρ σ : List U} : ∀ (v : AV) {n : Nat} {v' : AV} {ks : List Kd} {es : List E} {us : List U}, genV true n v = some (v', ks, es) → plainV v = true → evs ρ es = some us → At σ n us → EqV ρ σ v v'
  | .fl e, n, v', ks, es, us, h, hp, he, hA => by
    unfold genV at h
    simp at h; obtain ⟨rfl, rfl, rfl⟩ := h
    unfold evs at he
    split at he
    · rename_i u us1 h1 h2
      simp [evs] at he h2; subst h2; subst he
      show e.ev ρ = σ[n]?
      rw [h1, show σ[n]? = some u from hA 0 u rfl]
    · simp at he
  | .it k e, n, v', ks, es, us, h, hp, he, hA => by
    unfold genV at h
    simp at h; obtain ⟨rfl, rfl, rfl⟩ := h
    unfold evs at he
    split at he
    · rename_i u us1 h1 h2
      simp [evs] at he h2; subst h2; subst he
      show k = k ∧ e.ev ρ = σ[n]?
      exact ⟨rfl, by rw [h1, show σ[n]? = some u from hA 0 u rfl]⟩
    · simp at he
  | .bo e, n, v', ks, es, us, h, hp, he, hA => by
    unfold genV at h
    simp at h; obtain ⟨rfl, rfl, rfl⟩ := h
    unfold evs at he
    split at he
    · rename_i u us1 h1 h2
      simp [evs] at he h2; subst h2; subst he
      show e.ev ρ = σ[n]?
      rw [h1, show σ[n]? = some u from hA 0 u rfl]
    · simp at he
  | .agg l, n, v', ks, es, us, h, hp, he, hA => by
    unfold genV at h
    split at h
    · rename_i hl
      simp at h; obtain ⟨rfl, rfl, rfl⟩ := h
      exact genVs_eq l hl hp he hA
    · simp at h
  | .tup l, n, v', ks, es, us, h, hp, he, hA => by
    unfold genV at h
    split at h
    · rename_i hl
      simp at h; obtain ⟨rfl, rfl, rfl⟩ := h
      exact genVs_eq l hl hp he hA
    · simp at h
  | .ptr b o, n, v', ks, es, us, h, hp, he, hA => by unfold genV at h; simp [varsIn] at h; obtain ⟨rfl, rfl, rfl⟩ := h; exact ⟨rfl, rfl⟩
  | .pnil, n, v', ks, es, us, h, hp, he, hA => by unfold genV at h; simp [varsIn] at h; obtain ⟨rfl, rfl, rfl⟩ := h; trivial
  | .slc b o x y, n, v', ks, es, us, h, hp, he, hA => by unfold genV at h; simp [varsIn] at h; obtain ⟨rfl, rfl, rfl⟩ := h; exact ⟨rfl, rfl, rfl, rfl⟩
  | .snil, n, v', ks, es, us, h, hp, he, hA => by unfold genV at h; simp [varsIn] at h; obtain ⟨rfl, rfl, rfl⟩ := h; trivial
  | .fn f a c, n, v', ks, es, us, h, hp, he, hA => by simp [plainV] at hp
  | .fnil, n, v', ks, es, us, h, hp, he, hA => by unfold genV at h; simp [varsIn] at h; obtain ⟨rfl, rfl, rfl⟩ := h; trivial
  | .und, n, v', ks, es, us, h, hp, he, hA => by unfold genV at h; simp [varsIn] at h; obtain ⟨rfl, rfl, rfl⟩ := h; trivial
  | .str s, n, v', ks, es, us, h, hp, he, hA => by simp [plainV] at hp
  | .val e t, n, v', ks, es, us, h, hp, he, hA => by simp [plainV] at hp
theorem genVs_eq {ρ σ : List U} : ∀ (l : List AV) {n : Nat} {l' : List AV} {ks : List Kd} {es : List E} {us : List U}, genVs true n l = some (l', ks, es) → plainL l = true → evs ρ es = some us → At σ n us → EqL ρ σ l l'
  | [], n, l', ks, es, us, h, hp, he, hA => by unfold genVs at h; simp at h; obtain ⟨rfl, rfl, rfl⟩ := h; trivial
  | v :: l, n, l', ks, es, us, h, hp, he, hA => by
    unfold genVs at h
    rw [plainL, Bool.and_eq_true] at hp
    split at h
    · rename_i v1 k1 e1 h1
      split at h
      · rename_i l2 k2 e2 h2
        simp at h; obtain ⟨rfl, rfl, rfl⟩ := h
        obtain ⟨us1, us2, g1, g2, rfl⟩ := evs_split he
        exact ⟨genV_eq v h1 hp.1 g1 hA.left, genVs_eq l h2 hp.2 g2 (hA.right (evs_len g1))⟩
      · simp at h
    · simp at h
end
/-- The numbers at the end that is come to. -/
def leafN (m : Nat) (shape : AV) (t : T) (us : List U) : Option (List U) := match t.exec us with
  | some (ρ, _, st) => match st.tm with
    | [r] => match genV true m r with
      | some (v, _, es) => if (v.same shape && plainV r && st.wr.isEmpty) = true then evs ρ es else none
      | none => none
    | _ => none
  | none => none
/-- A function's contract: what its tree comes to. -/
def ctT (m : Nat) (args : List AV) (t : T) (shape : AV) (k : Nat) : Ct :=
  ⟨m, [], args, { binds := [⟨fun us i => ((leafN m shape t us).getD []).getD i .no, k, upto 0 m⟩], needs := [⟨fun us => match leafN m shape t us with | some ns => Nat.beq ns.length k | none => false, upto 0 m⟩], val := shape }⟩
theorem ctT_ok {P : Program} {cts : List (Nat × Ct)} {dr : Array Oper → SF → (SF → T) → T} (hcts : AllOk P cts) (hdr : DrOk P dr) {f : Nat} {fn : Func} (hf : P.funcs[f]? = some fn) (hb : fn.body.isSome = true) (hn : (fn.name == "runtime.NumGoroutine") = false) (fuel m : Nat) (args : List AV) (t : T) (shape : AV) (k : Nat)
    (ht : evF P cts dr [] fuel fn m [] args none = t) (hct : ctB (ctT m args t shape k) none = true) (hv0 : (args.all fun a => varsIn m a) = true) : CtOk P f (ctT m args t shape k) := by
  refine CtOk.of_eval2 hcts hdr hf hb hn [] fuel hct rfl t ht hv0 rfl (fun us hl _ _ hN => ?_)
  have hlm : us.length = m := hl
  have hup : ∀ σ, (∀ (i : Nat) (u : U), us[i]? = some u → σ[i]? = some u) → evs σ (upto 0 m) = some us := fun σ hσ => by
    have := evs_upto σ us 0 (fun i u hi => by rw [Nat.zero_add]; exact hσ i u hi)
    rwa [show us.length = m from hl] at this
  have hself := hup us (fun _ _ h => h)
  have hrun : runB (ctT m args t shape k).eff.binds us = us ++ (List.range k).map fun i => ((leafN m shape t us).getD []).getD i .no := by
    show runB [⟨_, k, upto 0 m⟩] us = _
    unfold runB
    dsimp only
    rw [hself]; rfl
  obtain ⟨xs, h1, h2⟩ := hN _ (List.mem_singleton.2 rfl)
  have h1' : evs (runB (ctT m args t shape k).eff.binds us) (upto 0 m) = some xs := h1
  rw [hup _ (fun i u hi => by rw [hrun, List.getElem?_append_left (List.getElem?_eq_some_iff.1 hi).1]; exact hi)] at h1'
  simp at h1'; subst h1'
  have h2' : (match leafN m shape t us with | some ns => Nat.beq ns.length k | none => false) = true := h2
  rw [hrun]
  split at h2'
  · rename_i ns hns
    have hk : ns.length = k := Nat.eq_of_beq_eq_true h2'
    rw [hns]
    unfold leafN at hns
    split at hns
    · rename_i ρ' x st hex
      split at hns
      · rename_i r hr
        split at hns
        · rename_i v ks es hg
          split at hns
          · rename_i hc
            simp only [Bool.and_eq_true] at hc
            refine T.exec_holds t hex ?_
            have hsame := AV.same_eq _ _ hc.1.1
            have hwr : st.wr = [] := by simpa using hc.2
            unfold Leaf2
            rw [hr, hwr]
            refine ⟨?_, trivial, rfl⟩
            show EqV ρ' _ r shape
            rw [← hsame]
            refine genV_eq r hg hc.1.2 hns (fun i u hi => ?_)
            have hlt : i < ns.length := (List.getElem?_eq_some_iff.1 hi).1
            rw [List.getElem?_append_right (by rw [hlm]; show m ≤ m + i; omega), hlm, show m + i - m = i by omega, List.getElem?_map, List.getElem?_range (by omega)]
            simp [List.getD_eq_getElem?_getD, hi]
          · simp at hns
        · simp at hns
      · simp at hns
    · simp at hns
  · simp at h2'
/-- A law that tells true whatever comes: its closed way. -/
def lawB (t : T) : Bool := match t.exec [] with
  | some (ρ, _, st) => match st.tm with
    | [.bo e] => match e.ev ρ with
      | some (.b x) => x && st.wr.isEmpty
      | _ => false
    | _ => false
  | none => false
def ctTrue : Ct := ⟨0, [], [], { val := .bo (.l (.b true)) }⟩
theorem lawB_holds {t : T} (h : lawB t = true) : t.holds (Leaf2 ctTrue []) [] := by
  unfold lawB at h
  split at h
  · rename_i ρ x st hex
    split at h
    · rename_i e hst
      split at h
      · rename_i y hy
        rw [Bool.and_eq_true] at h
        obtain ⟨rfl, hw⟩ := h
        refine T.exec_holds t hex ?_
        unfold Leaf2
        rw [hst, show st.wr = [] by simpa using hw]
        exact ⟨hy, trivial, rfl⟩
      · simp at h
    · simp at h
  · simp at h
theorem ctTrue_ok {P : Program} {cts : List (Nat × Ct)} {dr : Array Oper → SF → (SF → T) → T} (hcts : AllOk P cts) (hdr : DrOk P dr) {f : Nat} {fn : Func} (hf : P.funcs[f]? = some fn) (hb : fn.body.isSome = true) (hn : (fn.name == "runtime.NumGoroutine") = false) (fuel : Nat) (t : T)
    (ht : evF P cts dr [] fuel fn 0 [] [] none = t) (h : lawB t = true) : CtOk P f ctTrue :=
  CtOk.of_eval2 hcts hdr hf hb hn [] fuel rfl rfl t ht rfl rfl (fun us hl _ _ _ => by
    have : us = [] := List.length_eq_zero_iff.1 hl
    subst this; exact lawB_holds h)

theorem agg_mk {β : Blocks} {ρ : List U} {l : List AV} {x : List Value} (h : denL β ρ l = some x) : den β ρ (.agg l) = some (.agg x.toArray) := by unfold den; rw [h]
end Go.Proofs.Ytakdeeknfcifpaa
