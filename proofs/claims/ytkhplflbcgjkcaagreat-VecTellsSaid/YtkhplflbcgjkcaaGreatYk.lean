/- A reckoning of programs by symbols: functions that answer at once; a law's call. -/
import Derived.Test.YtkhplflbcgjkcaaGreatYh
namespace Go.Proofs.YtkhplflbcgjkcaaGreat
open Go Go.RowKit
def pT (us : List U) : Bool := match us with
 | [.b x] => x
 | _ => false
def pF (us : List U) : Bool := match us with
 | [.b x] => !x
 | _ => false
def T.prune : T → List Bool → T
 | .ite e t _, true :: o => .need ⟨pT, [e]⟩ (t.prune o)
 | .ite e _ f, false :: o => .need ⟨pF, [e]⟩ (f.prune o)
 | .bind b t, o => .bind b (t.prune o)
 | .need n t, o => .need n (t.prune o)
 | .pick t, o => .pick (t.prune o)
 | t, _ => t
theorem evs_one {ρ : List U} {e : E} {us : List U} (h : evs ρ [e] = some us) : ∃ u, us = [u] ∧ e.ev ρ = some u := by
 unfold evs at h
 split at h
 ·rename_i u us1 h1 h2
  simp [evs] at h2; subst h2
  simp at h; exact ⟨u, h.symm, h1⟩
 ·simp at h
theorem T.prune_holds {Q : List U → Ex → SF → Prop} {L : List (List U → Prop)} : ∀ (t : T) (o : List Bool) {ρ : List U}, (t.prune o).holdsL Q L ρ → t.holdsL Q L ρ
 | .ite e t f, true :: o, ρ, h => by
  have h' : (match evs ρ [e] with | some us => pT us = true | none => False) ∧ (t.prune o).holdsL Q L ρ := h
  obtain ⟨h1, h2⟩ := h'
  split at h1
  ·rename_i us hus
   obtain ⟨u, rfl, hu⟩ := evs_one hus
   cases u with
   | b x =>
    have hx : x = true := h1
    exact T.ite_t hu hx (T.prune_holds t o h2)
   | _ => simp [pT] at h1
  ·exact h1.elim
 | .ite e t f, false :: o, ρ, h => by
  have h' : (match evs ρ [e] with | some us => pF us = true | none => False) ∧ (f.prune o).holdsL Q L ρ := h
  obtain ⟨h1, h2⟩ := h'
  split at h1
  ·rename_i us hus
   obtain ⟨u, rfl, hu⟩ := evs_one hus
   cases u with
   | b x =>
    have hx : (!x) = true := h1
    exact T.ite_f hu (by simpa using hx) (T.prune_holds f o h2)
   | _ => simp [pF] at h1
  ·exact h1.elim
 | .bind b t, o, ρ, h => by
  have h' : (match evs ρ b.args with | some us => (t.prune o).holdsL Q L (ρ ++ resl b us) | none => False) := h
  unfold T.holdsL
  split at h'
  ·rename_i us hus; rw [hus]; exact T.prune_holds t o h'
  ·exact h'.elim
 | .need n t, o, ρ, h => by
  unfold T.holdsL
  exact ⟨h.1, T.prune_holds t o h.2⟩
 | .pick t, o, ρ, h => fun x hx => T.prune_holds t o (h x hx)
 | .ite e t f, [], ρ, h => h
 | .done x st, o, ρ, h => h
 | .bad n, o, ρ, h => h
 | .loop ks es b, o, ρ, h => h
 | .again es, o, ρ, h => h
 | .out t, o, ρ, h => h
def LawQ (ρ : List U) (_ : Ex) (st : SF) : Prop := match st.tm with
 | [.bo e] => e.ev ρ = some (.b true)
 | _ => False
theorem law_calls {P : Program} {cts : List (Nat × Ct)} {dr : Array Oper → SF → (SF → T) → T} (hcts : AllOk P cts) (hdr : DrOk P dr) {f : Nat} {fn : Func} (hf : P.funcs[f]? = some fn) (lh : List (Nat × LHint)) (fuel m : Nat) {args : List AV} {us : List U} {w : World} {vs : List Value}
  (hm : us.length = m) {t : T} (o : List Bool) (ht : (evF P cts dr lh fuel fn m [] args none).prune o = t) (hh : t.holds LawQ us) (hv : denL (fun _ => none) us args = some vs) :
  Calls P f vs.toArray w fun e w' => e = .returned (.bool true) ∧ Below w.heap.size w w' := by
 subst ht
 have hh := T.prune_holds _ o hh
 refine (calls_eval (β := fun _ => none) hcts hdr hf fuel m hm hh (fun k l n h _ => by cases h) (fun k n h => by cases h) (fun _ _ => rfl) (fun k c hc => by simp at hc) hv).mono fun e w' ⟨β', ρ', st', a', r, v, S, hq, hr, he⟩ => ?_
 have hq' : (match [r] with | [.bo e] => e.ev ρ' = some (.b true) | _ => False) := hq
 split at hq'
 ·rename_i e0 heq
  simp at heq; subst heq
  rw [bo_den hq'] at hr
  simp at hr; subst hr
  exact ⟨he, S.os, S.tape, S.output, S.size, fun n hn => S.old n hn fun k _ h => by cases h⟩
 ·exact hq'.elim
def ctBits : Ct := ctP 1 [vf 0] (fun us _ => .i (gF us 0 : Nat)) 1 (vi .u64 1)
theorem bits_ct : CtOk Tryz.prog 62 ctBits := by
 refine ctX_ok Tryz.func62 (by decide) rfl (by kernel_rfl) (e := Extern.MathFloatBits.float64bits) (by kernel_rfl) rfl rfl (fun us w vs hl hv _ => ?_) rfl
 match us, hl with
 | [u0], _ =>
  obtain ⟨x, y, hx, hy, rfl⟩ := denL_cons.1 hv
  rw [denL_nil.1 hy]
  obtain ⟨a1, e1, w1, rfl⟩ := den_fl hx
  simp [E.ev] at e1; subst e1
  exact ⟨.int .u64 (a1 : Nat), rfl, rfl⟩
def nFrom (us : List U) : Bool := decide ((gI us 0).toNat < W64)
def ctFrom : Ct := ctP 1 [vi .u64 0] (fun us _ => .f (gI us 0).toNat) 1 (vf 1) [⟨nFrom, [.v 0]⟩]
theorem from_ct : CtOk Tryz.prog 144 ctFrom := by
 refine ctX_ok Tryz.func144 (by decide) rfl (by kernel_rfl) (e := Extern.MathFloatBits.float64frombits) (by kernel_rfl) rfl rfl (fun us w vs hl hv hn => ?_) rfl
 match us, hl with
 | [u0], _ =>
  obtain ⟨x, y, hx, hy, rfl⟩ := denL_cons.1 hv
  rw [denL_nil.1 hy]
  obtain ⟨a1, e1, rfl⟩ := den_it hx
  simp [E.ev] at e1; subst e1
  obtain ⟨xs, h1, h2⟩ := hn _ (List.mem_singleton.2 rfl)
  simp [evs, E.ev] at h1; subst h1
  have h3 : a1.toNat < W64 := of_decide_eq_true h2
  exact ⟨.float .f64 a1.toNat, fl_den rfl h3, rfl⟩
def lawB (t : T) : Bool := match t.exec [] with
 | some (ρ, _, st) => match st.tm with
  | [.bo e] => match e.ev ρ with
   | some (.b x) => x && st.wr.isEmpty
   | _ => false
  | _ => false
 | none => false
def ctTrue : Ct := ⟨0, [], [], { val := .bo (.l (.b true)) }⟩
theorem lawB_holds {t : T} (h : lawB t = true) : t.holds (Leaf2 ctTrue []) [] := by
 unfold lawB at h
 split at h
 ·rename_i ρ x st hex
  split at h
  ·rename_i e hst
   split at h
   ·rename_i y hy
    rw [Bool.and_eq_true] at h
    obtain ⟨rfl, hw⟩ := h
    refine T.exec_holds t hex ?_
    unfold Leaf2
    rw [hst, show st.wr = [] by simpa using hw]
    exact ⟨hy, trivial, rfl⟩
   ·simp at h
  ·simp at h
 ·simp at h
theorem ctTrue_ok {P : Program} {cts : List (Nat × Ct)} {dr : Array Oper → SF → (SF → T) → T} (hcts : AllOk P cts) (hdr : DrOk P dr) {f : Nat} {fn : Func} (hf : P.funcs[f]? = some fn) (hb : fn.body.isSome = true) (hn : (fn.name == "runtime.NumGoroutine") = false) (fuel : Nat) (t : T)
  (ht : evF P cts dr [] fuel fn 0 [] [] none = t) (h : lawB t = true) : CtOk P f ctTrue :=
 CtOk.of_eval2 hcts hdr hf hb hn [] fuel rfl rfl t ht rfl rfl (fun us hl _ _ _ => by
  have : us = [] := List.length_eq_zero_iff.1 hl
  subst this; exact lawB_holds h)
theorem agg_mk {β : Blocks} {ρ : List U} {l : List AV} {x : List Value} (h : denL β ρ l = some x) : den β ρ (.agg l) = some (.agg x.toArray) := by unfold den; rw [h]
end Go.Proofs.YtkhplflbcgjkcaaGreat
