/- A reckoning of programs by symbols: ways of a law that fork and meet again. -/
import Derived.Test.YtiphdhpacklboaaYw
namespace Go.Proofs.Ytiphdhpacklboaa
open Go Go.RowKit
/-- Which ways of a tree are looked at. -/
inductive Orc where
  | stop
  | t (o : Orc)
  | f (o : Orc)
  | both (a b : Orc)
def T.pr : T → Orc → T
  | .ite e t _, .t o => .need ⟨pT, [e]⟩ (t.pr o)
  | .ite e _ f, .f o => .need ⟨pF, [e]⟩ (f.pr o)
  | .ite e t f, .both a b => .ite e (t.pr a) (f.pr b)
  | .bind b t, o => .bind b (t.pr o)
  | .need n t, o => .need n (t.pr o)
  | .pick t, o => .pick (t.pr o)
  | t, _ => t
theorem T.pr_holds {Q : List U → Ex → SF → Prop} {L : List (List U → Prop)} : ∀ (t : T) (o : Orc) {ρ : List U}, (t.pr o).holdsL Q L ρ → t.holdsL Q L ρ
  | .ite e t f, .t o, ρ, h => by
    have h' : (match evs ρ [e] with | some us => pT us = true | none => False) ∧ (t.pr o).holdsL Q L ρ := h
    obtain ⟨h1, h2⟩ := h'
    split at h1
    · rename_i us hus
      obtain ⟨u, rfl, hu⟩ := evs_one hus
      cases u with
      | b x =>
        have hx : x = true := h1
        exact T.ite_t hu hx (T.pr_holds t o h2)
      | _ => simp [pT] at h1
    · exact h1.elim
  | .ite e t f, .f o, ρ, h => by
    have h' : (match evs ρ [e] with | some us => pF us = true | none => False) ∧ (f.pr o).holdsL Q L ρ := h
    obtain ⟨h1, h2⟩ := h'
    split at h1
    · rename_i us hus
      obtain ⟨u, rfl, hu⟩ := evs_one hus
      cases u with
      | b x =>
        have hx : (!x) = true := h1
        exact T.ite_f hu (by simpa using hx) (T.pr_holds f o h2)
      | _ => simp [pF] at h1
    · exact h1.elim
  | .ite e t f, .both a b, ρ, h => by
    have h' : (match e.ev ρ with | some (.b x) => (x = true → (t.pr a).holdsL Q L ρ) ∧ (x = false → (f.pr b).holdsL Q L ρ) | _ => False) := h
    split at h'
    · rename_i x hx
      exact T.ite_i hx (fun k => T.pr_holds t a (h'.1 k)) (fun k => T.pr_holds f b (h'.2 k))
    · exact h'.elim
  | .bind b t, o, ρ, h => by
    have h' : (match evs ρ b.args with | some us => (t.pr o).holdsL Q L (ρ ++ resl b us) | none => False) := h
    unfold T.holdsL
    split at h'
    · rename_i us hus; rw [hus]; exact T.pr_holds t o h'
    · exact h'.elim
  | .need n t, o, ρ, h => by
    unfold T.holdsL
    exact ⟨h.1, T.pr_holds t o h.2⟩
  | .pick t, o, ρ, h => fun x hx => T.pr_holds t o (h x hx)
  | .ite e t f, .stop, ρ, h => h
  | .done x st, o, ρ, h => h
  | .bad n, o, ρ, h => h
  | .loop ks es b, o, ρ, h => h
  | .again es, o, ρ, h => h
  | .out t, o, ρ, h => h
theorem T.prune_nil : ∀ t : T, t.prune [] = t
  | .ite e t f => rfl
  | .bind b t => by show T.bind b (t.prune []) = _; rw [T.prune_nil t]
  | .need n t => by show T.need n (t.prune []) = _; rw [T.prune_nil t]
  | .pick t => by show T.pick (t.prune []) = _; rw [T.prune_nil t]
  | .done x st => rfl
  | .bad n => rfl
  | .loop ks es b => rfl
  | .again es => rfl
  | .out t => rfl
theorem law_calls2 {P : Program} {cts : List (Nat × Ct)} {dr : Array Oper → SF → (SF → T) → T} (hcts : AllOk P cts) (hdr : DrOk P dr) {f : Nat} {fn : Func} (hf : P.funcs[f]? = some fn) (lh : List (Nat × LHint)) (fuel m : Nat) {args : List AV} {us : List U} {w : World} {vs : List Value}
    (hm : us.length = m) {t : T} (o : Orc) (ht : (evF P cts dr lh fuel fn m [] args none).pr o = t) (hh : t.holds LawQ us) (hv : denL (fun _ => none) us args = some vs) :
    Calls P f vs.toArray w fun e w' => e = .returned (.bool true) ∧ Below w.heap.size w w' := by
  subst ht
  exact law_calls hcts hdr hf lh fuel m hm [] (T.prune_nil _) (T.pr_holds _ o hh) hv
end Go.Proofs.Ytiphdhpacklboaa
