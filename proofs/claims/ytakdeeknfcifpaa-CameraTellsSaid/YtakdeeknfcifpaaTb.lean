/- A reckoning of programs by symbols: one way of a function, its answer. -/
import Derived.Test.YtakdeeknfcifpaaYw
namespace Go.Proofs.Ytakdeeknfcifpaa
open Go Go.RowKit
set_option linter.unusedSimpArgs false
set_option linter.unusedVariables false
def CalQ (r0 : Nat) (r1 : Int) (ρ : List U) (_ : Ex) (st : SF) : Prop := match st.tm with
  | [.tup [.fl e1, .it .i64 e2]] => e1.ev ρ = some (.f r0) ∧ e2.ev ρ = some (.i r1) ∧ r0 < W64
  | _ => False
def TwoQ (r0 r1 : Nat) (ρ : List U) (_ : Ex) (st : SF) : Prop := match st.tm with
  | [.tup [.fl e1, .fl e2]] => e1.ev ρ = some (.f r0) ∧ e2.ev ρ = some (.f r1) ∧ r0 < W64 ∧ r1 < W64
  | _ => False
def FloQ (r0 : Nat) (ρ : List U) (_ : Ex) (st : SF) : Prop := match st.tm with
  | [.fl e1] => e1.ev ρ = some (.f r0) ∧ r0 < W64
  | _ => False
def BooQ (r0 : Bool) (ρ : List U) (_ : Ex) (st : SF) : Prop := match st.tm with
  | [.bo e1] => e1.ev ρ = some (.b r0)
  | _ => False
section
variable {P : Program} {cts : List (Nat × Ct)} {dr : Array Oper → SF → (SF → T) → T}
theorem cal_calls (hcts : AllOk P cts) (hdr : DrOk P dr) {f : Nat} {fn : Func} (hf : P.funcs[f]? = some fn) (lh : List (Nat × LHint)) (fuel m : Nat) {args : List AV} {us : List U} {w : World} {vs : List Value}
    (hm : us.length = m) {t : T} (o : List Bool) (ht : (evF P cts dr lh fuel fn m [] args none).prune o = t) {r0 : Nat} {r1 : Int} (hh : t.holds (CalQ r0 r1) us) (hv : denL (fun _ => none) us args = some vs) :
    Calls P f vs.toArray w fun e w' => e = .returned (.tuple #[.float .f64 r0, .int .i64 r1]) ∧ Below w.heap.size w w' := by
  subst ht
  have hh := T.prune_holds _ o hh
  refine (calls_eval (β := fun _ => none) hcts hdr hf fuel m hm hh (fun k l n h _ => by cases h) (fun k n h => by cases h) (fun _ _ => rfl) (fun k c hc => by simp at hc) hv).mono fun e w' ⟨β', ρ', st', a', r, v, S, hq, hr, he⟩ => ?_
  have hq' : (match [r] with | [.tup [.fl e1, .it .i64 e2]] => e1.ev ρ' = some (.f r0) ∧ e2.ev ρ' = some (.i r1) ∧ r0 < W64 | _ => False) := hq
  split at hq'
  · rename_i e1 e2 heq
    simp at heq; subst heq
    obtain ⟨h1, h2, h3⟩ := hq'
    have k : den β' ρ' (.tup [.fl e1, .it .i64 e2]) = some (.tuple #[.float .f64 r0, .int .i64 r1]) := by
      unfold den
      rw [denL_cons.2 ⟨_, _, fl_den h1 h3, denL_cons.2 ⟨_, [], it_den h2, rfl, rfl⟩, rfl⟩]
    rw [k] at hr
    simp at hr; subst hr
    exact ⟨he, S.os, S.tape, S.output, S.size, fun n hn => S.old n hn fun k _ h => by cases h⟩
  · exact hq'.elim
theorem two_calls (hcts : AllOk P cts) (hdr : DrOk P dr) {f : Nat} {fn : Func} (hf : P.funcs[f]? = some fn) (lh : List (Nat × LHint)) (fuel m : Nat) {args : List AV} {us : List U} {w : World} {vs : List Value}
    (hm : us.length = m) {t : T} (o : List Bool) (ht : (evF P cts dr lh fuel fn m [] args none).prune o = t) {r0 r1 : Nat} (hh : t.holds (TwoQ r0 r1) us) (hv : denL (fun _ => none) us args = some vs) :
    Calls P f vs.toArray w fun e w' => e = .returned (.tuple #[.float .f64 r0, .float .f64 r1]) ∧ Below w.heap.size w w' := by
  subst ht
  have hh := T.prune_holds _ o hh
  refine (calls_eval (β := fun _ => none) hcts hdr hf fuel m hm hh (fun k l n h _ => by cases h) (fun k n h => by cases h) (fun _ _ => rfl) (fun k c hc => by simp at hc) hv).mono fun e w' ⟨β', ρ', st', a', r, v, S, hq, hr, he⟩ => ?_
  have hq' : (match [r] with | [.tup [.fl e1, .fl e2]] => e1.ev ρ' = some (.f r0) ∧ e2.ev ρ' = some (.f r1) ∧ r0 < W64 ∧ r1 < W64 | _ => False) := hq
  split at hq'
  · rename_i e1 e2 heq
    simp at heq; subst heq
    obtain ⟨h1, h2, h3, h4⟩ := hq'
    have k : den β' ρ' (.tup [.fl e1, .fl e2]) = some (.tuple #[.float .f64 r0, .float .f64 r1]) := by
      unfold den
      rw [denL_cons.2 ⟨_, _, fl_den h1 h3, denL_cons.2 ⟨_, [], fl_den h2 h4, rfl, rfl⟩, rfl⟩]
    rw [k] at hr
    simp at hr; subst hr
    exact ⟨he, S.os, S.tape, S.output, S.size, fun n hn => S.old n hn fun k _ h => by cases h⟩
  · exact hq'.elim
theorem flo_calls (hcts : AllOk P cts) (hdr : DrOk P dr) {f : Nat} {fn : Func} (hf : P.funcs[f]? = some fn) (lh : List (Nat × LHint)) (fuel m : Nat) {args : List AV} {us : List U} {w : World} {vs : List Value}
    (hm : us.length = m) {t : T} (o : List Bool) (ht : (evF P cts dr lh fuel fn m [] args none).prune o = t) {r0 : Nat} (hh : t.holds (FloQ r0) us) (hv : denL (fun _ => none) us args = some vs) :
    Calls P f vs.toArray w fun e w' => e = .returned (.float .f64 r0) ∧ Below w.heap.size w w' := by
  subst ht
  have hh := T.prune_holds _ o hh
  refine (calls_eval (β := fun _ => none) hcts hdr hf fuel m hm hh (fun k l n h _ => by cases h) (fun k n h => by cases h) (fun _ _ => rfl) (fun k c hc => by simp at hc) hv).mono fun e w' ⟨β', ρ', st', a', r, v, S, hq, hr, he⟩ => ?_
  have hq' : (match [r] with | [.fl e1] => e1.ev ρ' = some (.f r0) ∧ r0 < W64 | _ => False) := hq
  split at hq'
  · rename_i e1 heq
    simp at heq; subst heq
    rw [fl_den hq'.1 hq'.2] at hr
    simp at hr; subst hr
    exact ⟨he, S.os, S.tape, S.output, S.size, fun n hn => S.old n hn fun k _ h => by cases h⟩
  · exact hq'.elim
theorem boo_calls (hcts : AllOk P cts) (hdr : DrOk P dr) {f : Nat} {fn : Func} (hf : P.funcs[f]? = some fn) (lh : List (Nat × LHint)) (fuel m : Nat) {args : List AV} {us : List U} {w : World} {vs : List Value}
    (hm : us.length = m) {t : T} (o : List Bool) (ht : (evF P cts dr lh fuel fn m [] args none).prune o = t) {r0 : Bool} (hh : t.holds (BooQ r0) us) (hv : denL (fun _ => none) us args = some vs) :
    Calls P f vs.toArray w fun e w' => e = .returned (.bool r0) ∧ Below w.heap.size w w' := by
  subst ht
  have hh := T.prune_holds _ o hh
  refine (calls_eval (β := fun _ => none) hcts hdr hf fuel m hm hh (fun k l n h _ => by cases h) (fun k n h => by cases h) (fun _ _ => rfl) (fun k c hc => by simp at hc) hv).mono fun e w' ⟨β', ρ', st', a', r, v, S, hq, hr, he⟩ => ?_
  have hq' : (match [r] with | [.bo e1] => e1.ev ρ' = some (.b r0) | _ => False) := hq
  split at hq'
  · rename_i e1 heq
    simp at heq; subst heq
    rw [bo_den hq'] at hr
    simp at hr; subst hr
    exact ⟨he, S.os, S.tape, S.output, S.size, fun n hn => S.old n hn fun k _ h => by cases h⟩
  · exact hq'.elim
end
end Go.Proofs.Ytakdeeknfcifpaa
