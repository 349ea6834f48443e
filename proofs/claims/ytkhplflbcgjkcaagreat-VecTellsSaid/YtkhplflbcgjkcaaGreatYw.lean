/- A reckoning of programs by symbols: what is to be shown, shut, step by step. -/
import Derived.Test.YtkhplflbcgjkcaaGreatYk
namespace Go.Proofs.YtkhplflbcgjkcaaGreat
open Go Go.RowKit
structure T.HH (Q : List U → Ex → SF → Prop) (L : List (List U → Prop)) (t : T) (ρ : List U) : Prop where
 h : t.holdsL Q L ρ
section
variable {Q : List U → Ex → SF → Prop} {L : List (List U → Prop)} {ρ : List U} {t t' : T}
theorem T.hbind {b : Bind} {us xs ρ' : List U} (h : evs ρ b.args = some us) (hr : resl b us = xs) (hρ : ρ ++ xs = ρ') (k : T.HH Q L t ρ') : T.HH Q L (T.bind b t) ρ := ⟨T.bind_n h hr hρ k.h⟩
theorem T.hneed {n : Need} {us : List U} (h : evs ρ n.args = some us) (hp : n.p us = true) (k : T.HH Q L t ρ) : T.HH Q L (T.need n t) ρ := ⟨T.need_i h hp k.h⟩
theorem T.hite {e : E} {x : Bool} (h : e.ev ρ = some (.b x)) (k : x = true → T.HH Q L t ρ) (k' : x = false → T.HH Q L t' ρ) : T.HH Q L (T.ite e t t') ρ := ⟨T.ite_i h (fun hx => (k hx).h) (fun hx => (k' hx).h)⟩
theorem T.hiteT {e : E} {x : Bool} (h : e.ev ρ = some (.b x)) (hx : x = true) (k : T.HH Q L t ρ) : T.HH Q L (T.ite e t t') ρ := ⟨T.ite_t h hx k.h⟩
theorem T.hiteF {e : E} {x : Bool} (h : e.ev ρ = some (.b x)) (hx : x = false) (k : T.HH Q L t' ρ) : T.HH Q L (T.ite e t t') ρ := ⟨T.ite_f h hx k.h⟩
theorem T.hdone {x : Ex} {st : SF} (h : Q ρ x st) : T.HH Q L (T.done x st) ρ := ⟨h⟩
theorem T.hloop {ks : List Kd} {es : List E} {us : List U} (I : List U → Prop) (μ : List U → Nat) (h : evs ρ es = some us) (hI : I us) (k : ∀ us d, Typed ks us → I us → T.HH Q ((fun us' => I us' ∧ μ us' < μ us) :: L) t (d :: us)) : T.HH Q L (T.loop ks es t) ρ := ⟨T.loop_i I μ h hI fun us d a b => (k us d a b).h⟩
theorem T.hagain {R : List U → Prop} {es : List E} {us : List U} (h : evs ρ es = some us) (hR : R us) : T.HH Q (R :: L) (T.again es) ρ := ⟨T.again_i h hR⟩
theorem T.hout {R : List U → Prop} (h : T.HH Q L t ρ) : T.HH Q (R :: L) (T.out t) ρ := ⟨T.out_i h.h⟩
theorem T.hpick {ρ' : Nat → List U} (hρ : ∀ x, ρ ++ [.f x] = ρ' x) (k : ∀ x, x < W64 → T.HH Q L t (ρ' x)) : T.HH Q L (T.pick t) ρ := ⟨fun x hx => by rw [hρ x]; exact (k x hx).h⟩
end
end Go.Proofs.YtkhplflbcgjkcaaGreat
