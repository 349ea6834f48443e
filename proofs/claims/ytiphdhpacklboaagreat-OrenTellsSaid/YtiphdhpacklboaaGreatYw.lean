/- A reckoning of programs by symbols: what is to be shown, shut, step by step. -/
import Derived.Test.YtiphdhpacklboaaGreatYk
namespace Go.Proofs.YtiphdhpacklboaaGreat
open Go Go.RowKit
structure T.HH (Q : List U → Ex → SF → Prop) (L : List (List U → Prop)) (t : T) (ρ : List U) : Prop where
 h : t.holdsL Q L ρ
section
variable {Q : List U → Ex → SF → Prop} {L : List (List U → Prop)} {ρ : List U} {t t' : T}
theorem T.hbind {b : Bind} {us xs ρ' : List U} (h : evs ρ b.args = some us) (hr : resl b us = xs) (hρ : ρ ++ xs = ρ') (k : T.HH Q L t ρ') : T.HH Q L (T.bind b t) ρ := ⟨T.bind_n h hr hρ k.h⟩
theorem T.hneed {n : Need} {us : List U} (h : evs ρ n.args = some us) (hp : n.p us = true) (k : T.HH Q L t ρ) : T.HH Q L (T.need n t) ρ := ⟨T.need_i h hp k.h⟩
theorem T.hite {e : E} {x : Bool} (h : e.ev ρ = some (.b x)) (k : x = true → T.HH Q L t ρ) (k' : x = false → T.HH Q L t' ρ) : T.HH Q L (T.ite e t t') ρ := ⟨T.ite_i h (fun hx => (k hx).h) (fun hx => (k' hx).h)⟩
theorem T.hdone {x : Ex} {st : SF} (h : Q ρ x st) : T.HH Q L (T.done x st) ρ := ⟨h⟩
theorem T.hout {R : List U → Prop} (h : T.HH Q L t ρ) : T.HH Q (R :: L) (T.out t) ρ := ⟨T.out_i h.h⟩
end
end Go.Proofs.YtiphdhpacklboaaGreat
