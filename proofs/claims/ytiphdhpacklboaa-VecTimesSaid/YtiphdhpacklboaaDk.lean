/- A reckoning of programs by symbols: a mark for numbers that are drawn; contracts of ways that fork. -/
import Derived.Test.YtiphdhpacklboaaVx
import Derived.Test.YtiphdhpacklboaaZo
namespace Go.Proofs.Ytiphdhpacklboaa
open Go Go.RowKit
theorem CtOk.of_eval2G {P : Program} {cts : List (Nat × Ct)} {dr : Array Oper → SF → (SF → T) → T} (hcts : AllOk P cts) (hdr : DrOk P dr) {f : Nat} {fn : Func} (hf : P.funcs[f]? = some fn) (hb : fn.body.isSome = true) (hn : (fn.name == "runtime.NumGoroutine") = false) (lh : List (Nat × LHint)) (fuel : Nat) {ct : Ct} (hct : ctB ct none = true) (hnew : ct.eff.new = none) (o : Orc) (t : T) (ht : (evF P cts dr lh fuel fn ct.m ct.blks ct.args none).pr o = t)
    (hv0 : (ct.args.all fun a => varsIn ct.m a) = true) (hv1 : (ct.blks.all fun c => c.all fun a => varsIn ct.m a) = true)
    (H : ∀ us, us.length = ct.m → FactsL us ct.args → FactsB us ct.blks → NeedsAt (runB ct.eff.binds us) ct.eff.needs → t.holds (Leaf2 ct (runB ct.eff.binds us)) us) : CtOk P f ct := by
  subst ht
  exact CtOk.of_eval2 hcts hdr hf hb hn lh fuel hct hnew _ rfl hv0 hv1 fun us a b c d => T.pr_holds _ o (H us a b c d)
/-- A mark: what answers a number that is drawn is looked at. -/
def ctDk : Ct := ⟨0, [], [], { needs := [⟨fun _ => false, []⟩], val := .und }⟩
theorem ctDk_ok : CtOk Try.prog 1000003 ctDk := ⟨fun β ρ w vs a b c d hv hm hb hn => by
  obtain ⟨xs, h1, h2⟩ := hn _ (List.mem_singleton.2 rfl)
  cases h2⟩
def dk0 : List (Nat × Ct) := (1000003, ctDk) :: vx14
theorem dk0_ok : AllOk Try.prog dk0 := ⟨ctDk_ok, vx14_ok⟩
end Go.Proofs.Ytiphdhpacklboaa
