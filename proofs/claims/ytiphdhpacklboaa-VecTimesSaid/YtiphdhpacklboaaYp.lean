/- A reckoning of programs by symbols: contracts of one way of a function. -/
import Derived.Test.YtiphdhpacklboaaYw
import Derived.Test.YtiphdhpacklboaaYi
import Derived.Test.YtiphdhpacklboaaCb
import Derived.Test.YtiphdhpacklboaaCd
namespace Go.Proofs.Ytiphdhpacklboaa
open Go Go.RowKit
section
variable {P : Program} {cts : List (Nat × Ct)} {dr : Array Oper → SF → (SF → T) → T}
theorem CtOk.flatP (hcts : AllOk P cts) (hdr : DrOk P dr) {f : Nat} {fn : Func} (hf : P.funcs[f]? = some fn) (hb : fn.body.isSome = true) (hn : (fn.name == "runtime.NumGoroutine") = false) (lh : List (Nat × LHint)) (fuel : Nat) (o : List Bool) {ct : Ct} (st : SF)
    (ht : ((evF P cts dr lh fuel fn ct.m ct.blks ct.args none).prune o).flat ct.m = some (ct.eff.binds, ct.eff.needs, st)) (hval : ct.eff.val = st.tm.headD .und) (hupd : ct.eff.upd = st.wr.eraseDups.map fun k => (k, (st.h.getD k none).getD [])) (hnew : ct.eff.new = none) (hct : ctB ct none = true) (hfl : flatB ct st = true) (hv0 : (ct.args.all fun a => varsIn ct.m a) = true) (hv1 : (ct.blks.all fun c => c.all fun a => varsIn ct.m a) = true) : CtOk P f ct := by
  simp only [flatB, Bool.and_eq_true] at hfl
  obtain ⟨h1, h2⟩ := hfl
  refine CtOk.of_eval hcts hdr hf hb hn lh fuel hct rfl (fun us hl _ _ hN => T.prune_holds _ o (flat_holds _ (by rw [hl]; exact ht) hN ?_)) hv0 hv1
  refine ⟨⟨st.tm.headD .und, ?_, fun β => by rw [hval]; rfl⟩, fun k c hk => ?_, fun k hk => ?_, fun c hc => by rw [hnew] at hc; cases hc⟩
  · have : st.tm.length = 1 := by simpa using h1
    match hm : st.tm, this with
    | [x], _ => rfl
  · rw [hupd] at hk
    obtain ⟨k', hk', e⟩ := List.mem_map.1 hk
    simp at e; obtain ⟨rfl, rfl⟩ := e
    have h3 := List.all_eq_true.1 h2 k' (List.mem_eraseDups.1 hk')
    split at h3
    · rename_i d hd
      refine ⟨d, hd, fun β => ?_⟩
      rw [show (st.h[k']?.getD none).getD [] = d by rw [hd]; rfl]; rfl
    · simp at h3
  · have h3 := List.all_eq_true.1 h2 k hk
    split at h3
    · exact List.contains_iff_mem.1 h3
    · simp at h3
end
end Go.Proofs.Ytiphdhpacklboaa
