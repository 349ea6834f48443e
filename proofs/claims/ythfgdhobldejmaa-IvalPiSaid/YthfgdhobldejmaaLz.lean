/- The law IvalPi: joined. -/
import Derived.Test.YthfgdhobldejmaaLx
import Derived.Test.YthfgdhobldejmaaLy
namespace Go.Proofs.Ythfgdhobldejmaa
open Go Go.RowKit

theorem law_all {P : Program} {cts : List (Nat × Ct)} {dr : Array Oper → SF → (SF → T) → T} (hcts : AllOk P cts) (hdr : DrOk P dr) {f : Nat} {fn : Func} (hf : P.funcs[f]? = some fn) (lh : List (Nat × LHint)) (fuel m : Nat) {args : List AV} {us : List U} {w : World} {vs : List Value}
    (hm : us.length = m) (hh : (evF P cts dr lh fuel fn m [] args none).holds LawQ us) (hv : denL (fun _ => none) us args = some vs) :
    Calls P f vs.toArray w fun e w' => e = .returned (.bool true) ∧ Below w.heap.size w w' := by
  refine (calls_eval (β := fun _ => none) hcts hdr hf fuel m hm hh (fun k l n h _ => by cases h) (fun k n h => by cases h) (fun _ _ => rfl) (fun k c hc => by simp at hc) hv).mono fun e w' ⟨β', ρ', st', a', r, v, S, hq, hr, he⟩ => ?_
  have hq' : (match [r] with | [.bo e] => e.ev ρ' = some (.b true) | _ => False) := hq
  split at hq'
  · rename_i e0 heq
    simp at heq; subst heq
    rw [bo_den hq'] at hr
    simp at hr; subst hr
    exact ⟨he, S.os, S.tape, S.output, S.size, fun n hn => S.old n hn fun k _ h => by cases h⟩
  · exact hq'.elim
set_option maxRecDepth 100000 in
theorem piT_eq : piT [] = .bind ⟨fun us _ => iB (fun a b => a.tmod b) us, 1, [(.v 0), (.l (.i 21))]⟩ (.need ⟨iN, [(.v 0), (.l (.i 21))]⟩ (.bind ⟨fun us _ => wI Go.IntKind.i64 us, 1, [(.v 1)]⟩ (piT3 []))) := by kernel_rfl
set_option maxRecDepth 100000 in
theorem pi_step {n k : Int} (hk : n.tmod 21 = k) (hw : IntKind.i64.wrap k = k) (h : lawR (piT3 []) [.i n, .i k, .i k] = true) : (piT []).holds LawQ [.i n] := by
  rw [piT_eq]
  refine T.bind_n (us := [.i n, .i 21]) (xs := [.i k]) (ρ' := [.i n, .i k]) rfl (congrArg (fun r => [U.i r]) hk) rfl ?_
  refine T.need_i (us := [.i n, .i 21]) rfl rfl ?_
  refine T.bind_n (us := [.i k]) (xs := [.i k]) (ρ' := [.i n, .i k, .i k]) rfl (congrArg (fun r => [U.i r]) hw) rfl ?_
  exact lawR_holds h
set_option maxRecDepth 100000 in
theorem pi_any (m : Nat) (w : World) (_ : m < 256) :
    Calls Try.prog 7 #[.int .u8 m] w fun e w' => e = .returned (.bool true) ∧ Below w.heap.size w w' := by
  refine law_all (vs := [.int .u8 m]) (us := [.i (m : Int)]) (args := [vi .u8 0]) n2_ok (dr_ok n2_ok) Try.func7 [] 400 1 rfl ?_ (denL_cons.2 ⟨_, _, (it_den rfl), rfl, rfl⟩)
  show (piT []).holds LawQ [.i (m : Int)]
  have h1 : 0 ≤ (m : Int).tmod 21 := Int.tmod_nonneg 21 (by omega)
  have h2 : (m : Int).tmod 21 < 21 := Int.tmod_lt_of_pos _ (by omega)
  obtain ⟨j, hj⟩ : ∃ j, j = (m : Int).tmod 21 := ⟨_, rfl⟩
  rw [← hj] at h1 h2
  have : j = 0 ∨ j = 1 ∨ j = 2 ∨ j = 3 ∨ j = 4 ∨ j = 5 ∨ j = 6 ∨ j = 7 ∨ j = 8 ∨ j = 9 ∨ j = 10 ∨ j = 11 ∨ j = 12 ∨ j = 13 ∨ j = 14 ∨ j = 15 ∨ j = 16 ∨ j = 17 ∨ j = 18 ∨ j = 19 ∨ j = 20 := by omega
  rcases this with rfl | rfl | rfl | rfl | rfl | rfl | rfl | rfl | rfl | rfl | rfl | rfl | rfl | rfl | rfl | rfl | rfl | rfl | rfl | rfl | rfl
  · exact pi_step hj.symm rfl (pi_0 _)
  · exact pi_step hj.symm rfl (pi_1 _)
  · exact pi_step hj.symm rfl (pi_2 _)
  · exact pi_step hj.symm rfl (pi_3 _)
  · exact pi_step hj.symm rfl (pi_4 _)
  · exact pi_step hj.symm rfl (pi_5 _)
  · exact pi_step hj.symm rfl (pi_6 _)
  · exact pi_step hj.symm rfl (pi_7 _)
  · exact pi_step hj.symm rfl (pi_8 _)
  · exact pi_step hj.symm rfl (pi_9 _)
  · exact pi_step hj.symm rfl (pi_10 _)
  · exact pi_step hj.symm rfl (pi_11 _)
  · exact pi_step hj.symm rfl (pi_12 _)
  · exact pi_step hj.symm rfl (pi_13 _)
  · exact pi_step hj.symm rfl (pi_14 _)
  · exact pi_step hj.symm rfl (pi_15 _)
  · exact pi_step hj.symm rfl (pi_16 _)
  · exact pi_step hj.symm rfl (pi_17 _)
  · exact pi_step hj.symm rfl (pi_18 _)
  · exact pi_step hj.symm rfl (pi_19 _)
  · exact pi_step hj.symm rfl (pi_20 _)
end Go.Proofs.Ythfgdhobldejmaa
