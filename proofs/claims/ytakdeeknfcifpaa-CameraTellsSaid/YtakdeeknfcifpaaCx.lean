/- A reckoning of programs by symbols: contract of burnishref26.Point; ways of Look. -/
import Derived.Test.YtakdeeknfcifpaaWh
import Derived.Test.YtakdeeknfcifpaaCv
namespace Go.Proofs.Ytakdeeknfcifpaa
open Go Go.RowKit
set_option linter.unusedSimpArgs false
set_option linter.unusedVariables false

def hitsU (r : Int × Int) (i : Nat) : U := match i with
  | 0 => .i r.1
  | _ => .i r.2
theorem W_hX (s i j : Int) : Dy.W (lookA s i j).1.1 ∧ Dy.W (lookA s i j).1.2 := by
  unfold lookA; split
  · exact ⟨Dy.hX_W _ _, Dy.hZ_W _ _⟩
  · exact ⟨Dy.W_zero, Dy.W_zero⟩
theorem W_pt (s i j : Int) : Dy.W (pointF s i j).1.1 ∧ Dy.W (pointF s i j).1.2 := by
  unfold pointF; split
  · exact ⟨W_part _ _, W_part _ _⟩
  · exact ⟨Dy.W_zero, Dy.W_zero⟩
theorem pt_den {us : List U} {r : (Nat × Nat) × Int} {f : Nat → U} (h : ∀ i, f i = calR r i) (hw : Dy.W r.1.1 ∧ Dy.W r.1.2) (hl : us.length = 3) : den (fun _ => none) (us ++ (List.range 3).map f) (.tup [vf 3, vf 4, vi .i64 5]) = some (.tuple #[.float .f64 r.1.1, .float .f64 r.1.2, .int .i64 r.2]) := by
  have e0 := (at_den (j := 0) (k := 3) (f := f) hl (by decide)).trans (by rw [h]; rfl : _ = some (U.f r.1.1))
  have e1 := (at_den (j := 1) (k := 3) (f := f) hl (by decide)).trans (by rw [h]; rfl : _ = some (U.f r.1.2))
  have e2 := (at_den (j := 2) (k := 3) (f := f) hl (by decide)).trans (by rw [h]; rfl : _ = some (U.i r.2))
  unfold den
  rw [denL_cons.2 ⟨_, _, fl_den e0 hw.1, denL_cons.2 ⟨_, _, fl_den e1 hw.2, denL_cons.2 ⟨_, [], it_den e2, rfl, rfl⟩, rfl⟩, rfl⟩]
theorem look_den {us : List U} {r : (Nat × Nat) × (Bool × Int)} {f : Nat → U} (h : ∀ i, f i = lookU r i) (hw : Dy.W r.1.1 ∧ Dy.W r.1.2) (hl : us.length = 3) : den (fun _ => none) (us ++ (List.range 4).map f) (.tup [.agg [vf 3, .fl (.l (.f 0)), vf 4], vb 5, vi .i64 6]) = some (.tuple #[fv r.1.1 0 r.1.2, .bool r.2.1, .int .i64 r.2.2]) := by
  have e0 := (at_den (j := 0) (k := 4) (f := f) hl (by decide)).trans (by rw [h]; rfl : _ = some (U.f r.1.1))
  have e1 := (at_den (j := 1) (k := 4) (f := f) hl (by decide)).trans (by rw [h]; rfl : _ = some (U.f r.1.2))
  have e2 := (at_den (j := 2) (k := 4) (f := f) hl (by decide)).trans (by rw [h]; rfl : _ = some (U.b r.2.1))
  have e3 := (at_den (j := 3) (k := 4) (f := f) hl (by decide)).trans (by rw [h]; rfl : _ = some (U.i r.2.2))
  have k : den (fun _ => none) (us ++ (List.range 4).map f) (.agg [vf 3, .fl (.l (.f 0)), vf 4]) = some (fv r.1.1 0 r.1.2) := by
    unfold den
    rw [denL_cons.2 ⟨_, _, fl_den e0 hw.1, denL_cons.2 ⟨_, _, fl_den (e := .l (.f 0)) (n := 0) rfl (by decide), denL_cons.2 ⟨_, [], fl_den e1 hw.2, rfl, rfl⟩, rfl⟩, rfl⟩]
  unfold den
  rw [denL_cons.2 ⟨_, _, k, denL_cons.2 ⟨_, _, bo_den e2, denL_cons.2 ⟨_, [], it_den e3, rfl, rfl⟩, rfl⟩, rfl⟩]
theorem hits_den {us : List U} {r : Int × Int} {f : Nat → U} (h : ∀ i, f i = hitsU r i) (hl : us.length = 1) : den (fun _ => none) (us ++ (List.range 2).map f) (.tup [vi .i64 1, vi .i64 2]) = some (.tuple #[.int .i64 r.1, .int .i64 r.2]) := by
  have e0 := (at_den (j := 0) (k := 2) (f := f) hl (by decide)).trans (by rw [h]; rfl : _ = some (U.i r.1))
  have e1 := (at_den (j := 1) (k := 2) (f := f) hl (by decide)).trans (by rw [h]; rfl : _ = some (U.i r.2))
  unfold den
  rw [denL_cons.2 ⟨_, _, it_den e0, denL_cons.2 ⟨_, [], it_den e1, rfl, rfl⟩, rfl⟩]
def LookQ (r0 r1 r2 : Nat) (r3 : Bool) (r4 : Int) (ρ : List U) (_ : Ex) (st : SF) : Prop := match st.tm with
  | [.tup [.agg [.fl e0, .fl e1, .fl e2], .bo e3, .it .i64 e4]] => (e0.ev ρ = some (.f r0) ∧ e1.ev ρ = some (.f r1) ∧ e2.ev ρ = some (.f r2)) ∧ (e3.ev ρ = some (.b r3) ∧ e4.ev ρ = some (.i r4)) ∧ r0 < W64 ∧ r1 < W64 ∧ r2 < W64
  | _ => False
theorem look_calls {P : Program} {cts : List (Nat × Ct)} {dr : Array Oper → SF → (SF → T) → T} (hcts : AllOk P cts) (hdr : DrOk P dr) {f : Nat} {fn : Func} (hf : P.funcs[f]? = some fn) (lh : List (Nat × LHint)) (fuel m : Nat) {args : List AV} {us : List U} {w : World} {vs : List Value}
    (hm : us.length = m) {t : T} (o : List Bool) (ht : (evF P cts dr lh fuel fn m [] args none).prune o = t) {r0 r1 r2 : Nat} {r3 : Bool} {r4 : Int} (hh : t.holds (LookQ r0 r1 r2 r3 r4) us) (hv : denL (fun _ => none) us args = some vs) :
    Calls P f vs.toArray w fun e w' => e = .returned (.tuple #[.agg #[.float .f64 r0, .float .f64 r1, .float .f64 r2], .bool r3, .int .i64 r4]) ∧ Below w.heap.size w w' := by
  subst ht
  have hh := T.prune_holds _ o hh
  refine (calls_eval (β := fun _ => none) hcts hdr hf fuel m hm hh (fun k l n h _ => by cases h) (fun k n h => by cases h) (fun _ _ => rfl) (fun k c hc => by simp at hc) hv).mono fun e w' ⟨β', ρ', st', a', r, v, S, hq, hr, he⟩ => ?_
  have hq' : (match [r] with | [.tup [.agg [.fl e0, .fl e1, .fl e2], .bo e3, .it .i64 e4]] => (e0.ev ρ' = some (.f r0) ∧ e1.ev ρ' = some (.f r1) ∧ e2.ev ρ' = some (.f r2)) ∧ (e3.ev ρ' = some (.b r3) ∧ e4.ev ρ' = some (.i r4)) ∧ r0 < W64 ∧ r1 < W64 ∧ r2 < W64 | _ => False) := hq
  split at hq'
  · rename_i e0 e1 e2 e3 e4 heq
    simp at heq; subst heq
    obtain ⟨⟨h0, h1, h2⟩, ⟨h3, h4⟩, w0, w1, w2⟩ := hq'
    have g : den β' ρ' (.agg [.fl e0, .fl e1, .fl e2]) = some (.agg #[.float .f64 r0, .float .f64 r1, .float .f64 r2]) := by
      unfold den
      rw [denL_cons.2 ⟨_, _, fl_den h0 w0, denL_cons.2 ⟨_, _, fl_den h1 w1, denL_cons.2 ⟨_, [], fl_den h2 w2, rfl, rfl⟩, rfl⟩, rfl⟩]
    have k : den β' ρ' (.tup [.agg [.fl e0, .fl e1, .fl e2], .bo e3, .it .i64 e4]) = some (.tuple #[.agg #[.float .f64 r0, .float .f64 r1, .float .f64 r2], .bool r3, .int .i64 r4]) := by
      unfold den
      rw [denL_cons.2 ⟨_, _, g, denL_cons.2 ⟨_, _, bo_den h3, denL_cons.2 ⟨_, [], it_den h4, rfl, rfl⟩, rfl⟩, rfl⟩]
    rw [k] at hr
    simp at hr; subst hr
    exact ⟨he, S.os, S.tape, S.output, S.size, fun n hn => S.old n hn fun k _ h => by cases h⟩
  · exact hq'.elim
def cx0 : List (Nat × Ct) := wh6
theorem cx0_ok : AllOk Try.prog cx0 := wh6_ok
def ctPointR : Ct := ctP 3 [vi .i64 0, vi .i64 1, vi .i64 2] (fun us i => calR (pointF (gI us 0) (gI us 1) (gI us 2)) i) 3 (.tup [vf 3, vf 4, vi .i64 5]) []
theorem ctPointR_ok : CtOk Try.prog 12 ctPointR := by
  refine ctP_ok (en Try.func12 rfl (by decide)) rfl rfl (fun us w vs hl hv hn => ?_) rfl
  match us, hl with
  | [u0, u1, u2], _ =>
    obtain ⟨x0, y0, hx0, hy0, rfl⟩ := denL_cons.1 hv
    obtain ⟨a0, e0, rfl⟩ := den_it hx0
    obtain ⟨x1, y1, hx1, hy1, rfl⟩ := denL_cons.1 hy0
    obtain ⟨a1, e1, rfl⟩ := den_it hx1
    obtain ⟨x2, y2, hx2, hy2, rfl⟩ := denL_cons.1 hy1
    obtain ⟨a2, e2, rfl⟩ := den_it hx2
    rw [denL_nil.1 hy2]
    simp [E.ev] at e0 e1 e2
    subst e0 e1 e2
    exact ⟨.tuple #[.float .f64 (pointF a0 a1 a2).1.1, .float .f64 (pointF a0 a1 a2).1.2, .int .i64 (pointF a0 a1 a2).2], pt_den (fun i => rfl) (W_pt a0 a1 a2) rfl, rpoint_all a0 a1 a2 w⟩

def cx1 : List (Nat × Ct) := (12, ctPointR) :: cx0
theorem cx1_ok : AllOk Try.prog cx1 := ⟨ctPointR_ok, cx0_ok⟩

set_option maxRecDepth 100000 in
set_option maxHeartbeats 4000000 in
theorem rlook_0 (s i j : Int) (w : World) {t0 : Nat} {t1 : Nat} {t2 : Int} (h0 : (pointF (s) (i) (j)) = ((t0, t1), t2)) (h1 : (t2 != 0) = true)  : Calls Try.prog 14 #[.int .i64 s, .int .i64 i, .int .i64 j] w fun e w' => e = .returned (.tuple #[.agg #[.float .f64 0, .float .f64 0, .float .f64 0], .bool false, .int .i64 t2]) ∧ Below w.heap.size w w' := by
  refine look_calls (vs := [.int .i64 s, .int .i64 i, .int .i64 j]) (us := [.i s, .i i, .i j]) (args := [vi .i64 0, vi .i64 1, vi .i64 2]) cx1_ok (dr_ok cx1_ok) Try.func14 [] 200 3 rfl [true] (t := .bind ⟨fun us i => calR (pointF (gI us 0) (gI us 1) (gI us 2)) i, 3, [(.v 0), (.v 1), (.v 2)]⟩ (.bind ⟨fun us _ => jB (fun a b => a != b) us, 1, [(.v 5), (.l (.i 0))]⟩ (.need ⟨pT, [(.v 6)]⟩ (.done .ret ⟨[.tup [.agg [.fl (.l (.f 0)), .fl (.l (.f 0)), .fl (.l (.f 0))], .bo (.l (.b false)), .it .i64 (.v 5)]], [], 7, []⟩)))) (by kernel_rfl) ?_ (denL_cons.2 ⟨_, _, (it_den rfl), (denL_cons.2 ⟨_, _, (it_den rfl), (denL_cons.2 ⟨_, _, (it_den rfl), rfl, rfl⟩), rfl⟩), rfl⟩)
  refine T.HH.h ?_
  refine T.hbind (us := [.i s, .i i, .i j]) (xs := [.f t0, .f t1, .i t2]) (ρ' := [.i s, .i i, .i j, .f t0, .f t1, .i t2]) rfl (congrArg (fun r => [calR r 0, calR r 1, calR r 2]) h0) rfl ?_
  refine T.hbind (us := [.i t2, .i 0]) (xs := [.b true]) (ρ' := [.i s, .i i, .i j, .f t0, .f t1, .i t2, .b true]) rfl (congrArg (fun r => [U.b r]) h1) rfl ?_
  refine T.hneed (us := [.b true]) rfl (rfl) ?_
  exact T.hdone ⟨⟨rfl, rfl, rfl⟩, ⟨rfl, rfl⟩, (by decide), (by decide), (by decide)⟩

set_option maxRecDepth 100000 in
set_option maxHeartbeats 4000000 in
theorem rlook_1 (s i j : Int) (w : World) {t0 : Nat} {t1 : Nat} {t2 : Int} {t3 : Nat} {t4 : Nat} {t5 : Bool} {t6 : Int} (h0 : (pointF (s) (i) (j)) = ((t0, t1), t2)) (h1 : (t2 != 0) = false) (h2 : (hitR (t0) (t1)) = ((t3, t4), (t5, t6))) (r0 : Dy.W t3) (r2 : Dy.W t4) : Calls Try.prog 14 #[.int .i64 s, .int .i64 i, .int .i64 j] w fun e w' => e = .returned (.tuple #[.agg #[.float .f64 t3, .float .f64 0, .float .f64 t4], .bool t5, .int .i64 t6]) ∧ Below w.heap.size w w' := by
  refine look_calls (vs := [.int .i64 s, .int .i64 i, .int .i64 j]) (us := [.i s, .i i, .i j]) (args := [vi .i64 0, vi .i64 1, vi .i64 2]) cx1_ok (dr_ok cx1_ok) Try.func14 [] 200 3 rfl [false] (t := .bind ⟨fun us i => calR (pointF (gI us 0) (gI us 1) (gI us 2)) i, 3, [(.v 0), (.v 1), (.v 2)]⟩ (.bind ⟨fun us _ => jB (fun a b => a != b) us, 1, [(.v 5), (.l (.i 0))]⟩ (.need ⟨pF, [(.v 6)]⟩ (.bind ⟨fun us i => lookU (hitR (gF us 0) (gF us 1)) i, 4, [(.v 3), (.v 4)]⟩ (.done .ret ⟨[.tup [.agg [.fl (.v 7), .fl (.l (.f 0)), .fl (.v 8)], .bo (.v 9), .it .i64 (.v 10)]], [], 11, []⟩))))) (by kernel_rfl) ?_ (denL_cons.2 ⟨_, _, (it_den rfl), (denL_cons.2 ⟨_, _, (it_den rfl), (denL_cons.2 ⟨_, _, (it_den rfl), rfl, rfl⟩), rfl⟩), rfl⟩)
  refine T.HH.h ?_
  refine T.hbind (us := [.i s, .i i, .i j]) (xs := [.f t0, .f t1, .i t2]) (ρ' := [.i s, .i i, .i j, .f t0, .f t1, .i t2]) rfl (congrArg (fun r => [calR r 0, calR r 1, calR r 2]) h0) rfl ?_
  refine T.hbind (us := [.i t2, .i 0]) (xs := [.b false]) (ρ' := [.i s, .i i, .i j, .f t0, .f t1, .i t2, .b false]) rfl (congrArg (fun r => [U.b r]) h1) rfl ?_
  refine T.hneed (us := [.b false]) rfl (rfl) ?_
  refine T.hbind (us := [.f t0, .f t1]) (xs := [.f t3, .f t4, .b t5, .i t6]) (ρ' := [.i s, .i i, .i j, .f t0, .f t1, .i t2, .b false, .f t3, .f t4, .b t5, .i t6]) rfl (congrArg (fun r => [lookU r 0, lookU r 1, lookU r 2, lookU r 3]) h2) rfl ?_
  exact T.hdone ⟨⟨rfl, rfl, rfl⟩, ⟨rfl, rfl⟩, r0, (by decide), r2⟩

end Go.Proofs.Ytakdeeknfcifpaa
