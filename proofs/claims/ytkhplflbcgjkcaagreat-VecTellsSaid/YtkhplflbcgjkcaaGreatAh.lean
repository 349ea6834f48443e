/- A reckoning of programs by symbols: one way of a function, its answer. A reckoning of programs by symbols: functions of package math that answer at once; Ldexp, Abs, IsNaN. Walks: ways of math.IsInf, math.Inf; Copysign. A reckoning of programs by symbols: math.IsInf, math.Inf. -/
import Derived.Test.YtkhplflbcgjkcaaGreatYw
import Derived.Test.YtkhplflbcgjkcaaGreatTa
/-! A reckoning of programs by symbols: one way of a function, its answer. -/
namespace Go.Proofs.YtkhplflbcgjkcaaGreat
open Go Go.RowKit
set_option linter.unusedSimpArgs false
set_option linter.unusedVariables false
def CalQ (r0 : Nat) (r1 : Int) (ρ : List U) (_ : Ex) (st : SF) : Prop := match st.tm with
 | [.tup [.fl e1, .it .i64 e2]] => e1.ev ρ = some (.f r0) ∧ e2.ev ρ = some (.i r1) ∧ r0 < W64
 | _ => False
def TwoQ (r0 r1 : Nat) (ρ : List U) (_ : Ex) (st : SF) : Prop := match st.tm with
 | [.tup [.fl e1, .fl e2]] => e1.ev ρ = some (.f r0) ∧ e2.ev ρ = some (.f r1) ∧ r0 < W64 ∧ r1 < W64
 | _ => False
def FloQ (r0 : Nat) (ρ : List U) (_ : Ex) (st : SF) : Prop := match st.tm with
 | [.fl e1] => e1.ev ρ = some (.f r0) ∧ r0 < W64
 | _ => False
def BooQ (r0 : Bool) (ρ : List U) (_ : Ex) (st : SF) : Prop := match st.tm with
 | [.bo e1] => e1.ev ρ = some (.b r0)
 | _ => False
section
variable {P : Program} {cts : List (Nat × Ct)} {dr : Array Oper → SF → (SF → T) → T}
theorem cal_calls (hcts : AllOk P cts) (hdr : DrOk P dr) {f : Nat} {fn : Func} (hf : P.funcs[f]? = some fn) (lh : List (Nat × LHint)) (fuel m : Nat) {args : List AV} {us : List U} {w : World} {vs : List Value}
  (hm : us.length = m) {t : T} (o : List Bool) (ht : (evF P cts dr lh fuel fn m [] args none).prune o = t) {r0 : Nat} {r1 : Int} (hh : t.holds (CalQ r0 r1) us) (hv : denL (fun _ => none) us args = some vs) :
  Calls P f vs.toArray w fun e w' => e = .returned (.tuple #[.float .f64 r0, .int .i64 r1]) ∧ Below w.heap.size w w' := by
 subst ht
 have hh := T.prune_holds _ o hh
 refine (calls_eval (β := fun _ => none) hcts hdr hf fuel m hm hh (fun k l n h _ => by cases h) (fun k n h => by cases h) (fun _ _ => rfl) (fun k c hc => by simp at hc) hv).mono fun e w' ⟨β', ρ', st', a', r, v, S, hq, hr, he⟩ => ?_
 have hq' : (match [r] with | [.tup [.fl e1, .it .i64 e2]] => e1.ev ρ' = some (.f r0) ∧ e2.ev ρ' = some (.i r1) ∧ r0 < W64 | _ => False) := hq
 split at hq'
 ·rename_i e1 e2 heq
  simp at heq; subst heq
  obtain ⟨h1, h2, h3⟩ := hq'
  have k : den β' ρ' (.tup [.fl e1, .it .i64 e2]) = some (.tuple #[.float .f64 r0, .int .i64 r1]) := by
   unfold den
   rw [denL_cons.2 ⟨_, _, fl_den h1 h3, denL_cons.2 ⟨_, [], it_den h2, rfl, rfl⟩, rfl⟩]
  rw [k] at hr
  simp at hr; subst hr
  exact ⟨he, S.os, S.tape, S.output, S.size, fun n hn => S.old n hn fun k _ h => by cases h⟩
 ·exact hq'.elim
theorem two_calls (hcts : AllOk P cts) (hdr : DrOk P dr) {f : Nat} {fn : Func} (hf : P.funcs[f]? = some fn) (lh : List (Nat × LHint)) (fuel m : Nat) {args : List AV} {us : List U} {w : World} {vs : List Value}
  (hm : us.length = m) {t : T} (o : List Bool) (ht : (evF P cts dr lh fuel fn m [] args none).prune o = t) {r0 r1 : Nat} (hh : t.holds (TwoQ r0 r1) us) (hv : denL (fun _ => none) us args = some vs) :
  Calls P f vs.toArray w fun e w' => e = .returned (.tuple #[.float .f64 r0, .float .f64 r1]) ∧ Below w.heap.size w w' := by
 subst ht
 have hh := T.prune_holds _ o hh
 refine (calls_eval (β := fun _ => none) hcts hdr hf fuel m hm hh (fun k l n h _ => by cases h) (fun k n h => by cases h) (fun _ _ => rfl) (fun k c hc => by simp at hc) hv).mono fun e w' ⟨β', ρ', st', a', r, v, S, hq, hr, he⟩ => ?_
 have hq' : (match [r] with | [.tup [.fl e1, .fl e2]] => e1.ev ρ' = some (.f r0) ∧ e2.ev ρ' = some (.f r1) ∧ r0 < W64 ∧ r1 < W64 | _ => False) := hq
 split at hq'
 ·rename_i e1 e2 heq
  simp at heq; subst heq
  obtain ⟨h1, h2, h3, h4⟩ := hq'
  have k : den β' ρ' (.tup [.fl e1, .fl e2]) = some (.tuple #[.float .f64 r0, .float .f64 r1]) := by
   unfold den
   rw [denL_cons.2 ⟨_, _, fl_den h1 h3, denL_cons.2 ⟨_, [], fl_den h2 h4, rfl, rfl⟩, rfl⟩]
  rw [k] at hr
  simp at hr; subst hr
  exact ⟨he, S.os, S.tape, S.output, S.size, fun n hn => S.old n hn fun k _ h => by cases h⟩
 ·exact hq'.elim
theorem flo_calls (hcts : AllOk P cts) (hdr : DrOk P dr) {f : Nat} {fn : Func} (hf : P.funcs[f]? = some fn) (lh : List (Nat × LHint)) (fuel m : Nat) {args : List AV} {us : List U} {w : World} {vs : List Value}
  (hm : us.length = m) {t : T} (o : List Bool) (ht : (evF P cts dr lh fuel fn m [] args none).prune o = t) {r0 : Nat} (hh : t.holds (FloQ r0) us) (hv : denL (fun _ => none) us args = some vs) :
  Calls P f vs.toArray w fun e w' => e = .returned (.float .f64 r0) ∧ Below w.heap.size w w' := by
 subst ht
 have hh := T.prune_holds _ o hh
 refine (calls_eval (β := fun _ => none) hcts hdr hf fuel m hm hh (fun k l n h _ => by cases h) (fun k n h => by cases h) (fun _ _ => rfl) (fun k c hc => by simp at hc) hv).mono fun e w' ⟨β', ρ', st', a', r, v, S, hq, hr, he⟩ => ?_
 have hq' : (match [r] with | [.fl e1] => e1.ev ρ' = some (.f r0) ∧ r0 < W64 | _ => False) := hq
 split at hq'
 ·rename_i e1 heq
  simp at heq; subst heq
  rw [fl_den hq'.1 hq'.2] at hr
  simp at hr; subst hr
  exact ⟨he, S.os, S.tape, S.output, S.size, fun n hn => S.old n hn fun k _ h => by cases h⟩
 ·exact hq'.elim
theorem boo_calls (hcts : AllOk P cts) (hdr : DrOk P dr) {f : Nat} {fn : Func} (hf : P.funcs[f]? = some fn) (lh : List (Nat × LHint)) (fuel m : Nat) {args : List AV} {us : List U} {w : World} {vs : List Value}
  (hm : us.length = m) {t : T} (o : List Bool) (ht : (evF P cts dr lh fuel fn m [] args none).prune o = t) {r0 : Bool} (hh : t.holds (BooQ r0) us) (hv : denL (fun _ => none) us args = some vs) :
  Calls P f vs.toArray w fun e w' => e = .returned (.bool r0) ∧ Below w.heap.size w w' := by
 subst ht
 have hh := T.prune_holds _ o hh
 refine (calls_eval (β := fun _ => none) hcts hdr hf fuel m hm hh (fun k l n h _ => by cases h) (fun k n h => by cases h) (fun _ _ => rfl) (fun k c hc => by simp at hc) hv).mono fun e w' ⟨β', ρ', st', a', r, v, S, hq, hr, he⟩ => ?_
 have hq' : (match [r] with | [.bo e1] => e1.ev ρ' = some (.b r0) | _ => False) := hq
 split at hq'
 ·rename_i e1 heq
  simp at heq; subst heq
  rw [bo_den hq'] at hr
  simp at hr; subst hr
  exact ⟨he, S.os, S.tape, S.output, S.size, fun n hn => S.old n hn fun k _ h => by cases h⟩
 ·exact hq'.elim
end
end Go.Proofs.YtkhplflbcgjkcaaGreat
/-! A reckoning of programs by symbols: functions of package math that answer at once; Ldexp, Abs, IsNaN. -/
namespace Go.Proofs.YtkhplflbcgjkcaaGreat
open Go Go.RowKit
set_option linter.unusedSimpArgs false
set_option linter.unusedVariables false
theorem fma_run (x y z r : Nat) (h : FloatKind.f64.format.fma x y z = some r) : Extern.MathFMA.fma #[.float .f64 x, .float .f64 y, .float .f64 z] = pure (.float .f64 r) := by
 delta Extern.MathFMA.fma
 show (match FloatKind.f64.format.fma x y z with | some r => pure (.float .f64 r) | none => _ : Sem Value) = _
 rw [h]
theorem root_run (x r : Nat) (h : FloatKind.f64.format.sqrt x = some r) : Extern.MathSqrt.sqrt #[.float .f64 x] = pure (.float .f64 r) := by
 delta Extern.MathSqrt.sqrt
 show (match FloatKind.f64.format.sqrt x with | some r => pure (.float .f64 r) | none => _ : Sem Value) = _
 rw [h]
def fmaF (x y z : Nat) : Option Nat := FloatKind.f64.format.fma x y z
def rootF (x : Nat) : Option Nat := FloatKind.f64.format.sqrt x
def nFma (us : List U) : Bool := okF (fmaF (gF us 0) (gF us 1) (gF us 2))
def nRoot (us : List U) : Bool := okF (rootF (gF us 0))
def nLdx (us : List U) : Bool := decide (-1000000 ≤ gI us 0 ∧ gI us 0 ≤ 1000000)
def ctFma : Ct := ctP 3 [vf 0, vf 1, vf 2] (fun us _ => .f ((fmaF (gF us 0) (gF us 1) (gF us 2)).getD 0)) 1 (vf 3) [⟨nFma, [.v 0, .v 1, .v 2]⟩]
theorem fma_ct : CtOk Tryz.prog 165 ctFma := by
 refine ctX_ok Tryz.func165 (by decide) rfl (by kernel_rfl) (e := Extern.MathFMA.fma) (by kernel_rfl) rfl rfl (fun us w vs hl hv hn => ?_) rfl
 match us, hl with
 | [u0, u1, u2], _ =>
  obtain ⟨x, y, hx, hy, rfl⟩ := denL_cons.1 hv
  obtain ⟨x', y', hx', hy', rfl⟩ := denL_cons.1 hy
  obtain ⟨x2, y2, hx2, hy2, rfl⟩ := denL_cons.1 hy'
  rw [denL_nil.1 hy2]
  obtain ⟨a1, e1, w1, rfl⟩ := den_fl hx
  obtain ⟨a2, e2, w2, rfl⟩ := den_fl hx'
  obtain ⟨a3, e3, w3, rfl⟩ := den_fl hx2
  simp [E.ev] at e1 e2 e3; subst e1 e2 e3
  obtain ⟨xs, h1, h2⟩ := hn _ (List.mem_singleton.2 rfl)
  simp [evs, E.ev] at h1; subst h1
  obtain ⟨r, hr, hw⟩ := okF_of (show okF (fmaF a1 a2 a3) = true from h2)
  refine ⟨.float .f64 r, fl_den (n := r) ?_ hw, ?_⟩
  ·show some (U.f ((fmaF a1 a2 a3).getD 0)) = some (U.f r)
   rw [hr]; rfl
  ·have hr' : FloatKind.f64.format.fma a1 a2 a3 = some r := hr
   show (Extern.MathFMA.fma #[.float .f64 a1, .float .f64 a2, .float .f64 a3]).run _ w = _
   rw [fma_run _ _ _ _ hr']; rfl
def ctRoot : Ct := ctP 1 [vf 0] (fun us _ => .f ((rootF (gF us 0)).getD 0)) 1 (vf 1) [⟨nRoot, [.v 0]⟩]
theorem root_ct : CtOk Tryz.prog 177 ctRoot := by
 refine ctX_ok Tryz.func177 (by decide) rfl (by kernel_rfl) (e := Extern.MathSqrt.sqrt) (by kernel_rfl) rfl rfl (fun us w vs hl hv hn => ?_) rfl
 match us, hl with
 | [u0], _ =>
  obtain ⟨x, y, hx, hy, rfl⟩ := denL_cons.1 hv
  rw [denL_nil.1 hy]
  obtain ⟨a1, e1, w1, rfl⟩ := den_fl hx
  simp [E.ev] at e1; subst e1
  obtain ⟨xs, h1, h2⟩ := hn _ (List.mem_singleton.2 rfl)
  simp [evs, E.ev] at h1; subst h1
  obtain ⟨r, hr, hw⟩ := okF_of (show okF (rootF a1) = true from h2)
  refine ⟨.float .f64 r, fl_den (n := r) ?_ hw, ?_⟩
  ·show some (U.f ((rootF a1).getD 0)) = some (U.f r)
   rw [hr]; rfl
  ·have hr' : FloatKind.f64.format.sqrt a1 = some r := hr
   show (Extern.MathSqrt.sqrt #[.float .f64 a1]).run _ w = _
   rw [root_run _ _ hr']; rfl
theorem W_ldx {b : Nat} (hb : Dy.W b) (e : Int) : Dy.W (Dy.ldx b e) := by
 unfold Dy.ldx
 split
 ·rename_i h
  unfold Dy.W Dy.word
  have tp := Dy.top_eq
  have := Nat.min_le_right (Dy.nr (Dy.mag (b % 2 ^ 63) * 2 ^ e.toNat) (-e).toNat) Dy.top
  split <;> omega
 ·exact hb
def ctLdx : Ct := ctP 2 [vf 0, vi .i64 1] (fun us _ => .f (Dy.ldx (gF us 0) (gI us 1))) 1 (vf 2) [⟨nLdx, [.v 1]⟩]
theorem ldx_ct : CtOk Tryz.prog 84 ctLdx := by
 refine ctP_ok (en Tryz.func84 rfl (by decide)) rfl rfl (fun us w vs hl hv hn => ?_) rfl
 match us, hl with
 | [u0, u1], _ =>
  obtain ⟨x, y, hx, hy, rfl⟩ := denL_cons.1 hv
  obtain ⟨x', y', hx', hy', rfl⟩ := denL_cons.1 hy
  rw [denL_nil.1 hy']
  obtain ⟨a1, e1, w1, rfl⟩ := den_fl hx
  obtain ⟨a2, e2, rfl⟩ := den_it hx'
  simp [E.ev] at e1 e2; subst e1 e2
  obtain ⟨xs, h1, h2⟩ := hn _ (List.mem_singleton.2 rfl)
  simp [evs, E.ev] at h1; subst h1
  have h3 : -1000000 ≤ a2 ∧ a2 ≤ 1000000 := of_decide_eq_true h2
  exact ⟨.float .f64 (Dy.ldx a1 a2), fl_den rfl (W_ldx w1 a2), (ldexp_any a1 a2 w w1 h3.1 h3.2).mono fun e w2 ⟨h1, h2⟩ => ⟨h1, by subst h2; exact Below.refl _ _⟩⟩
def ctAbsT : Ct := ctP 1 [vf 0] (fun us _ => .f (Dy.abs (gF us 0))) 1 (vf 1)
theorem absT_ct : CtOk Tryz.prog 87 ctAbsT := by
 refine ctP_ok (en Tryz.func87 rfl (by decide)) rfl rfl (fun us w vs hl hv _ => ?_) rfl
 match us, hl with
 | [u0], _ =>
  obtain ⟨x, y, hx, hy, rfl⟩ := denL_cons.1 hv
  rw [denL_nil.1 hy]
  obtain ⟨a1, e1, w1, rfl⟩ := den_fl hx
  simp [E.ev] at e1; subst e1
  exact ⟨.float .f64 (Dy.abs a1), fl_den rfl (Dy.W_abs a1), (abs_any a1 w w1).mono fun e w2 ⟨h1, h2⟩ => ⟨h1, by subst h2; exact Below.refl _ _⟩⟩
def ctNanT : Ct := ctP 1 [vf 0] (fun us _ => .b (Dy.nan (gF us 0))) 1 (vb 1)
theorem nanT_ct : CtOk Tryz.prog 115 ctNanT := by
 refine ctP_ok (en Tryz.func115 rfl (by decide)) rfl rfl (fun us w vs hl hv _ => ?_) rfl
 match us, hl with
 | [u0], _ =>
  obtain ⟨x, y, hx, hy, rfl⟩ := denL_cons.1 hv
  rw [denL_nil.1 hy]
  obtain ⟨a1, e1, w1, rfl⟩ := den_fl hx
  simp [E.ev] at e1; subst e1
  exact ⟨.bool (Dy.nan a1), bo_den rfl, (isNaN_any a1 w w1).mono fun e w2 ⟨h1, h2⟩ => ⟨h1, by subst h2; exact Below.refl _ _⟩⟩
def ctSgnT : Ct := ctP 1 [vf 0] (fun us _ => .b (Dy.sgn (gF us 0))) 1 (vb 1)
theorem sgnT_ct : CtOk Tryz.prog 117 ctSgnT := by
 refine ctP_ok (en Tryz.func117 rfl (by decide)) rfl rfl (fun us w vs hl hv _ => ?_) rfl
 match us, hl with
 | [u0], _ =>
  obtain ⟨x, y, hx, hy, rfl⟩ := denL_cons.1 hv
  rw [denL_nil.1 hy]
  obtain ⟨a1, e1, w1, rfl⟩ := den_fl hx
  simp [E.ev] at e1; subst e1
  exact ⟨.bool (Dy.sgn a1), bo_den rfl, (signbit_any a1 w w1).mono fun e w2 ⟨h1, h2⟩ => ⟨h1, by subst h2; exact Below.refl _ _⟩⟩
def math0 : List (Nat × Ct) := [(165, ctFma), (177, ctRoot), (84, ctLdx), (87, ctAbsT), (115, ctNanT), (117, ctSgnT), (62, ctBits), (144, ctFrom)]
theorem math0_ok : AllOk Tryz.prog math0 := ⟨fma_ct, root_ct, ldx_ct, absT_ct, nanT_ct, sgnT_ct, bits_ct, from_ct, trivial⟩
end Go.Proofs.YtkhplflbcgjkcaaGreat
/-! Walks: ways of math.IsInf, math.Inf; Copysign. -/
namespace Go.Proofs.YtkhplflbcgjkcaaGreat
open Go Go.RowKit
set_option linter.unusedSimpArgs false
set_option linter.unusedVariables false
def tq0 : List (Nat × Ct) := math0
theorem tq0_ok : AllOk Tryz.prog tq0 := math0_ok
set_option maxRecDepth 100000 in
set_option maxHeartbeats 4000000 in
theorem isinf_0 (b : Nat) (s : Int) (w : World) (hb : Dy.W b) {t0 : Nat} {t1 : Bool} (h0 : (s == 0) = true) (h1 : ((Dy.abs (b))) = t0) (h2 : (Dy.fgt t0 9218868437227405311) = t1)  : Calls Tryz.prog 116 #[.float .f64 b, .int .i64 s] w fun e w' => e = .returned (.bool t1) ∧ Below w.heap.size w w' := by
 refine boo_calls (vs := [.float .f64 b, .int .i64 s]) (us := [.f b, .i s]) (args := [vf 0, vi .i64 1]) tq0_ok (dr_ok tq0_ok) Tryz.func116 [] 200 2 rfl [true] (t := .bind ⟨fun us _ => jB (fun a b => a == b) us, 1, [(.v 1), (.l (.i 0))]⟩ (.need ⟨pT, [(.v 2)]⟩ (.bind ⟨fun us _ => .f (Dy.abs (gF us 0)), 1, [(.v 0)]⟩ (.bind ⟨fun us _ => cB Dy.fgt us, 1, [(.v 3), (.l (.f 9218868437227405311))]⟩ (.done .ret ⟨[.bo (.v 4)], [], 5, []⟩))))) (by kernel_rfl) ?_ (denL_cons.2 ⟨_, _, (fl_den rfl hb), (denL_cons.2 ⟨_, _, (it_den rfl), rfl, rfl⟩), rfl⟩)
 refine T.HH.h ?_
 refine T.hbind rfl (congrArg (fun r => [U.b r]) h0) rfl ?_
 refine T.hneed rfl (rfl) ?_
 refine T.hbind rfl (congrArg (fun r => [U.f r]) h1) rfl ?_
 refine T.hbind rfl (congrArg (fun r => [U.b r]) h2) rfl ?_
 exact T.hdone rfl
set_option maxRecDepth 100000 in
set_option maxHeartbeats 4000000 in
theorem isinf_1 (b : Nat) (s : Int) (w : World) (hb : Dy.W b) {t0 : Nat} {t1 : Bool} (h0 : (s == 0) = false) (h1 : (decide (s < 0)) = true) (h2 : (Op.negFloat .f64 b) = t0) (h3 : mN [.f b] = true) (h4 : (Dy.fgt t0 9218868437227405311) = t1)  : Calls Tryz.prog 116 #[.float .f64 b, .int .i64 s] w fun e w' => e = .returned (.bool t1) ∧ Below w.heap.size w w' := by
 refine boo_calls (vs := [.float .f64 b, .int .i64 s]) (us := [.f b, .i s]) (args := [vf 0, vi .i64 1]) tq0_ok (dr_ok tq0_ok) Tryz.func116 [] 200 2 rfl [false, true] (t := .bind ⟨fun us _ => jB (fun a b => a == b) us, 1, [(.v 1), (.l (.i 0))]⟩ (.need ⟨pF, [(.v 2)]⟩ (.bind ⟨fun us _ => jB (fun a b => decide (a < b)) us, 1, [(.v 1), (.l (.i 0))]⟩ (.need ⟨pT, [(.v 3)]⟩ (.bind ⟨fun us _ => mF us, 1, [(.v 0)]⟩ (.need ⟨mN, [(.v 0)]⟩ (.bind ⟨fun us _ => cB Dy.fgt us, 1, [(.v 4), (.l (.f 9218868437227405311))]⟩ (.done .ret ⟨[.bo (.v 5)], [], 6, []⟩)))))))) (by kernel_rfl) ?_ (denL_cons.2 ⟨_, _, (fl_den rfl hb), (denL_cons.2 ⟨_, _, (it_den rfl), rfl, rfl⟩), rfl⟩)
 refine T.HH.h ?_
 refine T.hbind rfl (congrArg (fun r => [U.b r]) h0) rfl ?_
 refine T.hneed rfl (rfl) ?_
 refine T.hbind rfl (congrArg (fun r => [U.b r]) h1) rfl ?_
 refine T.hneed rfl (rfl) ?_
 refine T.hbind rfl (congrArg (fun r => [U.f r]) h2) rfl ?_
 refine T.hneed rfl (h3) ?_
 refine T.hbind rfl (congrArg (fun r => [U.b r]) h4) rfl ?_
 exact T.hdone rfl
set_option maxRecDepth 100000 in
set_option maxHeartbeats 4000000 in
theorem isinf_2 (b : Nat) (s : Int) (w : World) (hb : Dy.W b) {t0 : Bool} (h0 : (s == 0) = false) (h1 : (decide (s < 0)) = false) (h2 : (Dy.fgt b 9218868437227405311) = t0)  : Calls Tryz.prog 116 #[.float .f64 b, .int .i64 s] w fun e w' => e = .returned (.bool t0) ∧ Below w.heap.size w w' := by
 refine boo_calls (vs := [.float .f64 b, .int .i64 s]) (us := [.f b, .i s]) (args := [vf 0, vi .i64 1]) tq0_ok (dr_ok tq0_ok) Tryz.func116 [] 200 2 rfl [false, false] (t := .bind ⟨fun us _ => jB (fun a b => a == b) us, 1, [(.v 1), (.l (.i 0))]⟩ (.need ⟨pF, [(.v 2)]⟩ (.bind ⟨fun us _ => jB (fun a b => decide (a < b)) us, 1, [(.v 1), (.l (.i 0))]⟩ (.need ⟨pF, [(.v 3)]⟩ (.bind ⟨fun us _ => cB Dy.fgt us, 1, [(.v 0), (.l (.f 9218868437227405311))]⟩ (.done .ret ⟨[.bo (.v 4)], [], 5, []⟩)))))) (by kernel_rfl) ?_ (denL_cons.2 ⟨_, _, (fl_den rfl hb), (denL_cons.2 ⟨_, _, (it_den rfl), rfl, rfl⟩), rfl⟩)
 refine T.HH.h ?_
 refine T.hbind (ρ' := [.f b, .i s, .b false]) rfl (congrArg (fun r => [U.b r]) h0) rfl ?_
 refine T.hneed rfl (rfl) ?_
 refine T.hbind rfl (congrArg (fun r => [U.b r]) h1) rfl ?_
 refine T.hneed rfl (rfl) ?_
 refine T.hbind rfl (congrArg (fun r => [U.b r]) h2) rfl ?_
 exact T.hdone rfl
set_option maxRecDepth 100000 in
set_option maxHeartbeats 4000000 in
theorem infv_0 (s : Int) (w : World) {t0 : Nat} (h0 : (decide (s ≥ 0)) = true) (h1 : (((9218868437227405312 : Int)).toNat) = t0) (h2 : nFrom [.i 9218868437227405312] = true) (r0 : Dy.W t0) : Calls Tryz.prog 170 #[.int .i64 s] w fun e w' => e = .returned (.float .f64 t0) ∧ Below w.heap.size w w' := by
 refine flo_calls (vs := [.int .i64 s]) (us := [.i s]) (args := [vi .i64 0]) tq0_ok (dr_ok tq0_ok) Tryz.func170 [] 200 1 rfl [true] (t := .bind ⟨fun us _ => jB (fun a b => decide (a ≥ b)) us, 1, [(.v 0), (.l (.i 0))]⟩ (.need ⟨pT, [(.v 1)]⟩ (.bind ⟨fun us _ => .f (gI us 0).toNat, 1, [(.l (.i 9218868437227405312))]⟩ (.need ⟨nFrom, [(.l (.i 9218868437227405312))]⟩ (.done .ret ⟨[.fl (.v 2)], [], 3, []⟩))))) (by kernel_rfl) ?_ (denL_cons.2 ⟨_, _, (it_den rfl), rfl, rfl⟩)
 refine T.HH.h ?_
 refine T.hbind rfl (congrArg (fun r => [U.b r]) h0) rfl ?_
 refine T.hneed rfl (rfl) ?_
 refine T.hbind rfl (congrArg (fun r => [U.f r]) h1) rfl ?_
 refine T.hneed rfl (h2) ?_
 exact T.hdone ⟨rfl, r0⟩
set_option maxRecDepth 100000 in
set_option maxHeartbeats 4000000 in
theorem infv_1 (s : Int) (w : World) {t0 : Nat} (h0 : (decide (s ≥ 0)) = false) (h1 : (((18442240474082181120 : Int)).toNat) = t0) (h2 : nFrom [.i 18442240474082181120] = true) (r0 : Dy.W t0) : Calls Tryz.prog 170 #[.int .i64 s] w fun e w' => e = .returned (.float .f64 t0) ∧ Below w.heap.size w w' := by
 refine flo_calls (vs := [.int .i64 s]) (us := [.i s]) (args := [vi .i64 0]) tq0_ok (dr_ok tq0_ok) Tryz.func170 [] 200 1 rfl [false] (t := .bind ⟨fun us _ => jB (fun a b => decide (a ≥ b)) us, 1, [(.v 0), (.l (.i 0))]⟩ (.need ⟨pF, [(.v 1)]⟩ (.bind ⟨fun us _ => .f (gI us 0).toNat, 1, [(.l (.i 18442240474082181120))]⟩ (.need ⟨nFrom, [(.l (.i 18442240474082181120))]⟩ (.done .ret ⟨[.fl (.v 2)], [], 3, []⟩))))) (by kernel_rfl) ?_ (denL_cons.2 ⟨_, _, (it_den rfl), rfl, rfl⟩)
 refine T.HH.h ?_
 refine T.hbind rfl (congrArg (fun r => [U.b r]) h0) rfl ?_
 refine T.hneed rfl (rfl) ?_
 refine T.hbind rfl (congrArg (fun r => [U.f r]) h1) rfl ?_
 refine T.hneed rfl (h2) ?_
 exact T.hdone ⟨rfl, r0⟩
def ctCopyT : Ct := ⟨2, [], [vf 0, vf 1], { binds := [⟨fun us _ => .i (gF us 0 : Nat), 1, [(.v 0)]⟩, ⟨fun us _ => iB (fun a b => IntKind.u64.wrap ((BitVec.ofInt IntKind.u64.bits a &&& ~~~(BitVec.ofInt IntKind.u64.bits b)).toNat : Nat)) us, 1, [(.v 2), (.l (.i 9223372036854775808))]⟩, ⟨fun us _ => .i (gF us 0 : Nat), 1, [(.v 1)]⟩, ⟨fun us _ => iB (fun a b => IntKind.u64.wrap ((BitVec.ofInt IntKind.u64.bits a &&& BitVec.ofInt IntKind.u64.bits b).toNat : Nat)) us, 1, [(.v 4), (.l (.i 9223372036854775808))]⟩, ⟨fun us _ => iB (fun a b => IntKind.u64.wrap ((BitVec.ofInt IntKind.u64.bits a ||| BitVec.ofInt IntKind.u64.bits b).toNat : Nat)) us, 1, [(.v 3), (.v 5)]⟩, ⟨fun us _ => .f (gI us 0).toNat, 1, [(.v 6)]⟩], needs := [⟨nFrom, [(.v 6)]⟩], val := .fl (.v 7), upd := [] }⟩
theorem ctCopyT_ok : CtOk Tryz.prog 143 ctCopyT := CtOk.flat tq0_ok (dr_ok tq0_ok) Tryz.func143 rfl (by decide) [] 200 ⟨[.fl (.v 7)], [], 8, []⟩ (by kernel_rfl) rfl (by kernel_rfl) rfl (by kernel_rfl) (by kernel_rfl) (by kernel_rfl) (by kernel_rfl)
def tq1 : List (Nat × Ct) := (143, ctCopyT) :: tq0
theorem tq1_ok : AllOk Tryz.prog tq1 := ⟨ctCopyT_ok, tq0_ok⟩
end Go.Proofs.YtkhplflbcgjkcaaGreat
/-! A reckoning of programs by symbols: math.IsInf, math.Inf. -/
namespace Go.Dy
theorem xor63 {b : Nat} (h : b < 2 ^ 63) : b ^^^ 2 ^ 63 = 2 ^ 63 + b := by
 refine Nat.eq_of_testBit_eq fun j => ?_
 rw [Nat.testBit_xor, Nat.testBit_two_pow]
 rcases Nat.lt_trichotomy j 63 with h1 | h1 | h1
 ·rw [Nat.testBit_two_pow_add_gt h1, decide_eq_false (by omega)]; simp
 ·subst h1
  rw [Nat.testBit_two_pow_add_eq]; simp
 ·have e1 : b.testBit j = false := Nat.testBit_lt_two_pow (Nat.lt_trans h (Nat.pow_lt_pow_right (by omega) h1))
  have e2 : (2 ^ 63 + b).testBit j = false := Nat.testBit_lt_two_pow (Nat.lt_of_lt_of_le (show 2 ^ 63 + b < 2 ^ 64 by omega) (Nat.pow_le_pow_right (by omega) h1))
  rw [e1, e2, decide_eq_false (by omega)]; rfl
theorem neg_bits {b : Nat} (h : W b) : Op.negFloat .f64 b = if b < 2 ^ 63 then 2 ^ 63 + b else b - 2 ^ 63 := by
 have e : Op.negFloat .f64 b = b ^^^ 2 ^ 63 := rfl
 rw [e]
 split
 ·rename_i h1; exact xor63 h1
 ·obtain ⟨c, rfl⟩ : ∃ c, b = 2 ^ 63 + c := ⟨b - 2 ^ 63, by omega⟩
  have hc : c < 2 ^ 63 := by unfold W at h; omega
  rw [← xor63 hc, Nat.xor_assoc, Nat.xor_self, Nat.xor_zero, xor63 hc]; omega
theorem neg_W {b : Nat} (h : W b) : W (Op.negFloat .f64 b) := by
 rw [neg_bits h]; unfold W at *; split <;> omega
end Go.Dy
namespace Go.Proofs.YtkhplflbcgjkcaaGreat
open Go Go.RowKit
set_option linter.unusedSimpArgs false
set_option linter.unusedVariables false
def bRes (b : Bool) (_ : Nat) : U := .b b
def fRes (r : Nat) (_ : Nat) : U := .f r
def infT (b : Nat) (s : Int) : Bool := if s = 0 then Dy.fgt (Dy.abs b) 9218868437227405311 else if s < 0 then Dy.fgt (Op.negFloat .f64 b) 9218868437227405311 else Dy.fgt b 9218868437227405311
def infV (s : Int) : Nat := if s ≥ 0 then 9218868437227405312 else 18442240474082181120
theorem infT_any (b : Nat) (s : Int) (w : World) (hb : Dy.W b) : Calls Tryz.prog 116 #[.float .f64 b, .int .i64 s] w fun e w' => e = .returned (.bool (infT b s)) ∧ Below w.heap.size w w' := by
 unfold infT
 by_cases h0 : s = 0
 ·rw [if_pos h0]
  exact isinf_0 b s w hb (by rw [h0]; rfl) rfl rfl
 ·rw [if_neg h0]
  by_cases h1 : s < 0
  ·rw [if_pos h1]
   exact isinf_1 b s w hb (by simp [h0]) (decide_eq_true h1) rfl (decide_eq_true (Dy.neg_W hb).lt) rfl
  ·rw [if_neg h1]
   exact isinf_2 b s w hb (by simp [h0]) (decide_eq_false h1) rfl
theorem infV_any (s : Int) (w : World) : Calls Tryz.prog 170 #[.int .i64 s] w fun e w' => e = .returned (.float .f64 (infV s)) ∧ Below w.heap.size w w' := by
 unfold infV
 by_cases h0 : s ≥ 0
 ·rw [if_pos h0]
  exact infv_0 s w (decide_eq_true h0) rfl rfl (by unfold Dy.W; decide)
 ·rw [if_neg h0]
  exact infv_1 s w (decide_eq_false h0) rfl rfl (by unfold Dy.W; decide)
def ctInfB : Ct := ctP 2 [vf 0, vi .i64 1] (fun us i => bRes (infT (gF us 0) (gI us 1)) i) 1 (vb 2)
theorem infB_ct : CtOk Tryz.prog 116 ctInfB := by
 refine ctP_ok (en Tryz.func116 rfl (by decide)) rfl rfl (fun us w vs hl hv hn => ?_) rfl
 match us, hl with
 | [u0, u1], _ =>
  obtain ⟨x, y, hx, hy, rfl⟩ := denL_cons.1 hv
  obtain ⟨x', y', hx', hy', rfl⟩ := denL_cons.1 hy
  rw [denL_nil.1 hy']
  obtain ⟨a1, e1, w1, rfl⟩ := den_fl hx
  obtain ⟨a2, e2, rfl⟩ := den_it hx'
  simp [E.ev] at e1 e2; subst e1 e2
  exact ⟨.bool (infT a1 a2), bo_den rfl, infT_any a1 a2 w w1⟩
def ctInfV : Ct := ctP 1 [vi .i64 0] (fun us i => fRes (infV (gI us 0)) i) 1 (vf 1)
theorem infV_ct : CtOk Tryz.prog 170 ctInfV := by
 refine ctP_ok (en Tryz.func170 rfl (by decide)) rfl rfl (fun us w vs hl hv hn => ?_) rfl
 match us, hl with
 | [u0], _ =>
  obtain ⟨x, y, hx, hy, rfl⟩ := denL_cons.1 hv
  rw [denL_nil.1 hy]
  obtain ⟨a2, e2, rfl⟩ := den_it hx
  simp [E.ev] at e2; subst e2
  exact ⟨.float .f64 (infV a2), fl_den rfl (by unfold infV; split <;> decide), infV_any a2 w⟩
def tR0 : List (Nat × Ct) := (116, ctInfB) :: (170, ctInfV) :: tq1
theorem tR0_ok : AllOk Tryz.prog tR0 := ⟨infB_ct, infV_ct, tq1_ok⟩
end Go.Proofs.YtkhplflbcgjkcaaGreat
