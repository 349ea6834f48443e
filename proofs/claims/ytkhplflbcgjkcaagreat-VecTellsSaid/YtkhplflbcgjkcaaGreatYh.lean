/- A reckoning of programs by symbols: the contracts of package dir and of a calculator, as they are known. -/
import Derived.Test.YtkhplflbcgjkcaaGreatY2
import Derived.Test.YtkhplflbcgjkcaaGreatN4
import Derived.Laws.Externs
namespace Go.Proofs.YtkhplflbcgjkcaaGreat
open Go Go.RowKit
abbrev gF (us : List U) (i : Nat) : Nat := (us.getD i default).F
abbrev gI (us : List U) (i : Nat) : Int := (us.getD i default).I
abbrev gB' (us : List U) (i : Nat) : Bool := (us.getD i default).B
abbrev vf (n : Nat) : AV := .fl (.v n)
abbrev vi (k : IntKind) (n : Nat) : AV := .it k (.v n)
abbrev vb (n : Nat) : AV := .bo (.v n)
abbrev vp (m n : Nat) : AV := .agg [.fl (.v m), .fl (.v n)]
def upto : Nat → Nat → List E
 | _, 0 => []
 | n, m + 1 => .v n :: upto (n + 1) m
def ctP (m : Nat) (args : List AV) (f : List U → Nat → U) (k : Nat) (val : AV) (needs : List Need := []) : Ct := ⟨m, [], args, { binds := [⟨f, k, upto 0 m⟩], needs := needs, val := val }⟩
theorem evs_upto (σ : List U) : ∀ (us : List U) (n : Nat), (∀ (i : Nat) (u : U), us[i]? = some u → σ[n + i]? = some u) → evs σ (upto n us.length) = some us
 | [], n, _ => rfl
 | u :: us, n, h => by
  show evs σ (.v n :: upto (n + 1) us.length) = _
  rw [evs, show (E.v n).ev σ = some u from h 0 u rfl, evs_upto σ us (n + 1) (fun i x hi => by rw [show n + 1 + i = n + (i + 1) by omega]; exact h (i + 1) x (by simpa using hi))]
section
variable {P : Program} {f : Nat}
theorem ctG_ok {m : Nat} {args : List AV} {g : List U → Nat → U} {k : Nat} {val : AV} {needs : List Need} (hv0 : (args.all fun a => varsIn m a) = true) (hv1 : varsIn (m + k) val = true)
  (H : ∀ us w vs, us.length = m → denL (fun _ => none) us args = some vs → (∀ n ∈ needs, ∃ xs, evs us n.args = some xs ∧ n.p xs = true) → ∃ v, den (fun _ => none) (us ++ (List.range k).map (g us)) val = some v ∧ Goes P f vs.toArray w fun e w' => e = .returned v ∧ Below w.heap.size w w')
  (hn : (needs.all fun n => n.args.all fun e => match e with | .v k => decide (k < m) | .l _ => true) = true) : CtOk P f (ctP m args g k val needs) := by
 refine ⟨fun β ρ w vs inj bd dom hB hv hm hb hnd => ?_⟩
 have hβ : β = fun _ => none := funext fun k => dom k (Nat.zero_le _)
 subst hβ
 have hm' : m ≤ ρ.length := hm
 have hl : (ρ.take m).length = m := by simp; omega
 have back : ∀ (k : Nat), k < m → (ρ.take m)[k]? = ρ[k]? := fun k hk => by rw [List.getElem?_take, if_pos hk]
 have hv' : denL (fun _ => none) (ρ.take m) args = some vs := by rw [varsL_den back args (by simpa using hv0)]; exact hv
 obtain ⟨⟨us, h1, h2⟩, _⟩ := hb
 have he := evs_upto ρ (ρ.take m) 0 (fun i u hi => by
  rw [Nat.zero_add]
  rw [List.getElem?_take] at hi
  split at hi
  ·exact hi
  ·simp at hi)
 rw [hl] at he
 have h1' : evs ρ (upto 0 m) = some us := h1
 rw [he] at h1'
 simp at h1'; subst h1'
 obtain ⟨v, h3, h4⟩ := H (ρ.take m) w vs hl hv' (fun n hnn => by
  obtain ⟨xs, k1, k2⟩ := hnd n hnn
  have hall := List.all_eq_true.1 hn n hnn
  obtain ⟨ys, k3⟩ := evs_some (ρ := ρ.take m) (l := n.args) (by rw [hl]; exact hall)
  have k4 := evs_more (β := fun _ => none) (β' := fun _ => none) (ρ := ρ.take m) (ρ' := ρ) ⟨fun _ _ h => h, fun k u hk => by
   rw [List.getElem?_take] at hk
   split at hk
   ·exact hk
   ·simp at hk⟩ k3
  rw [k1] at k4; simp at k4; subst k4
  exact ⟨xs, k3, k2⟩)
 refine h4.mono fun e w' ⟨he, hbw⟩ => ⟨fun _ => none, v, ⟨hbw.os, hbw.tape, hbw.output, hbw.size, fun n hn _ => hbw.block n hn, fun k c hk => (by cases hk), rfl⟩, ?_, he⟩
 rw [← h3]
 refine (vars_den (fun i hi => ?_) val hv1).symm
 rcases Nat.lt_or_ge i m with hlt | hge
 ·rw [List.getElem?_append_left (by omega)]; exact back i hlt
 ·rw [List.getElem?_append_right (by omega), hl]
  have := h2 (i - m) (by show i - m < k; omega)
  rw [show (ctP m args g k val needs).m + (i - m) = i by show m + (i - m) = i; omega] at this
  rw [this, List.getElem?_map, List.getElem?_range (by omega)]; rfl
theorem ctP_ok {m : Nat} {args : List AV} {g : List U → Nat → U} {k : Nat} {val : AV} {needs : List Need} (hen : ∀ args w, (callFunc f args).run P w = .ok (.enter f args) w) (hv0 : (args.all fun a => varsIn m a) = true) (hv1 : varsIn (m + k) val = true)
  (H : ∀ us w vs, us.length = m → denL (fun _ => none) us args = some vs → (∀ n ∈ needs, ∃ xs, evs us n.args = some xs ∧ n.p xs = true) → ∃ v, den (fun _ => none) (us ++ (List.range k).map (g us)) val = some v ∧ Calls P f vs.toArray w fun e w' => e = .returned v ∧ Below w.heap.size w w')
  (hn : (needs.all fun n => n.args.all fun e => match e with | .v k => decide (k < m) | .l _ => true) = true) : CtOk P f (ctP m args g k val needs) :=
 ctG_ok hv0 hv1 (fun us w vs h1 h2 h3 => by obtain ⟨v, k1, k2⟩ := H us w vs h1 h2 h3; exact ⟨v, k1, .inl ⟨hen _ _, k2⟩⟩) hn
theorem ctX_ok {m : Nat} {args : List AV} {g : List U → Nat → U} {k : Nat} {val : AV} {needs : List Need} {fn : Func} {e : Array Value → Sem Value} (hf : P.funcs[f]? = some fn) (hname : (fn.name == "runtime.NumGoroutine") = false) (hbd : fn.body.isNone = true) (hnx : Extern.findNext fn = none) (hx : Extern.find fn = some e) (hv0 : (args.all fun a => varsIn m a) = true) (hv1 : varsIn (m + k) val = true)
  (H : ∀ us w vs, us.length = m → denL (fun _ => none) us args = some vs → (∀ n ∈ needs, ∃ xs, evs us n.args = some xs ∧ n.p xs = true) → ∃ v, den (fun _ => none) (us ++ (List.range k).map (g us)) val = some v ∧ (e vs.toArray).run P w = .ok v w)
  (hn : (needs.all fun n => n.args.all fun e => match e with | .v k => decide (k < m) | .l _ => true) = true) : CtOk P f (ctP m args g k val needs) :=
 ctG_ok hv0 hv1 (fun us w vs h1 h2 h3 => by
  obtain ⟨v, k1, k2⟩ := H us w vs h1 h2 h3
  refine ⟨v, k1, .inr ⟨v, ?_, rfl, Below.refl _ _⟩⟩
  rw [run_callFunc_extern hf hname hbd hnx hx, k2]; rfl) hn
def calR (r : (Nat × Nat) × Int) (i : Nat) : U := match i with
 | 0 => .f r.1.1
 | 1 => .f r.1.2
 | _ => .i r.2
def calF2 (g : Int → Nat × Nat → Nat × Nat → (Nat × Nat) × Int) (us : List U) (i : Nat) : U := calR (g (gI us 0) (gF us 1, gF us 2) (gF us 3, gF us 4)) i
def calF1 (g : Int → Nat × Nat → (Nat × Nat) × Int) (us : List U) (i : Nat) : U := calR (g (gI us 0) (gF us 1, gF us 2)) i
def calF0 (g : Int → Nat → (Nat × Nat) × Int) (us : List U) (i : Nat) : U := calR (g (gI us 0) (gF us 1)) i
def ctC (m : Nat) (args : List AV) (f : List U → Nat → U) : Ct := ⟨m, [[vi .i64 0]], .ptr 0 0 :: args, { binds := [⟨f, 3, upto 0 m⟩], val := vp m (m + 1), upd := [(0, [vi .i64 (m + 2)])] }⟩
theorem ctC_ok {m : Nat} {args : List AV} {F : List U → Nat → U} (R : List U → (Nat × Nat) × Int) (hF : ∀ us i, F us i = calR (R us) i) (hen : ∀ args w, (callFunc f args).run P w = .ok (.enter f args) w) (hv0 : (args.all fun a => varsIn m a) = true) (hm0 : 0 < m)
  (H : ∀ us w vs c err, us.length = m → us[0]? = some (.i err) → denL (fun _ => none) us args = some vs → Cal c err w → Dy.WW (R us).1 ∧ Calls P f (Value.pointer (some ⟨c, 0, none⟩) :: vs).toArray w (Asked c (R us) w)) (hnb : inBL 0 args = true) : CtOk P f (ctC m args F) := by
 refine CtOk.mk' hen fun β ρ w vs inj bd dom hB hv hm hb hnd => ?_
 have hm' : m ≤ ρ.length := hm
 have hl : (ρ.take m).length = m := by simp; omega
 have back : ∀ (k : Nat), k < m → (ρ.take m)[k]? = ρ[k]? := fun k hk => by rw [List.getElem?_take, if_pos hk]
 obtain ⟨x, ys, hx, hys, rfl⟩ := denL_cons.1 (show denL β ρ (.ptr 0 0 :: args) = some vs from hv)
 obtain ⟨c, hc, rfl⟩ := den_ptr hx
 obtain ⟨c', zs, hc', hzs, hcell⟩ := hB 0 _ rfl
 rw [hc] at hc'; simp at hc'; subst hc'
 obtain ⟨z, _, hz, hn, rfl⟩ := denL_cons.1 (show denL β ρ [vi .i64 0] = some zs from hzs)
 rw [denL_nil.1 hn] at hcell
 obtain ⟨err, herr, rfl⟩ := den_it hz
 obtain ⟨hc1, hc2⟩ := hcell 0 _ rfl
 have hcal : Cal c err w := ⟨bd 0 c hc, hc1, hc2⟩
 have hys' : denL (fun _ => none) (ρ.take m) args = some ys := by
  rw [inBL_den (β := β) (β' := fun _ => none) (n := 0) (fun k hk => by omega) args hnb, varsL_den back args (by simpa using hv0)]; exact hys
 obtain ⟨⟨us, h1, h2⟩, _⟩ := hb
 have he := evs_upto ρ (ρ.take m) 0 (fun i u hi => by
  rw [Nat.zero_add]
  rw [List.getElem?_take] at hi
  split at hi
  ·exact hi
  ·simp at hi)
 rw [hl] at he
 have h1' : evs ρ (upto 0 m) = some us := h1
 rw [he] at h1'
 simp at h1'; subst h1'
 have he0 : (ρ.take m)[0]? = some (.i err) := by rw [back 0 hm0]; exact herr
 obtain ⟨hW, hcall⟩ := H (ρ.take m) w ys c err hl he0 hys' hcal
 have hr : ∀ i, i < 3 → ρ[m + i]? = some (calR (R (ρ.take m)) i) := fun i hi => by rw [← hF]; exact h2 i hi
 refine hcall.mono fun e w' ⟨he, hB', hC'⟩ => ⟨β, _, ⟨hB'.os, hB'.tape, hB'.output, hB'.size, fun n hn hno => hB'.block n hn fun hnc => hno 0 [vi .i64 (m + 2)] (by simp [ctC]) (by rw [hnc]; exact hc), fun k d hk => ?_, rfl⟩, ?_, he⟩
 ·have hk' : (k, d) ∈ [(0, [vi .i64 (m + 2)])] := hk
  simp at hk'
  obtain ⟨rfl, rfl⟩ := hk'
  refine ⟨c, [.int .i64 (R (ρ.take m)).2], hc, denL_cons.2 ⟨_, [], it_den (by rw [show (E.v (m + 2)).ev ρ = ρ[m + 2]? from rfl, hr 2 (by omega)]; rfl), rfl, rfl⟩, fun j v hj => ?_⟩
  cases j with
  | zero => simp at hj; subst hj; exact ⟨hC'.cell, hC'.free⟩
  | succ j => simp at hj
 ·show den β ρ (vp m (m + 1)) = _
  have k0 : den β ρ (.fl (.v m)) = some (.float .f64 (R (ρ.take m)).1.1) := fl_den (by rw [show (E.v m).ev ρ = ρ[m]? from rfl, show ρ[m]? = _ from hr 0 (by omega)]; rfl) hW.1
  have k1 : den β ρ (.fl (.v (m + 1))) = some (.float .f64 (R (ρ.take m)).1.2) := fl_den (by rw [show (E.v (m + 1)).ev ρ = ρ[m + 1]? from rfl, hr 1 (by omega)]; rfl) hW.2
  unfold den
  rw [denL_cons.2 ⟨_, _, k0, denL_cons.2 ⟨_, [], k1, rfl, rfl⟩, rfl⟩]
def ctC2 (g : Int → Nat × Nat → Nat × Nat → (Nat × Nat) × Int) : Ct := ctC 5 [vp 1 2, vp 3 4] (calF2 g)
def ctC1 (g : Int → Nat × Nat → (Nat × Nat) × Int) : Ct := ctC 3 [vp 1 2] (calF1 g)
def ctC0 (g : Int → Nat → (Nat × Nat) × Int) : Ct := ctC 2 [vf 1] (calF0 g)
theorem ctC2_ok {g : Int → Nat × Nat → Nat × Nat → (Nat × Nat) × Int} (hen : ∀ args w, (callFunc f args).run P w = .ok (.enter f args) w) (hW : ∀ err a b, Dy.WW a → Dy.WW b → Dy.WW (g err a b).1)
  (H : ∀ c err a b w, Cal c err w → Dy.WW a → Dy.WW b → Calls P f #[.pointer (some ⟨c, 0, none⟩), iv a, iv b] w (Asked c (g err a b) w)) : CtOk P f (ctC2 g) := by
 refine ctC_ok (fun us => g (gI us 0) (gF us 1, gF us 2) (gF us 3, gF us 4)) (fun us i => rfl) hen rfl (by decide) (fun us w vs c err hl h0 hv hc => ?_) rfl
 match us, hl with
 | [u0, u1, u2, u3, u4], _ =>
  simp at h0; subst h0
  obtain ⟨x, y, hx, hy, rfl⟩ := denL_cons.1 hv
  obtain ⟨x', y', hx', hy', rfl⟩ := denL_cons.1 hy
  rw [denL_nil.1 hy']
  obtain ⟨xs, h1, rfl⟩ := den_agg hx
  obtain ⟨xs', h1', rfl⟩ := den_agg hx'
  obtain ⟨p, q, h2, h3, rfl⟩ := denL_cons.1 h1
  obtain ⟨r, s, h4, h5, rfl⟩ := denL_cons.1 h3
  rw [denL_nil.1 h5]
  obtain ⟨p', q', h2', h3', rfl⟩ := denL_cons.1 h1'
  obtain ⟨r', s', h4', h5', rfl⟩ := denL_cons.1 h3'
  rw [denL_nil.1 h5']
  obtain ⟨a1, e1, w1, rfl⟩ := den_fl h2
  obtain ⟨a2, e2, w2, rfl⟩ := den_fl h4
  obtain ⟨b1, e3, w3, rfl⟩ := den_fl h2'
  obtain ⟨b2, e4, w4, rfl⟩ := den_fl h4'
  simp [E.ev] at e1 e2 e3 e4
  subst e1 e2 e3 e4
  exact ⟨hW err (a1, a2) (b1, b2) ⟨w1, w2⟩ ⟨w3, w4⟩, H c err (a1, a2) (b1, b2) w hc ⟨w1, w2⟩ ⟨w3, w4⟩⟩
theorem ctC1_ok {g : Int → Nat × Nat → (Nat × Nat) × Int} (hen : ∀ args w, (callFunc f args).run P w = .ok (.enter f args) w) (hW : ∀ err a, Dy.WW a → Dy.WW (g err a).1)
  (H : ∀ c err a w, Cal c err w → Dy.WW a → Calls P f #[.pointer (some ⟨c, 0, none⟩), iv a] w (Asked c (g err a) w)) : CtOk P f (ctC1 g) := by
 refine ctC_ok (fun us => g (gI us 0) (gF us 1, gF us 2)) (fun us i => rfl) hen rfl (by decide) (fun us w vs c err hl h0 hv hc => ?_) rfl
 match us, hl with
 | [u0, u1, u2], _ =>
  simp at h0; subst h0
  obtain ⟨x, y, hx, hy, rfl⟩ := denL_cons.1 hv
  rw [denL_nil.1 hy]
  obtain ⟨xs, h1, rfl⟩ := den_agg hx
  obtain ⟨p, q, h2, h3, rfl⟩ := denL_cons.1 h1
  obtain ⟨r, s, h4, h5, rfl⟩ := denL_cons.1 h3
  rw [denL_nil.1 h5]
  obtain ⟨a1, e1, w1, rfl⟩ := den_fl h2
  obtain ⟨a2, e2, w2, rfl⟩ := den_fl h4
  simp [E.ev] at e1 e2
  subst e1 e2
  exact ⟨hW err (a1, a2) ⟨w1, w2⟩, H c err (a1, a2) w hc ⟨w1, w2⟩⟩
theorem ctC0_ok {g : Int → Nat → (Nat × Nat) × Int} (hen : ∀ args w, (callFunc f args).run P w = .ok (.enter f args) w) (hW : ∀ err x, Dy.W x → Dy.WW (g err x).1)
  (H : ∀ c err x w, Cal c err w → Dy.W x → Calls P f #[.pointer (some ⟨c, 0, none⟩), .float .f64 x] w (Asked c (g err x) w)) : CtOk P f (ctC0 g) := by
 refine ctC_ok (fun us => g (gI us 0) (gF us 1)) (fun us i => rfl) hen rfl (by decide) (fun us w vs c err hl h0 hv hc => ?_) rfl
 match us, hl with
 | [u0, u1], _ =>
  simp at h0; subst h0
  obtain ⟨x, y, hx, hy, rfl⟩ := denL_cons.1 hv
  rw [denL_nil.1 hy]
  obtain ⟨a1, e1, w1, rfl⟩ := den_fl hx
  simp [E.ev] at e1
  subst e1
  exact ⟨hW err a1 w1, H c err a1 w hc w1⟩
end
section
theorem dr_ok {cts : List (Nat × Ct)} (h : AllOk Tryz.prog cts) : DrOk Tryz.prog (drD Tryz.prog cts) := drD_ok h (by kernel_rfl)
def fOp2 (g : Nat → Nat → Bool → Nat × Int) (us : List U) (i : Nat) : U := match i with
 | 0 => .f (g (gF us 0) (gF us 1) (gB' us 2)).1
 | _ => .i (g (gF us 0) (gF us 1) (gB' us 2)).2
def fOp1 (g : Nat → Bool → Nat × Int) (us : List U) (i : Nat) : U := match i with
 | 0 => .f (g (gF us 0) (gB' us 1)).1
 | _ => .i (g (gF us 0) (gB' us 1)).2
def fIv1 (g : Nat × Nat → Bool) (us : List U) (_ : Nat) : U := .b (g (gF us 0, gF us 1))
def ctO2 (g : Nat → Nat → Bool → Nat × Int) : Ct := ctP 3 [vf 0, vf 1, vb 2] (fOp2 g) 2 (.tup [vf 3, vi .i64 4])
def ctO1 (g : Nat → Bool → Nat × Int) : Ct := ctP 2 [vf 0, vb 1] (fOp1 g) 2 (.tup [vf 2, vi .i64 3])
theorem ctO2_ok {P : Program} {f : Nat} {g : Nat → Nat → Bool → Nat × Int} (hen : ∀ args w, (callFunc f args).run P w = .ok (.enter f args) w) (hW : ∀ x y up, Dy.W (g x y up).1)
  (H : ∀ x y up w, Dy.W x → Dy.W y → Calls P f #[.float .f64 x, .float .f64 y, .bool up] w fun e w' => e = .returned (.tuple #[.float .f64 (g x y up).1, .int .i64 (g x y up).2]) ∧ Below w.heap.size w w') : CtOk P f (ctO2 g) := by
 refine ctP_ok hen rfl rfl (fun us w vs hl hv _ => ?_) rfl
 match us, hl with
 | [u0, u1, u2], _ =>
  obtain ⟨x, y, hx, hy, rfl⟩ := denL_cons.1 hv
  obtain ⟨x', y', hx', hy', rfl⟩ := denL_cons.1 hy
  obtain ⟨x'', y'', hx'', hy'', rfl⟩ := denL_cons.1 hy'
  rw [denL_nil.1 hy'']
  obtain ⟨a1, e1, w1, rfl⟩ := den_fl hx
  obtain ⟨a2, e2, w2, rfl⟩ := den_fl hx'
  obtain ⟨up, e3, rfl⟩ := den_bo hx''
  simp [E.ev] at e1 e2 e3
  subst e1 e2 e3
  refine ⟨.tuple #[.float .f64 (g a1 a2 up).1, .int .i64 (g a1 a2 up).2], ?_, H a1 a2 up w w1 w2⟩
  have k0 := hW a1 a2 up
  unfold den
  rw [denL_cons.2 ⟨_, _, fl_den (n := (g a1 a2 up).1) rfl k0, denL_cons.2 ⟨_, [], it_den (n := (g a1 a2 up).2) rfl, rfl, rfl⟩, rfl⟩]
theorem ctO1_ok {P : Program} {f : Nat} {g : Nat → Bool → Nat × Int} (hen : ∀ args w, (callFunc f args).run P w = .ok (.enter f args) w) (hW : ∀ x up, Dy.W x → Dy.W (g x up).1)
  (H : ∀ x up w, Dy.W x → Calls P f #[.float .f64 x, .bool up] w fun e w' => e = .returned (.tuple #[.float .f64 (g x up).1, .int .i64 (g x up).2]) ∧ Below w.heap.size w w') : CtOk P f (ctO1 g) := by
 refine ctP_ok hen rfl rfl (fun us w vs hl hv _ => ?_) rfl
 match us, hl with
 | [u0, u1], _ =>
  obtain ⟨x, y, hx, hy, rfl⟩ := denL_cons.1 hv
  obtain ⟨x', y', hx', hy', rfl⟩ := denL_cons.1 hy
  rw [denL_nil.1 hy']
  obtain ⟨a1, e1, w1, rfl⟩ := den_fl hx
  obtain ⟨up, e3, rfl⟩ := den_bo hx'
  simp [E.ev] at e1 e3
  subst e1 e3
  refine ⟨.tuple #[.float .f64 (g a1 up).1, .int .i64 (g a1 up).2], ?_, H a1 up w w1⟩
  have k0 := hW a1 up w1
  unfold den
  rw [denL_cons.2 ⟨_, _, fl_den (n := (g a1 up).1) rfl k0, denL_cons.2 ⟨_, [], it_den (n := (g a1 up).2) rfl, rfl, rfl⟩, rfl⟩]
theorem en {f : Nat} {fn : Func} (hf : Tryz.prog.funcs[f]? = some fn) (hb : fn.body.isSome = true) (hn : (fn.name == "runtime.NumGoroutine") = false) (args : Array Value) (w : World) : (callFunc f args).run Tryz.prog w = .ok (.enter f args) w := entersOk hf hb hn args w
theorem add_ct : CtOk Tryz.prog 118 (ctO2 Dy.dAdd) := ctO2_ok (en Tryz.func118 rfl (by decide)) Dy.dAdd_W add_any
theorem sub_ct : CtOk Tryz.prog 60 (ctO2 Dy.dSub) := ctO2_ok (en Tryz.func60 rfl (by decide)) Dy.dSub_W sub_any
theorem mul_ct : CtOk Tryz.prog 104 (ctO2 Dy.dMul) := ctO2_ok (en Tryz.func104 rfl (by decide)) Dy.dMul_W mul_any
theorem div_ct : CtOk Tryz.prog 126 (ctO2 Dy.dDiv) := ctO2_ok (en Tryz.func126 rfl (by decide)) Dy.dDiv_W div_any
theorem sqrt_ct : CtOk Tryz.prog 131 (ctO1 Dy.dSqrt) := ctO1_ok (en Tryz.func131 rfl (by decide)) (fun x up _ => Dy.dSqrt_W x up) sqrt_any
theorem next_ct : CtOk Tryz.prog 83 (ctO1 Dy.dNext) := ctO1_ok (en Tryz.func83 rfl (by decide)) (fun x up _ => Dy.dNext_W x up) next_any
theorem cAdd_ct : CtOk Tryz.prog 65 (ctC2 Dy.cAdd) := ctC2_ok (en Tryz.func65 rfl (by decide)) (fun _ _ _ _ _ => Dy.good_add.1) calAdd_any
theorem cSub_ct : CtOk Tryz.prog 66 (ctC2 Dy.cSub) := ctC2_ok (en Tryz.func66 rfl (by decide)) (fun _ _ _ _ hb => (Dy.good_sub hb).1) calSub_any
theorem cMul_ct : CtOk Tryz.prog 42 (ctC2 Dy.cMul) := ctC2_ok (en Tryz.func42 rfl (by decide)) (fun _ _ _ _ _ => Dy.good_mul.1) calMul_any
theorem cDiv_ct : CtOk Tryz.prog 67 (ctC2 Dy.cDiv) := ctC2_ok (en Tryz.func67 rfl (by decide)) (fun _ _ _ _ hb => (Dy.good_div hb).1) calDiv_any
theorem cSqr_ct : CtOk Tryz.prog 70 (ctC1 Dy.cSqr) := ctC1_ok (en Tryz.func70 rfl (by decide)) (fun _ _ ha => (Dy.good_sqr ha).1) calSqr_any
theorem cSqrt_ct : CtOk Tryz.prog 71 (ctC1 Dy.cSqrt) := ctC1_ok (en Tryz.func71 rfl (by decide)) (fun _ _ ha => (Dy.good_sqrt ha).1) calSqrt_any
theorem cNum_ct : CtOk Tryz.prog 43 (ctC0 Dy.cNum) := ctC0_ok (en Tryz.func43 rfl (by decide)) (fun _ _ hx => (Dy.good_num hx).1) calNum_any
def ctRight : Ct := ctP 1 [vf 0] (fun us _ => .b (Dy.right (gF us 0))) 1 (vb 1)
theorem right_ct : CtOk Tryz.prog 58 ctRight := by
 refine ctP_ok (en Tryz.func58 rfl (by decide)) rfl rfl (fun us w vs hl hv _ => ?_) rfl
 match us, hl with
 | [u0], _ =>
  obtain ⟨x, y, hx, hy, rfl⟩ := denL_cons.1 hv
  rw [denL_nil.1 hy]
  obtain ⟨a1, e1, w1, rfl⟩ := den_fl hx
  simp [E.ev] at e1; subst e1
  refine ⟨.bool (Dy.right a1), rfl, (right_any a1 w w1).mono fun e w' ⟨h1, h2⟩ => ⟨h1, ?_⟩⟩
  subst h2; exact Below.refl _ _
def ctIvR : Ct := ctP 2 [vp 0 1] (fIv1 Dy.ivR) 1 (vb 2)
theorem ivR_ct : CtOk Tryz.prog 17 ctIvR := by
 refine ctP_ok (en Tryz.func17 rfl (by decide)) rfl rfl (fun us w vs hl hv _ => ?_) rfl
 match us, hl with
 | [u0, u1], _ =>
  obtain ⟨x, y, hx, hy, rfl⟩ := denL_cons.1 hv
  rw [denL_nil.1 hy]
  obtain ⟨xs, h1, rfl⟩ := den_agg hx
  obtain ⟨p, q, h2, h3, rfl⟩ := denL_cons.1 h1
  obtain ⟨r, s, h4, h5, rfl⟩ := denL_cons.1 h3
  rw [denL_nil.1 h5]
  obtain ⟨a1, e1, w1, rfl⟩ := den_fl h2
  obtain ⟨a2, e2, w2, rfl⟩ := den_fl h4
  simp [E.ev] at e1 e2
  subst e1 e2
  exact ⟨.bool (Dy.ivR (a1, a2)), rfl, ivRight_any (a1, a2) w ⟨w1, w2⟩⟩
def ctHas : Ct := ctP 3 [vp 0 1, vf 2] (fun us _ => .b (Dy.ivHas (gF us 0, gF us 1) (gF us 2))) 1 (vb 3)
theorem has_ct : CtOk Tryz.prog 19 ctHas := by
 refine ctP_ok (en Tryz.func19 rfl (by decide)) rfl rfl (fun us w vs hl hv _ => ?_) rfl
 match us, hl with
 | [u0, u1, u2], _ =>
  obtain ⟨x, y, hx, hy, rfl⟩ := denL_cons.1 hv
  obtain ⟨x', y', hx', hy', rfl⟩ := denL_cons.1 hy
  rw [denL_nil.1 hy']
  obtain ⟨xs, h1, rfl⟩ := den_agg hx
  obtain ⟨p, q, h2, h3, rfl⟩ := denL_cons.1 h1
  obtain ⟨r, s, h4, h5, rfl⟩ := denL_cons.1 h3
  rw [denL_nil.1 h5]
  obtain ⟨a1, e1, w1, rfl⟩ := den_fl h2
  obtain ⟨a2, e2, w2, rfl⟩ := den_fl h4
  obtain ⟨a3, e3, w3, rfl⟩ := den_fl hx'
  simp [E.ev] at e1 e2 e3
  subst e1 e2 e3
  exact ⟨.bool (Dy.ivHas (a1, a2) a3), rfl, ivHas_any (a1, a2) a3 w ⟨w1, w2⟩⟩
end
def nIv (us : List U) : Bool := Dy.ivR (gF us 0, gF us 1)
def ivU (a : Nat × Nat) (i : Nat) : U := match i with
 | 0 => .f a.1
 | _ => .f a.2
def iMeet (a b : Nat × Nat) : (Nat × Nat) × Bool := if Dy.fgt (Dy.dmax a.1 b.1) (Dy.dmin a.2 b.2) = true then ((0, 0), false) else ((Dy.dmax a.1 b.1, Dy.dmin a.2 b.2), true)
def meetU (r : (Nat × Nat) × Bool) (i : Nat) : U := match i with
 | 0 => .f r.1.1
 | 1 => .f r.1.2
 | _ => .b r.2
def widthU (r : Nat × Int) (i : Nat) : U := match i with
 | 0 => .f r.1
 | _ => .i r.2
section
variable {Q : List U → Ex → SF → Prop} {L : List (List U → Prop)} {ρ : List U} {t t' : T}
theorem T.bind_i {b : Bind} {us xs : List U} (h : evs ρ b.args = some us) (hr : resl b us = xs) (k : t.holdsL Q L (ρ ++ xs)) : (T.bind b t).holdsL Q L ρ := by
 subst hr; unfold T.holdsL; rw [h]; exact k
theorem T.bind_n {b : Bind} {us xs ρ' : List U} (h : evs ρ b.args = some us) (hr : resl b us = xs) (hρ : ρ ++ xs = ρ') (k : t.holdsL Q L ρ') : (T.bind b t).holdsL Q L ρ := by
 subst hρ; exact T.bind_i h hr k
theorem T.need_i {n : Need} {us : List U} (h : evs ρ n.args = some us) (hp : n.p us = true) (k : t.holdsL Q L ρ) : (T.need n t).holdsL Q L ρ := by
 unfold T.holdsL; rw [h]; exact ⟨hp, k⟩
theorem T.ite_i {e : E} {x : Bool} (h : e.ev ρ = some (.b x)) (k : x = true → t.holdsL Q L ρ) (k' : x = false → t'.holdsL Q L ρ) : (T.ite e t t').holdsL Q L ρ := by
 unfold T.holdsL; rw [h]; exact ⟨k, k'⟩
theorem T.ite_t {e : E} {x : Bool} (h : e.ev ρ = some (.b x)) (hx : x = true) (k : t.holdsL Q L ρ) : (T.ite e t t').holdsL Q L ρ := by
 unfold T.holdsL; rw [h]; exact ⟨fun _ => k, fun h' => by rw [hx] at h'; cases h'⟩
theorem T.ite_f {e : E} {x : Bool} (h : e.ev ρ = some (.b x)) (hx : x = false) (k : t'.holdsL Q L ρ) : (T.ite e t t').holdsL Q L ρ := by
 unfold T.holdsL; rw [h]; exact ⟨fun h' => (by rw [hx] at h'; cases h'), fun _ => k⟩
theorem T.loop_i {ks : List Kd} {es : List E} {us : List U} (I : List U → Prop) (μ : List U → Nat) (h : evs ρ es = some us) (hI : I us) (k : ∀ us d, Typed ks us → I us → t.holdsL Q ((fun us' => I us' ∧ μ us' < μ us) :: L) (d :: us)) : (T.loop ks es t).holdsL Q L ρ := by
 unfold T.holdsL; refine ⟨I, μ, ?_, k⟩; rw [h]; exact hI
theorem T.again_i {R : List U → Prop} {es : List E} {us : List U} (h : evs ρ es = some us) (hR : R us) : (T.again es).holdsL Q (R :: L) ρ := by
 unfold T.holdsL; rw [h]; exact hR
theorem T.out_i {R : List U → Prop} (h : t.holdsL Q L ρ) : (T.out t).holdsL Q (R :: L) ρ := h
end
end Go.Proofs.YtkhplflbcgjkcaaGreat
