/- A reckoning of programs by symbols: ways of a law that fork and meet again. A reckoning of programs by symbols: a mark for numbers that are drawn; contracts of ways that fork. vec.Unit of what is no number. A reckoning of programs by symbols: the unit vector of any triple. -/
import Derived.Test.YtkhplflbcgjkcaaGreatYw
import Derived.Test.YtkhplflbcgjkcaaGreatMc
/-! A reckoning of programs by symbols: ways of a law that fork and meet again. -/
namespace Go.Proofs.YtkhplflbcgjkcaaGreat
open Go Go.RowKit
inductive Orc where
 | stop
 | t (o : Orc)
 | f (o : Orc)
 | both (a b : Orc)
def T.pr : T → Orc → T
 | .ite e t _, .t o => .need ⟨pT, [e]⟩ (t.pr o)
 | .ite e _ f, .f o => .need ⟨pF, [e]⟩ (f.pr o)
 | .ite e t f, .both a b => .ite e (t.pr a) (f.pr b)
 | .bind b t, o => .bind b (t.pr o)
 | .need n t, o => .need n (t.pr o)
 | .pick t, o => .pick (t.pr o)
 | t, _ => t
theorem T.pr_holds {Q : List U → Ex → SF → Prop} {L : List (List U → Prop)} : ∀ (t : T) (o : Orc) {ρ : List U}, (t.pr o).holdsL Q L ρ → t.holdsL Q L ρ
 | .ite e t f, .t o, ρ, h => by
  have h' : (match evs ρ [e] with | some us => pT us = true | none => False) ∧ (t.pr o).holdsL Q L ρ := h
  obtain ⟨h1, h2⟩ := h'
  split at h1
  ·rename_i us hus
   obtain ⟨u, rfl, hu⟩ := evs_one hus
   cases u with
   | b x =>
    have hx : x = true := h1
    exact T.ite_t hu hx (T.pr_holds t o h2)
   | _ => simp [pT] at h1
  ·exact h1.elim
 | .ite e t f, .f o, ρ, h => by
  have h' : (match evs ρ [e] with | some us => pF us = true | none => False) ∧ (f.pr o).holdsL Q L ρ := h
  obtain ⟨h1, h2⟩ := h'
  split at h1
  ·rename_i us hus
   obtain ⟨u, rfl, hu⟩ := evs_one hus
   cases u with
   | b x =>
    have hx : (!x) = true := h1
    exact T.ite_f hu (by simpa using hx) (T.pr_holds f o h2)
   | _ => simp [pF] at h1
  ·exact h1.elim
 | .ite e t f, .both a b, ρ, h => by
  have h' : (match e.ev ρ with | some (.b x) => (x = true → (t.pr a).holdsL Q L ρ) ∧ (x = false → (f.pr b).holdsL Q L ρ) | _ => False) := h
  split at h'
  ·rename_i x hx
   exact T.ite_i hx (fun k => T.pr_holds t a (h'.1 k)) (fun k => T.pr_holds f b (h'.2 k))
  ·exact h'.elim
 | .bind b t, o, ρ, h => by
  have h' : (match evs ρ b.args with | some us => (t.pr o).holdsL Q L (ρ ++ resl b us) | none => False) := h
  unfold T.holdsL
  split at h'
  ·rename_i us hus; rw [hus]; exact T.pr_holds t o h'
  ·exact h'.elim
 | .need n t, o, ρ, h => by
  unfold T.holdsL
  exact ⟨h.1, T.pr_holds t o h.2⟩
 | .pick t, o, ρ, h => fun x hx => T.pr_holds t o (h x hx)
 | .ite e t f, .stop, ρ, h => h
 | .done x st, o, ρ, h => h
 | .bad n, o, ρ, h => h
 | .loop ks es b, o, ρ, h => h
 | .again es, o, ρ, h => h
 | .out t, o, ρ, h => h
end Go.Proofs.YtkhplflbcgjkcaaGreat
/-! A reckoning of programs by symbols: a mark for numbers that are drawn; contracts of ways that fork. -/
namespace Go.Proofs.YtkhplflbcgjkcaaGreat
open Go Go.RowKit
theorem CtOk.of_eval2G {P : Program} {cts : List (Nat × Ct)} {dr : Array Oper → SF → (SF → T) → T} (hcts : AllOk P cts) (hdr : DrOk P dr) {f : Nat} {fn : Func} (hf : P.funcs[f]? = some fn) (hb : fn.body.isSome = true) (hn : (fn.name == "runtime.NumGoroutine") = false) (lh : List (Nat × LHint)) (fuel : Nat) {ct : Ct} (hct : ctB ct none = true) (hnew : ct.eff.new = none) (o : Orc) (t : T) (ht : (evF P cts dr lh fuel fn ct.m ct.blks ct.args none).pr o = t)
  (hv0 : (ct.args.all fun a => varsIn ct.m a) = true) (hv1 : (ct.blks.all fun c => c.all fun a => varsIn ct.m a) = true)
  (H : ∀ us, us.length = ct.m → FactsL us ct.args → FactsB us ct.blks → NeedsAt (runB ct.eff.binds us) ct.eff.needs → t.holds (Leaf2 ct (runB ct.eff.binds us)) us) : CtOk P f ct := by
 subst ht
 exact CtOk.of_eval2 hcts hdr hf hb hn lh fuel hct hnew _ rfl hv0 hv1 fun us a b c d => T.pr_holds _ o (H us a b c d)
def ctDk : Ct := ⟨0, [], [], { needs := [⟨fun _ => false, []⟩], val := .und }⟩
theorem ctDk_ok : CtOk Tryz.prog 1000003 ctDk := ⟨fun β ρ w vs a b c d hv hm hb hn => by
 obtain ⟨xs, h1, h2⟩ := hn _ (List.mem_singleton.2 rfl)
 cases h2⟩
def dk0 : List (Nat × Ct) := (1000003, ctDk) :: mc28
theorem dk0_ok : AllOk Tryz.prog dk0 := ⟨ctDk_ok, mc28_ok⟩
end Go.Proofs.YtkhplflbcgjkcaaGreat
/-! vec.Unit of what is no number. -/
namespace Go.Proofs.YtkhplflbcgjkcaaGreat
open Go Go.RowKit
set_option linter.unusedSimpArgs false
set_option linter.unusedVariables false
def vb0 : List (Nat × Ct) := dk0
theorem vb0_ok : AllOk Tryz.prog vb0 := dk0_ok
def nBad3 (us : List U) : Bool := !(Dy.right (gF us 0) && (Dy.right (gF us 1) && Dy.right (gF us 2)))
def ctUnitBad : Ct := ⟨3, [], [.agg [vf 0, vf 1, vf 2]], { binds := [], needs := [⟨nBad3, upto 0 3⟩], val := .tup [.agg [.fl (.l (.f 0)), .fl (.l (.f 0)), .fl (.l (.f 0)), .fl (.l (.f 0)), .fl (.l (.f 0)), .fl (.l (.f 0))], .it .i64 (.l (.i 50))], upd := [] }⟩
set_option maxRecDepth 100000 in
set_option maxHeartbeats 4000000 in
theorem ctUnitBad_ok : CtOk Tryz.prog 33 ctUnitBad := by
 refine CtOk.of_eval2G vb0_ok (dr_ok vb0_ok) Tryz.func33 rfl (by decide) [] 200 (by kernel_rfl) rfl (.both .stop (.both .stop (.t .stop))) (.bind ⟨fun us _ => .f (Dy.abs (gF us 0)), 1, [(.v 0)]⟩ (.bind ⟨fun us _ => .f (Dy.abs (gF us 0)), 1, [(.v 1)]⟩ (.bind ⟨fun us _ => .f (Dy.abs (gF us 0)), 1, [(.v 2)]⟩ (.pick (.bind ⟨fun us _ => .b (Dy.right (gF us 0)), 1, [(.v 0)]⟩ (.bind ⟨fun us _ => nB us, 1, [(.v 7)]⟩ (.ite (.v 8) (.done .ret ⟨[.tup [.agg [.fl (.l (.f 0)), .fl (.l (.f 0)), .fl (.l (.f 0)), .fl (.l (.f 0)), .fl (.l (.f 0)), .fl (.l (.f 0))], .it .i64 (.l (.i 50))]], [], 9, []⟩) (.bind ⟨fun us _ => .b (Dy.right (gF us 0)), 1, [(.v 1)]⟩ (.bind ⟨fun us _ => nB us, 1, [(.v 9)]⟩ (.ite (.v 10) (.done .ret ⟨[.tup [.agg [.fl (.l (.f 0)), .fl (.l (.f 0)), .fl (.l (.f 0)), .fl (.l (.f 0)), .fl (.l (.f 0)), .fl (.l (.f 0))], .it .i64 (.l (.i 50))]], [], 11, []⟩) (.bind ⟨fun us _ => .b (Dy.right (gF us 0)), 1, [(.v 2)]⟩ (.bind ⟨fun us _ => nB us, 1, [(.v 11)]⟩ (.need ⟨pT, [(.v 12)]⟩ (.done .ret ⟨[.tup [.agg [.fl (.l (.f 0)), .fl (.l (.f 0)), .fl (.l (.f 0)), .fl (.l (.f 0)), .fl (.l (.f 0)), .fl (.l (.f 0))], .it .i64 (.l (.i 50))]], [], 13, []⟩)))))))))))))) (by kernel_rfl) (by kernel_rfl) (by kernel_rfl) (fun us hl hF hB hN => ?_)
 match us, hl with
 | [u0, u1, u2], _ =>
  simp [FactsB, FactsL, Facts, ctUnitBad] at hF hB
  simp [NeedsAt, runB, evs, E.ev, upto, resl, List.range, List.range.loop, ctUnitBad] at hN
  obtain ⟨⟨a1, rfl, w1⟩, ⟨a2, rfl, w2⟩, ⟨a3, rfl, w3⟩⟩ := hF
  simp [nBad3, gF, U.F] at hN
  obtain ⟨t0, h0⟩ : ∃ t0, ((Dy.abs (a1))) = t0 := ⟨_, rfl⟩
  obtain ⟨t1, h1⟩ : ∃ t1, ((Dy.abs (a2))) = t1 := ⟨_, rfl⟩
  obtain ⟨t2, h2⟩ : ∃ t2, ((Dy.abs (a3))) = t2 := ⟨_, rfl⟩
  obtain ⟨t4, h3⟩ : ∃ t4, ((Dy.right (a1))) = t4 := ⟨_, rfl⟩
  obtain ⟨t5, h4⟩ : ∃ t5, (!t4) = t5 := ⟨_, rfl⟩
  obtain ⟨t6, h5⟩ : ∃ t6, ((Dy.right (a2))) = t6 := ⟨_, rfl⟩
  obtain ⟨t7, h6⟩ : ∃ t7, (!t6) = t7 := ⟨_, rfl⟩
  obtain ⟨t8, h7⟩ : ∃ t8, ((Dy.right (a3))) = t8 := ⟨_, rfl⟩
  have h8 : t5 = false → t7 = false → (!t8) = true := by intro c0 c1; simp_all
  refine T.HH.h ?_
  refine T.hbind rfl (congrArg (fun r => [U.f r]) h0) rfl ?_
  refine T.hbind rfl (congrArg (fun r => [U.f r]) h1) rfl ?_
  refine T.hbind rfl (congrArg (fun r => [U.f r]) h2) rfl ?_
  refine T.hpick (ρ' := fun k9 => [.f a1, .f a2, .f a3, .f t0, .f t1, .f t2, .f k9]) (fun _ => rfl) (fun k9 hk9 => ?_)
  refine T.hbind rfl (congrArg (fun r => [U.b r]) h3) rfl ?_
  refine T.hbind rfl (congrArg (fun r => [U.b r]) h4) rfl ?_
  refine T.hite (x := t5) rfl (fun c0 => ?_) (fun c0 => ?_)
  ·exact T.hdone ⟨⟨⟨rfl, rfl, rfl, rfl, rfl, rfl, trivial⟩, ⟨rfl, rfl⟩, trivial⟩, trivial, rfl⟩
  ·refine T.hbind rfl (congrArg (fun r => [U.b r]) h5) rfl ?_
   refine T.hbind rfl (congrArg (fun r => [U.b r]) h6) rfl ?_
   refine T.hite (x := t7) rfl (fun c1 => ?_) (fun c1 => ?_)
   ·exact T.hdone ⟨⟨⟨rfl, rfl, rfl, rfl, rfl, rfl, trivial⟩, ⟨rfl, rfl⟩, trivial⟩, trivial, rfl⟩
   ·refine T.hbind (ρ' := [.f a1, .f a2, .f a3, .f t0, .f t1, .f t2, .f k9, .b t4, .b t5, .b t6, .b t7, .b t8]) rfl (congrArg (fun r => [U.b r]) h7) rfl ?_
    refine T.hbind rfl (congrArg (fun r => [U.b r]) (h8 c0 c1)) rfl ?_
    refine T.hneed rfl (rfl) ?_
    exact T.hdone ⟨⟨⟨rfl, rfl, rfl, rfl, rfl, rfl, trivial⟩, ⟨rfl, rfl⟩, trivial⟩, trivial, rfl⟩
def vb1 : List (Nat × Ct) := (33, ctUnitBad) :: vb0
end Go.Proofs.YtkhplflbcgjkcaaGreat
/-! A reckoning of programs by symbols: the unit vector of any triple. -/
namespace Go.Proofs.YtkhplflbcgjkcaaGreat
open Go Go.RowKit
def unitT (a b c : Nat) : ((Nat × Nat) × (Nat × Nat) × (Nat × Nat)) × Int := if nR3 [.f a, .f b, .f c] = true then unitG a b c else (((0, 0), (0, 0), (0, 0)), 50)
def ctUnitT : Ct := ⟨3, [], [.agg [vf 0, vf 1, vf 2]], { binds := [⟨fun us i => vecU ((unitT (gF us 0) (gF us 1) (gF us 2))) i, 7, upto 0 3⟩], needs := [], val := .tup [.agg [vf 3, vf 4, vf 5, vf 6, vf 7, vf 8], vi .i64 9], upd := [] }⟩
theorem unitT_ct : CtOk Tryz.prog 33 ctUnitT := by
 refine ⟨fun β ρ w vs a b c d hv hm hb hn => ?_⟩
 obtain ⟨⟨us, h1, h2⟩, h3⟩ := hb
 match ρ, hm with
 | u0 :: u1 :: u2 :: l, _ =>
  simp [evs, upto, E.ev] at h1
  subst h1
  have hF := denL_facts [.agg [vf 0, vf 1, vf 2]] hv
  simp [FactsL, Facts] at hF
  obtain ⟨⟨a1, rfl, w1⟩, ⟨a2, rfl, w2⟩, ⟨a3, rfl, w3⟩⟩ := hF
  have hu : unitT a1 a2 a3 = if nR3 [.f a1, .f a2, .f a3] = true then unitG a1 a2 a3 else (((0, 0), (0, 0), (0, 0)), 50) := rfl
  by_cases h : nR3 [.f a1, .f a2, .f a3] = true
  ·rw [if_pos h] at hu
   refine (ctUnit_ok.call β _ w vs a b c d hv (by simp; exact Nat.le_add_left 3 _) ⟨⟨[.f a1, .f a2, .f a3], by simp [evs, upto, E.ev], fun i hi => ?_⟩, h3⟩ (fun n hn => ?_)).mono fun e w' ⟨β', v, p, q⟩ => ⟨β', v, ⟨p.os, p.tape, p.output, p.size, p.old, p.upd, p.new⟩, q⟩
   ·exact (h2 i hi).trans (show some (vecU (unitT a1 a2 a3) i) = some (vecU (unitG a1 a2 a3) i) by rw [hu])
   ·have hn' := List.mem_singleton.1 hn
    subst hn'
    exact ⟨[.f a1, .f a2, .f a3], by simp [evs, E.ev], h⟩
  ·rw [if_neg h] at hu
   have hz : ∀ i, i < 7 → (U.f a1 :: U.f a2 :: U.f a3 :: l)[3 + i]? = some (vecU (((0, 0), (0, 0), (0, 0)), 50) i) := fun i hi => (h2 i hi).trans (show some (vecU (unitT a1 a2 a3) i) = some (vecU (((0, 0), (0, 0), (0, 0)), 50) i) by rw [hu])
   have hbad : nBad3 [.f a1, .f a2, .f a3] = true := by
    have e1 : nR3 [.f a1, .f a2, .f a3] = (Dy.right a1 && Dy.right a2 && Dy.right a3) := rfl
    have e2 : nBad3 [.f a1, .f a2, .f a3] = !(Dy.right a1 && (Dy.right a2 && Dy.right a3)) := rfl
    rw [e1] at h; rw [e2]
    revert h
    cases Dy.right a1 <;> cases Dy.right a2 <;> cases Dy.right a3 <;> simp
   refine (ctUnitBad_ok.call β _ w vs a b c d hv (by simp; exact Nat.le_add_left 3 _) trivial (fun n hn => ?_)).mono fun e w' ⟨β', v, p, q, r⟩ => ⟨β', v, ⟨p.os, p.tape, p.output, p.size, p.old, p.upd, p.new⟩, ?_, r⟩
   ·have hn' := List.mem_singleton.1 hn
    subst hn'
    exact ⟨[.f a1, .f a2, .f a3], by simp [evs, upto, E.ev], hbad⟩
   ·rw [← q]
    exact eqV_den β' _ _ ⟨⟨hz 0 (by decide), hz 1 (by decide), hz 2 (by decide), hz 3 (by decide), hz 4 (by decide), hz 5 (by decide), trivial⟩, ⟨rfl, hz 6 (by decide)⟩, trivial⟩
def lx0 : List (Nat × Ct) := (33, ctUnitT) :: mc28
theorem lx0_ok : AllOk Tryz.prog lx0 := ⟨unitT_ct, mc28_ok⟩
end Go.Proofs.YtkhplflbcgjkcaaGreat
