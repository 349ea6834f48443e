/- A reckoning of programs by symbols: contracts of packages ival and lambert. -/
import Derived.Test.YtiphdhpacklboaaYi
import Derived.Test.YtiphdhpacklboaaYw
namespace Go.Proofs.Ytiphdhpacklboaa
open Go Go.RowKit
set_option linter.unusedSimpArgs false
set_option linter.unusedVariables false

def s0 : List (Nat × Ct) := t8
theorem s0_ok : AllOk Try.prog s0 := t8_ok
def ctTurnedR : Ct := ctP 2 [vp 0 1] (fun us i => ivU (Dy.iTurned (gF us 0, gF us 1)) i) 2 (vp 2 3) [⟨nIv, [.v 0, .v 1]⟩]
theorem ctTurnedR_ok : CtOk Try.prog 111 ctTurnedR := by
  refine ctP_ok (en Try.func111 rfl (by decide)) rfl rfl (fun us w vs hl hv hn => ?_) rfl
  match us, hl with
  | [u0, u1], _ =>
    obtain ⟨x0, y0, hx0, hy0, rfl⟩ := denL_cons.1 hv
    obtain ⟨xs0, h0a, rfl⟩ := den_agg hx0
    obtain ⟨p0, q0, h0b, h0c, rfl⟩ := denL_cons.1 h0a
    obtain ⟨r0, s0, h0d, h0e, rfl⟩ := denL_cons.1 h0c
    rw [denL_nil.1 h0e]
    obtain ⟨a0, e0, w0, rfl⟩ := den_fl h0b
    obtain ⟨a1, e1, w1, rfl⟩ := den_fl h0d
    rw [denL_nil.1 hy0]
    simp [E.ev] at e0 e1
    subst e0 e1
    have n0 : Dy.ivR (a0, a1) = true := by obtain ⟨xs, h1, h2⟩ := hn _ (List.mem_singleton.2 rfl); simp [evs, E.ev] at h1; subst h1; exact h2
    exact ⟨iv (Dy.iTurned (a0, a1)), iv_den (fun i => rfl) (Dy.turned_good (a := (a0, a1)) ⟨w0, w1⟩ n0).1, turned_any (a0, a1) w ⟨w0, w1⟩ n0⟩

def s1 : List (Nat × Ct) := (111, ctTurnedR) :: s0
theorem s1_ok : AllOk Try.prog s1 := ⟨ctTurnedR_ok, s0_ok⟩

def ctBare : Ct := ctP 2 [vp 0 1] (fun us i => ivU (Dy.iBare (gF us 0, gF us 1)) i) 2 (vp 2 3) [⟨nIv, [.v 0, .v 1]⟩]
theorem ctBare_ok : CtOk Try.prog 101 ctBare := by
  refine ctP_ok (en Try.func101 rfl (by decide)) rfl rfl (fun us w vs hl hv hn => ?_) rfl
  match us, hl with
  | [u0, u1], _ =>
    obtain ⟨x0, y0, hx0, hy0, rfl⟩ := denL_cons.1 hv
    obtain ⟨xs0, h0a, rfl⟩ := den_agg hx0
    obtain ⟨p0, q0, h0b, h0c, rfl⟩ := denL_cons.1 h0a
    obtain ⟨r0, s0, h0d, h0e, rfl⟩ := denL_cons.1 h0c
    rw [denL_nil.1 h0e]
    obtain ⟨a0, e0, w0, rfl⟩ := den_fl h0b
    obtain ⟨a1, e1, w1, rfl⟩ := den_fl h0d
    rw [denL_nil.1 hy0]
    simp [E.ev] at e0 e1
    subst e0 e1
    have n0 : Dy.ivR (a0, a1) = true := by obtain ⟨xs, h1, h2⟩ := hn _ (List.mem_singleton.2 rfl); simp [evs, E.ev] at h1; subst h1; exact h2
    exact ⟨iv (Dy.iBare (a0, a1)), iv_den (fun i => rfl) (Dy.bare_good (a := (a0, a1)) ⟨w0, w1⟩ n0).1, bare_any (a0, a1) w ⟨w0, w1⟩ n0⟩

def s2 : List (Nat × Ct) := (101, ctBare) :: s1
theorem s2_ok : AllOk Try.prog s2 := ⟨ctBare_ok, s1_ok⟩

def ctSame : Ct := ctP 2 [vf 0, vf 1] (fun us _ => .b (decide (gF us 0 = gF us 1))) 1 (vb 2) []
theorem ctSame_ok : CtOk Try.prog 53 ctSame := by
  refine ctP_ok (en Try.func53 rfl (by decide)) rfl rfl (fun us w vs hl hv hn => ?_) rfl
  match us, hl with
  | [u0, u1], _ =>
    obtain ⟨x0, y0, hx0, hy0, rfl⟩ := denL_cons.1 hv
    obtain ⟨a0, e0, w0, rfl⟩ := den_fl hx0
    obtain ⟨x1, y1, hx1, hy1, rfl⟩ := denL_cons.1 hy0
    obtain ⟨a1, e1, w1, rfl⟩ := den_fl hx1
    rw [denL_nil.1 hy1]
    simp [E.ev] at e0 e1
    subst e0 e1
    exact ⟨.bool (decide (a0 = a1)), rfl, (same_any a0 a1 w).mono fun e w2 ⟨h1, h2⟩ => ⟨by rw [h1]; congr 2; rw [Bool.eq_iff_iff]; simp; omega, by subst h2; exact Below.refl _ _⟩⟩

def s3 : List (Nat × Ct) := (53, ctSame) :: s2
theorem s3_ok : AllOk Try.prog s3 := ⟨ctSame_ok, s2_ok⟩

def ctNeg : Ct := ⟨3, [[vi .i64 0]], [.ptr 0 0, vp 1 2], { binds := [⟨fun us i => calR (Dy.cNeg (gI us 0) (gF us 1, gF us 2)) i, 3, upto 0 3⟩], needs := [⟨nIv, [.v 1, .v 2]⟩], val := vp 3 4, upd := [(0, [vi .i64 5])] }⟩
set_option maxRecDepth 100000 in
set_option maxHeartbeats 4000000 in
theorem ctNeg_ok : CtOk Try.prog 51 ctNeg := by
  refine CtOk.of_eval2 s3_ok (dr_ok s3_ok) Try.func51 rfl (by decide) [] 200 (by kernel_rfl) rfl (.bind ⟨fun us i => ivU (Dy.iTurned (gF us 0, gF us 1)) i, 2, [(.v 1), (.v 2)]⟩ (.need ⟨nIv, [(.v 1), (.v 2)]⟩ (.bind ⟨fun us i => calR (Dy.cAsk (gI us 0) (Dy.ivR (gF us 3, gF us 4)) ((gF us 1, gF us 2), 0)) i, 3, [(.v 0), (.v 3), (.v 4), (.v 1), (.v 2)]⟩ (.done .ret ⟨[.agg [.fl (.v 5), .fl (.v 6)]], [some ([.it .i64 (.v 7)])], 8, [0]⟩)))) (by kernel_rfl) (by kernel_rfl) (by kernel_rfl) (fun us hl hF hB hN => ?_)
  match us, hl with
  | [u0, u1, u2], _ =>
    simp [FactsB, FactsL, Facts, ctNeg] at hF hB
    simp [NeedsAt, runB, evs, E.ev, upto, resl, List.range, List.range.loop, ctNeg] at hN
    obtain ⟨⟨a1, rfl, w1⟩, ⟨a2, rfl, w2⟩⟩ := hF
    obtain ⟨e, rfl⟩ := hB
    simp [nIv, gF, U.F] at hN
    refine T.HH.h ?_
    refine T.hbind (us := [.f a1, .f a2]) (xs := [.f ((Dy.iTurned (a1, a2)).1), .f ((Dy.iTurned (a1, a2)).2)]) (ρ' := [.i e, .f a1, .f a2, .f ((Dy.iTurned (a1, a2)).1), .f ((Dy.iTurned (a1, a2)).2)]) rfl (rfl) rfl ?_
    refine T.hneed (us := [.f a1, .f a2]) rfl (hN) ?_
    refine T.hbind (us := [.i e, .f ((Dy.iTurned (a1, a2)).1), .f ((Dy.iTurned (a1, a2)).2), .f a1, .f a2]) (xs := [.f ((Dy.cAsk (e) (Dy.ivR (a1, a2)) ((((Dy.iTurned (a1, a2)).1), ((Dy.iTurned (a1, a2)).2)), 0)).1.1), .f ((Dy.cAsk (e) (Dy.ivR (a1, a2)) ((((Dy.iTurned (a1, a2)).1), ((Dy.iTurned (a1, a2)).2)), 0)).1.2), .i ((Dy.cAsk (e) (Dy.ivR (a1, a2)) ((((Dy.iTurned (a1, a2)).1), ((Dy.iTurned (a1, a2)).2)), 0)).2)]) (ρ' := [.i e, .f a1, .f a2, .f ((Dy.iTurned (a1, a2)).1), .f ((Dy.iTurned (a1, a2)).2), .f ((Dy.cAsk (e) (Dy.ivR (a1, a2)) ((((Dy.iTurned (a1, a2)).1), ((Dy.iTurned (a1, a2)).2)), 0)).1.1), .f ((Dy.cAsk (e) (Dy.ivR (a1, a2)) ((((Dy.iTurned (a1, a2)).1), ((Dy.iTurned (a1, a2)).2)), 0)).1.2), .i ((Dy.cAsk (e) (Dy.ivR (a1, a2)) ((((Dy.iTurned (a1, a2)).1), ((Dy.iTurned (a1, a2)).2)), 0)).2)]) rfl (rfl) rfl ?_
    refine T.hdone ?_
    have e0 : Dy.cNeg (e) (a1, a2) = Dy.cAsk e (Dy.ivR (a1, a2)) (((Dy.iTurned (a1, a2)).1, (Dy.iTurned (a1, a2)).2), 0) := rfl
    exact ⟨⟨(congrArg (fun r => some (calR r 0)) e0.symm), (congrArg (fun r => some (calR r 1)) e0.symm), trivial⟩, ⟨⟨⟨rfl, (congrArg (fun r => some (calR r 2)) e0.symm)⟩, trivial⟩, trivial⟩, rfl⟩

def s4 : List (Nat × Ct) := (51, ctNeg) :: s3
theorem s4_ok : AllOk Try.prog s4 := ⟨ctNeg_ok, s3_ok⟩

def ctAbs : Ct := ⟨3, [[vi .i64 0]], [.ptr 0 0, vp 1 2], { binds := [⟨fun us i => calR (Dy.cAbs (gI us 0) (gF us 1, gF us 2)) i, 3, upto 0 3⟩], needs := [⟨nIv, [.v 1, .v 2]⟩], val := vp 3 4, upd := [(0, [vi .i64 5])] }⟩
set_option maxRecDepth 100000 in
set_option maxHeartbeats 4000000 in
theorem ctAbs_ok : CtOk Try.prog 52 ctAbs := by
  refine CtOk.of_eval2 s4_ok (dr_ok s4_ok) Try.func52 rfl (by decide) [] 200 (by kernel_rfl) rfl (.bind ⟨fun us i => ivU (Dy.iBare (gF us 0, gF us 1)) i, 2, [(.v 1), (.v 2)]⟩ (.need ⟨nIv, [(.v 1), (.v 2)]⟩ (.bind ⟨fun us i => calR (Dy.cAsk (gI us 0) (Dy.ivR (gF us 3, gF us 4)) ((gF us 1, gF us 2), 0)) i, 3, [(.v 0), (.v 3), (.v 4), (.v 1), (.v 2)]⟩ (.done .ret ⟨[.agg [.fl (.v 5), .fl (.v 6)]], [some ([.it .i64 (.v 7)])], 8, [0]⟩)))) (by kernel_rfl) (by kernel_rfl) (by kernel_rfl) (fun us hl hF hB hN => ?_)
  match us, hl with
  | [u0, u1, u2], _ =>
    simp [FactsB, FactsL, Facts, ctAbs] at hF hB
    simp [NeedsAt, runB, evs, E.ev, upto, resl, List.range, List.range.loop, ctAbs] at hN
    obtain ⟨⟨a1, rfl, w1⟩, ⟨a2, rfl, w2⟩⟩ := hF
    obtain ⟨e, rfl⟩ := hB
    simp [nIv, gF, U.F] at hN
    refine T.HH.h ?_
    refine T.hbind (us := [.f a1, .f a2]) (xs := [.f ((Dy.iBare (a1, a2)).1), .f ((Dy.iBare (a1, a2)).2)]) (ρ' := [.i e, .f a1, .f a2, .f ((Dy.iBare (a1, a2)).1), .f ((Dy.iBare (a1, a2)).2)]) rfl (rfl) rfl ?_
    refine T.hneed (us := [.f a1, .f a2]) rfl (hN) ?_
    refine T.hbind (us := [.i e, .f ((Dy.iBare (a1, a2)).1), .f ((Dy.iBare (a1, a2)).2), .f a1, .f a2]) (xs := [.f ((Dy.cAsk (e) (Dy.ivR (a1, a2)) ((((Dy.iBare (a1, a2)).1), ((Dy.iBare (a1, a2)).2)), 0)).1.1), .f ((Dy.cAsk (e) (Dy.ivR (a1, a2)) ((((Dy.iBare (a1, a2)).1), ((Dy.iBare (a1, a2)).2)), 0)).1.2), .i ((Dy.cAsk (e) (Dy.ivR (a1, a2)) ((((Dy.iBare (a1, a2)).1), ((Dy.iBare (a1, a2)).2)), 0)).2)]) (ρ' := [.i e, .f a1, .f a2, .f ((Dy.iBare (a1, a2)).1), .f ((Dy.iBare (a1, a2)).2), .f ((Dy.cAsk (e) (Dy.ivR (a1, a2)) ((((Dy.iBare (a1, a2)).1), ((Dy.iBare (a1, a2)).2)), 0)).1.1), .f ((Dy.cAsk (e) (Dy.ivR (a1, a2)) ((((Dy.iBare (a1, a2)).1), ((Dy.iBare (a1, a2)).2)), 0)).1.2), .i ((Dy.cAsk (e) (Dy.ivR (a1, a2)) ((((Dy.iBare (a1, a2)).1), ((Dy.iBare (a1, a2)).2)), 0)).2)]) rfl (rfl) rfl ?_
    refine T.hdone ?_
    have e0 : Dy.cAbs (e) (a1, a2) = Dy.cAsk e (Dy.ivR (a1, a2)) (((Dy.iBare (a1, a2)).1, (Dy.iBare (a1, a2)).2), 0) := rfl
    exact ⟨⟨(congrArg (fun r => some (calR r 0)) e0.symm), (congrArg (fun r => some (calR r 1)) e0.symm), trivial⟩, ⟨⟨⟨rfl, (congrArg (fun r => some (calR r 2)) e0.symm)⟩, trivial⟩, trivial⟩, rfl⟩

def s5 : List (Nat × Ct) := (52, ctAbs) :: s4
theorem s5_ok : AllOk Try.prog s5 := ⟨ctAbs_ok, s4_ok⟩

def ctMin : Ct := ⟨5, [[vi .i64 0]], [.ptr 0 0, vp 1 2, vp 3 4], { binds := [⟨fun us i => calR (Dy.cMin (gI us 0) (gF us 1, gF us 2) (gF us 3, gF us 4)) i, 3, upto 0 5⟩], needs := [⟨nIv, [.v 1, .v 2]⟩, ⟨nIv, [.v 3, .v 4]⟩], val := vp 5 6, upd := [(0, [vi .i64 7])] }⟩
set_option maxRecDepth 100000 in
set_option maxHeartbeats 4000000 in
theorem ctMin_ok : CtOk Try.prog 48 ctMin := by
  refine CtOk.of_eval2 s5_ok (dr_ok s5_ok) Try.func48 rfl (by decide) [] 200 (by kernel_rfl) rfl (.bind ⟨fun us _ => gB Dy.dmin us, 1, [(.v 1), (.v 3)]⟩ (.need ⟨rN, [(.v 1), (.v 3)]⟩ (.bind ⟨fun us _ => gB Dy.dmin us, 1, [(.v 2), (.v 4)]⟩ (.need ⟨rN, [(.v 2), (.v 4)]⟩ (.bind ⟨fun us i => calR (Dy.cAsk (gI us 0) (Dy.ivR (gF us 3, gF us 4) && Dy.ivR (gF us 5, gF us 6)) ((gF us 1, gF us 2), 0)) i, 3, [(.v 0), (.v 5), (.v 6), (.v 1), (.v 2), (.v 3), (.v 4)]⟩ (.done .ret ⟨[.agg [.fl (.v 7), .fl (.v 8)]], [some ([.it .i64 (.v 9)])], 10, [0]⟩)))))) (by kernel_rfl) (by kernel_rfl) (by kernel_rfl) (fun us hl hF hB hN => ?_)
  match us, hl with
  | [u0, u1, u2, u3, u4], _ =>
    simp [FactsB, FactsL, Facts, ctMin] at hF hB
    simp [NeedsAt, runB, evs, E.ev, upto, resl, List.range, List.range.loop, ctMin] at hN
    obtain ⟨⟨⟨a1, rfl, w1⟩, ⟨a2, rfl, w2⟩⟩, ⟨b1, rfl, w3⟩, ⟨b2, rfl, w4⟩⟩ := hF
    obtain ⟨e, rfl⟩ := hB
    simp [nIv, gF, U.F] at hN
    have r1 := Dy.ivR_of hN.1
    have r2 := Dy.ivR_of hN.2
    simp at r1 r2
    refine T.HH.h ?_
    refine T.hbind (us := [.f a1, .f b1]) (xs := [.f (Dy.dmin a1 b1)]) (ρ' := [.i e, .f a1, .f a2, .f b1, .f b2, .f (Dy.dmin a1 b1)]) rfl (rfl) rfl ?_
    refine T.hneed (us := [.f a1, .f b1]) rfl (show (Dy.right a1 && Dy.right b1) = true from by simp [r1, r2]) ?_
    refine T.hbind (us := [.f a2, .f b2]) (xs := [.f (Dy.dmin a2 b2)]) (ρ' := [.i e, .f a1, .f a2, .f b1, .f b2, .f (Dy.dmin a1 b1), .f (Dy.dmin a2 b2)]) rfl (rfl) rfl ?_
    refine T.hneed (us := [.f a2, .f b2]) rfl (show (Dy.right a2 && Dy.right b2) = true from by simp [r1, r2]) ?_
    refine T.hbind (us := [.i e, .f (Dy.dmin a1 b1), .f (Dy.dmin a2 b2), .f a1, .f a2, .f b1, .f b2]) (xs := [.f ((Dy.cAsk (e) (Dy.ivR (a1, a2) && Dy.ivR (b1, b2)) (((Dy.dmin a1 b1), (Dy.dmin a2 b2)), 0)).1.1), .f ((Dy.cAsk (e) (Dy.ivR (a1, a2) && Dy.ivR (b1, b2)) (((Dy.dmin a1 b1), (Dy.dmin a2 b2)), 0)).1.2), .i ((Dy.cAsk (e) (Dy.ivR (a1, a2) && Dy.ivR (b1, b2)) (((Dy.dmin a1 b1), (Dy.dmin a2 b2)), 0)).2)]) (ρ' := [.i e, .f a1, .f a2, .f b1, .f b2, .f (Dy.dmin a1 b1), .f (Dy.dmin a2 b2), .f ((Dy.cAsk (e) (Dy.ivR (a1, a2) && Dy.ivR (b1, b2)) (((Dy.dmin a1 b1), (Dy.dmin a2 b2)), 0)).1.1), .f ((Dy.cAsk (e) (Dy.ivR (a1, a2) && Dy.ivR (b1, b2)) (((Dy.dmin a1 b1), (Dy.dmin a2 b2)), 0)).1.2), .i ((Dy.cAsk (e) (Dy.ivR (a1, a2) && Dy.ivR (b1, b2)) (((Dy.dmin a1 b1), (Dy.dmin a2 b2)), 0)).2)]) rfl (rfl) rfl ?_
    refine T.hdone ?_
    have e0 : Dy.cMin (e) (a1, a2) (b1, b2) = Dy.cAsk e (Dy.ivR (a1, a2) && Dy.ivR (b1, b2)) ((Dy.dmin a1 b1, Dy.dmin a2 b2), 0) := rfl
    exact ⟨⟨(congrArg (fun r => some (calR r 0)) e0.symm), (congrArg (fun r => some (calR r 1)) e0.symm), trivial⟩, ⟨⟨⟨rfl, (congrArg (fun r => some (calR r 2)) e0.symm)⟩, trivial⟩, trivial⟩, rfl⟩

def s6 : List (Nat × Ct) := (48, ctMin) :: s5
theorem s6_ok : AllOk Try.prog s6 := ⟨ctMin_ok, s5_ok⟩

def ctMax : Ct := ⟨5, [[vi .i64 0]], [.ptr 0 0, vp 1 2, vp 3 4], { binds := [⟨fun us i => calR (Dy.cMax (gI us 0) (gF us 1, gF us 2) (gF us 3, gF us 4)) i, 3, upto 0 5⟩], needs := [⟨nIv, [.v 1, .v 2]⟩, ⟨nIv, [.v 3, .v 4]⟩], val := vp 5 6, upd := [(0, [vi .i64 7])] }⟩
set_option maxRecDepth 100000 in
set_option maxHeartbeats 4000000 in
theorem ctMax_ok : CtOk Try.prog 49 ctMax := by
  refine CtOk.of_eval2 s6_ok (dr_ok s6_ok) Try.func49 rfl (by decide) [] 200 (by kernel_rfl) rfl (.bind ⟨fun us _ => gB Dy.dmax us, 1, [(.v 1), (.v 3)]⟩ (.need ⟨rN, [(.v 1), (.v 3)]⟩ (.bind ⟨fun us _ => gB Dy.dmax us, 1, [(.v 2), (.v 4)]⟩ (.need ⟨rN, [(.v 2), (.v 4)]⟩ (.bind ⟨fun us i => calR (Dy.cAsk (gI us 0) (Dy.ivR (gF us 3, gF us 4) && Dy.ivR (gF us 5, gF us 6)) ((gF us 1, gF us 2), 0)) i, 3, [(.v 0), (.v 5), (.v 6), (.v 1), (.v 2), (.v 3), (.v 4)]⟩ (.done .ret ⟨[.agg [.fl (.v 7), .fl (.v 8)]], [some ([.it .i64 (.v 9)])], 10, [0]⟩)))))) (by kernel_rfl) (by kernel_rfl) (by kernel_rfl) (fun us hl hF hB hN => ?_)
  match us, hl with
  | [u0, u1, u2, u3, u4], _ =>
    simp [FactsB, FactsL, Facts, ctMax] at hF hB
    simp [NeedsAt, runB, evs, E.ev, upto, resl, List.range, List.range.loop, ctMax] at hN
    obtain ⟨⟨⟨a1, rfl, w1⟩, ⟨a2, rfl, w2⟩⟩, ⟨b1, rfl, w3⟩, ⟨b2, rfl, w4⟩⟩ := hF
    obtain ⟨e, rfl⟩ := hB
    simp [nIv, gF, U.F] at hN
    have r1 := Dy.ivR_of hN.1
    have r2 := Dy.ivR_of hN.2
    simp at r1 r2
    refine T.HH.h ?_
    refine T.hbind (us := [.f a1, .f b1]) (xs := [.f (Dy.dmax a1 b1)]) (ρ' := [.i e, .f a1, .f a2, .f b1, .f b2, .f (Dy.dmax a1 b1)]) rfl (rfl) rfl ?_
    refine T.hneed (us := [.f a1, .f b1]) rfl (show (Dy.right a1 && Dy.right b1) = true from by simp [r1, r2]) ?_
    refine T.hbind (us := [.f a2, .f b2]) (xs := [.f (Dy.dmax a2 b2)]) (ρ' := [.i e, .f a1, .f a2, .f b1, .f b2, .f (Dy.dmax a1 b1), .f (Dy.dmax a2 b2)]) rfl (rfl) rfl ?_
    refine T.hneed (us := [.f a2, .f b2]) rfl (show (Dy.right a2 && Dy.right b2) = true from by simp [r1, r2]) ?_
    refine T.hbind (us := [.i e, .f (Dy.dmax a1 b1), .f (Dy.dmax a2 b2), .f a1, .f a2, .f b1, .f b2]) (xs := [.f ((Dy.cAsk (e) (Dy.ivR (a1, a2) && Dy.ivR (b1, b2)) (((Dy.dmax a1 b1), (Dy.dmax a2 b2)), 0)).1.1), .f ((Dy.cAsk (e) (Dy.ivR (a1, a2) && Dy.ivR (b1, b2)) (((Dy.dmax a1 b1), (Dy.dmax a2 b2)), 0)).1.2), .i ((Dy.cAsk (e) (Dy.ivR (a1, a2) && Dy.ivR (b1, b2)) (((Dy.dmax a1 b1), (Dy.dmax a2 b2)), 0)).2)]) (ρ' := [.i e, .f a1, .f a2, .f b1, .f b2, .f (Dy.dmax a1 b1), .f (Dy.dmax a2 b2), .f ((Dy.cAsk (e) (Dy.ivR (a1, a2) && Dy.ivR (b1, b2)) (((Dy.dmax a1 b1), (Dy.dmax a2 b2)), 0)).1.1), .f ((Dy.cAsk (e) (Dy.ivR (a1, a2) && Dy.ivR (b1, b2)) (((Dy.dmax a1 b1), (Dy.dmax a2 b2)), 0)).1.2), .i ((Dy.cAsk (e) (Dy.ivR (a1, a2) && Dy.ivR (b1, b2)) (((Dy.dmax a1 b1), (Dy.dmax a2 b2)), 0)).2)]) rfl (rfl) rfl ?_
    refine T.hdone ?_
    have e0 : Dy.cMax (e) (a1, a2) (b1, b2) = Dy.cAsk e (Dy.ivR (a1, a2) && Dy.ivR (b1, b2)) ((Dy.dmax a1 b1, Dy.dmax a2 b2), 0) := rfl
    exact ⟨⟨(congrArg (fun r => some (calR r 0)) e0.symm), (congrArg (fun r => some (calR r 1)) e0.symm), trivial⟩, ⟨⟨⟨rfl, (congrArg (fun r => some (calR r 2)) e0.symm)⟩, trivial⟩, trivial⟩, rfl⟩

def s7 : List (Nat × Ct) := (49, ctMax) :: s6
theorem s7_ok : AllOk Try.prog s7 := ⟨ctMax_ok, s6_ok⟩

def ctMeet : Ct := ⟨4, [], [vp 0 1, vp 2 3], { binds := [⟨fun us i => meetU (iMeet (gF us 0, gF us 1) (gF us 2, gF us 3)) i, 3, upto 0 4⟩], needs := [⟨nIv, [.v 0, .v 1]⟩, ⟨nIv, [.v 2, .v 3]⟩], val := .tup [vp 4 5, vb 6], upd := [] }⟩
set_option maxRecDepth 100000 in
set_option maxHeartbeats 4000000 in
theorem ctMeet_ok : CtOk Try.prog 44 ctMeet := by
  refine CtOk.of_eval2 s7_ok (dr_ok s7_ok) Try.func44 rfl (by decide) [] 200 (by kernel_rfl) rfl (.bind ⟨fun us _ => gB Dy.dmax us, 1, [(.v 0), (.v 2)]⟩ (.need ⟨rN, [(.v 0), (.v 2)]⟩ (.bind ⟨fun us _ => gB Dy.dmin us, 1, [(.v 1), (.v 3)]⟩ (.need ⟨rN, [(.v 1), (.v 3)]⟩ (.bind ⟨fun us _ => cB Dy.fgt us, 1, [(.v 4), (.v 5)]⟩ (.ite (.v 6) (.done .ret ⟨[.tup [.agg [.fl (.l (.f 0)), .fl (.l (.f 0))], .bo (.l (.b false))]], [], 7, []⟩) (.done .ret ⟨[.tup [.agg [.fl (.v 4), .fl (.v 5)], .bo (.l (.b true))]], [], 7, []⟩))))))) (by kernel_rfl) (by kernel_rfl) (by kernel_rfl) (fun us hl hF hB hN => ?_)
  match us, hl with
  | [u0, u1, u2, u3], _ =>
    simp [FactsB, FactsL, Facts, ctMeet] at hF hB
    simp [NeedsAt, runB, evs, E.ev, upto, resl, List.range, List.range.loop, ctMeet] at hN
    obtain ⟨⟨⟨a1, rfl, w1⟩, ⟨a2, rfl, w2⟩⟩, ⟨b1, rfl, w3⟩, ⟨b2, rfl, w4⟩⟩ := hF
    simp [nIv, gF, U.F] at hN
    have r1 := Dy.ivR_of hN.1
    have r2 := Dy.ivR_of hN.2
    simp at r1 r2
    refine T.HH.h ?_
    refine T.hbind (us := [.f a1, .f b1]) (xs := [.f (Dy.dmax a1 b1)]) (ρ' := [.f a1, .f a2, .f b1, .f b2, .f (Dy.dmax a1 b1)]) rfl (rfl) rfl ?_
    refine T.hneed (us := [.f a1, .f b1]) rfl (show (Dy.right a1 && Dy.right b1) = true from by simp [r1, r2]) ?_
    refine T.hbind (us := [.f a2, .f b2]) (xs := [.f (Dy.dmin a2 b2)]) (ρ' := [.f a1, .f a2, .f b1, .f b2, .f (Dy.dmax a1 b1), .f (Dy.dmin a2 b2)]) rfl (rfl) rfl ?_
    refine T.hneed (us := [.f a2, .f b2]) rfl (show (Dy.right a2 && Dy.right b2) = true from by simp [r1, r2]) ?_
    refine T.hbind (us := [.f (Dy.dmax a1 b1), .f (Dy.dmin a2 b2)]) (xs := [.b (Dy.fgt (Dy.dmax a1 b1) (Dy.dmin a2 b2))]) (ρ' := [.f a1, .f a2, .f b1, .f b2, .f (Dy.dmax a1 b1), .f (Dy.dmin a2 b2), .b (Dy.fgt (Dy.dmax a1 b1) (Dy.dmin a2 b2))]) rfl (rfl) rfl ?_
    refine T.hite (x := (Dy.fgt (Dy.dmax a1 b1) (Dy.dmin a2 b2))) rfl (fun c1 => ?_) (fun c1 => ?_)
    · skip
      refine T.hdone ?_
      have e0 : iMeet (a1, a2) (b1, b2) = ((0, 0), false) := by unfold iMeet; rw [if_pos c1]
      exact ⟨⟨⟨(congrArg (fun r => some (meetU r 0)) e0.symm), (congrArg (fun r => some (meetU r 1)) e0.symm), trivial⟩, (congrArg (fun r => some (meetU r 2)) e0.symm), trivial⟩, trivial, rfl⟩
    · skip
      refine T.hdone ?_
      have e0 : iMeet (a1, a2) (b1, b2) = ((Dy.dmax a1 b1, Dy.dmin a2 b2), true) := by unfold iMeet; rw [if_neg (by rw [c1]; decide)]
      exact ⟨⟨⟨(congrArg (fun r => some (meetU r 0)) e0.symm), (congrArg (fun r => some (meetU r 1)) e0.symm), trivial⟩, (congrArg (fun r => some (meetU r 2)) e0.symm), trivial⟩, trivial, rfl⟩

def s8 : List (Nat × Ct) := (44, ctMeet) :: s7
theorem s8_ok : AllOk Try.prog s8 := ⟨ctMeet_ok, s7_ok⟩

def ctWidth : Ct := ⟨2, [], [vp 0 1], { binds := [⟨fun us i => widthU (iWidth (gF us 0, gF us 1)) i, 2, upto 0 2⟩], needs := [], val := .tup [vf 2, vi .i64 3], upd := [] }⟩
set_option maxRecDepth 100000 in
set_option maxHeartbeats 4000000 in
theorem ctWidth_ok : CtOk Try.prog 24 ctWidth := by
  refine CtOk.of_eval2 s8_ok (dr_ok s8_ok) Try.func24 rfl (by decide) [] 200 (by kernel_rfl) rfl (.bind ⟨fIv1 Dy.ivR, 1, [(.v 0), (.v 1)]⟩ (.bind ⟨fun us _ => nB us, 1, [(.v 2)]⟩ (.ite (.v 3) (.done .ret ⟨[.tup [.fl (.l (.f 0)), .it .i64 (.l (.i 20))]], [], 4, []⟩) (.bind ⟨fOp2 Dy.dSub, 2, [(.v 1), (.v 0), (.l (.b true))]⟩ (.done .ret ⟨[.tup [.fl (.v 4), .it .i64 (.v 5)]], [], 6, []⟩))))) (by kernel_rfl) (by kernel_rfl) (by kernel_rfl) (fun us hl hF hB hN => ?_)
  match us, hl with
  | [u0, u1], _ =>
    simp [FactsB, FactsL, Facts, ctWidth] at hF hB
    simp [NeedsAt, runB, evs, E.ev, upto, resl, List.range, List.range.loop, ctWidth] at hN
    obtain ⟨⟨a1, rfl, w1⟩, ⟨a2, rfl, w2⟩⟩ := hF
    refine T.HH.h ?_
    refine T.hbind (us := [.f a1, .f a2]) (xs := [.b (Dy.ivR (a1, a2))]) (ρ' := [.f a1, .f a2, .b (Dy.ivR (a1, a2))]) rfl (rfl) rfl ?_
    refine T.hbind (us := [.b (Dy.ivR (a1, a2))]) (xs := [.b (!(Dy.ivR (a1, a2)))]) (ρ' := [.f a1, .f a2, .b (Dy.ivR (a1, a2)), .b (!(Dy.ivR (a1, a2)))]) rfl (rfl) rfl ?_
    refine T.hite (x := (!(Dy.ivR (a1, a2)))) rfl (fun c1 => ?_) (fun c1 => ?_)
    · skip
      refine T.hdone ?_
      have e0 : iWidth (a1, a2) = (0, 20) := by unfold iWidth; rw [if_neg (by intro h; rw [h] at c1; cases c1)]
      exact ⟨⟨(congrArg (fun r => some (widthU r 0)) e0.symm), ⟨rfl, (congrArg (fun r => some (widthU r 1)) e0.symm)⟩, trivial⟩, trivial, rfl⟩
    · skip
      refine T.hbind (us := [.f a2, .f a1, .b true]) (xs := [.f ((Dy.dSub a2 a1 true).1), .i ((Dy.dSub a2 a1 true).2)]) (ρ' := [.f a1, .f a2, .b (Dy.ivR (a1, a2)), .b (!(Dy.ivR (a1, a2))), .f ((Dy.dSub a2 a1 true).1), .i ((Dy.dSub a2 a1 true).2)]) rfl (rfl) rfl ?_
      refine T.hdone ?_
      have e0 : iWidth (a1, a2) = Dy.dSub a2 a1 true := by unfold iWidth; rw [if_pos (by simpa using c1)]
      exact ⟨⟨(congrArg (fun r => some (widthU r 0)) e0.symm), ⟨rfl, (congrArg (fun r => some (widthU r 1)) e0.symm)⟩, trivial⟩, trivial, rfl⟩

def s9 : List (Nat × Ct) := (24, ctWidth) :: s8
theorem s9_ok : AllOk Try.prog s9 := ⟨ctWidth_ok, s8_ok⟩

def bRes (x : Bool) (_ : Nat) : U := .b x
def ctSame2 : Ct := ⟨4, [], [vp 0 1, vp 2 3], { binds := [⟨fun us i => bRes (decide ((gF us 0, gF us 1) = (gF us 2, gF us 3))) i, 1, upto 0 4⟩], needs := [], val := vb 4, upd := [] }⟩
set_option maxRecDepth 100000 in
set_option maxHeartbeats 4000000 in
theorem ctSame2_ok : CtOk Try.prog 12 ctSame2 := by
  refine CtOk.of_eval2 s9_ok (dr_ok s9_ok) Try.func12 rfl (by decide) [] 200 (by kernel_rfl) rfl (.bind ⟨fun us _ => .b (decide (gF us 0 = gF us 1)), 1, [(.v 0), (.v 2)]⟩ (.ite (.v 4) (.bind ⟨fun us _ => .b (decide (gF us 0 = gF us 1)), 1, [(.v 1), (.v 3)]⟩ (.done .ret ⟨[.bo (.v 5)], [], 6, []⟩)) (.done .ret ⟨[.bo (.l (.b false))], [], 5, []⟩))) (by kernel_rfl) (by kernel_rfl) (by kernel_rfl) (fun us hl hF hB hN => ?_)
  match us, hl with
  | [u0, u1, u2, u3], _ =>
    simp [FactsB, FactsL, Facts, ctSame2] at hF hB
    simp [NeedsAt, runB, evs, E.ev, upto, resl, List.range, List.range.loop, ctSame2] at hN
    obtain ⟨⟨⟨a1, rfl, w1⟩, ⟨a2, rfl, w2⟩⟩, ⟨b1, rfl, w3⟩, ⟨b2, rfl, w4⟩⟩ := hF
    refine T.HH.h ?_
    refine T.hbind (us := [.f a1, .f b1]) (xs := [.b (decide (a1 = b1))]) (ρ' := [.f a1, .f a2, .f b1, .f b2, .b (decide (a1 = b1))]) rfl (rfl) rfl ?_
    refine T.hite (x := (decide (a1 = b1))) rfl (fun c1 => ?_) (fun c1 => ?_)
    · skip
      refine T.hbind (us := [.f a2, .f b2]) (xs := [.b (decide (a2 = b2))]) (ρ' := [.f a1, .f a2, .f b1, .f b2, .b (decide (a1 = b1)), .b (decide (a2 = b2))]) rfl (rfl) rfl ?_
      refine T.hdone ?_
      have e0 : decide ((a1, a2) = (b1, b2)) = decide (a2 = b2) := by have h := of_decide_eq_true c1; simp [h]
      exact ⟨(congrArg (fun r => some (bRes r 0)) e0.symm), trivial, rfl⟩
    · skip
      refine T.hdone ?_
      have e0 : decide ((a1, a2) = (b1, b2)) = false := by have h := of_decide_eq_false c1; simp [h]
      exact ⟨(congrArg (fun r => some (bRes r 0)) e0.symm), trivial, rfl⟩

def s10 : List (Nat × Ct) := (12, ctSame2) :: s9
theorem s10_ok : AllOk Try.prog s10 := ⟨ctSame2_ok, s9_ok⟩

def s13 : List (Nat × Ct) := s10
theorem s13_ok : AllOk Try.prog s13 := s10_ok
end Go.Proofs.Ytiphdhpacklboaa
