/- A reckoning of programs by symbols: vectors that are turned, crosses; the examples of burnishlaw05. -/
import Derived.Test.YtiphdhpacklboaaVc
import Derived.Test.YtiphdhpacklboaaYw
namespace Go.Proofs.Ytiphdhpacklboaa
open Go Go.RowKit
set_option linter.unusedSimpArgs false
set_option linter.unusedVariables false

def vx0 : List (Nat × Ct) := v21
theorem vx0_ok : AllOk Try.prog vx0 := v21_ok
def ctSame01 : Ct := ctP 2 [vf 0, vf 1] (fun us _ => .b (decide (gF us 0 = gF us 1))) 1 (vb 2) []
theorem ctSame01_ok : CtOk Try.prog 53 ctSame01 := by
  refine ctP_ok (en Try.func53 rfl (by decide)) rfl rfl (fun us w vs hl hv hn => ?_) rfl
  match us, hl with
  | [u0, u1], _ =>
    obtain ⟨x0, y0, hx0, hy0, rfl⟩ := denL_cons.1 hv
    obtain ⟨a0, e0, w0, rfl⟩ := den_fl hx0
    obtain ⟨x1, y1, hx1, hy1, rfl⟩ := denL_cons.1 hy0
    obtain ⟨a1, e1, w1, rfl⟩ := den_fl hx1
    rw [denL_nil.1 hy1]
    simp [E.ev] at e0 e1
    subst e0 e1
    exact ⟨.bool (decide (a0 = a1)), rfl, (same_any a0 a1 w).mono fun e w2 ⟨h1, h2⟩ => ⟨by rw [h1]; congr 2; rw [Bool.eq_iff_iff]; simp; omega, by subst h2; exact Below.refl _ _⟩⟩

def vx1 : List (Nat × Ct) := (53, ctSame01) :: vx0
theorem vx1_ok : AllOk Try.prog vx1 := ⟨ctSame01_ok, vx0_ok⟩

def ctTurnedR : Ct := ctP 2 [vp 0 1] (fun us i => ivU (Dy.iTurned (gF us 0, gF us 1)) i) 2 (vp 2 3) [⟨nIv, [.v 0, .v 1]⟩]
theorem ctTurnedR_ok : CtOk Try.prog 111 ctTurnedR := by
  refine ctP_ok (en Try.func111 rfl (by decide)) rfl rfl (fun us w vs hl hv hn => ?_) rfl
  match us, hl with
  | [u0, u1], _ =>
    obtain ⟨x0, y0, hx0, hy0, rfl⟩ := denL_cons.1 hv
    obtain ⟨xs0, h0a, rfl⟩ := den_agg hx0
    obtain ⟨p0, q0, h0b, h0c, rfl⟩ := denL_cons.1 h0a
    obtain ⟨r0, s0, h0d, h0e, rfl⟩ := denL_cons.1 h0c
    rw [denL_nil.1 h0e]
    obtain ⟨a0, e0, w0, rfl⟩ := den_fl h0b
    obtain ⟨a1, e1, w1, rfl⟩ := den_fl h0d
    rw [denL_nil.1 hy0]
    simp [E.ev] at e0 e1
    subst e0 e1
    have n0 : Dy.ivR (a0, a1) = true := by obtain ⟨xs, h1, h2⟩ := hn _ (List.mem_singleton.2 rfl); simp [evs, E.ev] at h1; subst h1; exact h2
    exact ⟨iv (Dy.iTurned (a0, a1)), iv_den (fun i => rfl) (Dy.turned_good (a := (a0, a1)) ⟨w0, w1⟩ n0).1, turned_any (a0, a1) w ⟨w0, w1⟩ n0⟩

def vx2 : List (Nat × Ct) := (111, ctTurnedR) :: vx1
theorem vx2_ok : AllOk Try.prog vx2 := ⟨ctTurnedR_ok, vx1_ok⟩

def ctNegV : Ct := ⟨3, [[vi .i64 0]], [.ptr 0 0, vp 1 2], { binds := [⟨fun us i => calR (Dy.cNeg (gI us 0) (gF us 1, gF us 2)) i, 3, upto 0 3⟩], needs := [⟨nIv, [.v 1, .v 2]⟩], val := vp 3 4, upd := [(0, [vi .i64 5])] }⟩
set_option maxRecDepth 100000 in
set_option maxHeartbeats 4000000 in
theorem ctNegV_ok : CtOk Try.prog 51 ctNegV := by
  refine CtOk.of_eval2 vx2_ok (dr_ok vx2_ok) Try.func51 rfl (by decide) [] 200 (by kernel_rfl) rfl (.bind ⟨fun us i => ivU (Dy.iTurned (gF us 0, gF us 1)) i, 2, [(.v 1), (.v 2)]⟩ (.need ⟨nIv, [(.v 1), (.v 2)]⟩ (.bind ⟨fun us i => calR (Dy.cAsk (gI us 0) (Dy.ivR (gF us 3, gF us 4)) ((gF us 1, gF us 2), 0)) i, 3, [(.v 0), (.v 3), (.v 4), (.v 1), (.v 2)]⟩ (.done .ret ⟨[.agg [.fl (.v 5), .fl (.v 6)]], [some ([.it .i64 (.v 7)])], 8, [0]⟩)))) (by kernel_rfl) (by kernel_rfl) (by kernel_rfl) (fun us hl hF hB hN => ?_)
  match us, hl with
  | [u0, u1, u2], _ =>
    simp [FactsB, FactsL, Facts, ctNegV] at hF hB
    simp [NeedsAt, runB, evs, E.ev, upto, resl, List.range, List.range.loop, ctNegV] at hN
    obtain ⟨⟨a1, rfl, w1⟩, ⟨a2, rfl, w2⟩⟩ := hF
    obtain ⟨e, rfl⟩ := hB
    simp [nIv, gF, U.F] at hN
    refine T.HH.h ?_
    refine T.hbind (us := [.f a1, .f a2]) (xs := [.f ((Dy.iTurned (a1, a2)).1), .f ((Dy.iTurned (a1, a2)).2)]) (ρ' := [.i e, .f a1, .f a2, .f ((Dy.iTurned (a1, a2)).1), .f ((Dy.iTurned (a1, a2)).2)]) rfl (rfl) rfl ?_
    refine T.hneed (us := [.f a1, .f a2]) rfl (hN) ?_
    refine T.hbind (us := [.i e, .f ((Dy.iTurned (a1, a2)).1), .f ((Dy.iTurned (a1, a2)).2), .f a1, .f a2]) (xs := [.f ((Dy.cAsk (e) (Dy.ivR (a1, a2)) ((((Dy.iTurned (a1, a2)).1), ((Dy.iTurned (a1, a2)).2)), 0)).1.1), .f ((Dy.cAsk (e) (Dy.ivR (a1, a2)) ((((Dy.iTurned (a1, a2)).1), ((Dy.iTurned (a1, a2)).2)), 0)).1.2), .i ((Dy.cAsk (e) (Dy.ivR (a1, a2)) ((((Dy.iTurned (a1, a2)).1), ((Dy.iTurned (a1, a2)).2)), 0)).2)]) (ρ' := [.i e, .f a1, .f a2, .f ((Dy.iTurned (a1, a2)).1), .f ((Dy.iTurned (a1, a2)).2), .f ((Dy.cAsk (e) (Dy.ivR (a1, a2)) ((((Dy.iTurned (a1, a2)).1), ((Dy.iTurned (a1, a2)).2)), 0)).1.1), .f ((Dy.cAsk (e) (Dy.ivR (a1, a2)) ((((Dy.iTurned (a1, a2)).1), ((Dy.iTurned (a1, a2)).2)), 0)).1.2), .i ((Dy.cAsk (e) (Dy.ivR (a1, a2)) ((((Dy.iTurned (a1, a2)).1), ((Dy.iTurned (a1, a2)).2)), 0)).2)]) rfl (rfl) rfl ?_
    refine T.hdone ?_
    have e0 : Dy.cNeg (e) (a1, a2) = Dy.cAsk e (Dy.ivR (a1, a2)) (((Dy.iTurned (a1, a2)).1, (Dy.iTurned (a1, a2)).2), 0) := rfl
    exact ⟨⟨(congrArg (fun r => some (calR r 0)) e0.symm), (congrArg (fun r => some (calR r 1)) e0.symm), trivial⟩, ⟨⟨⟨rfl, (congrArg (fun r => some (calR r 2)) e0.symm)⟩, trivial⟩, trivial⟩, rfl⟩

def vx3 : List (Nat × Ct) := (51, ctNegV) :: vx2
theorem vx3_ok : AllOk Try.prog vx3 := ⟨ctNegV_ok, vx2_ok⟩

/-- Are two intervals the same, bit for bit? -/
def sameIv (a b : Nat × Nat) : Bool := decide (a.1 = b.1) && decide (a.2 = b.2)
def ctSame02 : Ct := ⟨4, [], [vp 0 1, vp 2 3], { binds := [⟨fun us i => bRes (sameIv (gF us 0, gF us 1) (gF us 2, gF us 3)) i, 1, upto 0 4⟩], needs := [], val := vb 4, upd := [] }⟩
set_option maxRecDepth 100000 in
set_option maxHeartbeats 8000000 in
theorem ctSame02_ok : CtOk Try.prog 12 ctSame02 := by
  refine CtOk.of_eval2 vx3_ok (dr_ok vx3_ok) Try.func12 rfl (by decide) [] 200 (by kernel_rfl) rfl (.bind ⟨fun us _ => .b (decide (gF us 0 = gF us 1)), 1, [(.v 0), (.v 2)]⟩ (.ite (.v 4) (.bind ⟨fun us _ => .b (decide (gF us 0 = gF us 1)), 1, [(.v 1), (.v 3)]⟩ (.done .ret ⟨[.bo (.v 5)], [], 6, []⟩)) (.done .ret ⟨[.bo (.l (.b false))], [], 5, []⟩))) (by kernel_rfl) (by kernel_rfl) (by kernel_rfl) (fun us hl hF hB hN => ?_)
  match us, hl with
  | [u0, u1, u2, u3], _ =>
    simp [FactsB, FactsL, Facts, ctSame02] at hF hB
    simp [NeedsAt, runB, evs, E.ev, upto, resl, List.range, List.range.loop, ctSame02] at hN
    obtain ⟨⟨⟨a1, rfl, wa1⟩, ⟨a2, rfl, wa2⟩⟩, ⟨b1, rfl, wb1⟩, ⟨b2, rfl, wb2⟩⟩ := hF
    refine T.HH.h ?_
    obtain ⟨t0, e1⟩ : ∃ t0, ((decide (a1 = b1))) = t0 := ⟨_, rfl⟩
    refine T.hbind (us := [.f a1, .f b1]) (xs := [.b t0]) (ρ' := [.f a1, .f a2, .f b1, .f b2, .b t0]) rfl (congrArg (fun r => [U.b r]) e1) rfl ?_
    refine T.hite (x := t0) ?_ ?_ ?_
    · rfl
    · intro c3
      obtain ⟨t3, e4⟩ : ∃ t3, ((decide (a2 = b2))) = t3 := ⟨_, rfl⟩
      refine T.hbind (us := [.f a2, .f b2]) (xs := [.b t3]) (ρ' := [.f a1, .f a2, .f b1, .f b2, .b t0, .b t3]) rfl (congrArg (fun r => [U.b r]) e4) rfl ?_
      refine T.hdone ?_
      have e00 : sameIv (a1, a2) (b1, b2) = t3 := by simp only [sameIv, e1, c3, e4, reduceIte, Bool.false_eq_true, Bool.true_eq_false, Bool.true_and, Bool.false_and, Bool.and_true, Bool.and_false, Bool.true_or, Bool.false_or, Bool.or_true, Bool.or_false, Bool.not_true, Bool.not_false] <;> simp_all
      exact ⟨(congrArg (fun r => some (bRes r 0)) e00.symm), trivial, rfl⟩
    · intro c3
      refine T.hdone ?_
      have e00 : sameIv (a1, a2) (b1, b2) = false := by simp only [sameIv, e1, c3, reduceIte, Bool.false_eq_true, Bool.true_eq_false, Bool.true_and, Bool.false_and, Bool.and_true, Bool.and_false, Bool.true_or, Bool.false_or, Bool.or_true, Bool.or_false, Bool.not_true, Bool.not_false] <;> simp_all
      exact ⟨(congrArg (fun r => some (bRes r 0)) e00.symm), trivial, rfl⟩

def vx4 : List (Nat × Ct) := (12, ctSame02) :: vx3
theorem vx4_ok : AllOk Try.prog vx4 := ⟨ctSame02_ok, vx3_ok⟩

def same3 (a b c d e f : Nat × Nat) : Bool := sameIv a d && (sameIv b e && sameIv c f)
def ctSame05 : Ct := ⟨12, [], [.agg [vf 0, vf 1, vf 2, vf 3, vf 4, vf 5], .agg [vf 6, vf 7, vf 8, vf 9, vf 10, vf 11]], { binds := [⟨fun us i => bRes (same3 (gF us 0, gF us 1) (gF us 2, gF us 3) (gF us 4, gF us 5) (gF us 6, gF us 7) (gF us 8, gF us 9) (gF us 10, gF us 11)) i, 1, upto 0 12⟩], needs := [], val := vb 12, upd := [] }⟩
set_option maxRecDepth 100000 in
set_option maxHeartbeats 8000000 in
theorem ctSame05_ok : CtOk Try.prog 18 ctSame05 := by
  refine CtOk.of_eval2 vx4_ok (dr_ok vx4_ok) Try.func18 rfl (by decide) [] 200 (by kernel_rfl) rfl (.bind ⟨fun us i => bRes (sameIv (gF us 0, gF us 1) (gF us 2, gF us 3)) i, 1, [(.v 0), (.v 1), (.v 6), (.v 7)]⟩ (.ite (.v 12) (.bind ⟨fun us i => bRes (sameIv (gF us 0, gF us 1) (gF us 2, gF us 3)) i, 1, [(.v 2), (.v 3), (.v 8), (.v 9)]⟩ (.ite (.v 13) (.bind ⟨fun us i => bRes (sameIv (gF us 0, gF us 1) (gF us 2, gF us 3)) i, 1, [(.v 4), (.v 5), (.v 10), (.v 11)]⟩ (.done .ret ⟨[.bo (.v 14)], [], 15, []⟩)) (.done .ret ⟨[.bo (.l (.b false))], [], 14, []⟩))) (.done .ret ⟨[.bo (.l (.b false))], [], 13, []⟩))) (by kernel_rfl) (by kernel_rfl) (by kernel_rfl) (fun us hl hF hB hN => ?_)
  match us, hl with
  | [u0, u1, u2, u3, u4, u5, u6, u7, u8, u9, u10, u11], _ =>
    simp [FactsB, FactsL, Facts, ctSame05] at hF hB
    simp [NeedsAt, runB, evs, E.ev, upto, resl, List.range, List.range.loop, ctSame05] at hN
    obtain ⟨⟨⟨a1, rfl, wa1⟩, ⟨a2, rfl, wa2⟩, ⟨b1, rfl, wb1⟩, ⟨b2, rfl, wb2⟩, ⟨m1, rfl, wm1⟩, ⟨m2, rfl, wm2⟩⟩, ⟨n1, rfl, wn1⟩, ⟨n2, rfl, wn2⟩, ⟨p1, rfl, wp1⟩, ⟨p2, rfl, wp2⟩, ⟨q1, rfl, wq1⟩, ⟨q2, rfl, wq2⟩⟩ := hF
    refine T.HH.h ?_
    obtain ⟨t0, e1⟩ : ∃ t0, ((sameIv (a1, a2) (n1, n2))) = t0 := ⟨_, rfl⟩
    refine T.hbind (us := [.f a1, .f a2, .f n1, .f n2]) (xs := [.b t0]) (ρ' := [.f a1, .f a2, .f b1, .f b2, .f m1, .f m2, .f n1, .f n2, .f p1, .f p2, .f q1, .f q2, .b t0]) rfl (congrArg (fun r => [U.b r]) e1) rfl ?_
    refine T.hite (x := t0) ?_ ?_ ?_
    · rfl
    · intro c3
      obtain ⟨t3, e4⟩ : ∃ t3, ((sameIv (b1, b2) (p1, p2))) = t3 := ⟨_, rfl⟩
      refine T.hbind (us := [.f b1, .f b2, .f p1, .f p2]) (xs := [.b t3]) (ρ' := [.f a1, .f a2, .f b1, .f b2, .f m1, .f m2, .f n1, .f n2, .f p1, .f p2, .f q1, .f q2, .b t0, .b t3]) rfl (congrArg (fun r => [U.b r]) e4) rfl ?_
      refine T.hite (x := t3) ?_ ?_ ?_
      · rfl
      · intro c6
        obtain ⟨t6, e7⟩ : ∃ t6, ((sameIv (m1, m2) (q1, q2))) = t6 := ⟨_, rfl⟩
        refine T.hbind (us := [.f m1, .f m2, .f q1, .f q2]) (xs := [.b t6]) (ρ' := [.f a1, .f a2, .f b1, .f b2, .f m1, .f m2, .f n1, .f n2, .f p1, .f p2, .f q1, .f q2, .b t0, .b t3, .b t6]) rfl (congrArg (fun r => [U.b r]) e7) rfl ?_
        refine T.hdone ?_
        have e00 : same3 (a1, a2) (b1, b2) (m1, m2) (n1, n2) (p1, p2) (q1, q2) = t6 := by simp only [same3, e1, c3, e4, c6, e7, reduceIte, Bool.false_eq_true, Bool.true_eq_false, Bool.true_and, Bool.false_and, Bool.and_true, Bool.and_false, Bool.true_or, Bool.false_or, Bool.or_true, Bool.or_false, Bool.not_true, Bool.not_false] <;> simp_all
        exact ⟨(congrArg (fun r => some (bRes r 0)) e00.symm), trivial, rfl⟩
      · intro c6
        refine T.hdone ?_
        have e00 : same3 (a1, a2) (b1, b2) (m1, m2) (n1, n2) (p1, p2) (q1, q2) = false := by simp only [same3, e1, c3, e4, c6, reduceIte, Bool.false_eq_true, Bool.true_eq_false, Bool.true_and, Bool.false_and, Bool.and_true, Bool.and_false, Bool.true_or, Bool.false_or, Bool.or_true, Bool.or_false, Bool.not_true, Bool.not_false] <;> simp_all
        exact ⟨(congrArg (fun r => some (bRes r 0)) e00.symm), trivial, rfl⟩
    · intro c3
      refine T.hdone ?_
      have e00 : same3 (a1, a2) (b1, b2) (m1, m2) (n1, n2) (p1, p2) (q1, q2) = false := by simp only [same3, e1, c3, reduceIte, Bool.false_eq_true, Bool.true_eq_false, Bool.true_and, Bool.false_and, Bool.and_true, Bool.and_false, Bool.true_or, Bool.false_or, Bool.or_true, Bool.or_false, Bool.not_true, Bool.not_false] <;> simp_all
      exact ⟨(congrArg (fun r => some (bRes r 0)) e00.symm), trivial, rfl⟩

def vx5 : List (Nat × Ct) := (18, ctSame05) :: vx4
theorem vx5_ok : AllOk Try.prog vx5 := ⟨ctSame05_ok, vx4_ok⟩

def ctAt : Ct := ⟨3, [], [vf 0, vf 1, vf 2], { binds := [], needs := [], val := .agg [.fl (.v 0), .fl (.v 0), .fl (.v 1), .fl (.v 1), .fl (.v 2), .fl (.v 2)], upd := [] }⟩
theorem ctAt_ok : CtOk Try.prog 62 ctAt := CtOk.flat vx5_ok (dr_ok vx5_ok) Try.func62 rfl (by decide) [] 200 ⟨[.agg [.fl (.v 0), .fl (.v 0), .fl (.v 1), .fl (.v 1), .fl (.v 2), .fl (.v 2)]], [], 3, []⟩ (by kernel_rfl) rfl (by kernel_rfl) rfl (by kernel_rfl) (by kernel_rfl) (by kernel_rfl) (by kernel_rfl)

def vx6 : List (Nat × Ct) := (62, ctAt) :: vx5
theorem vx6_ok : AllOk Try.prog vx6 := ⟨ctAt_ok, vx5_ok⟩

/-- Is a number right, and not far off? -/
def smallF (x : Nat) : Bool := Dy.right x && !Dy.fgt (Dy.abs x) 4895412794951729152
def ctSmall : Ct := ⟨3, [], [.agg [vf 0, vf 1, vf 2]], { binds := [⟨fun us i => bRes ((smallF (gF us 0) && (smallF (gF us 1) && smallF (gF us 2)))) i, 1, upto 0 3⟩], needs := [], val := vb 3, upd := [] }⟩
set_option maxRecDepth 100000 in
set_option maxHeartbeats 8000000 in
theorem ctSmall_ok : CtOk Try.prog 21 ctSmall := by
  refine CtOk.of_eval2 vx6_ok (dr_ok vx6_ok) Try.func21 rfl (by decide) [] 200 (by kernel_rfl) rfl (.bind ⟨fun us _ => .b (Dy.right (gF us 0)), 1, [(.v 0)]⟩ (.bind ⟨fun us _ => nB us, 1, [(.v 3)]⟩ (.ite (.v 4) (.done .ret ⟨[.bo (.l (.b false))], [], 5, []⟩) (.bind ⟨fun us _ => .f (Dy.abs (gF us 0)), 1, [(.v 0)]⟩ (.bind ⟨fun us _ => cB Dy.fgt us, 1, [(.v 5), (.l (.f 4895412794951729152))]⟩ (.ite (.v 6) (.done .ret ⟨[.bo (.l (.b false))], [], 7, []⟩) (.bind ⟨fun us _ => .b (Dy.right (gF us 0)), 1, [(.v 1)]⟩ (.bind ⟨fun us _ => nB us, 1, [(.v 7)]⟩ (.ite (.v 8) (.done .ret ⟨[.bo (.l (.b false))], [], 9, []⟩) (.bind ⟨fun us _ => .f (Dy.abs (gF us 0)), 1, [(.v 1)]⟩ (.bind ⟨fun us _ => cB Dy.fgt us, 1, [(.v 9), (.l (.f 4895412794951729152))]⟩ (.ite (.v 10) (.done .ret ⟨[.bo (.l (.b false))], [], 11, []⟩) (.bind ⟨fun us _ => .b (Dy.right (gF us 0)), 1, [(.v 2)]⟩ (.bind ⟨fun us _ => nB us, 1, [(.v 11)]⟩ (.ite (.v 12) (.done .ret ⟨[.bo (.l (.b false))], [], 13, []⟩) (.bind ⟨fun us _ => .f (Dy.abs (gF us 0)), 1, [(.v 2)]⟩ (.bind ⟨fun us _ => cB Dy.fgt us, 1, [(.v 13), (.l (.f 4895412794951729152))]⟩ (.ite (.v 14) (.done .ret ⟨[.bo (.l (.b false))], [], 15, []⟩) (.done .ret ⟨[.bo (.l (.b true))], [], 15, []⟩))))))))))))))))))) (by kernel_rfl) (by kernel_rfl) (by kernel_rfl) (fun us hl hF hB hN => ?_)
  match us, hl with
  | [u0, u1, u2], _ =>
    simp [FactsB, FactsL, Facts, ctSmall] at hF hB
    simp [NeedsAt, runB, evs, E.ev, upto, resl, List.range, List.range.loop, ctSmall] at hN
    obtain ⟨⟨a, rfl, wa⟩, ⟨b, rfl, wb⟩, ⟨c, rfl, wc⟩⟩ := hF
    refine T.HH.h ?_
    obtain ⟨t0, e1⟩ : ∃ t0, ((Dy.right (a))) = t0 := ⟨_, rfl⟩
    refine T.hbind (us := [.f a]) (xs := [.b t0]) (ρ' := [.f a, .f b, .f c, .b t0]) rfl (congrArg (fun r => [U.b r]) e1) rfl ?_
    obtain ⟨t2, e3⟩ : ∃ t2, (!t0) = t2 := ⟨_, rfl⟩
    refine T.hbind (us := [.b t0]) (xs := [.b t2]) (ρ' := [.f a, .f b, .f c, .b t0, .b t2]) rfl (congrArg (fun r => [U.b r]) e3) rfl ?_
    refine T.hite (x := t2) ?_ ?_ ?_
    · rfl
    · intro c5
      refine T.hdone ?_
      have e00 : (smallF (a) && (smallF (b) && smallF (c))) = false := by simp only [smallF, e1, e3, c5, reduceIte, Bool.false_eq_true, Bool.true_eq_false, Bool.true_and, Bool.false_and, Bool.and_true, Bool.and_false, Bool.true_or, Bool.false_or, Bool.or_true, Bool.or_false, Bool.not_true, Bool.not_false] <;> simp_all
      exact ⟨(congrArg (fun r => some (bRes r 0)) e00.symm), trivial, rfl⟩
    · intro c5
      obtain ⟨t5, e6⟩ : ∃ t5, ((Dy.abs (a))) = t5 := ⟨_, rfl⟩
      refine T.hbind (us := [.f a]) (xs := [.f t5]) (ρ' := [.f a, .f b, .f c, .b t0, .b t2, .f t5]) rfl (congrArg (fun r => [U.f r]) e6) rfl ?_
      obtain ⟨t7, e8⟩ : ∃ t7, (Dy.fgt t5 4895412794951729152) = t7 := ⟨_, rfl⟩
      refine T.hbind (us := [.f t5, .f 4895412794951729152]) (xs := [.b t7]) (ρ' := [.f a, .f b, .f c, .b t0, .b t2, .f t5, .b t7]) rfl (congrArg (fun r => [U.b r]) e8) rfl ?_
      refine T.hite (x := t7) ?_ ?_ ?_
      · rfl
      · intro c10
        refine T.hdone ?_
        have e00 : (smallF (a) && (smallF (b) && smallF (c))) = false := by simp only [smallF, e1, e3, c5, e6, e8, c10, reduceIte, Bool.false_eq_true, Bool.true_eq_false, Bool.true_and, Bool.false_and, Bool.and_true, Bool.and_false, Bool.true_or, Bool.false_or, Bool.or_true, Bool.or_false, Bool.not_true, Bool.not_false] <;> simp_all
        exact ⟨(congrArg (fun r => some (bRes r 0)) e00.symm), trivial, rfl⟩
      · intro c10
        obtain ⟨t10, e11⟩ : ∃ t10, ((Dy.right (b))) = t10 := ⟨_, rfl⟩
        refine T.hbind (us := [.f b]) (xs := [.b t10]) (ρ' := [.f a, .f b, .f c, .b t0, .b t2, .f t5, .b t7, .b t10]) rfl (congrArg (fun r => [U.b r]) e11) rfl ?_
        obtain ⟨t12, e13⟩ : ∃ t12, (!t10) = t12 := ⟨_, rfl⟩
        refine T.hbind (us := [.b t10]) (xs := [.b t12]) (ρ' := [.f a, .f b, .f c, .b t0, .b t2, .f t5, .b t7, .b t10, .b t12]) rfl (congrArg (fun r => [U.b r]) e13) rfl ?_
        refine T.hite (x := t12) ?_ ?_ ?_
        · rfl
        · intro c15
          refine T.hdone ?_
          have e00 : (smallF (a) && (smallF (b) && smallF (c))) = false := by simp only [smallF, e1, e3, c5, e6, e8, c10, e11, e13, c15, reduceIte, Bool.false_eq_true, Bool.true_eq_false, Bool.true_and, Bool.false_and, Bool.and_true, Bool.and_false, Bool.true_or, Bool.false_or, Bool.or_true, Bool.or_false, Bool.not_true, Bool.not_false] <;> simp_all
          exact ⟨(congrArg (fun r => some (bRes r 0)) e00.symm), trivial, rfl⟩
        · intro c15
          obtain ⟨t15, e16⟩ : ∃ t15, ((Dy.abs (b))) = t15 := ⟨_, rfl⟩
          refine T.hbind (us := [.f b]) (xs := [.f t15]) (ρ' := [.f a, .f b, .f c, .b t0, .b t2, .f t5, .b t7, .b t10, .b t12, .f t15]) rfl (congrArg (fun r => [U.f r]) e16) rfl ?_
          obtain ⟨t17, e18⟩ : ∃ t17, (Dy.fgt t15 4895412794951729152) = t17 := ⟨_, rfl⟩
          refine T.hbind (us := [.f t15, .f 4895412794951729152]) (xs := [.b t17]) (ρ' := [.f a, .f b, .f c, .b t0, .b t2, .f t5, .b t7, .b t10, .b t12, .f t15, .b t17]) rfl (congrArg (fun r => [U.b r]) e18) rfl ?_
          refine T.hite (x := t17) ?_ ?_ ?_
          · rfl
          · intro c20
            refine T.hdone ?_
            have e00 : (smallF (a) && (smallF (b) && smallF (c))) = false := by simp only [smallF, e1, e3, c5, e6, e8, c10, e11, e13, c15, e16, e18, c20, reduceIte, Bool.false_eq_true, Bool.true_eq_false, Bool.true_and, Bool.false_and, Bool.and_true, Bool.and_false, Bool.true_or, Bool.false_or, Bool.or_true, Bool.or_false, Bool.not_true, Bool.not_false] <;> simp_all
            exact ⟨(congrArg (fun r => some (bRes r 0)) e00.symm), trivial, rfl⟩
          · intro c20
            obtain ⟨t20, e21⟩ : ∃ t20, ((Dy.right (c))) = t20 := ⟨_, rfl⟩
            refine T.hbind (us := [.f c]) (xs := [.b t20]) (ρ' := [.f a, .f b, .f c, .b t0, .b t2, .f t5, .b t7, .b t10, .b t12, .f t15, .b t17, .b t20]) rfl (congrArg (fun r => [U.b r]) e21) rfl ?_
            obtain ⟨t22, e23⟩ : ∃ t22, (!t20) = t22 := ⟨_, rfl⟩
            refine T.hbind (us := [.b t20]) (xs := [.b t22]) (ρ' := [.f a, .f b, .f c, .b t0, .b t2, .f t5, .b t7, .b t10, .b t12, .f t15, .b t17, .b t20, .b t22]) rfl (congrArg (fun r => [U.b r]) e23) rfl ?_
            refine T.hite (x := t22) ?_ ?_ ?_
            · rfl
            · intro c25
              refine T.hdone ?_
              have e00 : (smallF (a) && (smallF (b) && smallF (c))) = false := by simp only [smallF, e1, e3, c5, e6, e8, c10, e11, e13, c15, e16, e18, c20, e21, e23, c25, reduceIte, Bool.false_eq_true, Bool.true_eq_false, Bool.true_and, Bool.false_and, Bool.and_true, Bool.and_false, Bool.true_or, Bool.false_or, Bool.or_true, Bool.or_false, Bool.not_true, Bool.not_false] <;> simp_all
              exact ⟨(congrArg (fun r => some (bRes r 0)) e00.symm), trivial, rfl⟩
            · intro c25
              obtain ⟨t25, e26⟩ : ∃ t25, ((Dy.abs (c))) = t25 := ⟨_, rfl⟩
              refine T.hbind (us := [.f c]) (xs := [.f t25]) (ρ' := [.f a, .f b, .f c, .b t0, .b t2, .f t5, .b t7, .b t10, .b t12, .f t15, .b t17, .b t20, .b t22, .f t25]) rfl (congrArg (fun r => [U.f r]) e26) rfl ?_
              obtain ⟨t27, e28⟩ : ∃ t27, (Dy.fgt t25 4895412794951729152) = t27 := ⟨_, rfl⟩
              refine T.hbind (us := [.f t25, .f 4895412794951729152]) (xs := [.b t27]) (ρ' := [.f a, .f b, .f c, .b t0, .b t2, .f t5, .b t7, .b t10, .b t12, .f t15, .b t17, .b t20, .b t22, .f t25, .b t27]) rfl (congrArg (fun r => [U.b r]) e28) rfl ?_
              refine T.hite (x := t27) ?_ ?_ ?_
              · rfl
              · intro c30
                refine T.hdone ?_
                have e00 : (smallF (a) && (smallF (b) && smallF (c))) = false := by simp only [smallF, e1, e3, c5, e6, e8, c10, e11, e13, c15, e16, e18, c20, e21, e23, c25, e26, e28, c30, reduceIte, Bool.false_eq_true, Bool.true_eq_false, Bool.true_and, Bool.false_and, Bool.and_true, Bool.and_false, Bool.true_or, Bool.false_or, Bool.or_true, Bool.or_false, Bool.not_true, Bool.not_false] <;> simp_all
                exact ⟨(congrArg (fun r => some (bRes r 0)) e00.symm), trivial, rfl⟩
              · intro c30
                refine T.hdone ?_
                have e00 : (smallF (a) && (smallF (b) && smallF (c))) = true := by simp only [smallF, e1, e3, c5, e6, e8, c10, e11, e13, c15, e16, e18, c20, e21, e23, c25, e26, e28, c30, reduceIte, Bool.false_eq_true, Bool.true_eq_false, Bool.true_and, Bool.false_and, Bool.and_true, Bool.and_false, Bool.true_or, Bool.false_or, Bool.or_true, Bool.or_false, Bool.not_true, Bool.not_false] <;> simp_all
                exact ⟨(congrArg (fun r => some (bRes r 0)) e00.symm), trivial, rfl⟩

def vx7 : List (Nat × Ct) := (21, ctSmall) :: vx6
theorem vx7_ok : AllOk Try.prog vx7 := ⟨ctSmall_ok, vx6_ok⟩

def ctEachN1 : Ct := ⟨5, [[.fn 51 [.ptr 1 0] []], [vi .i64 0]], [vp 1 2, vp 3 4, .ptr 0 0], { binds := [⟨fun us i => calR (Dy.cNeg (gI us 0) (gF us 1, gF us 2)) i, 3, [(.v 0), (.v 1), (.v 2)]⟩], needs := [⟨nIv, [(.v 1), (.v 2)]⟩], val := .agg [.fl (.v 5), .fl (.v 6)], upd := [(1, [.it .i64 (.v 7)])] }⟩
theorem ctEachN1_ok : CtOk Try.prog 123 ctEachN1 := CtOk.flat vx7_ok (dr_ok vx7_ok) Try.func123 rfl (by decide) [] 200 ⟨[.agg [.fl (.v 5), .fl (.v 6)]], [some ([.fn 51 [.ptr 1 0] []]), some ([.it .i64 (.v 7)])], 8, [1]⟩ (by kernel_rfl) rfl (by kernel_rfl) rfl (by kernel_rfl) (by kernel_rfl) (by kernel_rfl) (by kernel_rfl)

def vx8 : List (Nat × Ct) := (123, ctEachN1) :: vx7
theorem vx8_ok : AllOk Try.prog vx8 := ⟨ctEachN1_ok, vx7_ok⟩

def ctBothN : Ct := ⟨13, [[.fn 51 [.ptr 1 0] []], [vi .i64 0]], [.agg [vf 1, vf 2, vf 3, vf 4, vf 5, vf 6], .agg [vf 7, vf 8, vf 9, vf 10, vf 11, vf 12], .fn 123 [] [.ptr 0 0]], { binds := [⟨fun us i => calR (Dy.cNeg (gI us 0) (gF us 1, gF us 2)) i, 3, [(.v 0), (.v 1), (.v 2)]⟩, ⟨fun us i => calR (Dy.cNeg (gI us 0) (gF us 1, gF us 2)) i, 3, [(.v 15), (.v 3), (.v 4)]⟩, ⟨fun us i => calR (Dy.cNeg (gI us 0) (gF us 1, gF us 2)) i, 3, [(.v 18), (.v 5), (.v 6)]⟩], needs := [⟨nIv, [(.v 1), (.v 2)]⟩, ⟨nIv, [(.v 3), (.v 4)]⟩, ⟨nIv, [(.v 5), (.v 6)]⟩], val := .agg [.fl (.v 13), .fl (.v 14), .fl (.v 16), .fl (.v 17), .fl (.v 19), .fl (.v 20)], upd := [(1, [.it .i64 (.v 21)])] }⟩
theorem ctBothN_ok : CtOk Try.prog 122 ctBothN := CtOk.flat vx8_ok (dr_ok vx8_ok) Try.func122 rfl (by decide) [] 200 ⟨[.agg [.fl (.v 13), .fl (.v 14), .fl (.v 16), .fl (.v 17), .fl (.v 19), .fl (.v 20)]], [some ([.fn 51 [.ptr 1 0] []]), some ([.it .i64 (.v 21)])], 22, [1, 1, 1]⟩ (by kernel_rfl) rfl (by kernel_rfl) rfl (by kernel_rfl) (by kernel_rfl) (by kernel_rfl) (by kernel_rfl)

def vx9 : List (Nat × Ct) := (122, ctBothN) :: vx8
theorem vx9_ok : AllOk Try.prog vx9 := ⟨ctBothN_ok, vx8_ok⟩

def ctEachN : Ct := ⟨7, [[vi .i64 0]], [.agg [vf 1, vf 2, vf 3, vf 4, vf 5, vf 6], .fn 51 [.ptr 0 0] []], { binds := [⟨fun us i => calR (Dy.cNeg (gI us 0) (gF us 1, gF us 2)) i, 3, [(.v 0), (.v 1), (.v 2)]⟩, ⟨fun us i => calR (Dy.cNeg (gI us 0) (gF us 1, gF us 2)) i, 3, [(.v 9), (.v 3), (.v 4)]⟩, ⟨fun us i => calR (Dy.cNeg (gI us 0) (gF us 1, gF us 2)) i, 3, [(.v 12), (.v 5), (.v 6)]⟩], needs := [⟨nIv, [(.v 1), (.v 2)]⟩, ⟨nIv, [(.v 3), (.v 4)]⟩, ⟨nIv, [(.v 5), (.v 6)]⟩], val := .agg [.fl (.v 7), .fl (.v 8), .fl (.v 10), .fl (.v 11), .fl (.v 13), .fl (.v 14)], upd := [(0, [.it .i64 (.v 15)])] }⟩
theorem ctEachN_ok : CtOk Try.prog 59 ctEachN := CtOk.flat vx9_ok (dr_ok vx9_ok) Try.func59 rfl (by decide) [] 200 ⟨[.agg [.fl (.v 7), .fl (.v 8), .fl (.v 10), .fl (.v 11), .fl (.v 13), .fl (.v 14)]], [some ([.it .i64 (.v 15)])], 16, [0]⟩ (by kernel_rfl) rfl (by kernel_rfl) rfl (by kernel_rfl) (by kernel_rfl) (by kernel_rfl) (by kernel_rfl)

def vx10 : List (Nat × Ct) := (59, ctEachN) :: vx9
theorem vx10_ok : AllOk Try.prog vx10 := ⟨ctEachN_ok, vx9_ok⟩

def ctVNeg : Ct := ⟨7, [[vi .i64 0]], [.ptr 0 0, .agg [vf 1, vf 2, vf 3, vf 4, vf 5, vf 6]], { binds := [⟨fun us i => calR (Dy.cNeg (gI us 0) (gF us 1, gF us 2)) i, 3, [(.v 0), (.v 1), (.v 2)]⟩, ⟨fun us i => calR (Dy.cNeg (gI us 0) (gF us 1, gF us 2)) i, 3, [(.v 9), (.v 3), (.v 4)]⟩, ⟨fun us i => calR (Dy.cNeg (gI us 0) (gF us 1, gF us 2)) i, 3, [(.v 12), (.v 5), (.v 6)]⟩], needs := [⟨nIv, [(.v 1), (.v 2)]⟩, ⟨nIv, [(.v 3), (.v 4)]⟩, ⟨nIv, [(.v 5), (.v 6)]⟩], val := .agg [.fl (.v 7), .fl (.v 8), .fl (.v 10), .fl (.v 11), .fl (.v 13), .fl (.v 14)], upd := [(0, [.it .i64 (.v 15)])] }⟩
theorem ctVNeg_ok : CtOk Try.prog 19 ctVNeg := CtOk.flat vx10_ok (dr_ok vx10_ok) Try.func19 rfl (by decide) [] 200 ⟨[.agg [.fl (.v 7), .fl (.v 8), .fl (.v 10), .fl (.v 11), .fl (.v 13), .fl (.v 14)]], [some ([.it .i64 (.v 15)])], 16, [0]⟩ (by kernel_rfl) rfl (by kernel_rfl) rfl (by kernel_rfl) (by kernel_rfl) (by kernel_rfl) (by kernel_rfl)

def vx11 : List (Nat × Ct) := (19, ctVNeg) :: vx10
theorem vx11_ok : AllOk Try.prog vx11 := ⟨ctVNeg_ok, vx10_ok⟩

def ctCross1 : Ct := ⟨9, [[.ptr 1 0], [vi .i64 0]], [vp 1 2, vp 3 4, vp 5 6, vp 7 8, .ptr 0 0], { binds := [⟨calF2 Dy.cMul, 3, [(.v 0), (.v 1), (.v 2), (.v 3), (.v 4)]⟩, ⟨calF2 Dy.cMul, 3, [(.v 11), (.v 5), (.v 6), (.v 7), (.v 8)]⟩, ⟨calF2 Dy.cSub, 3, [(.v 14), (.v 9), (.v 10), (.v 12), (.v 13)]⟩], needs := [], val := .agg [.fl (.v 15), .fl (.v 16)], upd := [(1, [.it .i64 (.v 17)])] }⟩
theorem ctCross1_ok : CtOk Try.prog 124 ctCross1 := CtOk.flat vx11_ok (dr_ok vx11_ok) Try.func124 rfl (by decide) [] 200 ⟨[.agg [.fl (.v 15), .fl (.v 16)]], [some ([.ptr 1 0]), some ([.it .i64 (.v 17)])], 18, [1, 1, 1]⟩ (by kernel_rfl) rfl (by kernel_rfl) rfl (by kernel_rfl) (by kernel_rfl) (by kernel_rfl) (by kernel_rfl)

def vx12 : List (Nat × Ct) := (124, ctCross1) :: vx11
theorem vx12_ok : AllOk Try.prog vx12 := ⟨ctCross1_ok, vx11_ok⟩

def ctVCross : Ct := ⟨13, [[vi .i64 0]], [.ptr 0 0, .agg [vf 1, vf 2, vf 3, vf 4, vf 5, vf 6], .agg [vf 7, vf 8, vf 9, vf 10, vf 11, vf 12]], { binds := [⟨calF2 Dy.cMul, 3, [(.v 0), (.v 3), (.v 4), (.v 11), (.v 12)]⟩, ⟨calF2 Dy.cMul, 3, [(.v 15), (.v 5), (.v 6), (.v 9), (.v 10)]⟩, ⟨calF2 Dy.cSub, 3, [(.v 18), (.v 13), (.v 14), (.v 16), (.v 17)]⟩, ⟨calF2 Dy.cMul, 3, [(.v 21), (.v 5), (.v 6), (.v 7), (.v 8)]⟩, ⟨calF2 Dy.cMul, 3, [(.v 24), (.v 1), (.v 2), (.v 11), (.v 12)]⟩, ⟨calF2 Dy.cSub, 3, [(.v 27), (.v 22), (.v 23), (.v 25), (.v 26)]⟩, ⟨calF2 Dy.cMul, 3, [(.v 30), (.v 1), (.v 2), (.v 9), (.v 10)]⟩, ⟨calF2 Dy.cMul, 3, [(.v 33), (.v 3), (.v 4), (.v 7), (.v 8)]⟩, ⟨calF2 Dy.cSub, 3, [(.v 36), (.v 31), (.v 32), (.v 34), (.v 35)]⟩], needs := [], val := .agg [.fl (.v 19), .fl (.v 20), .fl (.v 28), .fl (.v 29), .fl (.v 37), .fl (.v 38)], upd := [(0, [.it .i64 (.v 39)])] }⟩
theorem ctVCross_ok : CtOk Try.prog 64 ctVCross := CtOk.flat vx12_ok (dr_ok vx12_ok) Try.func64 rfl (by decide) [] 200 ⟨[.agg [.fl (.v 19), .fl (.v 20), .fl (.v 28), .fl (.v 29), .fl (.v 37), .fl (.v 38)]], [some ([.it .i64 (.v 39)])], 40, [0, 0, 0]⟩ (by kernel_rfl) rfl (by kernel_rfl) rfl (by kernel_rfl) (by kernel_rfl) (by kernel_rfl) (by kernel_rfl)

def vx13 : List (Nat × Ct) := (64, ctVCross) :: vx12
theorem vx13_ok : AllOk Try.prog vx13 := ⟨ctVCross_ok, vx12_ok⟩

def ctAwake05 : Ct := ctTrue
theorem ctAwake05_ok : CtOk Try.prog 16 ctAwake05 := ctTrue_ok vx13_ok (dr_ok vx13_ok) Try.func16 rfl (by decide) 200 _ rfl (by kernel_rfl)

def vx14 : List (Nat × Ct) := (16, ctAwake05) :: vx13
theorem vx14_ok : AllOk Try.prog vx14 := ⟨ctAwake05_ok, vx13_ok⟩

end Go.Proofs.Ytiphdhpacklboaa
