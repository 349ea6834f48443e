/- A reckoning of programs by symbols: made, told; the examples of burnishlaw05. -/
import Derived.Test.YtkhplflbcgjkcaaGreatMe
namespace Go.Proofs.YtkhplflbcgjkcaaGreat
open Go Go.RowKit
set_option linter.unusedSimpArgs false
set_option linter.unusedVariables false
def glossU (r : ((Nat × Nat) × (Nat × Nat) × (Nat × Nat) × (Nat × Nat)) × Int) (i : Nat) : U := match i with
 | 0 => .f r.1.1.1
 | 1 => .f r.1.1.2
 | 2 => .f r.1.2.1.1
 | 3 => .f r.1.2.1.2
 | 4 => .f r.1.2.2.1.1
 | 5 => .f r.1.2.2.1.2
 | 6 => .f r.1.2.2.2.1
 | 7 => .f r.1.2.2.2.2
 | _ => .i r.2
def cNegM (a : Nat × Nat) : Dy.Cm (Nat × Nat) := fun e => Dy.cNeg e a
abbrev V4 := (Nat × Nat) × (Nat × Nat) × (Nat × Nat) × (Nat × Nat)
abbrev z2 : Nat × Nat := (0, 0)
def vaddM (a b c p q r : Nat × Nat) : Dy.Cm V4 := do
 let x ← Dy.mAdd a p
 let y ← Dy.mAdd b q
 let z ← Dy.mAdd c r
 pure (x, y, z, z2)
def vsubM (a b c p q r : Nat × Nat) : Dy.Cm V4 := do
 let x ← Dy.mSub a p
 let y ← Dy.mSub b q
 let z ← Dy.mSub c r
 pure (x, y, z, z2)
def vnegM (a b c : Nat × Nat) : Dy.Cm V4 := do
 let x ← cNegM a
 let y ← cNegM b
 let z ← cNegM c
 pure (x, y, z, z2)
def vscaleM (k a b c : Nat × Nat) : Dy.Cm V4 := do
 let x ← Dy.mMul k a
 let y ← Dy.mMul k b
 let z ← Dy.mMul k c
 pure (x, y, z, z2)
def vcrossM (a b c p q r : Nat × Nat) : Dy.Cm V4 := do
 let x1 ← Dy.mMul b r
 let x2 ← Dy.mMul c q
 let x ← Dy.mSub x1 x2
 let y1 ← Dy.mMul c p
 let y2 ← Dy.mMul a r
 let y ← Dy.mSub y1 y2
 let z1 ← Dy.mMul a q
 let z2' ← Dy.mMul b p
 let z ← Dy.mSub z1 z2'
 pure (x, y, z, z2)
def vdotM (a b c p q r : Nat × Nat) : Dy.Cm V4 := do
 let x ← Dy.mMul a p
 let y ← Dy.mMul b q
 let s ← Dy.mAdd x y
 let z ← Dy.mMul c r
 let t ← Dy.mAdd s z
 pure (z2, z2, z2, t)
def vnormM (a b c : Nat × Nat) : Dy.Cm V4 := do
 let x ← Dy.mSqr a
 let y ← Dy.mSqr b
 let s ← Dy.mAdd x y
 let z ← Dy.mSqr c
 let t ← Dy.mAdd s z
 let n ← Dy.mSqrt t
 pure (z2, z2, z2, n)
def madeG (i e : Int) (a b c p q r k : Nat × Nat) : V4 × Int :=
 bif i == 0 then vaddM a b c p q r e else bif i == 1 then vsubM a b c p q r e else bif i == 2 then vnegM a b c e else bif i == 3 then vscaleM k a b c e else
 bif i == 4 then vcrossM a b c p q r e else bif i == 5 then vdotM a b c p q r e else vnormM a b c e
def mf0 : List (Nat × Ct) := mE0
theorem mf0_ok : AllOk Tryz.prog mf0 := mE0_ok
def ctSame01 : Ct := ctP 2 [vf 0, vf 1] (fun us _ => .b (decide (gF us 0 = gF us 1))) 1 (vb 2) []
theorem ctSame01_ok : CtOk Tryz.prog 22 ctSame01 := by
 refine ctP_ok (en Tryz.func22 rfl (by decide)) rfl rfl (fun us w vs hl hv hn => ?_) rfl
 match us, hl with
 | [u0, u1], _ =>
  obtain ⟨x0, y0, hx0, hy0, rfl⟩ := denL_cons.1 hv
  obtain ⟨a0, e0, w0, rfl⟩ := den_fl hx0
  obtain ⟨x1, y1, hx1, hy1, rfl⟩ := denL_cons.1 hy0
  obtain ⟨a1, e1, w1, rfl⟩ := den_fl hx1
  rw [denL_nil.1 hy1]
  simp [E.ev] at e0 e1
  subst e0 e1
  exact ⟨.bool (decide (a0 = a1)), rfl, (same_any a0 a1 w).mono fun e w2 ⟨h1, h2⟩ => ⟨by rw [h1]; congr 2; rw [Bool.eq_iff_iff]; simp; omega, by subst h2; exact Below.refl _ _⟩⟩
def mf1 : List (Nat × Ct) := (22, ctSame01) :: mf0
theorem mf1_ok : AllOk Tryz.prog mf1 := ⟨ctSame01_ok, mf0_ok⟩
def sameIv (a b : Nat × Nat) : Bool := decide (a.1 = b.1) && decide (a.2 = b.2)
def ctSame02 : Ct := ⟨4, [], [vp 0 1, vp 2 3], { binds := [⟨fun us i => bRes (sameIv (gF us 0, gF us 1) (gF us 2, gF us 3)) i, 1, upto 0 4⟩], needs := [], val := vb 4, upd := [] }⟩
set_option maxRecDepth 100000 in
set_option maxHeartbeats 8000000 in
theorem ctSame02_ok : CtOk Tryz.prog 21 ctSame02 := by
 refine CtOk.of_eval2 mf1_ok (dr_ok mf1_ok) Tryz.func21 rfl (by decide) [] 200 (by kernel_rfl) rfl (.bind ⟨fun us _ => .b (decide (gF us 0 = gF us 1)), 1, [(.v 0), (.v 2)]⟩ (.ite (.v 4) (.bind ⟨fun us _ => .b (decide (gF us 0 = gF us 1)), 1, [(.v 1), (.v 3)]⟩ (.done .ret ⟨[.bo (.v 5)], [], 6, []⟩)) (.done .ret ⟨[.bo (.l (.b false))], [], 5, []⟩))) (by kernel_rfl) (by kernel_rfl) (by kernel_rfl) (fun us hl hF hB hN => ?_)
 match us, hl with
 | [u0, u1, u2, u3], _ =>
  simp [FactsB, FactsL, Facts, ctSame02] at hF hB
  simp [NeedsAt, runB, evs, E.ev, upto, resl, List.range, List.range.loop, ctSame02] at hN
  obtain ⟨⟨⟨a1, rfl, wa1⟩, ⟨a2, rfl, wa2⟩⟩, ⟨b1, rfl, wb1⟩, ⟨b2, rfl, wb2⟩⟩ := hF
  refine T.HH.h ?_
  obtain ⟨t0, e1⟩ : ∃ t0, ((decide (a1 = b1))) = t0 := ⟨_, rfl⟩
  refine T.hbind rfl (congrArg (fun r => [U.b r]) e1) rfl ?_
  refine T.hite (x := t0) ?_ ?_ ?_
  ·rfl
  ·intro c3
   obtain ⟨t3, e4⟩ : ∃ t3, ((decide (a2 = b2))) = t3 := ⟨_, rfl⟩
   refine T.hbind rfl (congrArg (fun r => [U.b r]) e4) rfl ?_
   refine T.hdone ?_
   have e00 : sameIv (a1, a2) (b1, b2) = t3 := by simp only [sameIv, e1, c3, e4, reduceIte, Bool.false_eq_true, Bool.true_eq_false, Bool.true_and, Bool.false_and, Bool.and_true, Bool.and_false, Bool.true_or, Bool.false_or, Bool.or_true, Bool.or_false, Bool.not_true, Bool.not_false, Dy.cm_bind, Dy.cm_pure, Dy.mNum, Dy.mAdd, Dy.mSub, Dy.mMul, Dy.mDiv, Dy.mSqr, Dy.mSqrt, Dy.mMax] <;> simp_all
   exact ⟨(congrArg (fun r => some (bRes r 0)) e00.symm), trivial, rfl⟩
  ·intro c3
   refine T.hdone ?_
   have e00 : sameIv (a1, a2) (b1, b2) = false := by simp only [sameIv, e1, c3, reduceIte, Bool.false_eq_true, Bool.true_eq_false, Bool.true_and, Bool.false_and, Bool.and_true, Bool.and_false, Bool.true_or, Bool.false_or, Bool.or_true, Bool.or_false, Bool.not_true, Bool.not_false, Dy.cm_bind, Dy.cm_pure, Dy.mNum, Dy.mAdd, Dy.mSub, Dy.mMul, Dy.mDiv, Dy.mSqr, Dy.mSqrt, Dy.mMax] <;> simp_all
   exact ⟨(congrArg (fun r => some (bRes r 0)) e00.symm), trivial, rfl⟩
def mf2 : List (Nat × Ct) := (21, ctSame02) :: mf1
theorem mf2_ok : AllOk Tryz.prog mf2 := ⟨ctSame02_ok, mf1_ok⟩
def same3 (a b c d e f : Nat × Nat) : Bool := sameIv a d && (sameIv b e && sameIv c f)
def ctSame05 : Ct := ⟨12, [], [.agg [vf 0, vf 1, vf 2, vf 3, vf 4, vf 5], .agg [vf 6, vf 7, vf 8, vf 9, vf 10, vf 11]], { binds := [⟨fun us i => bRes (same3 (gF us 0, gF us 1) (gF us 2, gF us 3) (gF us 4, gF us 5) (gF us 6, gF us 7) (gF us 8, gF us 9) (gF us 10, gF us 11)) i, 1, upto 0 12⟩], needs := [], val := vb 12, upd := [] }⟩
set_option maxRecDepth 100000 in
set_option maxHeartbeats 8000000 in
theorem ctSame05_ok : CtOk Tryz.prog 35 ctSame05 := by
 refine CtOk.of_eval2 mf2_ok (dr_ok mf2_ok) Tryz.func35 rfl (by decide) [] 200 (by kernel_rfl) rfl (.bind ⟨fun us i => bRes (sameIv (gF us 0, gF us 1) (gF us 2, gF us 3)) i, 1, [(.v 0), (.v 1), (.v 6), (.v 7)]⟩ (.ite (.v 12) (.bind ⟨fun us i => bRes (sameIv (gF us 0, gF us 1) (gF us 2, gF us 3)) i, 1, [(.v 2), (.v 3), (.v 8), (.v 9)]⟩ (.ite (.v 13) (.bind ⟨fun us i => bRes (sameIv (gF us 0, gF us 1) (gF us 2, gF us 3)) i, 1, [(.v 4), (.v 5), (.v 10), (.v 11)]⟩ (.done .ret ⟨[.bo (.v 14)], [], 15, []⟩)) (.done .ret ⟨[.bo (.l (.b false))], [], 14, []⟩))) (.done .ret ⟨[.bo (.l (.b false))], [], 13, []⟩))) (by kernel_rfl) (by kernel_rfl) (by kernel_rfl) (fun us hl hF hB hN => ?_)
 match us, hl with
 | [u0, u1, u2, u3, u4, u5, u6, u7, u8, u9, u10, u11], _ =>
  simp [FactsB, FactsL, Facts, ctSame05] at hF hB
  simp [NeedsAt, runB, evs, E.ev, upto, resl, List.range, List.range.loop, ctSame05] at hN
  obtain ⟨⟨⟨a1, rfl, wa1⟩, ⟨a2, rfl, wa2⟩, ⟨b1, rfl, wb1⟩, ⟨b2, rfl, wb2⟩, ⟨m1, rfl, wm1⟩, ⟨m2, rfl, wm2⟩⟩, ⟨n1, rfl, wn1⟩, ⟨n2, rfl, wn2⟩, ⟨p1, rfl, wp1⟩, ⟨p2, rfl, wp2⟩, ⟨q1, rfl, wq1⟩, ⟨q2, rfl, wq2⟩⟩ := hF
  refine T.HH.h ?_
  obtain ⟨t0, e1⟩ : ∃ t0, ((sameIv (a1, a2) (n1, n2))) = t0 := ⟨_, rfl⟩
  refine T.hbind rfl (congrArg (fun r => [U.b r]) e1) rfl ?_
  refine T.hite (x := t0) ?_ ?_ ?_
  ·rfl
  ·intro c3
   obtain ⟨t3, e4⟩ : ∃ t3, ((sameIv (b1, b2) (p1, p2))) = t3 := ⟨_, rfl⟩
   refine T.hbind rfl (congrArg (fun r => [U.b r]) e4) rfl ?_
   refine T.hite (x := t3) ?_ ?_ ?_
   ·rfl
   ·intro c6
    obtain ⟨t6, e7⟩ : ∃ t6, ((sameIv (m1, m2) (q1, q2))) = t6 := ⟨_, rfl⟩
    refine T.hbind rfl (congrArg (fun r => [U.b r]) e7) rfl ?_
    refine T.hdone ?_
    have e00 : same3 (a1, a2) (b1, b2) (m1, m2) (n1, n2) (p1, p2) (q1, q2) = t6 := by simp only [same3, e1, c3, e4, c6, e7, reduceIte, Bool.false_eq_true, Bool.true_eq_false, Bool.true_and, Bool.false_and, Bool.and_true, Bool.and_false, Bool.true_or, Bool.false_or, Bool.or_true, Bool.or_false, Bool.not_true, Bool.not_false, Dy.cm_bind, Dy.cm_pure, Dy.mNum, Dy.mAdd, Dy.mSub, Dy.mMul, Dy.mDiv, Dy.mSqr, Dy.mSqrt, Dy.mMax] <;> simp_all
    exact ⟨(congrArg (fun r => some (bRes r 0)) e00.symm), trivial, rfl⟩
   ·intro c6
    refine T.hdone ?_
    have e00 : same3 (a1, a2) (b1, b2) (m1, m2) (n1, n2) (p1, p2) (q1, q2) = false := by simp only [same3, e1, c3, e4, c6, reduceIte, Bool.false_eq_true, Bool.true_eq_false, Bool.true_and, Bool.false_and, Bool.and_true, Bool.and_false, Bool.true_or, Bool.false_or, Bool.or_true, Bool.or_false, Bool.not_true, Bool.not_false, Dy.cm_bind, Dy.cm_pure, Dy.mNum, Dy.mAdd, Dy.mSub, Dy.mMul, Dy.mDiv, Dy.mSqr, Dy.mSqrt, Dy.mMax] <;> simp_all
    exact ⟨(congrArg (fun r => some (bRes r 0)) e00.symm), trivial, rfl⟩
  ·intro c3
   refine T.hdone ?_
   have e00 : same3 (a1, a2) (b1, b2) (m1, m2) (n1, n2) (p1, p2) (q1, q2) = false := by simp only [same3, e1, c3, reduceIte, Bool.false_eq_true, Bool.true_eq_false, Bool.true_and, Bool.false_and, Bool.and_true, Bool.and_false, Bool.true_or, Bool.false_or, Bool.or_true, Bool.or_false, Bool.not_true, Bool.not_false, Dy.cm_bind, Dy.cm_pure, Dy.mNum, Dy.mAdd, Dy.mSub, Dy.mMul, Dy.mDiv, Dy.mSqr, Dy.mSqrt, Dy.mMax] <;> simp_all
   exact ⟨(congrArg (fun r => some (bRes r 0)) e00.symm), trivial, rfl⟩
def mf3 : List (Nat × Ct) := (35, ctSame05) :: mf2
theorem mf3_ok : AllOk Tryz.prog mf3 := ⟨ctSame05_ok, mf2_ok⟩
def ctAt : Ct := ⟨3, [], [vf 0, vf 1, vf 2], { binds := [], needs := [], val := .agg [.fl (.v 0), .fl (.v 0), .fl (.v 1), .fl (.v 1), .fl (.v 2), .fl (.v 2)], upd := [] }⟩
theorem ctAt_ok : CtOk Tryz.prog 100 ctAt := CtOk.flat mf3_ok (dr_ok mf3_ok) Tryz.func100 rfl (by decide) [] 200 ⟨[.agg [.fl (.v 0), .fl (.v 0), .fl (.v 1), .fl (.v 1), .fl (.v 2), .fl (.v 2)]], [], 3, []⟩ (by kernel_rfl) rfl (by kernel_rfl) rfl (by kernel_rfl) (by kernel_rfl) (by kernel_rfl) (by kernel_rfl)
def mf4 : List (Nat × Ct) := (100, ctAt) :: mf3
theorem mf4_ok : AllOk Tryz.prog mf4 := ⟨ctAt_ok, mf3_ok⟩
def ctMade : Ct := ⟨16, [[vi .i64 0]], [vi .i64 1, .ptr 0 0, .agg [vf 2, vf 3, vf 4, vf 5, vf 6, vf 7], .agg [vf 8, vf 9, vf 10, vf 11, vf 12, vf 13], vp 14 15], { binds := [⟨fun us i => glossU ((madeG (gI us 1) (gI us 0) (gF us 2, gF us 3) (gF us 4, gF us 5) (gF us 6, gF us 7) (gF us 8, gF us 9) (gF us 10, gF us 11) (gF us 12, gF us 13) (gF us 14, gF us 15))) i, 9, upto 0 16⟩], needs := [], val := .tup [.agg [vf 16, vf 17, vf 18, vf 19, vf 20, vf 21], vp 22 23], upd := [(0, [vi .i64 24])] }⟩
set_option maxRecDepth 100000 in
set_option maxHeartbeats 8000000 in
theorem ctMade_ok : CtOk Tryz.prog 36 ctMade := by
 refine CtOk.of_eval2 mf4_ok (dr_ok mf4_ok) Tryz.func36 rfl (by decide) [] 200 (by kernel_rfl) rfl (.bind ⟨fun us _ => jB (fun a b => a == b) us, 1, [(.v 1), (.l (.i 0))]⟩ (.ite (.v 16) (.bind ⟨calF2 Dy.cAdd, 3, [(.v 0), (.v 2), (.v 3), (.v 8), (.v 9)]⟩ (.bind ⟨calF2 Dy.cAdd, 3, [(.v 19), (.v 4), (.v 5), (.v 10), (.v 11)]⟩ (.bind ⟨calF2 Dy.cAdd, 3, [(.v 22), (.v 6), (.v 7), (.v 12), (.v 13)]⟩ (.done .ret ⟨[.tup [.agg [.fl (.v 17), .fl (.v 18), .fl (.v 20), .fl (.v 21), .fl (.v 23), .fl (.v 24)], .agg [.fl (.l (.f 0)), .fl (.l (.f 0))]]], [some ([.it .i64 (.v 25)])], 26, [0]⟩)))) (.bind ⟨fun us _ => jB (fun a b => a == b) us, 1, [(.v 1), (.l (.i 1))]⟩ (.ite (.v 17) (.bind ⟨calF2 Dy.cSub, 3, [(.v 0), (.v 2), (.v 3), (.v 8), (.v 9)]⟩ (.bind ⟨calF2 Dy.cSub, 3, [(.v 20), (.v 4), (.v 5), (.v 10), (.v 11)]⟩ (.bind ⟨calF2 Dy.cSub, 3, [(.v 23), (.v 6), (.v 7), (.v 12), (.v 13)]⟩ (.done .ret ⟨[.tup [.agg [.fl (.v 18), .fl (.v 19), .fl (.v 21), .fl (.v 22), .fl (.v 24), .fl (.v 25)], .agg [.fl (.l (.f 0)), .fl (.l (.f 0))]]], [some ([.it .i64 (.v 26)])], 27, [0]⟩)))) (.bind ⟨fun us _ => jB (fun a b => a == b) us, 1, [(.v 1), (.l (.i 2))]⟩ (.ite (.v 18) (.bind ⟨calF1 Dy.cNeg, 3, [(.v 0), (.v 2), (.v 3)]⟩ (.bind ⟨calF1 Dy.cNeg, 3, [(.v 21), (.v 4), (.v 5)]⟩ (.bind ⟨calF1 Dy.cNeg, 3, [(.v 24), (.v 6), (.v 7)]⟩ (.done .ret ⟨[.tup [.agg [.fl (.v 19), .fl (.v 20), .fl (.v 22), .fl (.v 23), .fl (.v 25), .fl (.v 26)], .agg [.fl (.l (.f 0)), .fl (.l (.f 0))]]], [some ([.it .i64 (.v 27)])], 28, [0]⟩)))) (.bind ⟨fun us _ => jB (fun a b => a == b) us, 1, [(.v 1), (.l (.i 3))]⟩ (.ite (.v 19) (.bind ⟨calF2 Dy.cMul, 3, [(.v 0), (.v 14), (.v 15), (.v 2), (.v 3)]⟩ (.bind ⟨calF2 Dy.cMul, 3, [(.v 22), (.v 14), (.v 15), (.v 4), (.v 5)]⟩ (.bind ⟨calF2 Dy.cMul, 3, [(.v 25), (.v 14), (.v 15), (.v 6), (.v 7)]⟩ (.done .ret ⟨[.tup [.agg [.fl (.v 20), .fl (.v 21), .fl (.v 23), .fl (.v 24), .fl (.v 26), .fl (.v 27)], .agg [.fl (.l (.f 0)), .fl (.l (.f 0))]]], [some ([.it .i64 (.v 28)])], 29, [0]⟩)))) (.bind ⟨fun us _ => jB (fun a b => a == b) us, 1, [(.v 1), (.l (.i 4))]⟩ (.ite (.v 20) (.bind ⟨calF2 Dy.cMul, 3, [(.v 0), (.v 4), (.v 5), (.v 12), (.v 13)]⟩ (.bind ⟨calF2 Dy.cMul, 3, [(.v 23), (.v 6), (.v 7), (.v 10), (.v 11)]⟩ (.bind ⟨calF2 Dy.cSub, 3, [(.v 26), (.v 21), (.v 22), (.v 24), (.v 25)]⟩ (.bind ⟨calF2 Dy.cMul, 3, [(.v 29), (.v 6), (.v 7), (.v 8), (.v 9)]⟩ (.bind ⟨calF2 Dy.cMul, 3, [(.v 32), (.v 2), (.v 3), (.v 12), (.v 13)]⟩ (.bind ⟨calF2 Dy.cSub, 3, [(.v 35), (.v 30), (.v 31), (.v 33), (.v 34)]⟩ (.bind ⟨calF2 Dy.cMul, 3, [(.v 38), (.v 2), (.v 3), (.v 10), (.v 11)]⟩ (.bind ⟨calF2 Dy.cMul, 3, [(.v 41), (.v 4), (.v 5), (.v 8), (.v 9)]⟩ (.bind ⟨calF2 Dy.cSub, 3, [(.v 44), (.v 39), (.v 40), (.v 42), (.v 43)]⟩ (.done .ret ⟨[.tup [.agg [.fl (.v 27), .fl (.v 28), .fl (.v 36), .fl (.v 37), .fl (.v 45), .fl (.v 46)], .agg [.fl (.l (.f 0)), .fl (.l (.f 0))]]], [some ([.it .i64 (.v 47)])], 48, [0]⟩)))))))))) (.bind ⟨fun us _ => jB (fun a b => a == b) us, 1, [(.v 1), (.l (.i 5))]⟩ (.ite (.v 21) (.bind ⟨calF2 Dy.cMul, 3, [(.v 0), (.v 2), (.v 3), (.v 8), (.v 9)]⟩ (.bind ⟨calF2 Dy.cMul, 3, [(.v 24), (.v 4), (.v 5), (.v 10), (.v 11)]⟩ (.bind ⟨calF2 Dy.cAdd, 3, [(.v 27), (.v 22), (.v 23), (.v 25), (.v 26)]⟩ (.bind ⟨calF2 Dy.cMul, 3, [(.v 30), (.v 6), (.v 7), (.v 12), (.v 13)]⟩ (.bind ⟨calF2 Dy.cAdd, 3, [(.v 33), (.v 28), (.v 29), (.v 31), (.v 32)]⟩ (.done .ret ⟨[.tup [.agg [.fl (.l (.f 0)), .fl (.l (.f 0)), .fl (.l (.f 0)), .fl (.l (.f 0)), .fl (.l (.f 0)), .fl (.l (.f 0))], .agg [.fl (.v 34), .fl (.v 35)]]], [some ([.it .i64 (.v 36)])], 37, [0]⟩)))))) (.bind ⟨calF1 Dy.cSqr, 3, [(.v 0), (.v 2), (.v 3)]⟩ (.bind ⟨calF1 Dy.cSqr, 3, [(.v 24), (.v 4), (.v 5)]⟩ (.bind ⟨calF2 Dy.cAdd, 3, [(.v 27), (.v 22), (.v 23), (.v 25), (.v 26)]⟩ (.bind ⟨calF1 Dy.cSqr, 3, [(.v 30), (.v 6), (.v 7)]⟩ (.bind ⟨calF2 Dy.cAdd, 3, [(.v 33), (.v 28), (.v 29), (.v 31), (.v 32)]⟩ (.bind ⟨calF1 Dy.cSqrt, 3, [(.v 36), (.v 34), (.v 35)]⟩ (.done .ret ⟨[.tup [.agg [.fl (.l (.f 0)), .fl (.l (.f 0)), .fl (.l (.f 0)), .fl (.l (.f 0)), .fl (.l (.f 0)), .fl (.l (.f 0))], .agg [.fl (.v 37), .fl (.v 38)]]], [some ([.it .i64 (.v 39)])], 40, [0]⟩))))))))))))))))))) (by kernel_rfl) (by kernel_rfl) (by kernel_rfl) (fun us hl hF hB hN => ?_)
 match us, hl with
 | [u0, u1, u2, u3, u4, u5, u6, u7, u8, u9, u10, u11, u12, u13, u14, u15], _ =>
  simp [FactsB, FactsL, Facts, ctMade] at hF hB
  simp [NeedsAt, runB, evs, E.ev, upto, resl, List.range, List.range.loop, ctMade] at hN
  obtain ⟨⟨i, rfl⟩, ⟨⟨a1, rfl, wa1⟩, ⟨a2, rfl, wa2⟩, ⟨b1, rfl, wb1⟩, ⟨b2, rfl, wb2⟩, ⟨m1, rfl, wm1⟩, ⟨m2, rfl, wm2⟩⟩, ⟨⟨p1, rfl, wp1⟩, ⟨p2, rfl, wp2⟩, ⟨q1, rfl, wq1⟩, ⟨q2, rfl, wq2⟩, ⟨r1, rfl, wr1⟩, ⟨r2, rfl, wr2⟩⟩, ⟨y1, rfl, wy1⟩, ⟨y2, rfl, wy2⟩⟩ := hF
  obtain ⟨e, rfl⟩ := hB
  refine T.HH.h ?_
  obtain ⟨t0, e1⟩ : ∃ t0, (i == 0) = t0 := ⟨_, rfl⟩
  refine T.hbind rfl (congrArg (fun r => [U.b r]) e1) rfl ?_
  refine T.hite (x := t0) ?_ ?_ ?_
  ·rfl
  ·intro c3
   obtain ⟨t3, t4, t5, e6⟩ := Dy.ex3 (Dy.cAdd e (a1, a2) (p1, p2))
   refine T.hbind rfl (congrArg (fun r => [calR r 0, calR r 1, calR r 2]) e6) rfl ?_
   obtain ⟨t7, t8, t9, e10⟩ := Dy.ex3 (Dy.cAdd t5 (b1, b2) (q1, q2))
   refine T.hbind (ρ' := [.i e, .i i, .f a1, .f a2, .f b1, .f b2, .f m1, .f m2, .f p1, .f p2, .f q1, .f q2, .f r1, .f r2, .f y1, .f y2, .b t0, .f t3, .f t4, .i t5, .f t7, .f t8, .i t9]) rfl (congrArg (fun r => [calR r 0, calR r 1, calR r 2]) e10) rfl ?_
   obtain ⟨t11, t12, t13, e14⟩ := Dy.ex3 (Dy.cAdd t9 (m1, m2) (r1, r2))
   refine T.hbind rfl (congrArg (fun r => [calR r 0, calR r 1, calR r 2]) e14) rfl ?_
   refine T.hdone ?_
   have e00 : (madeG (i) (e) (a1, a2) (b1, b2) (m1, m2) (p1, p2) (q1, q2) (r1, r2) (y1, y2)) = (((t3, t4), (t7, t8), (t11, t12), (0, 0)), t13) := by simp only [madeG, vaddM, vsubM, vnegM, vscaleM, vcrossM, vdotM, vnormM, cNegM, z2, e1, c3, e6, e10, e14, reduceIte, Bool.false_eq_true, Bool.true_eq_false, Bool.true_and, Bool.false_and, Bool.and_true, Bool.and_false, Bool.true_or, Bool.false_or, Bool.or_true, Bool.or_false, Bool.not_true, Bool.not_false, Dy.cm_bind, Dy.cm_pure, Dy.mNum, Dy.mAdd, Dy.mSub, Dy.mMul, Dy.mDiv, Dy.mSqr, Dy.mSqrt, Dy.mMax] <;> simp_all
   exact ⟨⟨⟨(congrArg (fun r => some (glossU r 0)) e00.symm), (congrArg (fun r => some (glossU r 1)) e00.symm), (congrArg (fun r => some (glossU r 2)) e00.symm), (congrArg (fun r => some (glossU r 3)) e00.symm), (congrArg (fun r => some (glossU r 4)) e00.symm), (congrArg (fun r => some (glossU r 5)) e00.symm), trivial⟩, ⟨(congrArg (fun r => some (glossU r 6)) e00.symm), (congrArg (fun r => some (glossU r 7)) e00.symm), trivial⟩, trivial⟩, ⟨⟨⟨rfl, (congrArg (fun r => some (glossU r 8)) e00.symm)⟩, trivial⟩, trivial⟩, rfl⟩
  ·intro c3
   obtain ⟨t15, e16⟩ : ∃ t15, (i == 1) = t15 := ⟨_, rfl⟩
   refine T.hbind rfl (congrArg (fun r => [U.b r]) e16) rfl ?_
   refine T.hite (x := t15) ?_ ?_ ?_
   ·rfl
   ·intro c18
    obtain ⟨t18, t19, t20, e21⟩ := Dy.ex3 (Dy.cSub e (a1, a2) (p1, p2))
    refine T.hbind rfl (congrArg (fun r => [calR r 0, calR r 1, calR r 2]) e21) rfl ?_
    obtain ⟨t22, t23, t24, e25⟩ := Dy.ex3 (Dy.cSub t20 (b1, b2) (q1, q2))
    refine T.hbind rfl (congrArg (fun r => [calR r 0, calR r 1, calR r 2]) e25) rfl ?_
    obtain ⟨t26, t27, t28, e29⟩ := Dy.ex3 (Dy.cSub t24 (m1, m2) (r1, r2))
    refine T.hbind rfl (congrArg (fun r => [calR r 0, calR r 1, calR r 2]) e29) rfl ?_
    refine T.hdone ?_
    have e00 : (madeG (i) (e) (a1, a2) (b1, b2) (m1, m2) (p1, p2) (q1, q2) (r1, r2) (y1, y2)) = (((t18, t19), (t22, t23), (t26, t27), (0, 0)), t28) := by simp only [madeG, vaddM, vsubM, vnegM, vscaleM, vcrossM, vdotM, vnormM, cNegM, z2, e1, c3, e16, c18, e21, e25, e29, reduceIte, Bool.false_eq_true, Bool.true_eq_false, Bool.true_and, Bool.false_and, Bool.and_true, Bool.and_false, Bool.true_or, Bool.false_or, Bool.or_true, Bool.or_false, Bool.not_true, Bool.not_false, Dy.cm_bind, Dy.cm_pure, Dy.mNum, Dy.mAdd, Dy.mSub, Dy.mMul, Dy.mDiv, Dy.mSqr, Dy.mSqrt, Dy.mMax] <;> simp_all
    exact ⟨⟨⟨(congrArg (fun r => some (glossU r 0)) e00.symm), (congrArg (fun r => some (glossU r 1)) e00.symm), (congrArg (fun r => some (glossU r 2)) e00.symm), (congrArg (fun r => some (glossU r 3)) e00.symm), (congrArg (fun r => some (glossU r 4)) e00.symm), (congrArg (fun r => some (glossU r 5)) e00.symm), trivial⟩, ⟨(congrArg (fun r => some (glossU r 6)) e00.symm), (congrArg (fun r => some (glossU r 7)) e00.symm), trivial⟩, trivial⟩, ⟨⟨⟨rfl, (congrArg (fun r => some (glossU r 8)) e00.symm)⟩, trivial⟩, trivial⟩, rfl⟩
   ·intro c18
    obtain ⟨t30, e31⟩ : ∃ t30, (i == 2) = t30 := ⟨_, rfl⟩
    refine T.hbind rfl (congrArg (fun r => [U.b r]) e31) rfl ?_
    refine T.hite (x := t30) ?_ ?_ ?_
    ·rfl
    ·intro c33
     obtain ⟨t33, t34, t35, e36⟩ := Dy.ex3 (Dy.cNeg e (a1, a2))
     refine T.hbind rfl (congrArg (fun r => [calR r 0, calR r 1, calR r 2]) e36) rfl ?_
     obtain ⟨t37, t38, t39, e40⟩ := Dy.ex3 (Dy.cNeg t35 (b1, b2))
     refine T.hbind (ρ' := [.i e, .i i, .f a1, .f a2, .f b1, .f b2, .f m1, .f m2, .f p1, .f p2, .f q1, .f q2, .f r1, .f r2, .f y1, .f y2, .b t0, .b t15, .b t30, .f t33, .f t34, .i t35, .f t37, .f t38, .i t39]) rfl (congrArg (fun r => [calR r 0, calR r 1, calR r 2]) e40) rfl ?_
     obtain ⟨t41, t42, t43, e44⟩ := Dy.ex3 (Dy.cNeg t39 (m1, m2))
     refine T.hbind rfl (congrArg (fun r => [calR r 0, calR r 1, calR r 2]) e44) rfl ?_
     refine T.hdone ?_
     have e00 : (madeG (i) (e) (a1, a2) (b1, b2) (m1, m2) (p1, p2) (q1, q2) (r1, r2) (y1, y2)) = (((t33, t34), (t37, t38), (t41, t42), (0, 0)), t43) := by simp only [madeG, vaddM, vsubM, vnegM, vscaleM, vcrossM, vdotM, vnormM, cNegM, z2, e1, c3, e16, c18, e31, c33, e36, e40, e44, reduceIte, Bool.false_eq_true, Bool.true_eq_false, Bool.true_and, Bool.false_and, Bool.and_true, Bool.and_false, Bool.true_or, Bool.false_or, Bool.or_true, Bool.or_false, Bool.not_true, Bool.not_false, Dy.cm_bind, Dy.cm_pure, Dy.mNum, Dy.mAdd, Dy.mSub, Dy.mMul, Dy.mDiv, Dy.mSqr, Dy.mSqrt, Dy.mMax] <;> simp_all
     exact ⟨⟨⟨(congrArg (fun r => some (glossU r 0)) e00.symm), (congrArg (fun r => some (glossU r 1)) e00.symm), (congrArg (fun r => some (glossU r 2)) e00.symm), (congrArg (fun r => some (glossU r 3)) e00.symm), (congrArg (fun r => some (glossU r 4)) e00.symm), (congrArg (fun r => some (glossU r 5)) e00.symm), trivial⟩, ⟨(congrArg (fun r => some (glossU r 6)) e00.symm), (congrArg (fun r => some (glossU r 7)) e00.symm), trivial⟩, trivial⟩, ⟨⟨⟨rfl, (congrArg (fun r => some (glossU r 8)) e00.symm)⟩, trivial⟩, trivial⟩, rfl⟩
    ·intro c33
     obtain ⟨t45, e46⟩ : ∃ t45, (i == 3) = t45 := ⟨_, rfl⟩
     refine T.hbind rfl (congrArg (fun r => [U.b r]) e46) rfl ?_
     refine T.hite (x := t45) ?_ ?_ ?_
     ·rfl
     ·intro c48
      obtain ⟨t48, t49, t50, e51⟩ := Dy.ex3 (Dy.cMul e (y1, y2) (a1, a2))
      refine T.hbind rfl (congrArg (fun r => [calR r 0, calR r 1, calR r 2]) e51) rfl ?_
      obtain ⟨t52, t53, t54, e55⟩ := Dy.ex3 (Dy.cMul t50 (y1, y2) (b1, b2))
      refine T.hbind rfl (congrArg (fun r => [calR r 0, calR r 1, calR r 2]) e55) rfl ?_
      obtain ⟨t56, t57, t58, e59⟩ := Dy.ex3 (Dy.cMul t54 (y1, y2) (m1, m2))
      refine T.hbind rfl (congrArg (fun r => [calR r 0, calR r 1, calR r 2]) e59) rfl ?_
      refine T.hdone ?_
      have e00 : (madeG (i) (e) (a1, a2) (b1, b2) (m1, m2) (p1, p2) (q1, q2) (r1, r2) (y1, y2)) = (((t48, t49), (t52, t53), (t56, t57), (0, 0)), t58) := by simp only [madeG, vaddM, vsubM, vnegM, vscaleM, vcrossM, vdotM, vnormM, cNegM, z2, e1, c3, e16, c18, e31, c33, e46, c48, e51, e55, e59, reduceIte, Bool.false_eq_true, Bool.true_eq_false, Bool.true_and, Bool.false_and, Bool.and_true, Bool.and_false, Bool.true_or, Bool.false_or, Bool.or_true, Bool.or_false, Bool.not_true, Bool.not_false, Dy.cm_bind, Dy.cm_pure, Dy.mNum, Dy.mAdd, Dy.mSub, Dy.mMul, Dy.mDiv, Dy.mSqr, Dy.mSqrt, Dy.mMax] <;> simp_all
      exact ⟨⟨⟨(congrArg (fun r => some (glossU r 0)) e00.symm), (congrArg (fun r => some (glossU r 1)) e00.symm), (congrArg (fun r => some (glossU r 2)) e00.symm), (congrArg (fun r => some (glossU r 3)) e00.symm), (congrArg (fun r => some (glossU r 4)) e00.symm), (congrArg (fun r => some (glossU r 5)) e00.symm), trivial⟩, ⟨(congrArg (fun r => some (glossU r 6)) e00.symm), (congrArg (fun r => some (glossU r 7)) e00.symm), trivial⟩, trivial⟩, ⟨⟨⟨rfl, (congrArg (fun r => some (glossU r 8)) e00.symm)⟩, trivial⟩, trivial⟩, rfl⟩
     ·intro c48
      obtain ⟨t60, e61⟩ : ∃ t60, (i == 4) = t60 := ⟨_, rfl⟩
      refine T.hbind rfl (congrArg (fun r => [U.b r]) e61) rfl ?_
      refine T.hite (x := t60) ?_ ?_ ?_
      ·rfl
      ·intro c63
       obtain ⟨t63, t64, t65, e66⟩ := Dy.ex3 (Dy.cMul e (b1, b2) (r1, r2))
       refine T.hbind rfl (congrArg (fun r => [calR r 0, calR r 1, calR r 2]) e66) rfl ?_
       obtain ⟨t67, t68, t69, e70⟩ := Dy.ex3 (Dy.cMul t65 (m1, m2) (q1, q2))
       refine T.hbind (ρ' := [.i e, .i i, .f a1, .f a2, .f b1, .f b2, .f m1, .f m2, .f p1, .f p2, .f q1, .f q2, .f r1, .f r2, .f y1, .f y2, .b t0, .b t15, .b t30, .b t45, .b t60, .f t63, .f t64, .i t65, .f t67, .f t68, .i t69]) rfl (congrArg (fun r => [calR r 0, calR r 1, calR r 2]) e70) rfl ?_
       obtain ⟨t71, t72, t73, e74⟩ := Dy.ex3 (Dy.cSub t69 (t63, t64) (t67, t68))
       refine T.hbind rfl (congrArg (fun r => [calR r 0, calR r 1, calR r 2]) e74) rfl ?_
       obtain ⟨t75, t76, t77, e78⟩ := Dy.ex3 (Dy.cMul t73 (m1, m2) (p1, p2))
       refine T.hbind rfl (congrArg (fun r => [calR r 0, calR r 1, calR r 2]) e78) rfl ?_
       obtain ⟨t79, t80, t81, e82⟩ := Dy.ex3 (Dy.cMul t77 (a1, a2) (r1, r2))
       refine T.hbind rfl (congrArg (fun r => [calR r 0, calR r 1, calR r 2]) e82) rfl ?_
       obtain ⟨t83, t84, t85, e86⟩ := Dy.ex3 (Dy.cSub t81 (t75, t76) (t79, t80))
       refine T.hbind rfl (congrArg (fun r => [calR r 0, calR r 1, calR r 2]) e86) rfl ?_
       obtain ⟨t87, t88, t89, e90⟩ := Dy.ex3 (Dy.cMul t85 (a1, a2) (q1, q2))
       refine T.hbind rfl (congrArg (fun r => [calR r 0, calR r 1, calR r 2]) e90) rfl ?_
       obtain ⟨t91, t92, t93, e94⟩ := Dy.ex3 (Dy.cMul t89 (b1, b2) (p1, p2))
       refine T.hbind rfl (congrArg (fun r => [calR r 0, calR r 1, calR r 2]) e94) rfl ?_
       obtain ⟨t95, t96, t97, e98⟩ := Dy.ex3 (Dy.cSub t93 (t87, t88) (t91, t92))
       refine T.hbind rfl (congrArg (fun r => [calR r 0, calR r 1, calR r 2]) e98) rfl ?_
       refine T.hdone ?_
       have e00 : (madeG (i) (e) (a1, a2) (b1, b2) (m1, m2) (p1, p2) (q1, q2) (r1, r2) (y1, y2)) = (((t71, t72), (t83, t84), (t95, t96), (0, 0)), t97) := by simp only [madeG, vaddM, vsubM, vnegM, vscaleM, vcrossM, vdotM, vnormM, cNegM, z2, e1, c3, e16, c18, e31, c33, e46, c48, e61, c63, e66, e70, e74, e78, e82, e86, e90, e94, e98, reduceIte, Bool.false_eq_true, Bool.true_eq_false, Bool.true_and, Bool.false_and, Bool.and_true, Bool.and_false, Bool.true_or, Bool.false_or, Bool.or_true, Bool.or_false, Bool.not_true, Bool.not_false, Dy.cm_bind, Dy.cm_pure, Dy.mNum, Dy.mAdd, Dy.mSub, Dy.mMul, Dy.mDiv, Dy.mSqr, Dy.mSqrt, Dy.mMax] <;> simp_all
       exact ⟨⟨⟨(congrArg (fun r => some (glossU r 0)) e00.symm), (congrArg (fun r => some (glossU r 1)) e00.symm), (congrArg (fun r => some (glossU r 2)) e00.symm), (congrArg (fun r => some (glossU r 3)) e00.symm), (congrArg (fun r => some (glossU r 4)) e00.symm), (congrArg (fun r => some (glossU r 5)) e00.symm), trivial⟩, ⟨(congrArg (fun r => some (glossU r 6)) e00.symm), (congrArg (fun r => some (glossU r 7)) e00.symm), trivial⟩, trivial⟩, ⟨⟨⟨rfl, (congrArg (fun r => some (glossU r 8)) e00.symm)⟩, trivial⟩, trivial⟩, rfl⟩
      ·intro c63
       obtain ⟨t99, e100⟩ : ∃ t99, (i == 5) = t99 := ⟨_, rfl⟩
       refine T.hbind (ρ' := [.i e, .i i, .f a1, .f a2, .f b1, .f b2, .f m1, .f m2, .f p1, .f p2, .f q1, .f q2, .f r1, .f r2, .f y1, .f y2, .b t0, .b t15, .b t30, .b t45, .b t60, .b t99]) rfl (congrArg (fun r => [U.b r]) e100) rfl ?_
       refine T.hite (x := t99) ?_ ?_ ?_
       ·rfl
       ·intro c102
        obtain ⟨t102, t103, t104, e105⟩ := Dy.ex3 (Dy.cMul e (a1, a2) (p1, p2))
        refine T.hbind rfl (congrArg (fun r => [calR r 0, calR r 1, calR r 2]) e105) rfl ?_
        obtain ⟨t106, t107, t108, e109⟩ := Dy.ex3 (Dy.cMul t104 (b1, b2) (q1, q2))
        refine T.hbind rfl (congrArg (fun r => [calR r 0, calR r 1, calR r 2]) e109) rfl ?_
        obtain ⟨t110, t111, t112, e113⟩ := Dy.ex3 (Dy.cAdd t108 (t102, t103) (t106, t107))
        refine T.hbind rfl (congrArg (fun r => [calR r 0, calR r 1, calR r 2]) e113) rfl ?_
        obtain ⟨t114, t115, t116, e117⟩ := Dy.ex3 (Dy.cMul t112 (m1, m2) (r1, r2))
        refine T.hbind rfl (congrArg (fun r => [calR r 0, calR r 1, calR r 2]) e117) rfl ?_
        obtain ⟨t118, t119, t120, e121⟩ := Dy.ex3 (Dy.cAdd t116 (t110, t111) (t114, t115))
        refine T.hbind rfl (congrArg (fun r => [calR r 0, calR r 1, calR r 2]) e121) rfl ?_
        refine T.hdone ?_
        have e00 : (madeG (i) (e) (a1, a2) (b1, b2) (m1, m2) (p1, p2) (q1, q2) (r1, r2) (y1, y2)) = (((0, 0), (0, 0), (0, 0), (t118, t119)), t120) := by simp only [madeG, vaddM, vsubM, vnegM, vscaleM, vcrossM, vdotM, vnormM, cNegM, z2, e1, c3, e16, c18, e31, c33, e46, c48, e61, c63, e100, c102, e105, e109, e113, e117, e121, reduceIte, Bool.false_eq_true, Bool.true_eq_false, Bool.true_and, Bool.false_and, Bool.and_true, Bool.and_false, Bool.true_or, Bool.false_or, Bool.or_true, Bool.or_false, Bool.not_true, Bool.not_false, Dy.cm_bind, Dy.cm_pure, Dy.mNum, Dy.mAdd, Dy.mSub, Dy.mMul, Dy.mDiv, Dy.mSqr, Dy.mSqrt, Dy.mMax] <;> simp_all
        exact ⟨⟨⟨(congrArg (fun r => some (glossU r 0)) e00.symm), (congrArg (fun r => some (glossU r 1)) e00.symm), (congrArg (fun r => some (glossU r 2)) e00.symm), (congrArg (fun r => some (glossU r 3)) e00.symm), (congrArg (fun r => some (glossU r 4)) e00.symm), (congrArg (fun r => some (glossU r 5)) e00.symm), trivial⟩, ⟨(congrArg (fun r => some (glossU r 6)) e00.symm), (congrArg (fun r => some (glossU r 7)) e00.symm), trivial⟩, trivial⟩, ⟨⟨⟨rfl, (congrArg (fun r => some (glossU r 8)) e00.symm)⟩, trivial⟩, trivial⟩, rfl⟩
       ·intro c102
        obtain ⟨t122, t123, t124, e125⟩ := Dy.ex3 (Dy.cSqr e (a1, a2))
        refine T.hbind rfl (congrArg (fun r => [calR r 0, calR r 1, calR r 2]) e125) rfl ?_
        obtain ⟨t126, t127, t128, e129⟩ := Dy.ex3 (Dy.cSqr t124 (b1, b2))
        refine T.hbind rfl (congrArg (fun r => [calR r 0, calR r 1, calR r 2]) e129) rfl ?_
        obtain ⟨t130, t131, t132, e133⟩ := Dy.ex3 (Dy.cAdd t128 (t122, t123) (t126, t127))
        refine T.hbind (ρ' := [.i e, .i i, .f a1, .f a2, .f b1, .f b2, .f m1, .f m2, .f p1, .f p2, .f q1, .f q2, .f r1, .f r2, .f y1, .f y2, .b t0, .b t15, .b t30, .b t45, .b t60, .b t99, .f t122, .f t123, .i t124, .f t126, .f t127, .i t128, .f t130, .f t131, .i t132]) rfl (congrArg (fun r => [calR r 0, calR r 1, calR r 2]) e133) rfl ?_
        obtain ⟨t134, t135, t136, e137⟩ := Dy.ex3 (Dy.cSqr t132 (m1, m2))
        refine T.hbind rfl (congrArg (fun r => [calR r 0, calR r 1, calR r 2]) e137) rfl ?_
        obtain ⟨t138, t139, t140, e141⟩ := Dy.ex3 (Dy.cAdd t136 (t130, t131) (t134, t135))
        refine T.hbind rfl (congrArg (fun r => [calR r 0, calR r 1, calR r 2]) e141) rfl ?_
        obtain ⟨t142, t143, t144, e145⟩ := Dy.ex3 (Dy.cSqrt t140 (t138, t139))
        refine T.hbind rfl (congrArg (fun r => [calR r 0, calR r 1, calR r 2]) e145) rfl ?_
        refine T.hdone ?_
        have e00 : (madeG (i) (e) (a1, a2) (b1, b2) (m1, m2) (p1, p2) (q1, q2) (r1, r2) (y1, y2)) = (((0, 0), (0, 0), (0, 0), (t142, t143)), t144) := by simp only [madeG, vaddM, vsubM, vnegM, vscaleM, vcrossM, vdotM, vnormM, cNegM, z2, e1, c3, e16, c18, e31, c33, e46, c48, e61, c63, e100, c102, e125, e129, e133, e137, e141, e145, reduceIte, Bool.false_eq_true, Bool.true_eq_false, Bool.true_and, Bool.false_and, Bool.and_true, Bool.and_false, Bool.true_or, Bool.false_or, Bool.or_true, Bool.or_false, Bool.not_true, Bool.not_false, Dy.cm_bind, Dy.cm_pure, Dy.mNum, Dy.mAdd, Dy.mSub, Dy.mMul, Dy.mDiv, Dy.mSqr, Dy.mSqrt, Dy.mMax] <;> simp_all
        exact ⟨⟨⟨(congrArg (fun r => some (glossU r 0)) e00.symm), (congrArg (fun r => some (glossU r 1)) e00.symm), (congrArg (fun r => some (glossU r 2)) e00.symm), (congrArg (fun r => some (glossU r 3)) e00.symm), (congrArg (fun r => some (glossU r 4)) e00.symm), (congrArg (fun r => some (glossU r 5)) e00.symm), trivial⟩, ⟨(congrArg (fun r => some (glossU r 6)) e00.symm), (congrArg (fun r => some (glossU r 7)) e00.symm), trivial⟩, trivial⟩, ⟨⟨⟨rfl, (congrArg (fun r => some (glossU r 8)) e00.symm)⟩, trivial⟩, trivial⟩, rfl⟩
def mf5 : List (Nat × Ct) := (36, ctMade) :: mf4
theorem mf5_ok : AllOk Tryz.prog mf5 := ⟨ctMade_ok, mf4_ok⟩
def ctTold : Ct := ⟨16, [[vi .i64 0]], [vi .i64 1, .ptr 0 0, .agg [vf 2, vf 3, vf 4, vf 5, vf 6, vf 7], .agg [vf 8, vf 9, vf 10, vf 11, vf 12, vf 13], vp 14 15], { binds := [⟨fun us i => glossU ((madeG (gI us 1) (gI us 0) (gF us 2, gF us 3) (gF us 4, gF us 5) (gF us 6, gF us 7) (gF us 8, gF us 9) (gF us 10, gF us 11) (gF us 12, gF us 13) (gF us 14, gF us 15))) i, 9, upto 0 16⟩], needs := [], val := .tup [.agg [vf 16, vf 17, vf 18, vf 19, vf 20, vf 21], vp 22 23], upd := [(0, [vi .i64 24])] }⟩
set_option maxRecDepth 100000 in
set_option maxHeartbeats 8000000 in
theorem ctTold_ok : CtOk Tryz.prog 37 ctTold := by
 refine CtOk.of_eval2 mf5_ok (dr_ok mf5_ok) Tryz.func37 rfl (by decide) [] 200 (by kernel_rfl) rfl (.bind ⟨fun us _ => jB (fun a b => a == b) us, 1, [(.v 1), (.l (.i 0))]⟩ (.ite (.v 16) (.bind ⟨calF2 Dy.cAdd, 3, [(.v 0), (.v 2), (.v 3), (.v 8), (.v 9)]⟩ (.bind ⟨calF2 Dy.cAdd, 3, [(.v 19), (.v 4), (.v 5), (.v 10), (.v 11)]⟩ (.bind ⟨calF2 Dy.cAdd, 3, [(.v 22), (.v 6), (.v 7), (.v 12), (.v 13)]⟩ (.done .ret ⟨[.tup [.agg [.fl (.v 17), .fl (.v 18), .fl (.v 20), .fl (.v 21), .fl (.v 23), .fl (.v 24)], .agg [.fl (.l (.f 0)), .fl (.l (.f 0))]]], [some ([.it .i64 (.v 25)])], 26, [0]⟩)))) (.bind ⟨fun us _ => jB (fun a b => a == b) us, 1, [(.v 1), (.l (.i 1))]⟩ (.ite (.v 17) (.bind ⟨calF2 Dy.cSub, 3, [(.v 0), (.v 2), (.v 3), (.v 8), (.v 9)]⟩ (.bind ⟨calF2 Dy.cSub, 3, [(.v 20), (.v 4), (.v 5), (.v 10), (.v 11)]⟩ (.bind ⟨calF2 Dy.cSub, 3, [(.v 23), (.v 6), (.v 7), (.v 12), (.v 13)]⟩ (.done .ret ⟨[.tup [.agg [.fl (.v 18), .fl (.v 19), .fl (.v 21), .fl (.v 22), .fl (.v 24), .fl (.v 25)], .agg [.fl (.l (.f 0)), .fl (.l (.f 0))]]], [some ([.it .i64 (.v 26)])], 27, [0]⟩)))) (.bind ⟨fun us _ => jB (fun a b => a == b) us, 1, [(.v 1), (.l (.i 2))]⟩ (.ite (.v 18) (.bind ⟨calF1 Dy.cNeg, 3, [(.v 0), (.v 2), (.v 3)]⟩ (.bind ⟨calF1 Dy.cNeg, 3, [(.v 21), (.v 4), (.v 5)]⟩ (.bind ⟨calF1 Dy.cNeg, 3, [(.v 24), (.v 6), (.v 7)]⟩ (.done .ret ⟨[.tup [.agg [.fl (.v 19), .fl (.v 20), .fl (.v 22), .fl (.v 23), .fl (.v 25), .fl (.v 26)], .agg [.fl (.l (.f 0)), .fl (.l (.f 0))]]], [some ([.it .i64 (.v 27)])], 28, [0]⟩)))) (.bind ⟨fun us _ => jB (fun a b => a == b) us, 1, [(.v 1), (.l (.i 3))]⟩ (.ite (.v 19) (.bind ⟨calF2 Dy.cMul, 3, [(.v 0), (.v 14), (.v 15), (.v 2), (.v 3)]⟩ (.bind ⟨calF2 Dy.cMul, 3, [(.v 22), (.v 14), (.v 15), (.v 4), (.v 5)]⟩ (.bind ⟨calF2 Dy.cMul, 3, [(.v 25), (.v 14), (.v 15), (.v 6), (.v 7)]⟩ (.done .ret ⟨[.tup [.agg [.fl (.v 20), .fl (.v 21), .fl (.v 23), .fl (.v 24), .fl (.v 26), .fl (.v 27)], .agg [.fl (.l (.f 0)), .fl (.l (.f 0))]]], [some ([.it .i64 (.v 28)])], 29, [0]⟩)))) (.bind ⟨fun us _ => jB (fun a b => a == b) us, 1, [(.v 1), (.l (.i 4))]⟩ (.ite (.v 20) (.bind ⟨calF2 Dy.cMul, 3, [(.v 0), (.v 4), (.v 5), (.v 12), (.v 13)]⟩ (.bind ⟨calF2 Dy.cMul, 3, [(.v 23), (.v 6), (.v 7), (.v 10), (.v 11)]⟩ (.bind ⟨calF2 Dy.cSub, 3, [(.v 26), (.v 21), (.v 22), (.v 24), (.v 25)]⟩ (.bind ⟨calF2 Dy.cMul, 3, [(.v 29), (.v 6), (.v 7), (.v 8), (.v 9)]⟩ (.bind ⟨calF2 Dy.cMul, 3, [(.v 32), (.v 2), (.v 3), (.v 12), (.v 13)]⟩ (.bind ⟨calF2 Dy.cSub, 3, [(.v 35), (.v 30), (.v 31), (.v 33), (.v 34)]⟩ (.bind ⟨calF2 Dy.cMul, 3, [(.v 38), (.v 2), (.v 3), (.v 10), (.v 11)]⟩ (.bind ⟨calF2 Dy.cMul, 3, [(.v 41), (.v 4), (.v 5), (.v 8), (.v 9)]⟩ (.bind ⟨calF2 Dy.cSub, 3, [(.v 44), (.v 39), (.v 40), (.v 42), (.v 43)]⟩ (.done .ret ⟨[.tup [.agg [.fl (.v 27), .fl (.v 28), .fl (.v 36), .fl (.v 37), .fl (.v 45), .fl (.v 46)], .agg [.fl (.l (.f 0)), .fl (.l (.f 0))]]], [some ([.it .i64 (.v 47)])], 48, [0]⟩)))))))))) (.bind ⟨fun us _ => jB (fun a b => a == b) us, 1, [(.v 1), (.l (.i 5))]⟩ (.ite (.v 21) (.bind ⟨calF2 Dy.cMul, 3, [(.v 0), (.v 2), (.v 3), (.v 8), (.v 9)]⟩ (.bind ⟨calF2 Dy.cMul, 3, [(.v 24), (.v 4), (.v 5), (.v 10), (.v 11)]⟩ (.bind ⟨calF2 Dy.cAdd, 3, [(.v 27), (.v 22), (.v 23), (.v 25), (.v 26)]⟩ (.bind ⟨calF2 Dy.cMul, 3, [(.v 30), (.v 6), (.v 7), (.v 12), (.v 13)]⟩ (.bind ⟨calF2 Dy.cAdd, 3, [(.v 33), (.v 28), (.v 29), (.v 31), (.v 32)]⟩ (.done .ret ⟨[.tup [.agg [.fl (.l (.f 0)), .fl (.l (.f 0)), .fl (.l (.f 0)), .fl (.l (.f 0)), .fl (.l (.f 0)), .fl (.l (.f 0))], .agg [.fl (.v 34), .fl (.v 35)]]], [some ([.it .i64 (.v 36)])], 37, [0]⟩)))))) (.bind ⟨calF1 Dy.cSqr, 3, [(.v 0), (.v 2), (.v 3)]⟩ (.bind ⟨calF1 Dy.cSqr, 3, [(.v 24), (.v 4), (.v 5)]⟩ (.bind ⟨calF2 Dy.cAdd, 3, [(.v 27), (.v 22), (.v 23), (.v 25), (.v 26)]⟩ (.bind ⟨calF1 Dy.cSqr, 3, [(.v 30), (.v 6), (.v 7)]⟩ (.bind ⟨calF2 Dy.cAdd, 3, [(.v 33), (.v 28), (.v 29), (.v 31), (.v 32)]⟩ (.bind ⟨calF1 Dy.cSqrt, 3, [(.v 36), (.v 34), (.v 35)]⟩ (.done .ret ⟨[.tup [.agg [.fl (.l (.f 0)), .fl (.l (.f 0)), .fl (.l (.f 0)), .fl (.l (.f 0)), .fl (.l (.f 0)), .fl (.l (.f 0))], .agg [.fl (.v 37), .fl (.v 38)]]], [some ([.it .i64 (.v 39)])], 40, [0]⟩))))))))))))))))))) (by kernel_rfl) (by kernel_rfl) (by kernel_rfl) (fun us hl hF hB hN => ?_)
 match us, hl with
 | [u0, u1, u2, u3, u4, u5, u6, u7, u8, u9, u10, u11, u12, u13, u14, u15], _ =>
  simp [FactsB, FactsL, Facts, ctTold] at hF hB
  simp [NeedsAt, runB, evs, E.ev, upto, resl, List.range, List.range.loop, ctTold] at hN
  obtain ⟨⟨i, rfl⟩, ⟨⟨a1, rfl, wa1⟩, ⟨a2, rfl, wa2⟩, ⟨b1, rfl, wb1⟩, ⟨b2, rfl, wb2⟩, ⟨m1, rfl, wm1⟩, ⟨m2, rfl, wm2⟩⟩, ⟨⟨p1, rfl, wp1⟩, ⟨p2, rfl, wp2⟩, ⟨q1, rfl, wq1⟩, ⟨q2, rfl, wq2⟩, ⟨r1, rfl, wr1⟩, ⟨r2, rfl, wr2⟩⟩, ⟨y1, rfl, wy1⟩, ⟨y2, rfl, wy2⟩⟩ := hF
  obtain ⟨e, rfl⟩ := hB
  refine T.HH.h ?_
  obtain ⟨t0, e1⟩ : ∃ t0, (i == 0) = t0 := ⟨_, rfl⟩
  refine T.hbind rfl (congrArg (fun r => [U.b r]) e1) rfl ?_
  refine T.hite (x := t0) ?_ ?_ ?_
  ·rfl
  ·intro c3
   obtain ⟨t3, t4, t5, e6⟩ := Dy.ex3 (Dy.cAdd e (a1, a2) (p1, p2))
   refine T.hbind rfl (congrArg (fun r => [calR r 0, calR r 1, calR r 2]) e6) rfl ?_
   obtain ⟨t7, t8, t9, e10⟩ := Dy.ex3 (Dy.cAdd t5 (b1, b2) (q1, q2))
   refine T.hbind rfl (congrArg (fun r => [calR r 0, calR r 1, calR r 2]) e10) rfl ?_
   obtain ⟨t11, t12, t13, e14⟩ := Dy.ex3 (Dy.cAdd t9 (m1, m2) (r1, r2))
   refine T.hbind rfl (congrArg (fun r => [calR r 0, calR r 1, calR r 2]) e14) rfl ?_
   refine T.hdone ?_
   have e00 : (madeG (i) (e) (a1, a2) (b1, b2) (m1, m2) (p1, p2) (q1, q2) (r1, r2) (y1, y2)) = (((t3, t4), (t7, t8), (t11, t12), (0, 0)), t13) := by simp only [madeG, vaddM, vsubM, vnegM, vscaleM, vcrossM, vdotM, vnormM, cNegM, z2, e1, c3, e6, e10, e14, reduceIte, Bool.false_eq_true, Bool.true_eq_false, Bool.true_and, Bool.false_and, Bool.and_true, Bool.and_false, Bool.true_or, Bool.false_or, Bool.or_true, Bool.or_false, Bool.not_true, Bool.not_false, Dy.cm_bind, Dy.cm_pure, Dy.mNum, Dy.mAdd, Dy.mSub, Dy.mMul, Dy.mDiv, Dy.mSqr, Dy.mSqrt, Dy.mMax] <;> simp_all
   exact ⟨⟨⟨(congrArg (fun r => some (glossU r 0)) e00.symm), (congrArg (fun r => some (glossU r 1)) e00.symm), (congrArg (fun r => some (glossU r 2)) e00.symm), (congrArg (fun r => some (glossU r 3)) e00.symm), (congrArg (fun r => some (glossU r 4)) e00.symm), (congrArg (fun r => some (glossU r 5)) e00.symm), trivial⟩, ⟨(congrArg (fun r => some (glossU r 6)) e00.symm), (congrArg (fun r => some (glossU r 7)) e00.symm), trivial⟩, trivial⟩, ⟨⟨⟨rfl, (congrArg (fun r => some (glossU r 8)) e00.symm)⟩, trivial⟩, trivial⟩, rfl⟩
  ·intro c3
   obtain ⟨t15, e16⟩ : ∃ t15, (i == 1) = t15 := ⟨_, rfl⟩
   refine T.hbind (ρ' := [.i e, .i i, .f a1, .f a2, .f b1, .f b2, .f m1, .f m2, .f p1, .f p2, .f q1, .f q2, .f r1, .f r2, .f y1, .f y2, .b t0, .b t15]) rfl (congrArg (fun r => [U.b r]) e16) rfl ?_
   refine T.hite (x := t15) ?_ ?_ ?_
   ·rfl
   ·intro c18
    obtain ⟨t18, t19, t20, e21⟩ := Dy.ex3 (Dy.cSub e (a1, a2) (p1, p2))
    refine T.hbind rfl (congrArg (fun r => [calR r 0, calR r 1, calR r 2]) e21) rfl ?_
    obtain ⟨t22, t23, t24, e25⟩ := Dy.ex3 (Dy.cSub t20 (b1, b2) (q1, q2))
    refine T.hbind rfl (congrArg (fun r => [calR r 0, calR r 1, calR r 2]) e25) rfl ?_
    obtain ⟨t26, t27, t28, e29⟩ := Dy.ex3 (Dy.cSub t24 (m1, m2) (r1, r2))
    refine T.hbind rfl (congrArg (fun r => [calR r 0, calR r 1, calR r 2]) e29) rfl ?_
    refine T.hdone ?_
    have e00 : (madeG (i) (e) (a1, a2) (b1, b2) (m1, m2) (p1, p2) (q1, q2) (r1, r2) (y1, y2)) = (((t18, t19), (t22, t23), (t26, t27), (0, 0)), t28) := by simp only [madeG, vaddM, vsubM, vnegM, vscaleM, vcrossM, vdotM, vnormM, cNegM, z2, e1, c3, e16, c18, e21, e25, e29, reduceIte, Bool.false_eq_true, Bool.true_eq_false, Bool.true_and, Bool.false_and, Bool.and_true, Bool.and_false, Bool.true_or, Bool.false_or, Bool.or_true, Bool.or_false, Bool.not_true, Bool.not_false, Dy.cm_bind, Dy.cm_pure, Dy.mNum, Dy.mAdd, Dy.mSub, Dy.mMul, Dy.mDiv, Dy.mSqr, Dy.mSqrt, Dy.mMax] <;> simp_all
    exact ⟨⟨⟨(congrArg (fun r => some (glossU r 0)) e00.symm), (congrArg (fun r => some (glossU r 1)) e00.symm), (congrArg (fun r => some (glossU r 2)) e00.symm), (congrArg (fun r => some (glossU r 3)) e00.symm), (congrArg (fun r => some (glossU r 4)) e00.symm), (congrArg (fun r => some (glossU r 5)) e00.symm), trivial⟩, ⟨(congrArg (fun r => some (glossU r 6)) e00.symm), (congrArg (fun r => some (glossU r 7)) e00.symm), trivial⟩, trivial⟩, ⟨⟨⟨rfl, (congrArg (fun r => some (glossU r 8)) e00.symm)⟩, trivial⟩, trivial⟩, rfl⟩
   ·intro c18
    obtain ⟨t30, e31⟩ : ∃ t30, (i == 2) = t30 := ⟨_, rfl⟩
    refine T.hbind rfl (congrArg (fun r => [U.b r]) e31) rfl ?_
    refine T.hite (x := t30) ?_ ?_ ?_
    ·rfl
    ·intro c33
     obtain ⟨t33, t34, t35, e36⟩ := Dy.ex3 (Dy.cNeg e (a1, a2))
     refine T.hbind rfl (congrArg (fun r => [calR r 0, calR r 1, calR r 2]) e36) rfl ?_
     obtain ⟨t37, t38, t39, e40⟩ := Dy.ex3 (Dy.cNeg t35 (b1, b2))
     refine T.hbind rfl (congrArg (fun r => [calR r 0, calR r 1, calR r 2]) e40) rfl ?_
     obtain ⟨t41, t42, t43, e44⟩ := Dy.ex3 (Dy.cNeg t39 (m1, m2))
     refine T.hbind rfl (congrArg (fun r => [calR r 0, calR r 1, calR r 2]) e44) rfl ?_
     refine T.hdone ?_
     have e00 : (madeG (i) (e) (a1, a2) (b1, b2) (m1, m2) (p1, p2) (q1, q2) (r1, r2) (y1, y2)) = (((t33, t34), (t37, t38), (t41, t42), (0, 0)), t43) := by simp only [madeG, vaddM, vsubM, vnegM, vscaleM, vcrossM, vdotM, vnormM, cNegM, z2, e1, c3, e16, c18, e31, c33, e36, e40, e44, reduceIte, Bool.false_eq_true, Bool.true_eq_false, Bool.true_and, Bool.false_and, Bool.and_true, Bool.and_false, Bool.true_or, Bool.false_or, Bool.or_true, Bool.or_false, Bool.not_true, Bool.not_false, Dy.cm_bind, Dy.cm_pure, Dy.mNum, Dy.mAdd, Dy.mSub, Dy.mMul, Dy.mDiv, Dy.mSqr, Dy.mSqrt, Dy.mMax] <;> simp_all
     exact ⟨⟨⟨(congrArg (fun r => some (glossU r 0)) e00.symm), (congrArg (fun r => some (glossU r 1)) e00.symm), (congrArg (fun r => some (glossU r 2)) e00.symm), (congrArg (fun r => some (glossU r 3)) e00.symm), (congrArg (fun r => some (glossU r 4)) e00.symm), (congrArg (fun r => some (glossU r 5)) e00.symm), trivial⟩, ⟨(congrArg (fun r => some (glossU r 6)) e00.symm), (congrArg (fun r => some (glossU r 7)) e00.symm), trivial⟩, trivial⟩, ⟨⟨⟨rfl, (congrArg (fun r => some (glossU r 8)) e00.symm)⟩, trivial⟩, trivial⟩, rfl⟩
    ·intro c33
     obtain ⟨t45, e46⟩ : ∃ t45, (i == 3) = t45 := ⟨_, rfl⟩
     refine T.hbind (ρ' := [.i e, .i i, .f a1, .f a2, .f b1, .f b2, .f m1, .f m2, .f p1, .f p2, .f q1, .f q2, .f r1, .f r2, .f y1, .f y2, .b t0, .b t15, .b t30, .b t45]) rfl (congrArg (fun r => [U.b r]) e46) rfl ?_
     refine T.hite (x := t45) ?_ ?_ ?_
     ·rfl
     ·intro c48
      obtain ⟨t48, t49, t50, e51⟩ := Dy.ex3 (Dy.cMul e (y1, y2) (a1, a2))
      refine T.hbind rfl (congrArg (fun r => [calR r 0, calR r 1, calR r 2]) e51) rfl ?_
      obtain ⟨t52, t53, t54, e55⟩ := Dy.ex3 (Dy.cMul t50 (y1, y2) (b1, b2))
      refine T.hbind rfl (congrArg (fun r => [calR r 0, calR r 1, calR r 2]) e55) rfl ?_
      obtain ⟨t56, t57, t58, e59⟩ := Dy.ex3 (Dy.cMul t54 (y1, y2) (m1, m2))
      refine T.hbind rfl (congrArg (fun r => [calR r 0, calR r 1, calR r 2]) e59) rfl ?_
      refine T.hdone ?_
      have e00 : (madeG (i) (e) (a1, a2) (b1, b2) (m1, m2) (p1, p2) (q1, q2) (r1, r2) (y1, y2)) = (((t48, t49), (t52, t53), (t56, t57), (0, 0)), t58) := by simp only [madeG, vaddM, vsubM, vnegM, vscaleM, vcrossM, vdotM, vnormM, cNegM, z2, e1, c3, e16, c18, e31, c33, e46, c48, e51, e55, e59, reduceIte, Bool.false_eq_true, Bool.true_eq_false, Bool.true_and, Bool.false_and, Bool.and_true, Bool.and_false, Bool.true_or, Bool.false_or, Bool.or_true, Bool.or_false, Bool.not_true, Bool.not_false, Dy.cm_bind, Dy.cm_pure, Dy.mNum, Dy.mAdd, Dy.mSub, Dy.mMul, Dy.mDiv, Dy.mSqr, Dy.mSqrt, Dy.mMax] <;> simp_all
      exact ⟨⟨⟨(congrArg (fun r => some (glossU r 0)) e00.symm), (congrArg (fun r => some (glossU r 1)) e00.symm), (congrArg (fun r => some (glossU r 2)) e00.symm), (congrArg (fun r => some (glossU r 3)) e00.symm), (congrArg (fun r => some (glossU r 4)) e00.symm), (congrArg (fun r => some (glossU r 5)) e00.symm), trivial⟩, ⟨(congrArg (fun r => some (glossU r 6)) e00.symm), (congrArg (fun r => some (glossU r 7)) e00.symm), trivial⟩, trivial⟩, ⟨⟨⟨rfl, (congrArg (fun r => some (glossU r 8)) e00.symm)⟩, trivial⟩, trivial⟩, rfl⟩
     ·intro c48
      obtain ⟨t60, e61⟩ : ∃ t60, (i == 4) = t60 := ⟨_, rfl⟩
      refine T.hbind rfl (congrArg (fun r => [U.b r]) e61) rfl ?_
      refine T.hite (x := t60) ?_ ?_ ?_
      ·rfl
      ·intro c63
       obtain ⟨t63, t64, t65, e66⟩ := Dy.ex3 (Dy.cMul e (b1, b2) (r1, r2))
       refine T.hbind rfl (congrArg (fun r => [calR r 0, calR r 1, calR r 2]) e66) rfl ?_
       obtain ⟨t67, t68, t69, e70⟩ := Dy.ex3 (Dy.cMul t65 (m1, m2) (q1, q2))
       refine T.hbind rfl (congrArg (fun r => [calR r 0, calR r 1, calR r 2]) e70) rfl ?_
       obtain ⟨t71, t72, t73, e74⟩ := Dy.ex3 (Dy.cSub t69 (t63, t64) (t67, t68))
       refine T.hbind rfl (congrArg (fun r => [calR r 0, calR r 1, calR r 2]) e74) rfl ?_
       obtain ⟨t75, t76, t77, e78⟩ := Dy.ex3 (Dy.cMul t73 (m1, m2) (p1, p2))
       refine T.hbind (ρ' := [.i e, .i i, .f a1, .f a2, .f b1, .f b2, .f m1, .f m2, .f p1, .f p2, .f q1, .f q2, .f r1, .f r2, .f y1, .f y2, .b t0, .b t15, .b t30, .b t45, .b t60, .f t63, .f t64, .i t65, .f t67, .f t68, .i t69, .f t71, .f t72, .i t73, .f t75, .f t76, .i t77]) rfl (congrArg (fun r => [calR r 0, calR r 1, calR r 2]) e78) rfl ?_
       obtain ⟨t79, t80, t81, e82⟩ := Dy.ex3 (Dy.cMul t77 (a1, a2) (r1, r2))
       refine T.hbind rfl (congrArg (fun r => [calR r 0, calR r 1, calR r 2]) e82) rfl ?_
       obtain ⟨t83, t84, t85, e86⟩ := Dy.ex3 (Dy.cSub t81 (t75, t76) (t79, t80))
       refine T.hbind rfl (congrArg (fun r => [calR r 0, calR r 1, calR r 2]) e86) rfl ?_
       obtain ⟨t87, t88, t89, e90⟩ := Dy.ex3 (Dy.cMul t85 (a1, a2) (q1, q2))
       refine T.hbind rfl (congrArg (fun r => [calR r 0, calR r 1, calR r 2]) e90) rfl ?_
       obtain ⟨t91, t92, t93, e94⟩ := Dy.ex3 (Dy.cMul t89 (b1, b2) (p1, p2))
       refine T.hbind rfl (congrArg (fun r => [calR r 0, calR r 1, calR r 2]) e94) rfl ?_
       obtain ⟨t95, t96, t97, e98⟩ := Dy.ex3 (Dy.cSub t93 (t87, t88) (t91, t92))
       refine T.hbind rfl (congrArg (fun r => [calR r 0, calR r 1, calR r 2]) e98) rfl ?_
       refine T.hdone ?_
       have e00 : (madeG (i) (e) (a1, a2) (b1, b2) (m1, m2) (p1, p2) (q1, q2) (r1, r2) (y1, y2)) = (((t71, t72), (t83, t84), (t95, t96), (0, 0)), t97) := by simp only [madeG, vaddM, vsubM, vnegM, vscaleM, vcrossM, vdotM, vnormM, cNegM, z2, e1, c3, e16, c18, e31, c33, e46, c48, e61, c63, e66, e70, e74, e78, e82, e86, e90, e94, e98, reduceIte, Bool.false_eq_true, Bool.true_eq_false, Bool.true_and, Bool.false_and, Bool.and_true, Bool.and_false, Bool.true_or, Bool.false_or, Bool.or_true, Bool.or_false, Bool.not_true, Bool.not_false, Dy.cm_bind, Dy.cm_pure, Dy.mNum, Dy.mAdd, Dy.mSub, Dy.mMul, Dy.mDiv, Dy.mSqr, Dy.mSqrt, Dy.mMax] <;> simp_all
       exact ⟨⟨⟨(congrArg (fun r => some (glossU r 0)) e00.symm), (congrArg (fun r => some (glossU r 1)) e00.symm), (congrArg (fun r => some (glossU r 2)) e00.symm), (congrArg (fun r => some (glossU r 3)) e00.symm), (congrArg (fun r => some (glossU r 4)) e00.symm), (congrArg (fun r => some (glossU r 5)) e00.symm), trivial⟩, ⟨(congrArg (fun r => some (glossU r 6)) e00.symm), (congrArg (fun r => some (glossU r 7)) e00.symm), trivial⟩, trivial⟩, ⟨⟨⟨rfl, (congrArg (fun r => some (glossU r 8)) e00.symm)⟩, trivial⟩, trivial⟩, rfl⟩
      ·intro c63
       obtain ⟨t99, e100⟩ : ∃ t99, (i == 5) = t99 := ⟨_, rfl⟩
       refine T.hbind rfl (congrArg (fun r => [U.b r]) e100) rfl ?_
       refine T.hite (x := t99) ?_ ?_ ?_
       ·rfl
       ·intro c102
        obtain ⟨t102, t103, t104, e105⟩ := Dy.ex3 (Dy.cMul e (a1, a2) (p1, p2))
        refine T.hbind rfl (congrArg (fun r => [calR r 0, calR r 1, calR r 2]) e105) rfl ?_
        obtain ⟨t106, t107, t108, e109⟩ := Dy.ex3 (Dy.cMul t104 (b1, b2) (q1, q2))
        refine T.hbind (ρ' := [.i e, .i i, .f a1, .f a2, .f b1, .f b2, .f m1, .f m2, .f p1, .f p2, .f q1, .f q2, .f r1, .f r2, .f y1, .f y2, .b t0, .b t15, .b t30, .b t45, .b t60, .b t99, .f t102, .f t103, .i t104, .f t106, .f t107, .i t108]) rfl (congrArg (fun r => [calR r 0, calR r 1, calR r 2]) e109) rfl ?_
        obtain ⟨t110, t111, t112, e113⟩ := Dy.ex3 (Dy.cAdd t108 (t102, t103) (t106, t107))
        refine T.hbind rfl (congrArg (fun r => [calR r 0, calR r 1, calR r 2]) e113) rfl ?_
        obtain ⟨t114, t115, t116, e117⟩ := Dy.ex3 (Dy.cMul t112 (m1, m2) (r1, r2))
        refine T.hbind rfl (congrArg (fun r => [calR r 0, calR r 1, calR r 2]) e117) rfl ?_
        obtain ⟨t118, t119, t120, e121⟩ := Dy.ex3 (Dy.cAdd t116 (t110, t111) (t114, t115))
        refine T.hbind rfl (congrArg (fun r => [calR r 0, calR r 1, calR r 2]) e121) rfl ?_
        refine T.hdone ?_
        have e00 : (madeG (i) (e) (a1, a2) (b1, b2) (m1, m2) (p1, p2) (q1, q2) (r1, r2) (y1, y2)) = (((0, 0), (0, 0), (0, 0), (t118, t119)), t120) := by simp only [madeG, vaddM, vsubM, vnegM, vscaleM, vcrossM, vdotM, vnormM, cNegM, z2, e1, c3, e16, c18, e31, c33, e46, c48, e61, c63, e100, c102, e105, e109, e113, e117, e121, reduceIte, Bool.false_eq_true, Bool.true_eq_false, Bool.true_and, Bool.false_and, Bool.and_true, Bool.and_false, Bool.true_or, Bool.false_or, Bool.or_true, Bool.or_false, Bool.not_true, Bool.not_false, Dy.cm_bind, Dy.cm_pure, Dy.mNum, Dy.mAdd, Dy.mSub, Dy.mMul, Dy.mDiv, Dy.mSqr, Dy.mSqrt, Dy.mMax] <;> simp_all
        exact ⟨⟨⟨(congrArg (fun r => some (glossU r 0)) e00.symm), (congrArg (fun r => some (glossU r 1)) e00.symm), (congrArg (fun r => some (glossU r 2)) e00.symm), (congrArg (fun r => some (glossU r 3)) e00.symm), (congrArg (fun r => some (glossU r 4)) e00.symm), (congrArg (fun r => some (glossU r 5)) e00.symm), trivial⟩, ⟨(congrArg (fun r => some (glossU r 6)) e00.symm), (congrArg (fun r => some (glossU r 7)) e00.symm), trivial⟩, trivial⟩, ⟨⟨⟨rfl, (congrArg (fun r => some (glossU r 8)) e00.symm)⟩, trivial⟩, trivial⟩, rfl⟩
       ·intro c102
        obtain ⟨t122, t123, t124, e125⟩ := Dy.ex3 (Dy.cSqr e (a1, a2))
        refine T.hbind rfl (congrArg (fun r => [calR r 0, calR r 1, calR r 2]) e125) rfl ?_
        obtain ⟨t126, t127, t128, e129⟩ := Dy.ex3 (Dy.cSqr t124 (b1, b2))
        refine T.hbind rfl (congrArg (fun r => [calR r 0, calR r 1, calR r 2]) e129) rfl ?_
        obtain ⟨t130, t131, t132, e133⟩ := Dy.ex3 (Dy.cAdd t128 (t122, t123) (t126, t127))
        refine T.hbind rfl (congrArg (fun r => [calR r 0, calR r 1, calR r 2]) e133) rfl ?_
        obtain ⟨t134, t135, t136, e137⟩ := Dy.ex3 (Dy.cSqr t132 (m1, m2))
        refine T.hbind rfl (congrArg (fun r => [calR r 0, calR r 1, calR r 2]) e137) rfl ?_
        obtain ⟨t138, t139, t140, e141⟩ := Dy.ex3 (Dy.cAdd t136 (t130, t131) (t134, t135))
        refine T.hbind (ρ' := [.i e, .i i, .f a1, .f a2, .f b1, .f b2, .f m1, .f m2, .f p1, .f p2, .f q1, .f q2, .f r1, .f r2, .f y1, .f y2, .b t0, .b t15, .b t30, .b t45, .b t60, .b t99, .f t122, .f t123, .i t124, .f t126, .f t127, .i t128, .f t130, .f t131, .i t132, .f t134, .f t135, .i t136, .f t138, .f t139, .i t140]) rfl (congrArg (fun r => [calR r 0, calR r 1, calR r 2]) e141) rfl ?_
        obtain ⟨t142, t143, t144, e145⟩ := Dy.ex3 (Dy.cSqrt t140 (t138, t139))
        refine T.hbind rfl (congrArg (fun r => [calR r 0, calR r 1, calR r 2]) e145) rfl ?_
        refine T.hdone ?_
        have e00 : (madeG (i) (e) (a1, a2) (b1, b2) (m1, m2) (p1, p2) (q1, q2) (r1, r2) (y1, y2)) = (((0, 0), (0, 0), (0, 0), (t142, t143)), t144) := by simp only [madeG, vaddM, vsubM, vnegM, vscaleM, vcrossM, vdotM, vnormM, cNegM, z2, e1, c3, e16, c18, e31, c33, e46, c48, e61, c63, e100, c102, e125, e129, e133, e137, e141, e145, reduceIte, Bool.false_eq_true, Bool.true_eq_false, Bool.true_and, Bool.false_and, Bool.and_true, Bool.and_false, Bool.true_or, Bool.false_or, Bool.or_true, Bool.or_false, Bool.not_true, Bool.not_false, Dy.cm_bind, Dy.cm_pure, Dy.mNum, Dy.mAdd, Dy.mSub, Dy.mMul, Dy.mDiv, Dy.mSqr, Dy.mSqrt, Dy.mMax] <;> simp_all
        exact ⟨⟨⟨(congrArg (fun r => some (glossU r 0)) e00.symm), (congrArg (fun r => some (glossU r 1)) e00.symm), (congrArg (fun r => some (glossU r 2)) e00.symm), (congrArg (fun r => some (glossU r 3)) e00.symm), (congrArg (fun r => some (glossU r 4)) e00.symm), (congrArg (fun r => some (glossU r 5)) e00.symm), trivial⟩, ⟨(congrArg (fun r => some (glossU r 6)) e00.symm), (congrArg (fun r => some (glossU r 7)) e00.symm), trivial⟩, trivial⟩, ⟨⟨⟨rfl, (congrArg (fun r => some (glossU r 8)) e00.symm)⟩, trivial⟩, trivial⟩, rfl⟩
def mf6 : List (Nat × Ct) := (37, ctTold) :: mf5
theorem mf6_ok : AllOk Tryz.prog mf6 := ⟨ctTold_ok, mf5_ok⟩
def ctAwake05 : Ct := ctTrue
theorem ctAwake05_ok : CtOk Tryz.prog 38 ctAwake05 := ctTrue_ok mf6_ok (dr_ok mf6_ok) Tryz.func38 rfl (by decide) 200 _ rfl (by kernel_rfl)
def mf7 : List (Nat × Ct) := (38, ctAwake05) :: mf6
theorem mf7_ok : AllOk Tryz.prog mf7 := ⟨ctAwake05_ok, mf6_ok⟩
end Go.Proofs.YtkhplflbcgjkcaaGreat
