/- A reckoning of programs by symbols: what is made of vectors. -/
import Derived.Test.YtikiegcncliocaaVx
namespace Go.Proofs.Ytikiegcncliocaa
open Go Go.RowKit
set_option linter.unusedSimpArgs false
set_option linter.unusedVariables false

/-- A number of an interval, by parts of 2^16. -/
def prt (k : Int) : Nat := (Ieee.double.div (FloatKind.f64.nearest k) 4679240012837945344).getD 0
def btwB (l h : Nat) (k : Int) : Nat :=
  bif k == 0 then l else bif k == 65535 then h else bif IntKind.i64.wrap (IntKind.i64.wrap ((Dy.dSub h l false).2 + (Dy.dMul (Dy.dSub h l false).1 (prt k) false).2) + (Dy.dAdd l (Dy.dMul (Dy.dSub h l false).1 (prt k) false).1 false).2) != 0 then h else
  bif !Dy.ivHas (l, h) (Dy.dAdd l (Dy.dMul (Dy.dSub h l false).1 (prt k) false).1 false).1 then h else (Dy.dAdd l (Dy.dMul (Dy.dSub h l false).1 (prt k) false).1 false).1
def nPrt (us : List U) : Bool := decide (FloatKind.f64.nearest (gI us 0) < W64) && okF (Ieee.double.div (FloatKind.f64.nearest (gI us 0)) 4679240012837945344)
def glossU (r : ((Nat × Nat) × (Nat × Nat) × (Nat × Nat) × (Nat × Nat)) × Int) (i : Nat) : U := match i with
  | 0 => .f r.1.1.1
  | 1 => .f r.1.1.2
  | 2 => .f r.1.2.1.1
  | 3 => .f r.1.2.1.2
  | 4 => .f r.1.2.2.1.1
  | 5 => .f r.1.2.2.1.2
  | 6 => .f r.1.2.2.2.1
  | 7 => .f r.1.2.2.2.2
  | _ => .i r.2
def cNegM (a : Nat × Nat) : Dy.Cm (Nat × Nat) := fun e => Dy.cNeg e a
abbrev V4 := (Nat × Nat) × (Nat × Nat) × (Nat × Nat) × (Nat × Nat)
abbrev z2 : Nat × Nat := (0, 0)
def vaddM (a b c p q r : Nat × Nat) : Dy.Cm V4 := do
  let x ← Dy.mAdd a p
  let y ← Dy.mAdd b q
  let z ← Dy.mAdd c r
  pure (x, y, z, z2)
def vsubM (a b c p q r : Nat × Nat) : Dy.Cm V4 := do
  let x ← Dy.mSub a p
  let y ← Dy.mSub b q
  let z ← Dy.mSub c r
  pure (x, y, z, z2)
def vnegM (a b c : Nat × Nat) : Dy.Cm V4 := do
  let x ← cNegM a
  let y ← cNegM b
  let z ← cNegM c
  pure (x, y, z, z2)
def vscaleM (k a b c : Nat × Nat) : Dy.Cm V4 := do
  let x ← Dy.mMul k a
  let y ← Dy.mMul k b
  let z ← Dy.mMul k c
  pure (x, y, z, z2)
def vcrossM (a b c p q r : Nat × Nat) : Dy.Cm V4 := do
  let x1 ← Dy.mMul b r
  let x2 ← Dy.mMul c q
  let x ← Dy.mSub x1 x2
  let y1 ← Dy.mMul c p
  let y2 ← Dy.mMul a r
  let y ← Dy.mSub y1 y2
  let z1 ← Dy.mMul a q
  let z2' ← Dy.mMul b p
  let z ← Dy.mSub z1 z2'
  pure (x, y, z, z2)
def vdotM (a b c p q r : Nat × Nat) : Dy.Cm V4 := do
  let x ← Dy.mMul a p
  let y ← Dy.mMul b q
  let s ← Dy.mAdd x y
  let z ← Dy.mMul c r
  let t ← Dy.mAdd s z
  pure (z2, z2, z2, t)
def vnormM (a b c : Nat × Nat) : Dy.Cm V4 := do
  let x ← Dy.mSqr a
  let y ← Dy.mSqr b
  let s ← Dy.mAdd x y
  let z ← Dy.mSqr c
  let t ← Dy.mAdd s z
  let n ← Dy.mSqrt t
  pure (z2, z2, z2, n)
/-- What is made of vectors, by its number. -/
def madeG (i e : Int) (a b c p q r k : Nat × Nat) : V4 × Int :=
  bif i == 0 then vaddM a b c p q r e else bif i == 1 then vsubM a b c p q r e else bif i == 2 then vnegM a b c e else bif i == 3 then vscaleM k a b c e else
  bif i == 4 then vcrossM a b c p q r e else bif i == 5 then vdotM a b c p q r e else vnormM a b c e
def vh0 : List (Nat × Ct) := vx14
theorem vh0_ok : AllOk Try.prog vh0 := vx14_ok
def ctBtw2 : Ct := ⟨3, [], [vp 0 1, vi .u16 2], { binds := [⟨fun us i => fRes (btwB (gF us 0) (gF us 1) (gI us 2)) i, 1, upto 0 3⟩], needs := [⟨nPrt, [.v 2]⟩], val := vf 3, upd := [] }⟩
set_option maxRecDepth 100000 in
set_option maxHeartbeats 4000000 in
theorem ctBtw2_ok : CtOk Try.prog 33 ctBtw2 := by
  refine CtOk.of_eval2 vh0_ok (dr_ok vh0_ok) Try.func33 rfl (by decide) [] 200 (by kernel_rfl) rfl (.bind ⟨fun us _ => jB (fun a b => a == b) us, 1, [(.v 2), (.l (.i 0))]⟩ (.ite (.v 3) (.done .ret ⟨[.fl (.v 0)], [], 4, []⟩) (.bind ⟨fOp2 Dy.dSub, 2, [(.v 1), (.v 0), (.l (.b false))]⟩ (.bind ⟨fun us _ => nF us, 1, [(.v 2)]⟩ (.need ⟨nN, [(.v 2)]⟩ (.bind ⟨fun us _ => fB Ieee.double.div us, 1, [(.v 6), (.l (.f 4679240012837945344))]⟩ (.need ⟨fN Ieee.double.div, [(.v 6), (.l (.f 4679240012837945344))]⟩ (.bind ⟨fOp2 Dy.dMul, 2, [(.v 4), (.v 7), (.l (.b false))]⟩ (.bind ⟨fOp2 Dy.dAdd, 2, [(.v 0), (.v 8), (.l (.b false))]⟩ (.bind ⟨fun us _ => jB (fun a b => a == b) us, 1, [(.v 2), (.l (.i 65535))]⟩ (.ite (.v 12) (.done .ret ⟨[.fl (.v 1)], [], 13, []⟩) (.bind ⟨fun us _ => iB (fun a b => IntKind.i64.wrap (a + b)) us, 1, [(.v 5), (.v 9)]⟩ (.bind ⟨fun us _ => iB (fun a b => IntKind.i64.wrap (a + b)) us, 1, [(.v 13), (.v 11)]⟩ (.bind ⟨fun us _ => jB (fun a b => a != b) us, 1, [(.v 14), (.l (.i 0))]⟩ (.ite (.v 15) (.done .ret ⟨[.fl (.v 1)], [], 16, []⟩) (.bind ⟨fun us _ => .b (Dy.ivHas (gF us 0, gF us 1) (gF us 2)), 1, [(.v 0), (.v 1), (.v 10)]⟩ (.bind ⟨fun us _ => nB us, 1, [(.v 16)]⟩ (.ite (.v 17) (.done .ret ⟨[.fl (.v 1)], [], 18, []⟩) (.done .ret ⟨[.fl (.v 10)], [], 18, []⟩))))))))))))))))))) (by kernel_rfl) (by kernel_rfl) (by kernel_rfl) (fun us hl hF hB hN => ?_)
  match us, hl with
  | [u0, u1, u2], _ =>
    simp [FactsB, FactsL, Facts, ctBtw2] at hF hB
    simp [NeedsAt, runB, evs, E.ev, upto, resl, List.range, List.range.loop, ctBtw2] at hN
    obtain ⟨⟨⟨a1, rfl, w1⟩, ⟨a2, rfl, w2⟩⟩, ⟨k, rfl⟩⟩ := hF
    simp [nPrt, gI, U.I] at hN
    refine T.HH.h ?_
    refine T.hbind (us := [.i k, .i 0]) (xs := [.b (k == 0)]) (ρ' := [.f a1, .f a2, .i k, .b (k == 0)]) rfl (rfl) rfl ?_
    refine T.hite (x := (k == 0)) rfl (fun c1 => ?_) (fun c1 => ?_)
    · skip
      refine T.hdone ?_
      have e0 : btwB (a1) (a2) (k) = a1 := by unfold btwB; rw [c1]; rfl
      exact ⟨(congrArg (fun r => some (fRes r 0)) e0.symm), trivial, rfl⟩
    · skip
      refine T.hbind (us := [.f a2, .f a1, .b false]) (xs := [.f ((Dy.dSub a2 a1 false).1), .i ((Dy.dSub a2 a1 false).2)]) (ρ' := [.f a1, .f a2, .i k, .b (k == 0), .f ((Dy.dSub a2 a1 false).1), .i ((Dy.dSub a2 a1 false).2)]) rfl (rfl) rfl ?_
      refine T.hbind (us := [.i k]) (xs := [.f (FloatKind.f64.nearest k)]) (ρ' := [.f a1, .f a2, .i k, .b (k == 0), .f ((Dy.dSub a2 a1 false).1), .i ((Dy.dSub a2 a1 false).2), .f (FloatKind.f64.nearest k)]) rfl (rfl) rfl ?_
      refine T.hneed (us := [.i k]) rfl (decide_eq_true hN.1) ?_
      refine T.hbind (us := [.f (FloatKind.f64.nearest k), .f 4679240012837945344]) (xs := [.f (prt k)]) (ρ' := [.f a1, .f a2, .i k, .b (k == 0), .f ((Dy.dSub a2 a1 false).1), .i ((Dy.dSub a2 a1 false).2), .f (FloatKind.f64.nearest k), .f (prt k)]) rfl (rfl) rfl ?_
      refine T.hneed (us := [.f (FloatKind.f64.nearest k), .f 4679240012837945344]) rfl (hN.2) ?_
      refine T.hbind (us := [.f ((Dy.dSub a2 a1 false).1), .f (prt k), .b false]) (xs := [.f ((Dy.dMul ((Dy.dSub a2 a1 false).1) (prt k) false).1), .i ((Dy.dMul ((Dy.dSub a2 a1 false).1) (prt k) false).2)]) (ρ' := [.f a1, .f a2, .i k, .b (k == 0), .f ((Dy.dSub a2 a1 false).1), .i ((Dy.dSub a2 a1 false).2), .f (FloatKind.f64.nearest k), .f (prt k), .f ((Dy.dMul ((Dy.dSub a2 a1 false).1) (prt k) false).1), .i ((Dy.dMul ((Dy.dSub a2 a1 false).1) (prt k) false).2)]) rfl (rfl) rfl ?_
      refine T.hbind (us := [.f a1, .f ((Dy.dMul ((Dy.dSub a2 a1 false).1) (prt k) false).1), .b false]) (xs := [.f ((Dy.dAdd a1 ((Dy.dMul ((Dy.dSub a2 a1 false).1) (prt k) false).1) false).1), .i ((Dy.dAdd a1 ((Dy.dMul ((Dy.dSub a2 a1 false).1) (prt k) false).1) false).2)]) (ρ' := [.f a1, .f a2, .i k, .b (k == 0), .f ((Dy.dSub a2 a1 false).1), .i ((Dy.dSub a2 a1 false).2), .f (FloatKind.f64.nearest k), .f (prt k), .f ((Dy.dMul ((Dy.dSub a2 a1 false).1) (prt k) false).1), .i ((Dy.dMul ((Dy.dSub a2 a1 false).1) (prt k) false).2), .f ((Dy.dAdd a1 ((Dy.dMul ((Dy.dSub a2 a1 false).1) (prt k) false).1) false).1), .i ((Dy.dAdd a1 ((Dy.dMul ((Dy.dSub a2 a1 false).1) (prt k) false).1) false).2)]) rfl (rfl) rfl ?_
      refine T.hbind (us := [.i k, .i 65535]) (xs := [.b (k == 65535)]) (ρ' := [.f a1, .f a2, .i k, .b (k == 0), .f ((Dy.dSub a2 a1 false).1), .i ((Dy.dSub a2 a1 false).2), .f (FloatKind.f64.nearest k), .f (prt k), .f ((Dy.dMul ((Dy.dSub a2 a1 false).1) (prt k) false).1), .i ((Dy.dMul ((Dy.dSub a2 a1 false).1) (prt k) false).2), .f ((Dy.dAdd a1 ((Dy.dMul ((Dy.dSub a2 a1 false).1) (prt k) false).1) false).1), .i ((Dy.dAdd a1 ((Dy.dMul ((Dy.dSub a2 a1 false).1) (prt k) false).1) false).2), .b (k == 65535)]) rfl (rfl) rfl ?_
      refine T.hite (x := (k == 65535)) rfl (fun c2 => ?_) (fun c2 => ?_)
      · skip
        refine T.hdone ?_
        have e0 : btwB (a1) (a2) (k) = a2 := by unfold btwB; rw [c1, c2]; rfl
        exact ⟨(congrArg (fun r => some (fRes r 0)) e0.symm), trivial, rfl⟩
      · skip
        refine T.hbind (us := [.i ((Dy.dSub a2 a1 false).2), .i ((Dy.dMul ((Dy.dSub a2 a1 false).1) (prt k) false).2)]) (xs := [.i (IntKind.i64.wrap (((Dy.dSub a2 a1 false).2) + ((Dy.dMul ((Dy.dSub a2 a1 false).1) (prt k) false).2)))]) (ρ' := [.f a1, .f a2, .i k, .b (k == 0), .f ((Dy.dSub a2 a1 false).1), .i ((Dy.dSub a2 a1 false).2), .f (FloatKind.f64.nearest k), .f (prt k), .f ((Dy.dMul ((Dy.dSub a2 a1 false).1) (prt k) false).1), .i ((Dy.dMul ((Dy.dSub a2 a1 false).1) (prt k) false).2), .f ((Dy.dAdd a1 ((Dy.dMul ((Dy.dSub a2 a1 false).1) (prt k) false).1) false).1), .i ((Dy.dAdd a1 ((Dy.dMul ((Dy.dSub a2 a1 false).1) (prt k) false).1) false).2), .b (k == 65535), .i (IntKind.i64.wrap (((Dy.dSub a2 a1 false).2) + ((Dy.dMul ((Dy.dSub a2 a1 false).1) (prt k) false).2)))]) rfl (rfl) rfl ?_
        refine T.hbind (us := [.i (IntKind.i64.wrap (((Dy.dSub a2 a1 false).2) + ((Dy.dMul ((Dy.dSub a2 a1 false).1) (prt k) false).2))), .i ((Dy.dAdd a1 ((Dy.dMul ((Dy.dSub a2 a1 false).1) (prt k) false).1) false).2)]) (xs := [.i (IntKind.i64.wrap ((IntKind.i64.wrap (((Dy.dSub a2 a1 false).2) + ((Dy.dMul ((Dy.dSub a2 a1 false).1) (prt k) false).2))) + ((Dy.dAdd a1 ((Dy.dMul ((Dy.dSub a2 a1 false).1) (prt k) false).1) false).2)))]) (ρ' := [.f a1, .f a2, .i k, .b (k == 0), .f ((Dy.dSub a2 a1 false).1), .i ((Dy.dSub a2 a1 false).2), .f (FloatKind.f64.nearest k), .f (prt k), .f ((Dy.dMul ((Dy.dSub a2 a1 false).1) (prt k) false).1), .i ((Dy.dMul ((Dy.dSub a2 a1 false).1) (prt k) false).2), .f ((Dy.dAdd a1 ((Dy.dMul ((Dy.dSub a2 a1 false).1) (prt k) false).1) false).1), .i ((Dy.dAdd a1 ((Dy.dMul ((Dy.dSub a2 a1 false).1) (prt k) false).1) false).2), .b (k == 65535), .i (IntKind.i64.wrap (((Dy.dSub a2 a1 false).2) + ((Dy.dMul ((Dy.dSub a2 a1 false).1) (prt k) false).2))), .i (IntKind.i64.wrap ((IntKind.i64.wrap (((Dy.dSub a2 a1 false).2) + ((Dy.dMul ((Dy.dSub a2 a1 false).1) (prt k) false).2))) + ((Dy.dAdd a1 ((Dy.dMul ((Dy.dSub a2 a1 false).1) (prt k) false).1) false).2)))]) rfl (rfl) rfl ?_
        refine T.hbind (us := [.i (IntKind.i64.wrap ((IntKind.i64.wrap (((Dy.dSub a2 a1 false).2) + ((Dy.dMul ((Dy.dSub a2 a1 false).1) (prt k) false).2))) + ((Dy.dAdd a1 ((Dy.dMul ((Dy.dSub a2 a1 false).1) (prt k) false).1) false).2))), .i 0]) (xs := [.b ((IntKind.i64.wrap ((IntKind.i64.wrap (((Dy.dSub a2 a1 false).2) + ((Dy.dMul ((Dy.dSub a2 a1 false).1) (prt k) false).2))) + ((Dy.dAdd a1 ((Dy.dMul ((Dy.dSub a2 a1 false).1) (prt k) false).1) false).2))) != 0)]) (ρ' := [.f a1, .f a2, .i k, .b (k == 0), .f ((Dy.dSub a2 a1 false).1), .i ((Dy.dSub a2 a1 false).2), .f (FloatKind.f64.nearest k), .f (prt k), .f ((Dy.dMul ((Dy.dSub a2 a1 false).1) (prt k) false).1), .i ((Dy.dMul ((Dy.dSub a2 a1 false).1) (prt k) false).2), .f ((Dy.dAdd a1 ((Dy.dMul ((Dy.dSub a2 a1 false).1) (prt k) false).1) false).1), .i ((Dy.dAdd a1 ((Dy.dMul ((Dy.dSub a2 a1 false).1) (prt k) false).1) false).2), .b (k == 65535), .i (IntKind.i64.wrap (((Dy.dSub a2 a1 false).2) + ((Dy.dMul ((Dy.dSub a2 a1 false).1) (prt k) false).2))), .i (IntKind.i64.wrap ((IntKind.i64.wrap (((Dy.dSub a2 a1 false).2) + ((Dy.dMul ((Dy.dSub a2 a1 false).1) (prt k) false).2))) + ((Dy.dAdd a1 ((Dy.dMul ((Dy.dSub a2 a1 false).1) (prt k) false).1) false).2))), .b ((IntKind.i64.wrap ((IntKind.i64.wrap (((Dy.dSub a2 a1 false).2) + ((Dy.dMul ((Dy.dSub a2 a1 false).1) (prt k) false).2))) + ((Dy.dAdd a1 ((Dy.dMul ((Dy.dSub a2 a1 false).1) (prt k) false).1) false).2))) != 0)]) rfl (rfl) rfl ?_
        refine T.hite (x := ((IntKind.i64.wrap ((IntKind.i64.wrap (((Dy.dSub a2 a1 false).2) + ((Dy.dMul ((Dy.dSub a2 a1 false).1) (prt k) false).2))) + ((Dy.dAdd a1 ((Dy.dMul ((Dy.dSub a2 a1 false).1) (prt k) false).1) false).2))) != 0)) rfl (fun c3 => ?_) (fun c3 => ?_)
        · skip
          refine T.hdone ?_
          have e0 : btwB (a1) (a2) (k) = a2 := by unfold btwB; rw [c1, c2, c3]; rfl
          exact ⟨(congrArg (fun r => some (fRes r 0)) e0.symm), trivial, rfl⟩
        · skip
          refine T.hbind (us := [.f a1, .f a2, .f ((Dy.dAdd a1 ((Dy.dMul ((Dy.dSub a2 a1 false).1) (prt k) false).1) false).1)]) (xs := [.b (Dy.ivHas (a1, a2) (((Dy.dAdd a1 ((Dy.dMul ((Dy.dSub a2 a1 false).1) (prt k) false).1) false).1)))]) (ρ' := [.f a1, .f a2, .i k, .b (k == 0), .f ((Dy.dSub a2 a1 false).1), .i ((Dy.dSub a2 a1 false).2), .f (FloatKind.f64.nearest k), .f (prt k), .f ((Dy.dMul ((Dy.dSub a2 a1 false).1) (prt k) false).1), .i ((Dy.dMul ((Dy.dSub a2 a1 false).1) (prt k) false).2), .f ((Dy.dAdd a1 ((Dy.dMul ((Dy.dSub a2 a1 false).1) (prt k) false).1) false).1), .i ((Dy.dAdd a1 ((Dy.dMul ((Dy.dSub a2 a1 false).1) (prt k) false).1) false).2), .b (k == 65535), .i (IntKind.i64.wrap (((Dy.dSub a2 a1 false).2) + ((Dy.dMul ((Dy.dSub a2 a1 false).1) (prt k) false).2))), .i (IntKind.i64.wrap ((IntKind.i64.wrap (((Dy.dSub a2 a1 false).2) + ((Dy.dMul ((Dy.dSub a2 a1 false).1) (prt k) false).2))) + ((Dy.dAdd a1 ((Dy.dMul ((Dy.dSub a2 a1 false).1) (prt k) false).1) false).2))), .b ((IntKind.i64.wrap ((IntKind.i64.wrap (((Dy.dSub a2 a1 false).2) + ((Dy.dMul ((Dy.dSub a2 a1 false).1) (prt k) false).2))) + ((Dy.dAdd a1 ((Dy.dMul ((Dy.dSub a2 a1 false).1) (prt k) false).1) false).2))) != 0), .b (Dy.ivHas (a1, a2) (((Dy.dAdd a1 ((Dy.dMul ((Dy.dSub a2 a1 false).1) (prt k) false).1) false).1)))]) rfl (rfl) rfl ?_
          refine T.hbind (us := [.b (Dy.ivHas (a1, a2) (((Dy.dAdd a1 ((Dy.dMul ((Dy.dSub a2 a1 false).1) (prt k) false).1) false).1)))]) (xs := [.b (!(Dy.ivHas (a1, a2) (((Dy.dAdd a1 ((Dy.dMul ((Dy.dSub a2 a1 false).1) (prt k) false).1) false).1))))]) (ρ' := [.f a1, .f a2, .i k, .b (k == 0), .f ((Dy.dSub a2 a1 false).1), .i ((Dy.dSub a2 a1 false).2), .f (FloatKind.f64.nearest k), .f (prt k), .f ((Dy.dMul ((Dy.dSub a2 a1 false).1) (prt k) false).1), .i ((Dy.dMul ((Dy.dSub a2 a1 false).1) (prt k) false).2), .f ((Dy.dAdd a1 ((Dy.dMul ((Dy.dSub a2 a1 false).1) (prt k) false).1) false).1), .i ((Dy.dAdd a1 ((Dy.dMul ((Dy.dSub a2 a1 false).1) (prt k) false).1) false).2), .b (k == 65535), .i (IntKind.i64.wrap (((Dy.dSub a2 a1 false).2) + ((Dy.dMul ((Dy.dSub a2 a1 false).1) (prt k) false).2))), .i (IntKind.i64.wrap ((IntKind.i64.wrap (((Dy.dSub a2 a1 false).2) + ((Dy.dMul ((Dy.dSub a2 a1 false).1) (prt k) false).2))) + ((Dy.dAdd a1 ((Dy.dMul ((Dy.dSub a2 a1 false).1) (prt k) false).1) false).2))), .b ((IntKind.i64.wrap ((IntKind.i64.wrap (((Dy.dSub a2 a1 false).2) + ((Dy.dMul ((Dy.dSub a2 a1 false).1) (prt k) false).2))) + ((Dy.dAdd a1 ((Dy.dMul ((Dy.dSub a2 a1 false).1) (prt k) false).1) false).2))) != 0), .b (Dy.ivHas (a1, a2) (((Dy.dAdd a1 ((Dy.dMul ((Dy.dSub a2 a1 false).1) (prt k) false).1) false).1))), .b (!(Dy.ivHas (a1, a2) (((Dy.dAdd a1 ((Dy.dMul ((Dy.dSub a2 a1 false).1) (prt k) false).1) false).1))))]) rfl (rfl) rfl ?_
          refine T.hite (x := (!(Dy.ivHas (a1, a2) (((Dy.dAdd a1 ((Dy.dMul ((Dy.dSub a2 a1 false).1) (prt k) false).1) false).1))))) rfl (fun c4 => ?_) (fun c4 => ?_)
          · skip
            refine T.hdone ?_
            have e0 : btwB (a1) (a2) (k) = a2 := by unfold btwB; rw [c1, c2, c3, c4]; rfl
            exact ⟨(congrArg (fun r => some (fRes r 0)) e0.symm), trivial, rfl⟩
          · skip
            refine T.hdone ?_
            have e0 : btwB (a1) (a2) (k) = (Dy.dAdd a1 (Dy.dMul (Dy.dSub a2 a1 false).1 (prt k) false).1 false).1 := by unfold btwB; rw [c1, c2, c3, c4]; rfl
            exact ⟨(congrArg (fun r => some (fRes r 0)) e0.symm), trivial, rfl⟩

def vh1 : List (Nat × Ct) := (33, ctBtw2) :: vh0
theorem vh1_ok : AllOk Try.prog vh1 := ⟨ctBtw2_ok, vh0_ok⟩

def ctMade : Ct := ⟨16, [[vi .i64 0]], [vi .i64 1, .ptr 0 0, .agg [vf 2, vf 3, vf 4, vf 5, vf 6, vf 7], .agg [vf 8, vf 9, vf 10, vf 11, vf 12, vf 13], vp 14 15], { binds := [⟨fun us i => glossU ((madeG (gI us 1) (gI us 0) (gF us 2, gF us 3) (gF us 4, gF us 5) (gF us 6, gF us 7) (gF us 8, gF us 9) (gF us 10, gF us 11) (gF us 12, gF us 13) (gF us 14, gF us 15))) i, 9, upto 0 16⟩], needs := [⟨nIv, [.v 2, .v 3]⟩, ⟨nIv, [.v 4, .v 5]⟩, ⟨nIv, [.v 6, .v 7]⟩], val := .tup [.agg [vf 16, vf 17, vf 18, vf 19, vf 20, vf 21], vp 22 23], upd := [(0, [vi .i64 24])] }⟩
set_option maxRecDepth 100000 in
set_option maxHeartbeats 8000000 in
theorem ctMade_ok : CtOk Try.prog 46 ctMade := by
  refine CtOk.of_eval2 vh1_ok (dr_ok vh1_ok) Try.func46 rfl (by decide) [] 200 (by kernel_rfl) rfl (.bind ⟨fun us _ => jB (fun a b => a == b) us, 1, [(.v 1), (.l (.i 0))]⟩ (.ite (.v 16) (.bind ⟨calF2 Dy.cAdd, 3, [(.v 0), (.v 2), (.v 3), (.v 8), (.v 9)]⟩ (.bind ⟨calF2 Dy.cAdd, 3, [(.v 19), (.v 4), (.v 5), (.v 10), (.v 11)]⟩ (.bind ⟨calF2 Dy.cAdd, 3, [(.v 22), (.v 6), (.v 7), (.v 12), (.v 13)]⟩ (.done .ret ⟨[.tup [.agg [.fl (.v 17), .fl (.v 18), .fl (.v 20), .fl (.v 21), .fl (.v 23), .fl (.v 24)], .agg [.fl (.l (.f 0)), .fl (.l (.f 0))]]], [some ([.it .i64 (.v 25)])], 26, [0]⟩)))) (.bind ⟨fun us _ => jB (fun a b => a == b) us, 1, [(.v 1), (.l (.i 1))]⟩ (.ite (.v 17) (.bind ⟨calF2 Dy.cSub, 3, [(.v 0), (.v 2), (.v 3), (.v 8), (.v 9)]⟩ (.bind ⟨calF2 Dy.cSub, 3, [(.v 20), (.v 4), (.v 5), (.v 10), (.v 11)]⟩ (.bind ⟨calF2 Dy.cSub, 3, [(.v 23), (.v 6), (.v 7), (.v 12), (.v 13)]⟩ (.done .ret ⟨[.tup [.agg [.fl (.v 18), .fl (.v 19), .fl (.v 21), .fl (.v 22), .fl (.v 24), .fl (.v 25)], .agg [.fl (.l (.f 0)), .fl (.l (.f 0))]]], [some ([.it .i64 (.v 26)])], 27, [0]⟩)))) (.bind ⟨fun us _ => jB (fun a b => a == b) us, 1, [(.v 1), (.l (.i 2))]⟩ (.ite (.v 18) (.bind ⟨fun us i => calR (Dy.cNeg (gI us 0) (gF us 1, gF us 2)) i, 3, [(.v 0), (.v 2), (.v 3)]⟩ (.bind ⟨fun us i => calR (Dy.cNeg (gI us 0) (gF us 1, gF us 2)) i, 3, [(.v 21), (.v 4), (.v 5)]⟩ (.bind ⟨fun us i => calR (Dy.cNeg (gI us 0) (gF us 1, gF us 2)) i, 3, [(.v 24), (.v 6), (.v 7)]⟩ (.need ⟨nIv, [(.v 2), (.v 3)]⟩ (.need ⟨nIv, [(.v 4), (.v 5)]⟩ (.need ⟨nIv, [(.v 6), (.v 7)]⟩ (.done .ret ⟨[.tup [.agg [.fl (.v 19), .fl (.v 20), .fl (.v 22), .fl (.v 23), .fl (.v 25), .fl (.v 26)], .agg [.fl (.l (.f 0)), .fl (.l (.f 0))]]], [some ([.it .i64 (.v 27)])], 28, [0]⟩))))))) (.bind ⟨fun us _ => jB (fun a b => a == b) us, 1, [(.v 1), (.l (.i 3))]⟩ (.ite (.v 19) (.bind ⟨calF2 Dy.cMul, 3, [(.v 0), (.v 14), (.v 15), (.v 2), (.v 3)]⟩ (.bind ⟨calF2 Dy.cMul, 3, [(.v 22), (.v 14), (.v 15), (.v 4), (.v 5)]⟩ (.bind ⟨calF2 Dy.cMul, 3, [(.v 25), (.v 14), (.v 15), (.v 6), (.v 7)]⟩ (.done .ret ⟨[.tup [.agg [.fl (.v 20), .fl (.v 21), .fl (.v 23), .fl (.v 24), .fl (.v 26), .fl (.v 27)], .agg [.fl (.l (.f 0)), .fl (.l (.f 0))]]], [some ([.it .i64 (.v 28)])], 29, [0]⟩)))) (.bind ⟨fun us _ => jB (fun a b => a == b) us, 1, [(.v 1), (.l (.i 4))]⟩ (.ite (.v 20) (.bind ⟨calF2 Dy.cMul, 3, [(.v 0), (.v 4), (.v 5), (.v 12), (.v 13)]⟩ (.bind ⟨calF2 Dy.cMul, 3, [(.v 23), (.v 6), (.v 7), (.v 10), (.v 11)]⟩ (.bind ⟨calF2 Dy.cSub, 3, [(.v 26), (.v 21), (.v 22), (.v 24), (.v 25)]⟩ (.bind ⟨calF2 Dy.cMul, 3, [(.v 29), (.v 6), (.v 7), (.v 8), (.v 9)]⟩ (.bind ⟨calF2 Dy.cMul, 3, [(.v 32), (.v 2), (.v 3), (.v 12), (.v 13)]⟩ (.bind ⟨calF2 Dy.cSub, 3, [(.v 35), (.v 30), (.v 31), (.v 33), (.v 34)]⟩ (.bind ⟨calF2 Dy.cMul, 3, [(.v 38), (.v 2), (.v 3), (.v 10), (.v 11)]⟩ (.bind ⟨calF2 Dy.cMul, 3, [(.v 41), (.v 4), (.v 5), (.v 8), (.v 9)]⟩ (.bind ⟨calF2 Dy.cSub, 3, [(.v 44), (.v 39), (.v 40), (.v 42), (.v 43)]⟩ (.done .ret ⟨[.tup [.agg [.fl (.v 27), .fl (.v 28), .fl (.v 36), .fl (.v 37), .fl (.v 45), .fl (.v 46)], .agg [.fl (.l (.f 0)), .fl (.l (.f 0))]]], [some ([.it .i64 (.v 47)])], 48, [0]⟩)))))))))) (.bind ⟨fun us _ => jB (fun a b => a == b) us, 1, [(.v 1), (.l (.i 5))]⟩ (.ite (.v 21) (.bind ⟨calF2 Dy.cMul, 3, [(.v 0), (.v 2), (.v 3), (.v 8), (.v 9)]⟩ (.bind ⟨calF2 Dy.cMul, 3, [(.v 24), (.v 4), (.v 5), (.v 10), (.v 11)]⟩ (.bind ⟨calF2 Dy.cAdd, 3, [(.v 27), (.v 22), (.v 23), (.v 25), (.v 26)]⟩ (.bind ⟨calF2 Dy.cMul, 3, [(.v 30), (.v 6), (.v 7), (.v 12), (.v 13)]⟩ (.bind ⟨calF2 Dy.cAdd, 3, [(.v 33), (.v 28), (.v 29), (.v 31), (.v 32)]⟩ (.done .ret ⟨[.tup [.agg [.fl (.l (.f 0)), .fl (.l (.f 0)), .fl (.l (.f 0)), .fl (.l (.f 0)), .fl (.l (.f 0)), .fl (.l (.f 0))], .agg [.fl (.v 34), .fl (.v 35)]]], [some ([.it .i64 (.v 36)])], 37, [0]⟩)))))) (.bind ⟨calF1 Dy.cSqr, 3, [(.v 0), (.v 2), (.v 3)]⟩ (.bind ⟨calF1 Dy.cSqr, 3, [(.v 24), (.v 4), (.v 5)]⟩ (.bind ⟨calF2 Dy.cAdd, 3, [(.v 27), (.v 22), (.v 23), (.v 25), (.v 26)]⟩ (.bind ⟨calF1 Dy.cSqr, 3, [(.v 30), (.v 6), (.v 7)]⟩ (.bind ⟨calF2 Dy.cAdd, 3, [(.v 33), (.v 28), (.v 29), (.v 31), (.v 32)]⟩ (.bind ⟨calF1 Dy.cSqrt, 3, [(.v 36), (.v 34), (.v 35)]⟩ (.done .ret ⟨[.tup [.agg [.fl (.l (.f 0)), .fl (.l (.f 0)), .fl (.l (.f 0)), .fl (.l (.f 0)), .fl (.l (.f 0)), .fl (.l (.f 0))], .agg [.fl (.v 37), .fl (.v 38)]]], [some ([.it .i64 (.v 39)])], 40, [0]⟩))))))))))))))))))) (by kernel_rfl) (by kernel_rfl) (by kernel_rfl) (fun us hl hF hB hN => ?_)
  match us, hl with
  | [u0, u1, u2, u3, u4, u5, u6, u7, u8, u9, u10, u11, u12, u13, u14, u15], _ =>
    simp [FactsB, FactsL, Facts, ctMade] at hF hB
    simp [NeedsAt, runB, evs, E.ev, upto, resl, List.range, List.range.loop, ctMade] at hN
    obtain ⟨⟨i, rfl⟩, ⟨⟨a1, rfl, wa1⟩, ⟨a2, rfl, wa2⟩, ⟨b1, rfl, wb1⟩, ⟨b2, rfl, wb2⟩, ⟨m1, rfl, wm1⟩, ⟨m2, rfl, wm2⟩⟩, ⟨⟨p1, rfl, wp1⟩, ⟨p2, rfl, wp2⟩, ⟨q1, rfl, wq1⟩, ⟨q2, rfl, wq2⟩, ⟨r1, rfl, wr1⟩, ⟨r2, rfl, wr2⟩⟩, ⟨y1, rfl, wy1⟩, ⟨y2, rfl, wy2⟩⟩ := hF
    obtain ⟨e, rfl⟩ := hB
    simp only [nIv, gF, U.F] at hN
    replace hN : Dy.ivR (a1, a2) = true ∧ Dy.ivR (b1, b2) = true ∧ Dy.ivR (m1, m2) = true := hN
    refine T.HH.h ?_
    obtain ⟨t0, e1⟩ : ∃ t0, (i == 0) = t0 := ⟨_, rfl⟩
    refine T.hbind (us := [.i i, .i 0]) (xs := [.b t0]) (ρ' := [.i e, .i i, .f a1, .f a2, .f b1, .f b2, .f m1, .f m2, .f p1, .f p2, .f q1, .f q2, .f r1, .f r2, .f y1, .f y2, .b t0]) rfl (congrArg (fun r => [U.b r]) e1) rfl ?_
    refine T.hite (x := t0) ?_ ?_ ?_
    · rfl
    · intro c3
      obtain ⟨t3, t4, t5, e6⟩ : ∃ t3 t4 t5, (Dy.cAdd e (a1, a2) (p1, p2)) = ((t3, t4), t5) := Dy.ex3 _
      have g6 := Dy.good_add (a := (a1, a2)) (b := (p1, p2)) (err := e)
      rw [e6] at g6
      refine T.hbind (us := [.i e, .f a1, .f a2, .f p1, .f p2]) (xs := [.f t3, .f t4, .i t5]) (ρ' := [.i e, .i i, .f a1, .f a2, .f b1, .f b2, .f m1, .f m2, .f p1, .f p2, .f q1, .f q2, .f r1, .f r2, .f y1, .f y2, .b t0, .f t3, .f t4, .i t5]) rfl (congrArg (fun r => [calR r 0, calR r 1, calR r 2]) e6) rfl ?_
      obtain ⟨t7, t8, t9, e10⟩ : ∃ t7 t8 t9, (Dy.cAdd t5 (b1, b2) (q1, q2)) = ((t7, t8), t9) := Dy.ex3 _
      have g10 := Dy.good_add (a := (b1, b2)) (b := (q1, q2)) (err := t5)
      rw [e10] at g10
      refine T.hbind (us := [.i t5, .f b1, .f b2, .f q1, .f q2]) (xs := [.f t7, .f t8, .i t9]) (ρ' := [.i e, .i i, .f a1, .f a2, .f b1, .f b2, .f m1, .f m2, .f p1, .f p2, .f q1, .f q2, .f r1, .f r2, .f y1, .f y2, .b t0, .f t3, .f t4, .i t5, .f t7, .f t8, .i t9]) rfl (congrArg (fun r => [calR r 0, calR r 1, calR r 2]) e10) rfl ?_
      obtain ⟨t11, t12, t13, e14⟩ : ∃ t11 t12 t13, (Dy.cAdd t9 (m1, m2) (r1, r2)) = ((t11, t12), t13) := Dy.ex3 _
      have g14 := Dy.good_add (a := (m1, m2)) (b := (r1, r2)) (err := t9)
      rw [e14] at g14
      refine T.hbind (us := [.i t9, .f m1, .f m2, .f r1, .f r2]) (xs := [.f t11, .f t12, .i t13]) (ρ' := [.i e, .i i, .f a1, .f a2, .f b1, .f b2, .f m1, .f m2, .f p1, .f p2, .f q1, .f q2, .f r1, .f r2, .f y1, .f y2, .b t0, .f t3, .f t4, .i t5, .f t7, .f t8, .i t9, .f t11, .f t12, .i t13]) rfl (congrArg (fun r => [calR r 0, calR r 1, calR r 2]) e14) rfl ?_
      refine T.hdone ?_
      have e00 : (madeG (i) (e) (a1, a2) (b1, b2) (m1, m2) (p1, p2) (q1, q2) (r1, r2) (y1, y2)) = (((t3, t4), (t7, t8), (t11, t12), (0, 0)), t13) := by simp only [madeG, vaddM, vsubM, vnegM, vscaleM, vcrossM, vdotM, vnormM, cNegM, z2, e1, c3, e6, e10, e14, reduceIte, Bool.false_eq_true, Bool.true_eq_false, Bool.true_and, Bool.false_and, Bool.and_true, Bool.and_false, Bool.true_or, Bool.false_or, Bool.or_true, Bool.or_false, Bool.not_true, Bool.not_false, Dy.cm_bind, Dy.cm_pure, Dy.mNum, Dy.mAdd, Dy.mSub, Dy.mMul, Dy.mDiv, Dy.mSqr, Dy.mSqrt, Dy.mMax] <;> simp_all
      exact ⟨⟨⟨(congrArg (fun r => some (glossU r 0)) e00.symm), (congrArg (fun r => some (glossU r 1)) e00.symm), (congrArg (fun r => some (glossU r 2)) e00.symm), (congrArg (fun r => some (glossU r 3)) e00.symm), (congrArg (fun r => some (glossU r 4)) e00.symm), (congrArg (fun r => some (glossU r 5)) e00.symm), trivial⟩, ⟨(congrArg (fun r => some (glossU r 6)) e00.symm), (congrArg (fun r => some (glossU r 7)) e00.symm), trivial⟩, trivial⟩, ⟨⟨⟨rfl, (congrArg (fun r => some (glossU r 8)) e00.symm)⟩, trivial⟩, trivial⟩, rfl⟩
    · intro c3
      obtain ⟨t15, e16⟩ : ∃ t15, (i == 1) = t15 := ⟨_, rfl⟩
      refine T.hbind (us := [.i i, .i 1]) (xs := [.b t15]) (ρ' := [.i e, .i i, .f a1, .f a2, .f b1, .f b2, .f m1, .f m2, .f p1, .f p2, .f q1, .f q2, .f r1, .f r2, .f y1, .f y2, .b t0, .b t15]) rfl (congrArg (fun r => [U.b r]) e16) rfl ?_
      refine T.hite (x := t15) ?_ ?_ ?_
      · rfl
      · intro c18
        obtain ⟨t18, t19, t20, e21⟩ : ∃ t18 t19 t20, (Dy.cSub e (a1, a2) (p1, p2)) = ((t18, t19), t20) := Dy.ex3 _
        have g21 := Dy.good_sub (a := (a1, a2)) (b := (p1, p2)) ⟨wp1, wp2⟩ (err := e)
        rw [e21] at g21
        refine T.hbind (us := [.i e, .f a1, .f a2, .f p1, .f p2]) (xs := [.f t18, .f t19, .i t20]) (ρ' := [.i e, .i i, .f a1, .f a2, .f b1, .f b2, .f m1, .f m2, .f p1, .f p2, .f q1, .f q2, .f r1, .f r2, .f y1, .f y2, .b t0, .b t15, .f t18, .f t19, .i t20]) rfl (congrArg (fun r => [calR r 0, calR r 1, calR r 2]) e21) rfl ?_
        obtain ⟨t22, t23, t24, e25⟩ : ∃ t22 t23 t24, (Dy.cSub t20 (b1, b2) (q1, q2)) = ((t22, t23), t24) := Dy.ex3 _
        have g25 := Dy.good_sub (a := (b1, b2)) (b := (q1, q2)) ⟨wq1, wq2⟩ (err := t20)
        rw [e25] at g25
        refine T.hbind (us := [.i t20, .f b1, .f b2, .f q1, .f q2]) (xs := [.f t22, .f t23, .i t24]) (ρ' := [.i e, .i i, .f a1, .f a2, .f b1, .f b2, .f m1, .f m2, .f p1, .f p2, .f q1, .f q2, .f r1, .f r2, .f y1, .f y2, .b t0, .b t15, .f t18, .f t19, .i t20, .f t22, .f t23, .i t24]) rfl (congrArg (fun r => [calR r 0, calR r 1, calR r 2]) e25) rfl ?_
        obtain ⟨t26, t27, t28, e29⟩ : ∃ t26 t27 t28, (Dy.cSub t24 (m1, m2) (r1, r2)) = ((t26, t27), t28) := Dy.ex3 _
        have g29 := Dy.good_sub (a := (m1, m2)) (b := (r1, r2)) ⟨wr1, wr2⟩ (err := t24)
        rw [e29] at g29
        refine T.hbind (us := [.i t24, .f m1, .f m2, .f r1, .f r2]) (xs := [.f t26, .f t27, .i t28]) (ρ' := [.i e, .i i, .f a1, .f a2, .f b1, .f b2, .f m1, .f m2, .f p1, .f p2, .f q1, .f q2, .f r1, .f r2, .f y1, .f y2, .b t0, .b t15, .f t18, .f t19, .i t20, .f t22, .f t23, .i t24, .f t26, .f t27, .i t28]) rfl (congrArg (fun r => [calR r 0, calR r 1, calR r 2]) e29) rfl ?_
        refine T.hdone ?_
        have e00 : (madeG (i) (e) (a1, a2) (b1, b2) (m1, m2) (p1, p2) (q1, q2) (r1, r2) (y1, y2)) = (((t18, t19), (t22, t23), (t26, t27), (0, 0)), t28) := by simp only [madeG, vaddM, vsubM, vnegM, vscaleM, vcrossM, vdotM, vnormM, cNegM, z2, e1, c3, e16, c18, e21, e25, e29, reduceIte, Bool.false_eq_true, Bool.true_eq_false, Bool.true_and, Bool.false_and, Bool.and_true, Bool.and_false, Bool.true_or, Bool.false_or, Bool.or_true, Bool.or_false, Bool.not_true, Bool.not_false, Dy.cm_bind, Dy.cm_pure, Dy.mNum, Dy.mAdd, Dy.mSub, Dy.mMul, Dy.mDiv, Dy.mSqr, Dy.mSqrt, Dy.mMax] <;> simp_all
        exact ⟨⟨⟨(congrArg (fun r => some (glossU r 0)) e00.symm), (congrArg (fun r => some (glossU r 1)) e00.symm), (congrArg (fun r => some (glossU r 2)) e00.symm), (congrArg (fun r => some (glossU r 3)) e00.symm), (congrArg (fun r => some (glossU r 4)) e00.symm), (congrArg (fun r => some (glossU r 5)) e00.symm), trivial⟩, ⟨(congrArg (fun r => some (glossU r 6)) e00.symm), (congrArg (fun r => some (glossU r 7)) e00.symm), trivial⟩, trivial⟩, ⟨⟨⟨rfl, (congrArg (fun r => some (glossU r 8)) e00.symm)⟩, trivial⟩, trivial⟩, rfl⟩
      · intro c18
        obtain ⟨t30, e31⟩ : ∃ t30, (i == 2) = t30 := ⟨_, rfl⟩
        refine T.hbind (us := [.i i, .i 2]) (xs := [.b t30]) (ρ' := [.i e, .i i, .f a1, .f a2, .f b1, .f b2, .f m1, .f m2, .f p1, .f p2, .f q1, .f q2, .f r1, .f r2, .f y1, .f y2, .b t0, .b t15, .b t30]) rfl (congrArg (fun r => [U.b r]) e31) rfl ?_
        refine T.hite (x := t30) ?_ ?_ ?_
        · rfl
        · intro c33
          obtain ⟨t33, t34, t35, e36⟩ : ∃ t33 t34 t35, (Dy.cNeg (e) (a1, a2)) = ((t33, t34), t35) := Dy.ex3 _
          have g36 := Dy.good_neg (a := (a1, a2)) ⟨wa1, wa2⟩ (err := e)
          rw [e36] at g36
          refine T.hbind (us := [.i e, .f a1, .f a2]) (xs := [.f t33, .f t34, .i t35]) (ρ' := [.i e, .i i, .f a1, .f a2, .f b1, .f b2, .f m1, .f m2, .f p1, .f p2, .f q1, .f q2, .f r1, .f r2, .f y1, .f y2, .b t0, .b t15, .b t30, .f t33, .f t34, .i t35]) rfl (congrArg (fun r => [calR r 0, calR r 1, calR r 2]) e36) rfl ?_
          obtain ⟨t37, t38, t39, e40⟩ : ∃ t37 t38 t39, (Dy.cNeg (t35) (b1, b2)) = ((t37, t38), t39) := Dy.ex3 _
          have g40 := Dy.good_neg (a := (b1, b2)) ⟨wb1, wb2⟩ (err := t35)
          rw [e40] at g40
          refine T.hbind (us := [.i t35, .f b1, .f b2]) (xs := [.f t37, .f t38, .i t39]) (ρ' := [.i e, .i i, .f a1, .f a2, .f b1, .f b2, .f m1, .f m2, .f p1, .f p2, .f q1, .f q2, .f r1, .f r2, .f y1, .f y2, .b t0, .b t15, .b t30, .f t33, .f t34, .i t35, .f t37, .f t38, .i t39]) rfl (congrArg (fun r => [calR r 0, calR r 1, calR r 2]) e40) rfl ?_
          obtain ⟨t41, t42, t43, e44⟩ : ∃ t41 t42 t43, (Dy.cNeg (t39) (m1, m2)) = ((t41, t42), t43) := Dy.ex3 _
          have g44 := Dy.good_neg (a := (m1, m2)) ⟨wm1, wm2⟩ (err := t39)
          rw [e44] at g44
          refine T.hbind (us := [.i t39, .f m1, .f m2]) (xs := [.f t41, .f t42, .i t43]) (ρ' := [.i e, .i i, .f a1, .f a2, .f b1, .f b2, .f m1, .f m2, .f p1, .f p2, .f q1, .f q2, .f r1, .f r2, .f y1, .f y2, .b t0, .b t15, .b t30, .f t33, .f t34, .i t35, .f t37, .f t38, .i t39, .f t41, .f t42, .i t43]) rfl (congrArg (fun r => [calR r 0, calR r 1, calR r 2]) e44) rfl ?_
          refine T.hneed (us := [.f a1, .f a2]) rfl (hN.1) ?_
          refine T.hneed (us := [.f b1, .f b2]) rfl (hN.2.1) ?_
          refine T.hneed (us := [.f m1, .f m2]) rfl (hN.2.2) ?_
          refine T.hdone ?_
          have e00 : (madeG (i) (e) (a1, a2) (b1, b2) (m1, m2) (p1, p2) (q1, q2) (r1, r2) (y1, y2)) = (((t33, t34), (t37, t38), (t41, t42), (0, 0)), t43) := by simp only [madeG, vaddM, vsubM, vnegM, vscaleM, vcrossM, vdotM, vnormM, cNegM, z2, e1, c3, e16, c18, e31, c33, e36, e40, e44, reduceIte, Bool.false_eq_true, Bool.true_eq_false, Bool.true_and, Bool.false_and, Bool.and_true, Bool.and_false, Bool.true_or, Bool.false_or, Bool.or_true, Bool.or_false, Bool.not_true, Bool.not_false, Dy.cm_bind, Dy.cm_pure, Dy.mNum, Dy.mAdd, Dy.mSub, Dy.mMul, Dy.mDiv, Dy.mSqr, Dy.mSqrt, Dy.mMax] <;> simp_all
          exact ⟨⟨⟨(congrArg (fun r => some (glossU r 0)) e00.symm), (congrArg (fun r => some (glossU r 1)) e00.symm), (congrArg (fun r => some (glossU r 2)) e00.symm), (congrArg (fun r => some (glossU r 3)) e00.symm), (congrArg (fun r => some (glossU r 4)) e00.symm), (congrArg (fun r => some (glossU r 5)) e00.symm), trivial⟩, ⟨(congrArg (fun r => some (glossU r 6)) e00.symm), (congrArg (fun r => some (glossU r 7)) e00.symm), trivial⟩, trivial⟩, ⟨⟨⟨rfl, (congrArg (fun r => some (glossU r 8)) e00.symm)⟩, trivial⟩, trivial⟩, rfl⟩
        · intro c33
          obtain ⟨t45, e46⟩ : ∃ t45, (i == 3) = t45 := ⟨_, rfl⟩
          refine T.hbind (us := [.i i, .i 3]) (xs := [.b t45]) (ρ' := [.i e, .i i, .f a1, .f a2, .f b1, .f b2, .f m1, .f m2, .f p1, .f p2, .f q1, .f q2, .f r1, .f r2, .f y1, .f y2, .b t0, .b t15, .b t30, .b t45]) rfl (congrArg (fun r => [U.b r]) e46) rfl ?_
          refine T.hite (x := t45) ?_ ?_ ?_
          · rfl
          · intro c48
            obtain ⟨t48, t49, t50, e51⟩ : ∃ t48 t49 t50, (Dy.cMul e (y1, y2) (a1, a2)) = ((t48, t49), t50) := Dy.ex3 _
            have g51 := Dy.good_mul (a := (y1, y2)) (b := (a1, a2)) (err := e)
            rw [e51] at g51
            refine T.hbind (us := [.i e, .f y1, .f y2, .f a1, .f a2]) (xs := [.f t48, .f t49, .i t50]) (ρ' := [.i e, .i i, .f a1, .f a2, .f b1, .f b2, .f m1, .f m2, .f p1, .f p2, .f q1, .f q2, .f r1, .f r2, .f y1, .f y2, .b t0, .b t15, .b t30, .b t45, .f t48, .f t49, .i t50]) rfl (congrArg (fun r => [calR r 0, calR r 1, calR r 2]) e51) rfl ?_
            obtain ⟨t52, t53, t54, e55⟩ : ∃ t52 t53 t54, (Dy.cMul t50 (y1, y2) (b1, b2)) = ((t52, t53), t54) := Dy.ex3 _
            have g55 := Dy.good_mul (a := (y1, y2)) (b := (b1, b2)) (err := t50)
            rw [e55] at g55
            refine T.hbind (us := [.i t50, .f y1, .f y2, .f b1, .f b2]) (xs := [.f t52, .f t53, .i t54]) (ρ' := [.i e, .i i, .f a1, .f a2, .f b1, .f b2, .f m1, .f m2, .f p1, .f p2, .f q1, .f q2, .f r1, .f r2, .f y1, .f y2, .b t0, .b t15, .b t30, .b t45, .f t48, .f t49, .i t50, .f t52, .f t53, .i t54]) rfl (congrArg (fun r => [calR r 0, calR r 1, calR r 2]) e55) rfl ?_
            obtain ⟨t56, t57, t58, e59⟩ : ∃ t56 t57 t58, (Dy.cMul t54 (y1, y2) (m1, m2)) = ((t56, t57), t58) := Dy.ex3 _
            have g59 := Dy.good_mul (a := (y1, y2)) (b := (m1, m2)) (err := t54)
            rw [e59] at g59
            refine T.hbind (us := [.i t54, .f y1, .f y2, .f m1, .f m2]) (xs := [.f t56, .f t57, .i t58]) (ρ' := [.i e, .i i, .f a1, .f a2, .f b1, .f b2, .f m1, .f m2, .f p1, .f p2, .f q1, .f q2, .f r1, .f r2, .f y1, .f y2, .b t0, .b t15, .b t30, .b t45, .f t48, .f t49, .i t50, .f t52, .f t53, .i t54, .f t56, .f t57, .i t58]) rfl (congrArg (fun r => [calR r 0, calR r 1, calR r 2]) e59) rfl ?_
            refine T.hdone ?_
            have e00 : (madeG (i) (e) (a1, a2) (b1, b2) (m1, m2) (p1, p2) (q1, q2) (r1, r2) (y1, y2)) = (((t48, t49), (t52, t53), (t56, t57), (0, 0)), t58) := by simp only [madeG, vaddM, vsubM, vnegM, vscaleM, vcrossM, vdotM, vnormM, cNegM, z2, e1, c3, e16, c18, e31, c33, e46, c48, e51, e55, e59, reduceIte, Bool.false_eq_true, Bool.true_eq_false, Bool.true_and, Bool.false_and, Bool.and_true, Bool.and_false, Bool.true_or, Bool.false_or, Bool.or_true, Bool.or_false, Bool.not_true, Bool.not_false, Dy.cm_bind, Dy.cm_pure, Dy.mNum, Dy.mAdd, Dy.mSub, Dy.mMul, Dy.mDiv, Dy.mSqr, Dy.mSqrt, Dy.mMax] <;> simp_all
            exact ⟨⟨⟨(congrArg (fun r => some (glossU r 0)) e00.symm), (congrArg (fun r => some (glossU r 1)) e00.symm), (congrArg (fun r => some (glossU r 2)) e00.symm), (congrArg (fun r => some (glossU r 3)) e00.symm), (congrArg (fun r => some (glossU r 4)) e00.symm), (congrArg (fun r => some (glossU r 5)) e00.symm), trivial⟩, ⟨(congrArg (fun r => some (glossU r 6)) e00.symm), (congrArg (fun r => some (glossU r 7)) e00.symm), trivial⟩, trivial⟩, ⟨⟨⟨rfl, (congrArg (fun r => some (glossU r 8)) e00.symm)⟩, trivial⟩, trivial⟩, rfl⟩
          · intro c48
            obtain ⟨t60, e61⟩ : ∃ t60, (i == 4) = t60 := ⟨_, rfl⟩
            refine T.hbind (us := [.i i, .i 4]) (xs := [.b t60]) (ρ' := [.i e, .i i, .f a1, .f a2, .f b1, .f b2, .f m1, .f m2, .f p1, .f p2, .f q1, .f q2, .f r1, .f r2, .f y1, .f y2, .b t0, .b t15, .b t30, .b t45, .b t60]) rfl (congrArg (fun r => [U.b r]) e61) rfl ?_
            refine T.hite (x := t60) ?_ ?_ ?_
            · rfl
            · intro c63
              obtain ⟨t63, t64, t65, e66⟩ : ∃ t63 t64 t65, (Dy.cMul e (b1, b2) (r1, r2)) = ((t63, t64), t65) := Dy.ex3 _
              have g66 := Dy.good_mul (a := (b1, b2)) (b := (r1, r2)) (err := e)
              rw [e66] at g66
              refine T.hbind (us := [.i e, .f b1, .f b2, .f r1, .f r2]) (xs := [.f t63, .f t64, .i t65]) (ρ' := [.i e, .i i, .f a1, .f a2, .f b1, .f b2, .f m1, .f m2, .f p1, .f p2, .f q1, .f q2, .f r1, .f r2, .f y1, .f y2, .b t0, .b t15, .b t30, .b t45, .b t60, .f t63, .f t64, .i t65]) rfl (congrArg (fun r => [calR r 0, calR r 1, calR r 2]) e66) rfl ?_
              obtain ⟨t67, t68, t69, e70⟩ : ∃ t67 t68 t69, (Dy.cMul t65 (m1, m2) (q1, q2)) = ((t67, t68), t69) := Dy.ex3 _
              have g70 := Dy.good_mul (a := (m1, m2)) (b := (q1, q2)) (err := t65)
              rw [e70] at g70
              refine T.hbind (us := [.i t65, .f m1, .f m2, .f q1, .f q2]) (xs := [.f t67, .f t68, .i t69]) (ρ' := [.i e, .i i, .f a1, .f a2, .f b1, .f b2, .f m1, .f m2, .f p1, .f p2, .f q1, .f q2, .f r1, .f r2, .f y1, .f y2, .b t0, .b t15, .b t30, .b t45, .b t60, .f t63, .f t64, .i t65, .f t67, .f t68, .i t69]) rfl (congrArg (fun r => [calR r 0, calR r 1, calR r 2]) e70) rfl ?_
              obtain ⟨t71, t72, t73, e74⟩ : ∃ t71 t72 t73, (Dy.cSub t69 (t63, t64) (t67, t68)) = ((t71, t72), t73) := Dy.ex3 _
              have g74 := Dy.good_sub (a := (t63, t64)) (b := (t67, t68)) ⟨g70.1.1, g70.1.2⟩ (err := t69)
              rw [e74] at g74
              refine T.hbind (us := [.i t69, .f t63, .f t64, .f t67, .f t68]) (xs := [.f t71, .f t72, .i t73]) (ρ' := [.i e, .i i, .f a1, .f a2, .f b1, .f b2, .f m1, .f m2, .f p1, .f p2, .f q1, .f q2, .f r1, .f r2, .f y1, .f y2, .b t0, .b t15, .b t30, .b t45, .b t60, .f t63, .f t64, .i t65, .f t67, .f t68, .i t69, .f t71, .f t72, .i t73]) rfl (congrArg (fun r => [calR r 0, calR r 1, calR r 2]) e74) rfl ?_
              obtain ⟨t75, t76, t77, e78⟩ : ∃ t75 t76 t77, (Dy.cMul t73 (m1, m2) (p1, p2)) = ((t75, t76), t77) := Dy.ex3 _
              have g78 := Dy.good_mul (a := (m1, m2)) (b := (p1, p2)) (err := t73)
              rw [e78] at g78
              refine T.hbind (us := [.i t73, .f m1, .f m2, .f p1, .f p2]) (xs := [.f t75, .f t76, .i t77]) (ρ' := [.i e, .i i, .f a1, .f a2, .f b1, .f b2, .f m1, .f m2, .f p1, .f p2, .f q1, .f q2, .f r1, .f r2, .f y1, .f y2, .b t0, .b t15, .b t30, .b t45, .b t60, .f t63, .f t64, .i t65, .f t67, .f t68, .i t69, .f t71, .f t72, .i t73, .f t75, .f t76, .i t77]) rfl (congrArg (fun r => [calR r 0, calR r 1, calR r 2]) e78) rfl ?_
              obtain ⟨t79, t80, t81, e82⟩ : ∃ t79 t80 t81, (Dy.cMul t77 (a1, a2) (r1, r2)) = ((t79, t80), t81) := Dy.ex3 _
              have g82 := Dy.good_mul (a := (a1, a2)) (b := (r1, r2)) (err := t77)
              rw [e82] at g82
              refine T.hbind (us := [.i t77, .f a1, .f a2, .f r1, .f r2]) (xs := [.f t79, .f t80, .i t81]) (ρ' := [.i e, .i i, .f a1, .f a2, .f b1, .f b2, .f m1, .f m2, .f p1, .f p2, .f q1, .f q2, .f r1, .f r2, .f y1, .f y2, .b t0, .b t15, .b t30, .b t45, .b t60, .f t63, .f t64, .i t65, .f t67, .f t68, .i t69, .f t71, .f t72, .i t73, .f t75, .f t76, .i t77, .f t79, .f t80, .i t81]) rfl (congrArg (fun r => [calR r 0, calR r 1, calR r 2]) e82) rfl ?_
              obtain ⟨t83, t84, t85, e86⟩ : ∃ t83 t84 t85, (Dy.cSub t81 (t75, t76) (t79, t80)) = ((t83, t84), t85) := Dy.ex3 _
              have g86 := Dy.good_sub (a := (t75, t76)) (b := (t79, t80)) ⟨g82.1.1, g82.1.2⟩ (err := t81)
              rw [e86] at g86
              refine T.hbind (us := [.i t81, .f t75, .f t76, .f t79, .f t80]) (xs := [.f t83, .f t84, .i t85]) (ρ' := [.i e, .i i, .f a1, .f a2, .f b1, .f b2, .f m1, .f m2, .f p1, .f p2, .f q1, .f q2, .f r1, .f r2, .f y1, .f y2, .b t0, .b t15, .b t30, .b t45, .b t60, .f t63, .f t64, .i t65, .f t67, .f t68, .i t69, .f t71, .f t72, .i t73, .f t75, .f t76, .i t77, .f t79, .f t80, .i t81, .f t83, .f t84, .i t85]) rfl (congrArg (fun r => [calR r 0, calR r 1, calR r 2]) e86) rfl ?_
              obtain ⟨t87, t88, t89, e90⟩ : ∃ t87 t88 t89, (Dy.cMul t85 (a1, a2) (q1, q2)) = ((t87, t88), t89) := Dy.ex3 _
              have g90 := Dy.good_mul (a := (a1, a2)) (b := (q1, q2)) (err := t85)
              rw [e90] at g90
              refine T.hbind (us := [.i t85, .f a1, .f a2, .f q1, .f q2]) (xs := [.f t87, .f t88, .i t89]) (ρ' := [.i e, .i i, .f a1, .f a2, .f b1, .f b2, .f m1, .f m2, .f p1, .f p2, .f q1, .f q2, .f r1, .f r2, .f y1, .f y2, .b t0, .b t15, .b t30, .b t45, .b t60, .f t63, .f t64, .i t65, .f t67, .f t68, .i t69, .f t71, .f t72, .i t73, .f t75, .f t76, .i t77, .f t79, .f t80, .i t81, .f t83, .f t84, .i t85, .f t87, .f t88, .i t89]) rfl (congrArg (fun r => [calR r 0, calR r 1, calR r 2]) e90) rfl ?_
              obtain ⟨t91, t92, t93, e94⟩ : ∃ t91 t92 t93, (Dy.cMul t89 (b1, b2) (p1, p2)) = ((t91, t92), t93) := Dy.ex3 _
              have g94 := Dy.good_mul (a := (b1, b2)) (b := (p1, p2)) (err := t89)
              rw [e94] at g94
              refine T.hbind (us := [.i t89, .f b1, .f b2, .f p1, .f p2]) (xs := [.f t91, .f t92, .i t93]) (ρ' := [.i e, .i i, .f a1, .f a2, .f b1, .f b2, .f m1, .f m2, .f p1, .f p2, .f q1, .f q2, .f r1, .f r2, .f y1, .f y2, .b t0, .b t15, .b t30, .b t45, .b t60, .f t63, .f t64, .i t65, .f t67, .f t68, .i t69, .f t71, .f t72, .i t73, .f t75, .f t76, .i t77, .f t79, .f t80, .i t81, .f t83, .f t84, .i t85, .f t87, .f t88, .i t89, .f t91, .f t92, .i t93]) rfl (congrArg (fun r => [calR r 0, calR r 1, calR r 2]) e94) rfl ?_
              obtain ⟨t95, t96, t97, e98⟩ : ∃ t95 t96 t97, (Dy.cSub t93 (t87, t88) (t91, t92)) = ((t95, t96), t97) := Dy.ex3 _
              have g98 := Dy.good_sub (a := (t87, t88)) (b := (t91, t92)) ⟨g94.1.1, g94.1.2⟩ (err := t93)
              rw [e98] at g98
              refine T.hbind (us := [.i t93, .f t87, .f t88, .f t91, .f t92]) (xs := [.f t95, .f t96, .i t97]) (ρ' := [.i e, .i i, .f a1, .f a2, .f b1, .f b2, .f m1, .f m2, .f p1, .f p2, .f q1, .f q2, .f r1, .f r2, .f y1, .f y2, .b t0, .b t15, .b t30, .b t45, .b t60, .f t63, .f t64, .i t65, .f t67, .f t68, .i t69, .f t71, .f t72, .i t73, .f t75, .f t76, .i t77, .f t79, .f t80, .i t81, .f t83, .f t84, .i t85, .f t87, .f t88, .i t89, .f t91, .f t92, .i t93, .f t95, .f t96, .i t97]) rfl (congrArg (fun r => [calR r 0, calR r 1, calR r 2]) e98) rfl ?_
              refine T.hdone ?_
              have e00 : (madeG (i) (e) (a1, a2) (b1, b2) (m1, m2) (p1, p2) (q1, q2) (r1, r2) (y1, y2)) = (((t71, t72), (t83, t84), (t95, t96), (0, 0)), t97) := by simp only [madeG, vaddM, vsubM, vnegM, vscaleM, vcrossM, vdotM, vnormM, cNegM, z2, e1, c3, e16, c18, e31, c33, e46, c48, e61, c63, e66, e70, e74, e78, e82, e86, e90, e94, e98, reduceIte, Bool.false_eq_true, Bool.true_eq_false, Bool.true_and, Bool.false_and, Bool.and_true, Bool.and_false, Bool.true_or, Bool.false_or, Bool.or_true, Bool.or_false, Bool.not_true, Bool.not_false, Dy.cm_bind, Dy.cm_pure, Dy.mNum, Dy.mAdd, Dy.mSub, Dy.mMul, Dy.mDiv, Dy.mSqr, Dy.mSqrt, Dy.mMax] <;> simp_all
              exact ⟨⟨⟨(congrArg (fun r => some (glossU r 0)) e00.symm), (congrArg (fun r => some (glossU r 1)) e00.symm), (congrArg (fun r => some (glossU r 2)) e00.symm), (congrArg (fun r => some (glossU r 3)) e00.symm), (congrArg (fun r => some (glossU r 4)) e00.symm), (congrArg (fun r => some (glossU r 5)) e00.symm), trivial⟩, ⟨(congrArg (fun r => some (glossU r 6)) e00.symm), (congrArg (fun r => some (glossU r 7)) e00.symm), trivial⟩, trivial⟩, ⟨⟨⟨rfl, (congrArg (fun r => some (glossU r 8)) e00.symm)⟩, trivial⟩, trivial⟩, rfl⟩
            · intro c63
              obtain ⟨t99, e100⟩ : ∃ t99, (i == 5) = t99 := ⟨_, rfl⟩
              refine T.hbind (us := [.i i, .i 5]) (xs := [.b t99]) (ρ' := [.i e, .i i, .f a1, .f a2, .f b1, .f b2, .f m1, .f m2, .f p1, .f p2, .f q1, .f q2, .f r1, .f r2, .f y1, .f y2, .b t0, .b t15, .b t30, .b t45, .b t60, .b t99]) rfl (congrArg (fun r => [U.b r]) e100) rfl ?_
              refine T.hite (x := t99) ?_ ?_ ?_
              · rfl
              · intro c102
                obtain ⟨t102, t103, t104, e105⟩ : ∃ t102 t103 t104, (Dy.cMul e (a1, a2) (p1, p2)) = ((t102, t103), t104) := Dy.ex3 _
                have g105 := Dy.good_mul (a := (a1, a2)) (b := (p1, p2)) (err := e)
                rw [e105] at g105
                refine T.hbind (us := [.i e, .f a1, .f a2, .f p1, .f p2]) (xs := [.f t102, .f t103, .i t104]) (ρ' := [.i e, .i i, .f a1, .f a2, .f b1, .f b2, .f m1, .f m2, .f p1, .f p2, .f q1, .f q2, .f r1, .f r2, .f y1, .f y2, .b t0, .b t15, .b t30, .b t45, .b t60, .b t99, .f t102, .f t103, .i t104]) rfl (congrArg (fun r => [calR r 0, calR r 1, calR r 2]) e105) rfl ?_
                obtain ⟨t106, t107, t108, e109⟩ : ∃ t106 t107 t108, (Dy.cMul t104 (b1, b2) (q1, q2)) = ((t106, t107), t108) := Dy.ex3 _
                have g109 := Dy.good_mul (a := (b1, b2)) (b := (q1, q2)) (err := t104)
                rw [e109] at g109
                refine T.hbind (us := [.i t104, .f b1, .f b2, .f q1, .f q2]) (xs := [.f t106, .f t107, .i t108]) (ρ' := [.i e, .i i, .f a1, .f a2, .f b1, .f b2, .f m1, .f m2, .f p1, .f p2, .f q1, .f q2, .f r1, .f r2, .f y1, .f y2, .b t0, .b t15, .b t30, .b t45, .b t60, .b t99, .f t102, .f t103, .i t104, .f t106, .f t107, .i t108]) rfl (congrArg (fun r => [calR r 0, calR r 1, calR r 2]) e109) rfl ?_
                obtain ⟨t110, t111, t112, e113⟩ : ∃ t110 t111 t112, (Dy.cAdd t108 (t102, t103) (t106, t107)) = ((t110, t111), t112) := Dy.ex3 _
                have g113 := Dy.good_add (a := (t102, t103)) (b := (t106, t107)) (err := t108)
                rw [e113] at g113
                refine T.hbind (us := [.i t108, .f t102, .f t103, .f t106, .f t107]) (xs := [.f t110, .f t111, .i t112]) (ρ' := [.i e, .i i, .f a1, .f a2, .f b1, .f b2, .f m1, .f m2, .f p1, .f p2, .f q1, .f q2, .f r1, .f r2, .f y1, .f y2, .b t0, .b t15, .b t30, .b t45, .b t60, .b t99, .f t102, .f t103, .i t104, .f t106, .f t107, .i t108, .f t110, .f t111, .i t112]) rfl (congrArg (fun r => [calR r 0, calR r 1, calR r 2]) e113) rfl ?_
                obtain ⟨t114, t115, t116, e117⟩ : ∃ t114 t115 t116, (Dy.cMul t112 (m1, m2) (r1, r2)) = ((t114, t115), t116) := Dy.ex3 _
                have g117 := Dy.good_mul (a := (m1, m2)) (b := (r1, r2)) (err := t112)
                rw [e117] at g117
                refine T.hbind (us := [.i t112, .f m1, .f m2, .f r1, .f r2]) (xs := [.f t114, .f t115, .i t116]) (ρ' := [.i e, .i i, .f a1, .f a2, .f b1, .f b2, .f m1, .f m2, .f p1, .f p2, .f q1, .f q2, .f r1, .f r2, .f y1, .f y2, .b t0, .b t15, .b t30, .b t45, .b t60, .b t99, .f t102, .f t103, .i t104, .f t106, .f t107, .i t108, .f t110, .f t111, .i t112, .f t114, .f t115, .i t116]) rfl (congrArg (fun r => [calR r 0, calR r 1, calR r 2]) e117) rfl ?_
                obtain ⟨t118, t119, t120, e121⟩ : ∃ t118 t119 t120, (Dy.cAdd t116 (t110, t111) (t114, t115)) = ((t118, t119), t120) := Dy.ex3 _
                have g121 := Dy.good_add (a := (t110, t111)) (b := (t114, t115)) (err := t116)
                rw [e121] at g121
                refine T.hbind (us := [.i t116, .f t110, .f t111, .f t114, .f t115]) (xs := [.f t118, .f t119, .i t120]) (ρ' := [.i e, .i i, .f a1, .f a2, .f b1, .f b2, .f m1, .f m2, .f p1, .f p2, .f q1, .f q2, .f r1, .f r2, .f y1, .f y2, .b t0, .b t15, .b t30, .b t45, .b t60, .b t99, .f t102, .f t103, .i t104, .f t106, .f t107, .i t108, .f t110, .f t111, .i t112, .f t114, .f t115, .i t116, .f t118, .f t119, .i t120]) rfl (congrArg (fun r => [calR r 0, calR r 1, calR r 2]) e121) rfl ?_
                refine T.hdone ?_
                have e00 : (madeG (i) (e) (a1, a2) (b1, b2) (m1, m2) (p1, p2) (q1, q2) (r1, r2) (y1, y2)) = (((0, 0), (0, 0), (0, 0), (t118, t119)), t120) := by simp only [madeG, vaddM, vsubM, vnegM, vscaleM, vcrossM, vdotM, vnormM, cNegM, z2, e1, c3, e16, c18, e31, c33, e46, c48, e61, c63, e100, c102, e105, e109, e113, e117, e121, reduceIte, Bool.false_eq_true, Bool.true_eq_false, Bool.true_and, Bool.false_and, Bool.and_true, Bool.and_false, Bool.true_or, Bool.false_or, Bool.or_true, Bool.or_false, Bool.not_true, Bool.not_false, Dy.cm_bind, Dy.cm_pure, Dy.mNum, Dy.mAdd, Dy.mSub, Dy.mMul, Dy.mDiv, Dy.mSqr, Dy.mSqrt, Dy.mMax] <;> simp_all
                exact ⟨⟨⟨(congrArg (fun r => some (glossU r 0)) e00.symm), (congrArg (fun r => some (glossU r 1)) e00.symm), (congrArg (fun r => some (glossU r 2)) e00.symm), (congrArg (fun r => some (glossU r 3)) e00.symm), (congrArg (fun r => some (glossU r 4)) e00.symm), (congrArg (fun r => some (glossU r 5)) e00.symm), trivial⟩, ⟨(congrArg (fun r => some (glossU r 6)) e00.symm), (congrArg (fun r => some (glossU r 7)) e00.symm), trivial⟩, trivial⟩, ⟨⟨⟨rfl, (congrArg (fun r => some (glossU r 8)) e00.symm)⟩, trivial⟩, trivial⟩, rfl⟩
              · intro c102
                obtain ⟨t122, t123, t124, e125⟩ : ∃ t122 t123 t124, (Dy.cSqr e (a1, a2)) = ((t122, t123), t124) := Dy.ex3 _
                have g125 := Dy.good_sqr (a := (a1, a2)) ⟨wa1, wa2⟩ (err := e)
                rw [e125] at g125
                refine T.hbind (us := [.i e, .f a1, .f a2]) (xs := [.f t122, .f t123, .i t124]) (ρ' := [.i e, .i i, .f a1, .f a2, .f b1, .f b2, .f m1, .f m2, .f p1, .f p2, .f q1, .f q2, .f r1, .f r2, .f y1, .f y2, .b t0, .b t15, .b t30, .b t45, .b t60, .b t99, .f t122, .f t123, .i t124]) rfl (congrArg (fun r => [calR r 0, calR r 1, calR r 2]) e125) rfl ?_
                obtain ⟨t126, t127, t128, e129⟩ : ∃ t126 t127 t128, (Dy.cSqr t124 (b1, b2)) = ((t126, t127), t128) := Dy.ex3 _
                have g129 := Dy.good_sqr (a := (b1, b2)) ⟨wb1, wb2⟩ (err := t124)
                rw [e129] at g129
                refine T.hbind (us := [.i t124, .f b1, .f b2]) (xs := [.f t126, .f t127, .i t128]) (ρ' := [.i e, .i i, .f a1, .f a2, .f b1, .f b2, .f m1, .f m2, .f p1, .f p2, .f q1, .f q2, .f r1, .f r2, .f y1, .f y2, .b t0, .b t15, .b t30, .b t45, .b t60, .b t99, .f t122, .f t123, .i t124, .f t126, .f t127, .i t128]) rfl (congrArg (fun r => [calR r 0, calR r 1, calR r 2]) e129) rfl ?_
                obtain ⟨t130, t131, t132, e133⟩ : ∃ t130 t131 t132, (Dy.cAdd t128 (t122, t123) (t126, t127)) = ((t130, t131), t132) := Dy.ex3 _
                have g133 := Dy.good_add (a := (t122, t123)) (b := (t126, t127)) (err := t128)
                rw [e133] at g133
                refine T.hbind (us := [.i t128, .f t122, .f t123, .f t126, .f t127]) (xs := [.f t130, .f t131, .i t132]) (ρ' := [.i e, .i i, .f a1, .f a2, .f b1, .f b2, .f m1, .f m2, .f p1, .f p2, .f q1, .f q2, .f r1, .f r2, .f y1, .f y2, .b t0, .b t15, .b t30, .b t45, .b t60, .b t99, .f t122, .f t123, .i t124, .f t126, .f t127, .i t128, .f t130, .f t131, .i t132]) rfl (congrArg (fun r => [calR r 0, calR r 1, calR r 2]) e133) rfl ?_
                obtain ⟨t134, t135, t136, e137⟩ : ∃ t134 t135 t136, (Dy.cSqr t132 (m1, m2)) = ((t134, t135), t136) := Dy.ex3 _
                have g137 := Dy.good_sqr (a := (m1, m2)) ⟨wm1, wm2⟩ (err := t132)
                rw [e137] at g137
                refine T.hbind (us := [.i t132, .f m1, .f m2]) (xs := [.f t134, .f t135, .i t136]) (ρ' := [.i e, .i i, .f a1, .f a2, .f b1, .f b2, .f m1, .f m2, .f p1, .f p2, .f q1, .f q2, .f r1, .f r2, .f y1, .f y2, .b t0, .b t15, .b t30, .b t45, .b t60, .b t99, .f t122, .f t123, .i t124, .f t126, .f t127, .i t128, .f t130, .f t131, .i t132, .f t134, .f t135, .i t136]) rfl (congrArg (fun r => [calR r 0, calR r 1, calR r 2]) e137) rfl ?_
                obtain ⟨t138, t139, t140, e141⟩ : ∃ t138 t139 t140, (Dy.cAdd t136 (t130, t131) (t134, t135)) = ((t138, t139), t140) := Dy.ex3 _
                have g141 := Dy.good_add (a := (t130, t131)) (b := (t134, t135)) (err := t136)
                rw [e141] at g141
                refine T.hbind (us := [.i t136, .f t130, .f t131, .f t134, .f t135]) (xs := [.f t138, .f t139, .i t140]) (ρ' := [.i e, .i i, .f a1, .f a2, .f b1, .f b2, .f m1, .f m2, .f p1, .f p2, .f q1, .f q2, .f r1, .f r2, .f y1, .f y2, .b t0, .b t15, .b t30, .b t45, .b t60, .b t99, .f t122, .f t123, .i t124, .f t126, .f t127, .i t128, .f t130, .f t131, .i t132, .f t134, .f t135, .i t136, .f t138, .f t139, .i t140]) rfl (congrArg (fun r => [calR r 0, calR r 1, calR r 2]) e141) rfl ?_
                obtain ⟨t142, t143, t144, e145⟩ : ∃ t142 t143 t144, (Dy.cSqrt t140 (t138, t139)) = ((t142, t143), t144) := Dy.ex3 _
                have g145 := Dy.good_sqrt (a := (t138, t139)) ⟨g141.1.1, g141.1.2⟩ (err := t140)
                rw [e145] at g145
                refine T.hbind (us := [.i t140, .f t138, .f t139]) (xs := [.f t142, .f t143, .i t144]) (ρ' := [.i e, .i i, .f a1, .f a2, .f b1, .f b2, .f m1, .f m2, .f p1, .f p2, .f q1, .f q2, .f r1, .f r2, .f y1, .f y2, .b t0, .b t15, .b t30, .b t45, .b t60, .b t99, .f t122, .f t123, .i t124, .f t126, .f t127, .i t128, .f t130, .f t131, .i t132, .f t134, .f t135, .i t136, .f t138, .f t139, .i t140, .f t142, .f t143, .i t144]) rfl (congrArg (fun r => [calR r 0, calR r 1, calR r 2]) e145) rfl ?_
                refine T.hdone ?_
                have e00 : (madeG (i) (e) (a1, a2) (b1, b2) (m1, m2) (p1, p2) (q1, q2) (r1, r2) (y1, y2)) = (((0, 0), (0, 0), (0, 0), (t142, t143)), t144) := by simp only [madeG, vaddM, vsubM, vnegM, vscaleM, vcrossM, vdotM, vnormM, cNegM, z2, e1, c3, e16, c18, e31, c33, e46, c48, e61, c63, e100, c102, e125, e129, e133, e137, e141, e145, reduceIte, Bool.false_eq_true, Bool.true_eq_false, Bool.true_and, Bool.false_and, Bool.and_true, Bool.and_false, Bool.true_or, Bool.false_or, Bool.or_true, Bool.or_false, Bool.not_true, Bool.not_false, Dy.cm_bind, Dy.cm_pure, Dy.mNum, Dy.mAdd, Dy.mSub, Dy.mMul, Dy.mDiv, Dy.mSqr, Dy.mSqrt, Dy.mMax] <;> simp_all
                exact ⟨⟨⟨(congrArg (fun r => some (glossU r 0)) e00.symm), (congrArg (fun r => some (glossU r 1)) e00.symm), (congrArg (fun r => some (glossU r 2)) e00.symm), (congrArg (fun r => some (glossU r 3)) e00.symm), (congrArg (fun r => some (glossU r 4)) e00.symm), (congrArg (fun r => some (glossU r 5)) e00.symm), trivial⟩, ⟨(congrArg (fun r => some (glossU r 6)) e00.symm), (congrArg (fun r => some (glossU r 7)) e00.symm), trivial⟩, trivial⟩, ⟨⟨⟨rfl, (congrArg (fun r => some (glossU r 8)) e00.symm)⟩, trivial⟩, trivial⟩, rfl⟩

def vh2 : List (Nat × Ct) := (46, ctMade) :: vh1
theorem vh2_ok : AllOk Try.prog vh2 := ⟨ctMade_ok, vh1_ok⟩

/-- Is the second one within the first one? -/
def with5 (a b : Nat × Nat) : Bool := (Dy.flt a.1 b.1 || Dy.feq a.1 b.1) && (Dy.flt b.2 a.2 || Dy.feq b.2 a.2)
def ctWith5 : Ct := ⟨4, [], [vp 0 1, vp 2 3], { binds := [⟨fun us i => bRes (with5 (gF us 0, gF us 1) (gF us 2, gF us 3)) i, 1, upto 0 4⟩], needs := [], val := vb 4, upd := [] }⟩
set_option maxRecDepth 100000 in
set_option maxHeartbeats 8000000 in
theorem ctWith5_ok : CtOk Try.prog 47 ctWith5 := by
  refine CtOk.of_eval2 vh2_ok (dr_ok vh2_ok) Try.func47 rfl (by decide) [] 200 (by kernel_rfl) rfl (.bind ⟨fun us _ => cB (fun a b => Dy.flt a b || Dy.feq a b) us, 1, [(.v 0), (.v 2)]⟩ (.ite (.v 4) (.bind ⟨fun us _ => cB (fun a b => Dy.flt a b || Dy.feq a b) us, 1, [(.v 3), (.v 1)]⟩ (.done .ret ⟨[.bo (.v 5)], [], 6, []⟩)) (.done .ret ⟨[.bo (.l (.b false))], [], 5, []⟩))) (by kernel_rfl) (by kernel_rfl) (by kernel_rfl) (fun us hl hF hB hN => ?_)
  match us, hl with
  | [u0, u1, u2, u3], _ =>
    simp [FactsB, FactsL, Facts, ctWith5] at hF hB
    simp [NeedsAt, runB, evs, E.ev, upto, resl, List.range, List.range.loop, ctWith5] at hN
    obtain ⟨⟨⟨a1, rfl, wa1⟩, ⟨a2, rfl, wa2⟩⟩, ⟨b1, rfl, wb1⟩, ⟨b2, rfl, wb2⟩⟩ := hF
    refine T.HH.h ?_
    obtain ⟨t0, e1⟩ : ∃ t0, (Dy.flt a1 b1 || Dy.feq a1 b1) = t0 := ⟨_, rfl⟩
    refine T.hbind (us := [.f a1, .f b1]) (xs := [.b t0]) (ρ' := [.f a1, .f a2, .f b1, .f b2, .b t0]) rfl (congrArg (fun r => [U.b r]) e1) rfl ?_
    refine T.hite (x := t0) ?_ ?_ ?_
    · rfl
    · intro c3
      obtain ⟨t3, e4⟩ : ∃ t3, (Dy.flt b2 a2 || Dy.feq b2 a2) = t3 := ⟨_, rfl⟩
      refine T.hbind (us := [.f b2, .f a2]) (xs := [.b t3]) (ρ' := [.f a1, .f a2, .f b1, .f b2, .b t0, .b t3]) rfl (congrArg (fun r => [U.b r]) e4) rfl ?_
      refine T.hdone ?_
      have e00 : with5 (a1, a2) (b1, b2) = t3 := by simp only [with5, e1, c3, e4, reduceIte, Bool.false_eq_true, Bool.true_eq_false, Bool.true_and, Bool.false_and, Bool.and_true, Bool.and_false, Bool.true_or, Bool.false_or, Bool.or_true, Bool.or_false, Bool.not_true, Bool.not_false, Dy.cm_bind, Dy.cm_pure, Dy.mNum, Dy.mAdd, Dy.mSub, Dy.mMul, Dy.mDiv, Dy.mSqr, Dy.mSqrt, Dy.mMax] <;> simp_all
      exact ⟨(congrArg (fun r => some (bRes r 0)) e00.symm), trivial, rfl⟩
    · intro c3
      refine T.hdone ?_
      have e00 : with5 (a1, a2) (b1, b2) = false := by simp only [with5, e1, c3, reduceIte, Bool.false_eq_true, Bool.true_eq_false, Bool.true_and, Bool.false_and, Bool.and_true, Bool.and_false, Bool.true_or, Bool.false_or, Bool.or_true, Bool.or_false, Bool.not_true, Bool.not_false, Dy.cm_bind, Dy.cm_pure, Dy.mNum, Dy.mAdd, Dy.mSub, Dy.mMul, Dy.mDiv, Dy.mSqr, Dy.mSqrt, Dy.mMax] <;> simp_all
      exact ⟨(congrArg (fun r => some (bRes r 0)) e00.symm), trivial, rfl⟩

def vh3 : List (Nat × Ct) := (47, ctWith5) :: vh2
theorem vh3_ok : AllOk Try.prog vh3 := ⟨ctWith5_ok, vh2_ok⟩

end Go.Proofs.Ytikiegcncliocaa
