/- A reckoning of programs by symbols: what is asked; numbers within intervals. -/
import Derived.Test.YtiphdhpacklboaaYn
namespace Go.Proofs.Ytiphdhpacklboaa
open Go Go.RowKit
set_option linter.unusedSimpArgs false
set_option linter.unusedVariables false

def o0 : List (Nat × Ct) := n2
theorem o0_ok : AllOk Try.prog o0 := n2_ok
/-- What is asked of a calculator, by its number. -/
def opAsk (what : Int) (err : Int) (a b : Nat × Nat) : (Nat × Nat) × Int :=
  bif what.tmod 11 == 0 then Dy.cAdd err a b else bif what.tmod 11 == 1 then Dy.cSub err a b else bif what.tmod 11 == 2 then Dy.cMul err a b else bif what.tmod 11 == 3 then Dy.cDiv err a b else
  bif what.tmod 11 == 4 then Dy.cMin err a b else bif what.tmod 11 == 5 then Dy.cMax err a b else bif what.tmod 11 == 6 then Dy.cSqr err a else bif what.tmod 11 == 7 then Dy.cSqrt err a else
  bif what.tmod 11 == 8 then Dy.cNeg err a else bif what.tmod 11 == 9 then Dy.cAbs err a else Dy.cNum err a.1
def ctAsked : Ct := ⟨6, [[vi .i64 0]], [.agg [vi .u8 1, vf 2, vf 3, vf 4, vf 5], .ptr 0 0], { binds := [⟨fun us i => calR (opAsk (gI us 1) (gI us 0) (gF us 2, gF us 3) (gF us 4, gF us 5)) i, 3, upto 0 6⟩], needs := [⟨nIv, [.v 2, .v 3]⟩, ⟨nIv, [.v 4, .v 5]⟩], val := vp 6 7, upd := [(0, [vi .i64 8])] }⟩
set_option maxRecDepth 100000 in
set_option maxHeartbeats 4000000 in
theorem ctAsked_ok : CtOk Try.prog 10 ctAsked := by
  refine CtOk.of_eval2 o0_ok (dr_ok o0_ok) Try.func10 rfl (by decide) [] 200 (by kernel_rfl) rfl (.bind ⟨fun us _ => iB (fun a b => a.tmod b) us, 1, [(.v 1), (.l (.i 11))]⟩ (.need ⟨iN, [(.v 1), (.l (.i 11))]⟩ (.bind ⟨fun us _ => jB (fun a b => a == b) us, 1, [(.v 6), (.l (.i 0))]⟩ (.ite (.v 7) (.bind ⟨calF2 Dy.cAdd, 3, [(.v 0), (.v 2), (.v 3), (.v 4), (.v 5)]⟩ (.done .ret ⟨[.agg [.fl (.v 8), .fl (.v 9)]], [some ([.it .i64 (.v 10)])], 11, [0]⟩)) (.bind ⟨fun us _ => jB (fun a b => a == b) us, 1, [(.v 6), (.l (.i 1))]⟩ (.ite (.v 8) (.bind ⟨calF2 Dy.cSub, 3, [(.v 0), (.v 2), (.v 3), (.v 4), (.v 5)]⟩ (.done .ret ⟨[.agg [.fl (.v 9), .fl (.v 10)]], [some ([.it .i64 (.v 11)])], 12, [0]⟩)) (.bind ⟨fun us _ => jB (fun a b => a == b) us, 1, [(.v 6), (.l (.i 2))]⟩ (.ite (.v 9) (.bind ⟨calF2 Dy.cMul, 3, [(.v 0), (.v 2), (.v 3), (.v 4), (.v 5)]⟩ (.done .ret ⟨[.agg [.fl (.v 10), .fl (.v 11)]], [some ([.it .i64 (.v 12)])], 13, [0]⟩)) (.bind ⟨fun us _ => jB (fun a b => a == b) us, 1, [(.v 6), (.l (.i 3))]⟩ (.ite (.v 10) (.bind ⟨calF2 Dy.cDiv, 3, [(.v 0), (.v 2), (.v 3), (.v 4), (.v 5)]⟩ (.done .ret ⟨[.agg [.fl (.v 11), .fl (.v 12)]], [some ([.it .i64 (.v 13)])], 14, [0]⟩)) (.bind ⟨fun us _ => jB (fun a b => a == b) us, 1, [(.v 6), (.l (.i 4))]⟩ (.ite (.v 11) (.bind ⟨fun us i => calR (Dy.cMin (gI us 0) (gF us 1, gF us 2) (gF us 3, gF us 4)) i, 3, [(.v 0), (.v 2), (.v 3), (.v 4), (.v 5)]⟩ (.need ⟨nIv, [(.v 2), (.v 3)]⟩ (.need ⟨nIv, [(.v 4), (.v 5)]⟩ (.done .ret ⟨[.agg [.fl (.v 12), .fl (.v 13)]], [some ([.it .i64 (.v 14)])], 15, [0]⟩)))) (.bind ⟨fun us _ => jB (fun a b => a == b) us, 1, [(.v 6), (.l (.i 5))]⟩ (.ite (.v 12) (.bind ⟨fun us i => calR (Dy.cMax (gI us 0) (gF us 1, gF us 2) (gF us 3, gF us 4)) i, 3, [(.v 0), (.v 2), (.v 3), (.v 4), (.v 5)]⟩ (.need ⟨nIv, [(.v 2), (.v 3)]⟩ (.need ⟨nIv, [(.v 4), (.v 5)]⟩ (.done .ret ⟨[.agg [.fl (.v 13), .fl (.v 14)]], [some ([.it .i64 (.v 15)])], 16, [0]⟩)))) (.bind ⟨fun us _ => jB (fun a b => a == b) us, 1, [(.v 6), (.l (.i 6))]⟩ (.ite (.v 13) (.bind ⟨calF1 Dy.cSqr, 3, [(.v 0), (.v 2), (.v 3)]⟩ (.done .ret ⟨[.agg [.fl (.v 14), .fl (.v 15)]], [some ([.it .i64 (.v 16)])], 17, [0]⟩)) (.bind ⟨fun us _ => jB (fun a b => a == b) us, 1, [(.v 6), (.l (.i 7))]⟩ (.ite (.v 14) (.bind ⟨calF1 Dy.cSqrt, 3, [(.v 0), (.v 2), (.v 3)]⟩ (.done .ret ⟨[.agg [.fl (.v 15), .fl (.v 16)]], [some ([.it .i64 (.v 17)])], 18, [0]⟩)) (.bind ⟨fun us _ => jB (fun a b => a == b) us, 1, [(.v 6), (.l (.i 8))]⟩ (.ite (.v 15) (.bind ⟨fun us i => calR (Dy.cNeg (gI us 0) (gF us 1, gF us 2)) i, 3, [(.v 0), (.v 2), (.v 3)]⟩ (.need ⟨nIv, [(.v 2), (.v 3)]⟩ (.done .ret ⟨[.agg [.fl (.v 16), .fl (.v 17)]], [some ([.it .i64 (.v 18)])], 19, [0]⟩))) (.bind ⟨fun us _ => jB (fun a b => a == b) us, 1, [(.v 6), (.l (.i 9))]⟩ (.ite (.v 16) (.bind ⟨fun us i => calR (Dy.cAbs (gI us 0) (gF us 1, gF us 2)) i, 3, [(.v 0), (.v 2), (.v 3)]⟩ (.need ⟨nIv, [(.v 2), (.v 3)]⟩ (.done .ret ⟨[.agg [.fl (.v 17), .fl (.v 18)]], [some ([.it .i64 (.v 19)])], 20, [0]⟩))) (.bind ⟨calF0 Dy.cNum, 3, [(.v 0), (.v 2)]⟩ (.done .ret ⟨[.agg [.fl (.v 17), .fl (.v 18)]], [some ([.it .i64 (.v 19)])], 20, [0]⟩)))))))))))))))))))))))) (by kernel_rfl) (by kernel_rfl) (by kernel_rfl) (fun us hl hF hB hN => ?_)
  match us, hl with
  | [u0, u1, u2, u3, u4, u5], _ =>
    simp [FactsB, FactsL, Facts, ctAsked] at hF hB
    simp [NeedsAt, runB, evs, E.ev, upto, resl, List.range, List.range.loop, ctAsked] at hN
    obtain ⟨⟨k, rfl⟩, ⟨a1, rfl, w1⟩, ⟨a2, rfl, w2⟩, ⟨b1, rfl, w3⟩, ⟨b2, rfl, w4⟩⟩ := hF
    obtain ⟨e, rfl⟩ := hB
    simp [nIv, gF, U.F] at hN
    refine T.HH.h ?_
    refine T.hbind (us := [.i k, .i 11]) (xs := [.i (k.tmod 11)]) (ρ' := [.i e, .i k, .f a1, .f a2, .f b1, .f b2, .i (k.tmod 11)]) rfl (rfl) rfl ?_
    refine T.hneed (us := [.i k, .i 11]) rfl (rfl) ?_
    refine T.hbind (us := [.i (k.tmod 11), .i 0]) (xs := [.b ((k.tmod 11) == 0)]) (ρ' := [.i e, .i k, .f a1, .f a2, .f b1, .f b2, .i (k.tmod 11), .b ((k.tmod 11) == 0)]) rfl (rfl) rfl ?_
    refine T.hite (x := ((k.tmod 11) == 0)) rfl (fun c1 => ?_) (fun c1 => ?_)
    · skip
      refine T.hbind (us := [.i e, .f a1, .f a2, .f b1, .f b2]) (xs := [.f ((Dy.cAdd e (a1, a2) (b1, b2)).1.1), .f ((Dy.cAdd e (a1, a2) (b1, b2)).1.2), .i ((Dy.cAdd e (a1, a2) (b1, b2)).2)]) (ρ' := [.i e, .i k, .f a1, .f a2, .f b1, .f b2, .i (k.tmod 11), .b ((k.tmod 11) == 0), .f ((Dy.cAdd e (a1, a2) (b1, b2)).1.1), .f ((Dy.cAdd e (a1, a2) (b1, b2)).1.2), .i ((Dy.cAdd e (a1, a2) (b1, b2)).2)]) rfl (rfl) rfl ?_
      refine T.hdone ?_
      have e0 : opAsk (k) (e) (a1, a2) (b1, b2) = Dy.cAdd e (a1, a2) (b1, b2) := by unfold opAsk; rw [c1]; rfl
      exact ⟨⟨(congrArg (fun r => some (calR r 0)) e0.symm), (congrArg (fun r => some (calR r 1)) e0.symm), trivial⟩, ⟨⟨⟨rfl, (congrArg (fun r => some (calR r 2)) e0.symm)⟩, trivial⟩, trivial⟩, rfl⟩
    · skip
      refine T.hbind (us := [.i (k.tmod 11), .i 1]) (xs := [.b ((k.tmod 11) == 1)]) (ρ' := [.i e, .i k, .f a1, .f a2, .f b1, .f b2, .i (k.tmod 11), .b ((k.tmod 11) == 0), .b ((k.tmod 11) == 1)]) rfl (rfl) rfl ?_
      refine T.hite (x := ((k.tmod 11) == 1)) rfl (fun c2 => ?_) (fun c2 => ?_)
      · skip
        refine T.hbind (us := [.i e, .f a1, .f a2, .f b1, .f b2]) (xs := [.f ((Dy.cSub e (a1, a2) (b1, b2)).1.1), .f ((Dy.cSub e (a1, a2) (b1, b2)).1.2), .i ((Dy.cSub e (a1, a2) (b1, b2)).2)]) (ρ' := [.i e, .i k, .f a1, .f a2, .f b1, .f b2, .i (k.tmod 11), .b ((k.tmod 11) == 0), .b ((k.tmod 11) == 1), .f ((Dy.cSub e (a1, a2) (b1, b2)).1.1), .f ((Dy.cSub e (a1, a2) (b1, b2)).1.2), .i ((Dy.cSub e (a1, a2) (b1, b2)).2)]) rfl (rfl) rfl ?_
        refine T.hdone ?_
        have e0 : opAsk (k) (e) (a1, a2) (b1, b2) = Dy.cSub e (a1, a2) (b1, b2) := by unfold opAsk; rw [c1, c2]; rfl
        exact ⟨⟨(congrArg (fun r => some (calR r 0)) e0.symm), (congrArg (fun r => some (calR r 1)) e0.symm), trivial⟩, ⟨⟨⟨rfl, (congrArg (fun r => some (calR r 2)) e0.symm)⟩, trivial⟩, trivial⟩, rfl⟩
      · skip
        refine T.hbind (us := [.i (k.tmod 11), .i 2]) (xs := [.b ((k.tmod 11) == 2)]) (ρ' := [.i e, .i k, .f a1, .f a2, .f b1, .f b2, .i (k.tmod 11), .b ((k.tmod 11) == 0), .b ((k.tmod 11) == 1), .b ((k.tmod 11) == 2)]) rfl (rfl) rfl ?_
        refine T.hite (x := ((k.tmod 11) == 2)) rfl (fun c3 => ?_) (fun c3 => ?_)
        · skip
          refine T.hbind (us := [.i e, .f a1, .f a2, .f b1, .f b2]) (xs := [.f ((Dy.cMul e (a1, a2) (b1, b2)).1.1), .f ((Dy.cMul e (a1, a2) (b1, b2)).1.2), .i ((Dy.cMul e (a1, a2) (b1, b2)).2)]) (ρ' := [.i e, .i k, .f a1, .f a2, .f b1, .f b2, .i (k.tmod 11), .b ((k.tmod 11) == 0), .b ((k.tmod 11) == 1), .b ((k.tmod 11) == 2), .f ((Dy.cMul e (a1, a2) (b1, b2)).1.1), .f ((Dy.cMul e (a1, a2) (b1, b2)).1.2), .i ((Dy.cMul e (a1, a2) (b1, b2)).2)]) rfl (rfl) rfl ?_
          refine T.hdone ?_
          have e0 : opAsk (k) (e) (a1, a2) (b1, b2) = Dy.cMul e (a1, a2) (b1, b2) := by unfold opAsk; rw [c1, c2, c3]; rfl
          exact ⟨⟨(congrArg (fun r => some (calR r 0)) e0.symm), (congrArg (fun r => some (calR r 1)) e0.symm), trivial⟩, ⟨⟨⟨rfl, (congrArg (fun r => some (calR r 2)) e0.symm)⟩, trivial⟩, trivial⟩, rfl⟩
        · skip
          refine T.hbind (us := [.i (k.tmod 11), .i 3]) (xs := [.b ((k.tmod 11) == 3)]) (ρ' := [.i e, .i k, .f a1, .f a2, .f b1, .f b2, .i (k.tmod 11), .b ((k.tmod 11) == 0), .b ((k.tmod 11) == 1), .b ((k.tmod 11) == 2), .b ((k.tmod 11) == 3)]) rfl (rfl) rfl ?_
          refine T.hite (x := ((k.tmod 11) == 3)) rfl (fun c4 => ?_) (fun c4 => ?_)
          · skip
            refine T.hbind (us := [.i e, .f a1, .f a2, .f b1, .f b2]) (xs := [.f ((Dy.cDiv e (a1, a2) (b1, b2)).1.1), .f ((Dy.cDiv e (a1, a2) (b1, b2)).1.2), .i ((Dy.cDiv e (a1, a2) (b1, b2)).2)]) (ρ' := [.i e, .i k, .f a1, .f a2, .f b1, .f b2, .i (k.tmod 11), .b ((k.tmod 11) == 0), .b ((k.tmod 11) == 1), .b ((k.tmod 11) == 2), .b ((k.tmod 11) == 3), .f ((Dy.cDiv e (a1, a2) (b1, b2)).1.1), .f ((Dy.cDiv e (a1, a2) (b1, b2)).1.2), .i ((Dy.cDiv e (a1, a2) (b1, b2)).2)]) rfl (rfl) rfl ?_
            refine T.hdone ?_
            have e0 : opAsk (k) (e) (a1, a2) (b1, b2) = Dy.cDiv e (a1, a2) (b1, b2) := by unfold opAsk; rw [c1, c2, c3, c4]; rfl
            exact ⟨⟨(congrArg (fun r => some (calR r 0)) e0.symm), (congrArg (fun r => some (calR r 1)) e0.symm), trivial⟩, ⟨⟨⟨rfl, (congrArg (fun r => some (calR r 2)) e0.symm)⟩, trivial⟩, trivial⟩, rfl⟩
          · skip
            refine T.hbind (us := [.i (k.tmod 11), .i 4]) (xs := [.b ((k.tmod 11) == 4)]) (ρ' := [.i e, .i k, .f a1, .f a2, .f b1, .f b2, .i (k.tmod 11), .b ((k.tmod 11) == 0), .b ((k.tmod 11) == 1), .b ((k.tmod 11) == 2), .b ((k.tmod 11) == 3), .b ((k.tmod 11) == 4)]) rfl (rfl) rfl ?_
            refine T.hite (x := ((k.tmod 11) == 4)) rfl (fun c5 => ?_) (fun c5 => ?_)
            · skip
              refine T.hbind (us := [.i e, .f a1, .f a2, .f b1, .f b2]) (xs := [.f ((Dy.cMin (e) (a1, a2) (b1, b2)).1.1), .f ((Dy.cMin (e) (a1, a2) (b1, b2)).1.2), .i ((Dy.cMin (e) (a1, a2) (b1, b2)).2)]) (ρ' := [.i e, .i k, .f a1, .f a2, .f b1, .f b2, .i (k.tmod 11), .b ((k.tmod 11) == 0), .b ((k.tmod 11) == 1), .b ((k.tmod 11) == 2), .b ((k.tmod 11) == 3), .b ((k.tmod 11) == 4), .f ((Dy.cMin (e) (a1, a2) (b1, b2)).1.1), .f ((Dy.cMin (e) (a1, a2) (b1, b2)).1.2), .i ((Dy.cMin (e) (a1, a2) (b1, b2)).2)]) rfl (rfl) rfl ?_
              refine T.hneed (us := [.f a1, .f a2]) rfl (hN.1) ?_
              refine T.hneed (us := [.f b1, .f b2]) rfl (hN.2) ?_
              refine T.hdone ?_
              have e0 : opAsk (k) (e) (a1, a2) (b1, b2) = Dy.cMin e (a1, a2) (b1, b2) := by unfold opAsk; rw [c1, c2, c3, c4, c5]; rfl
              exact ⟨⟨(congrArg (fun r => some (calR r 0)) e0.symm), (congrArg (fun r => some (calR r 1)) e0.symm), trivial⟩, ⟨⟨⟨rfl, (congrArg (fun r => some (calR r 2)) e0.symm)⟩, trivial⟩, trivial⟩, rfl⟩
            · skip
              refine T.hbind (us := [.i (k.tmod 11), .i 5]) (xs := [.b ((k.tmod 11) == 5)]) (ρ' := [.i e, .i k, .f a1, .f a2, .f b1, .f b2, .i (k.tmod 11), .b ((k.tmod 11) == 0), .b ((k.tmod 11) == 1), .b ((k.tmod 11) == 2), .b ((k.tmod 11) == 3), .b ((k.tmod 11) == 4), .b ((k.tmod 11) == 5)]) rfl (rfl) rfl ?_
              refine T.hite (x := ((k.tmod 11) == 5)) rfl (fun c6 => ?_) (fun c6 => ?_)
              · skip
                refine T.hbind (us := [.i e, .f a1, .f a2, .f b1, .f b2]) (xs := [.f ((Dy.cMax (e) (a1, a2) (b1, b2)).1.1), .f ((Dy.cMax (e) (a1, a2) (b1, b2)).1.2), .i ((Dy.cMax (e) (a1, a2) (b1, b2)).2)]) (ρ' := [.i e, .i k, .f a1, .f a2, .f b1, .f b2, .i (k.tmod 11), .b ((k.tmod 11) == 0), .b ((k.tmod 11) == 1), .b ((k.tmod 11) == 2), .b ((k.tmod 11) == 3), .b ((k.tmod 11) == 4), .b ((k.tmod 11) == 5), .f ((Dy.cMax (e) (a1, a2) (b1, b2)).1.1), .f ((Dy.cMax (e) (a1, a2) (b1, b2)).1.2), .i ((Dy.cMax (e) (a1, a2) (b1, b2)).2)]) rfl (rfl) rfl ?_
                refine T.hneed (us := [.f a1, .f a2]) rfl (hN.1) ?_
                refine T.hneed (us := [.f b1, .f b2]) rfl (hN.2) ?_
                refine T.hdone ?_
                have e0 : opAsk (k) (e) (a1, a2) (b1, b2) = Dy.cMax e (a1, a2) (b1, b2) := by unfold opAsk; rw [c1, c2, c3, c4, c5, c6]; rfl
                exact ⟨⟨(congrArg (fun r => some (calR r 0)) e0.symm), (congrArg (fun r => some (calR r 1)) e0.symm), trivial⟩, ⟨⟨⟨rfl, (congrArg (fun r => some (calR r 2)) e0.symm)⟩, trivial⟩, trivial⟩, rfl⟩
              · skip
                refine T.hbind (us := [.i (k.tmod 11), .i 6]) (xs := [.b ((k.tmod 11) == 6)]) (ρ' := [.i e, .i k, .f a1, .f a2, .f b1, .f b2, .i (k.tmod 11), .b ((k.tmod 11) == 0), .b ((k.tmod 11) == 1), .b ((k.tmod 11) == 2), .b ((k.tmod 11) == 3), .b ((k.tmod 11) == 4), .b ((k.tmod 11) == 5), .b ((k.tmod 11) == 6)]) rfl (rfl) rfl ?_
                refine T.hite (x := ((k.tmod 11) == 6)) rfl (fun c7 => ?_) (fun c7 => ?_)
                · skip
                  refine T.hbind (us := [.i e, .f a1, .f a2]) (xs := [.f ((Dy.cSqr e (a1, a2)).1.1), .f ((Dy.cSqr e (a1, a2)).1.2), .i ((Dy.cSqr e (a1, a2)).2)]) (ρ' := [.i e, .i k, .f a1, .f a2, .f b1, .f b2, .i (k.tmod 11), .b ((k.tmod 11) == 0), .b ((k.tmod 11) == 1), .b ((k.tmod 11) == 2), .b ((k.tmod 11) == 3), .b ((k.tmod 11) == 4), .b ((k.tmod 11) == 5), .b ((k.tmod 11) == 6), .f ((Dy.cSqr e (a1, a2)).1.1), .f ((Dy.cSqr e (a1, a2)).1.2), .i ((Dy.cSqr e (a1, a2)).2)]) rfl (rfl) rfl ?_
                  refine T.hdone ?_
                  have e0 : opAsk (k) (e) (a1, a2) (b1, b2) = Dy.cSqr e (a1, a2) := by unfold opAsk; rw [c1, c2, c3, c4, c5, c6, c7]; rfl
                  exact ⟨⟨(congrArg (fun r => some (calR r 0)) e0.symm), (congrArg (fun r => some (calR r 1)) e0.symm), trivial⟩, ⟨⟨⟨rfl, (congrArg (fun r => some (calR r 2)) e0.symm)⟩, trivial⟩, trivial⟩, rfl⟩
                · skip
                  refine T.hbind (us := [.i (k.tmod 11), .i 7]) (xs := [.b ((k.tmod 11) == 7)]) (ρ' := [.i e, .i k, .f a1, .f a2, .f b1, .f b2, .i (k.tmod 11), .b ((k.tmod 11) == 0), .b ((k.tmod 11) == 1), .b ((k.tmod 11) == 2), .b ((k.tmod 11) == 3), .b ((k.tmod 11) == 4), .b ((k.tmod 11) == 5), .b ((k.tmod 11) == 6), .b ((k.tmod 11) == 7)]) rfl (rfl) rfl ?_
                  refine T.hite (x := ((k.tmod 11) == 7)) rfl (fun c8 => ?_) (fun c8 => ?_)
                  · skip
                    refine T.hbind (us := [.i e, .f a1, .f a2]) (xs := [.f ((Dy.cSqrt e (a1, a2)).1.1), .f ((Dy.cSqrt e (a1, a2)).1.2), .i ((Dy.cSqrt e (a1, a2)).2)]) (ρ' := [.i e, .i k, .f a1, .f a2, .f b1, .f b2, .i (k.tmod 11), .b ((k.tmod 11) == 0), .b ((k.tmod 11) == 1), .b ((k.tmod 11) == 2), .b ((k.tmod 11) == 3), .b ((k.tmod 11) == 4), .b ((k.tmod 11) == 5), .b ((k.tmod 11) == 6), .b ((k.tmod 11) == 7), .f ((Dy.cSqrt e (a1, a2)).1.1), .f ((Dy.cSqrt e (a1, a2)).1.2), .i ((Dy.cSqrt e (a1, a2)).2)]) rfl (rfl) rfl ?_
                    refine T.hdone ?_
                    have e0 : opAsk (k) (e) (a1, a2) (b1, b2) = Dy.cSqrt e (a1, a2) := by unfold opAsk; rw [c1, c2, c3, c4, c5, c6, c7, c8]; rfl
                    exact ⟨⟨(congrArg (fun r => some (calR r 0)) e0.symm), (congrArg (fun r => some (calR r 1)) e0.symm), trivial⟩, ⟨⟨⟨rfl, (congrArg (fun r => some (calR r 2)) e0.symm)⟩, trivial⟩, trivial⟩, rfl⟩
                  · skip
                    refine T.hbind (us := [.i (k.tmod 11), .i 8]) (xs := [.b ((k.tmod 11) == 8)]) (ρ' := [.i e, .i k, .f a1, .f a2, .f b1, .f b2, .i (k.tmod 11), .b ((k.tmod 11) == 0), .b ((k.tmod 11) == 1), .b ((k.tmod 11) == 2), .b ((k.tmod 11) == 3), .b ((k.tmod 11) == 4), .b ((k.tmod 11) == 5), .b ((k.tmod 11) == 6), .b ((k.tmod 11) == 7), .b ((k.tmod 11) == 8)]) rfl (rfl) rfl ?_
                    refine T.hite (x := ((k.tmod 11) == 8)) rfl (fun c9 => ?_) (fun c9 => ?_)
                    · skip
                      refine T.hbind (us := [.i e, .f a1, .f a2]) (xs := [.f ((Dy.cNeg (e) (a1, a2)).1.1), .f ((Dy.cNeg (e) (a1, a2)).1.2), .i ((Dy.cNeg (e) (a1, a2)).2)]) (ρ' := [.i e, .i k, .f a1, .f a2, .f b1, .f b2, .i (k.tmod 11), .b ((k.tmod 11) == 0), .b ((k.tmod 11) == 1), .b ((k.tmod 11) == 2), .b ((k.tmod 11) == 3), .b ((k.tmod 11) == 4), .b ((k.tmod 11) == 5), .b ((k.tmod 11) == 6), .b ((k.tmod 11) == 7), .b ((k.tmod 11) == 8), .f ((Dy.cNeg (e) (a1, a2)).1.1), .f ((Dy.cNeg (e) (a1, a2)).1.2), .i ((Dy.cNeg (e) (a1, a2)).2)]) rfl (rfl) rfl ?_
                      refine T.hneed (us := [.f a1, .f a2]) rfl (hN.1) ?_
                      refine T.hdone ?_
                      have e0 : opAsk (k) (e) (a1, a2) (b1, b2) = Dy.cNeg e (a1, a2) := by unfold opAsk; rw [c1, c2, c3, c4, c5, c6, c7, c8, c9]; rfl
                      exact ⟨⟨(congrArg (fun r => some (calR r 0)) e0.symm), (congrArg (fun r => some (calR r 1)) e0.symm), trivial⟩, ⟨⟨⟨rfl, (congrArg (fun r => some (calR r 2)) e0.symm)⟩, trivial⟩, trivial⟩, rfl⟩
                    · skip
                      refine T.hbind (us := [.i (k.tmod 11), .i 9]) (xs := [.b ((k.tmod 11) == 9)]) (ρ' := [.i e, .i k, .f a1, .f a2, .f b1, .f b2, .i (k.tmod 11), .b ((k.tmod 11) == 0), .b ((k.tmod 11) == 1), .b ((k.tmod 11) == 2), .b ((k.tmod 11) == 3), .b ((k.tmod 11) == 4), .b ((k.tmod 11) == 5), .b ((k.tmod 11) == 6), .b ((k.tmod 11) == 7), .b ((k.tmod 11) == 8), .b ((k.tmod 11) == 9)]) rfl (rfl) rfl ?_
                      refine T.hite (x := ((k.tmod 11) == 9)) rfl (fun c10 => ?_) (fun c10 => ?_)
                      · skip
                        refine T.hbind (us := [.i e, .f a1, .f a2]) (xs := [.f ((Dy.cAbs (e) (a1, a2)).1.1), .f ((Dy.cAbs (e) (a1, a2)).1.2), .i ((Dy.cAbs (e) (a1, a2)).2)]) (ρ' := [.i e, .i k, .f a1, .f a2, .f b1, .f b2, .i (k.tmod 11), .b ((k.tmod 11) == 0), .b ((k.tmod 11) == 1), .b ((k.tmod 11) == 2), .b ((k.tmod 11) == 3), .b ((k.tmod 11) == 4), .b ((k.tmod 11) == 5), .b ((k.tmod 11) == 6), .b ((k.tmod 11) == 7), .b ((k.tmod 11) == 8), .b ((k.tmod 11) == 9), .f ((Dy.cAbs (e) (a1, a2)).1.1), .f ((Dy.cAbs (e) (a1, a2)).1.2), .i ((Dy.cAbs (e) (a1, a2)).2)]) rfl (rfl) rfl ?_
                        refine T.hneed (us := [.f a1, .f a2]) rfl (hN.1) ?_
                        refine T.hdone ?_
                        have e0 : opAsk (k) (e) (a1, a2) (b1, b2) = Dy.cAbs e (a1, a2) := by unfold opAsk; rw [c1, c2, c3, c4, c5, c6, c7, c8, c9, c10]; rfl
                        exact ⟨⟨(congrArg (fun r => some (calR r 0)) e0.symm), (congrArg (fun r => some (calR r 1)) e0.symm), trivial⟩, ⟨⟨⟨rfl, (congrArg (fun r => some (calR r 2)) e0.symm)⟩, trivial⟩, trivial⟩, rfl⟩
                      · skip
                        refine T.hbind (us := [.i e, .f a1]) (xs := [.f ((Dy.cNum e a1).1.1), .f ((Dy.cNum e a1).1.2), .i ((Dy.cNum e a1).2)]) (ρ' := [.i e, .i k, .f a1, .f a2, .f b1, .f b2, .i (k.tmod 11), .b ((k.tmod 11) == 0), .b ((k.tmod 11) == 1), .b ((k.tmod 11) == 2), .b ((k.tmod 11) == 3), .b ((k.tmod 11) == 4), .b ((k.tmod 11) == 5), .b ((k.tmod 11) == 6), .b ((k.tmod 11) == 7), .b ((k.tmod 11) == 8), .b ((k.tmod 11) == 9), .f ((Dy.cNum e a1).1.1), .f ((Dy.cNum e a1).1.2), .i ((Dy.cNum e a1).2)]) rfl (rfl) rfl ?_
                        refine T.hdone ?_
                        have e0 : opAsk (k) (e) (a1, a2) (b1, b2) = Dy.cNum e a1 := by unfold opAsk; rw [c1, c2, c3, c4, c5, c6, c7, c8, c9, c10]; rfl
                        exact ⟨⟨(congrArg (fun r => some (calR r 0)) e0.symm), (congrArg (fun r => some (calR r 1)) e0.symm), trivial⟩, ⟨⟨⟨rfl, (congrArg (fun r => some (calR r 2)) e0.symm)⟩, trivial⟩, trivial⟩, rfl⟩

def o1 : List (Nat × Ct) := (10, ctAsked) :: o0
theorem o1_ok : AllOk Try.prog o1 := ⟨ctAsked_ok, o0_ok⟩

/-- A number of an interval, by parts of 2^16. -/
def prt (k : Int) : Nat := (Ieee.double.div (FloatKind.f64.nearest k) 4679240012837945344).getD 0
def btwB (l h : Nat) (k : Int) : Nat :=
  bif k == 0 then l else bif k == 65535 then h else bif IntKind.i64.wrap (IntKind.i64.wrap ((Dy.dSub h l false).2 + (Dy.dMul (Dy.dSub h l false).1 (prt k) false).2) + (Dy.dAdd l (Dy.dMul (Dy.dSub h l false).1 (prt k) false).1 false).2) != 0 then h else
  bif !Dy.ivHas (l, h) (Dy.dAdd l (Dy.dMul (Dy.dSub h l false).1 (prt k) false).1 false).1 then h else (Dy.dAdd l (Dy.dMul (Dy.dSub h l false).1 (prt k) false).1 false).1
def fRes (x : Nat) (_ : Nat) : U := .f x
def nPrt (us : List U) : Bool := decide (FloatKind.f64.nearest (gI us 0) < W64) && okF (Ieee.double.div (FloatKind.f64.nearest (gI us 0)) 4679240012837945344)
def ctBtw : Ct := ⟨3, [], [vp 0 1, vi .u16 2], { binds := [⟨fun us i => fRes (btwB (gF us 0) (gF us 1) (gI us 2)) i, 1, upto 0 3⟩], needs := [⟨nPrt, [.v 2]⟩], val := vf 3, upd := [] }⟩
set_option maxRecDepth 100000 in
set_option maxHeartbeats 4000000 in
theorem ctBtw_ok : CtOk Try.prog 13 ctBtw := by
  refine CtOk.of_eval2 o1_ok (dr_ok o1_ok) Try.func13 rfl (by decide) [] 200 (by kernel_rfl) rfl (.bind ⟨fun us _ => jB (fun a b => a == b) us, 1, [(.v 2), (.l (.i 0))]⟩ (.ite (.v 3) (.done .ret ⟨[.fl (.v 0)], [], 4, []⟩) (.bind ⟨fOp2 Dy.dSub, 2, [(.v 1), (.v 0), (.l (.b false))]⟩ (.bind ⟨fun us _ => nF us, 1, [(.v 2)]⟩ (.need ⟨nN, [(.v 2)]⟩ (.bind ⟨fun us _ => fB Ieee.double.div us, 1, [(.v 6), (.l (.f 4679240012837945344))]⟩ (.need ⟨fN Ieee.double.div, [(.v 6), (.l (.f 4679240012837945344))]⟩ (.bind ⟨fOp2 Dy.dMul, 2, [(.v 4), (.v 7), (.l (.b false))]⟩ (.bind ⟨fOp2 Dy.dAdd, 2, [(.v 0), (.v 8), (.l (.b false))]⟩ (.bind ⟨fun us _ => jB (fun a b => a == b) us, 1, [(.v 2), (.l (.i 65535))]⟩ (.ite (.v 12) (.done .ret ⟨[.fl (.v 1)], [], 13, []⟩) (.bind ⟨fun us _ => iB (fun a b => IntKind.i64.wrap (a + b)) us, 1, [(.v 5), (.v 9)]⟩ (.bind ⟨fun us _ => iB (fun a b => IntKind.i64.wrap (a + b)) us, 1, [(.v 13), (.v 11)]⟩ (.bind ⟨fun us _ => jB (fun a b => a != b) us, 1, [(.v 14), (.l (.i 0))]⟩ (.ite (.v 15) (.done .ret ⟨[.fl (.v 1)], [], 16, []⟩) (.bind ⟨fun us _ => .b (Dy.ivHas (gF us 0, gF us 1) (gF us 2)), 1, [(.v 0), (.v 1), (.v 10)]⟩ (.bind ⟨fun us _ => nB us, 1, [(.v 16)]⟩ (.ite (.v 17) (.done .ret ⟨[.fl (.v 1)], [], 18, []⟩) (.done .ret ⟨[.fl (.v 10)], [], 18, []⟩))))))))))))))))))) (by kernel_rfl) (by kernel_rfl) (by kernel_rfl) (fun us hl hF hB hN => ?_)
  match us, hl with
  | [u0, u1, u2], _ =>
    simp [FactsB, FactsL, Facts, ctBtw] at hF hB
    simp [NeedsAt, runB, evs, E.ev, upto, resl, List.range, List.range.loop, ctBtw] at hN
    obtain ⟨⟨⟨a1, rfl, w1⟩, ⟨a2, rfl, w2⟩⟩, ⟨k, rfl⟩⟩ := hF
    simp [nPrt, gI, U.I] at hN
    refine T.HH.h ?_
    refine T.hbind (us := [.i k, .i 0]) (xs := [.b (k == 0)]) (ρ' := [.f a1, .f a2, .i k, .b (k == 0)]) rfl (rfl) rfl ?_
    refine T.hite (x := (k == 0)) rfl (fun c1 => ?_) (fun c1 => ?_)
    · skip
      refine T.hdone ?_
      have e0 : btwB (a1) (a2) (k) = a1 := by unfold btwB; rw [c1]; rfl
      exact ⟨(congrArg (fun r => some (fRes r 0)) e0.symm), trivial, rfl⟩
    · skip
      refine T.hbind (us := [.f a2, .f a1, .b false]) (xs := [.f ((Dy.dSub a2 a1 false).1), .i ((Dy.dSub a2 a1 false).2)]) (ρ' := [.f a1, .f a2, .i k, .b (k == 0), .f ((Dy.dSub a2 a1 false).1), .i ((Dy.dSub a2 a1 false).2)]) rfl (rfl) rfl ?_
      refine T.hbind (us := [.i k]) (xs := [.f (FloatKind.f64.nearest k)]) (ρ' := [.f a1, .f a2, .i k, .b (k == 0), .f ((Dy.dSub a2 a1 false).1), .i ((Dy.dSub a2 a1 false).2), .f (FloatKind.f64.nearest k)]) rfl (rfl) rfl ?_
      refine T.hneed (us := [.i k]) rfl (decide_eq_true hN.1) ?_
      refine T.hbind (us := [.f (FloatKind.f64.nearest k), .f 4679240012837945344]) (xs := [.f (prt k)]) (ρ' := [.f a1, .f a2, .i k, .b (k == 0), .f ((Dy.dSub a2 a1 false).1), .i ((Dy.dSub a2 a1 false).2), .f (FloatKind.f64.nearest k), .f (prt k)]) rfl (rfl) rfl ?_
      refine T.hneed (us := [.f (FloatKind.f64.nearest k), .f 4679240012837945344]) rfl (hN.2) ?_
      refine T.hbind (us := [.f ((Dy.dSub a2 a1 false).1), .f (prt k), .b false]) (xs := [.f ((Dy.dMul ((Dy.dSub a2 a1 false).1) (prt k) false).1), .i ((Dy.dMul ((Dy.dSub a2 a1 false).1) (prt k) false).2)]) (ρ' := [.f a1, .f a2, .i k, .b (k == 0), .f ((Dy.dSub a2 a1 false).1), .i ((Dy.dSub a2 a1 false).2), .f (FloatKind.f64.nearest k), .f (prt k), .f ((Dy.dMul ((Dy.dSub a2 a1 false).1) (prt k) false).1), .i ((Dy.dMul ((Dy.dSub a2 a1 false).1) (prt k) false).2)]) rfl (rfl) rfl ?_
      refine T.hbind (us := [.f a1, .f ((Dy.dMul ((Dy.dSub a2 a1 false).1) (prt k) false).1), .b false]) (xs := [.f ((Dy.dAdd a1 ((Dy.dMul ((Dy.dSub a2 a1 false).1) (prt k) false).1) false).1), .i ((Dy.dAdd a1 ((Dy.dMul ((Dy.dSub a2 a1 false).1) (prt k) false).1) false).2)]) (ρ' := [.f a1, .f a2, .i k, .b (k == 0), .f ((Dy.dSub a2 a1 false).1), .i ((Dy.dSub a2 a1 false).2), .f (FloatKind.f64.nearest k), .f (prt k), .f ((Dy.dMul ((Dy.dSub a2 a1 false).1) (prt k) false).1), .i ((Dy.dMul ((Dy.dSub a2 a1 false).1) (prt k) false).2), .f ((Dy.dAdd a1 ((Dy.dMul ((Dy.dSub a2 a1 false).1) (prt k) false).1) false).1), .i ((Dy.dAdd a1 ((Dy.dMul ((Dy.dSub a2 a1 false).1) (prt k) false).1) false).2)]) rfl (rfl) rfl ?_
      refine T.hbind (us := [.i k, .i 65535]) (xs := [.b (k == 65535)]) (ρ' := [.f a1, .f a2, .i k, .b (k == 0), .f ((Dy.dSub a2 a1 false).1), .i ((Dy.dSub a2 a1 false).2), .f (FloatKind.f64.nearest k), .f (prt k), .f ((Dy.dMul ((Dy.dSub a2 a1 false).1) (prt k) false).1), .i ((Dy.dMul ((Dy.dSub a2 a1 false).1) (prt k) false).2), .f ((Dy.dAdd a1 ((Dy.dMul ((Dy.dSub a2 a1 false).1) (prt k) false).1) false).1), .i ((Dy.dAdd a1 ((Dy.dMul ((Dy.dSub a2 a1 false).1) (prt k) false).1) false).2), .b (k == 65535)]) rfl (rfl) rfl ?_
      refine T.hite (x := (k == 65535)) rfl (fun c2 => ?_) (fun c2 => ?_)
      · skip
        refine T.hdone ?_
        have e0 : btwB (a1) (a2) (k) = a2 := by unfold btwB; rw [c1, c2]; rfl
        exact ⟨(congrArg (fun r => some (fRes r 0)) e0.symm), trivial, rfl⟩
      · skip
        refine T.hbind (us := [.i ((Dy.dSub a2 a1 false).2), .i ((Dy.dMul ((Dy.dSub a2 a1 false).1) (prt k) false).2)]) (xs := [.i (IntKind.i64.wrap (((Dy.dSub a2 a1 false).2) + ((Dy.dMul ((Dy.dSub a2 a1 false).1) (prt k) false).2)))]) (ρ' := [.f a1, .f a2, .i k, .b (k == 0), .f ((Dy.dSub a2 a1 false).1), .i ((Dy.dSub a2 a1 false).2), .f (FloatKind.f64.nearest k), .f (prt k), .f ((Dy.dMul ((Dy.dSub a2 a1 false).1) (prt k) false).1), .i ((Dy.dMul ((Dy.dSub a2 a1 false).1) (prt k) false).2), .f ((Dy.dAdd a1 ((Dy.dMul ((Dy.dSub a2 a1 false).1) (prt k) false).1) false).1), .i ((Dy.dAdd a1 ((Dy.dMul ((Dy.dSub a2 a1 false).1) (prt k) false).1) false).2), .b (k == 65535), .i (IntKind.i64.wrap (((Dy.dSub a2 a1 false).2) + ((Dy.dMul ((Dy.dSub a2 a1 false).1) (prt k) false).2)))]) rfl (rfl) rfl ?_
        refine T.hbind (us := [.i (IntKind.i64.wrap (((Dy.dSub a2 a1 false).2) + ((Dy.dMul ((Dy.dSub a2 a1 false).1) (prt k) false).2))), .i ((Dy.dAdd a1 ((Dy.dMul ((Dy.dSub a2 a1 false).1) (prt k) false).1) false).2)]) (xs := [.i (IntKind.i64.wrap ((IntKind.i64.wrap (((Dy.dSub a2 a1 false).2) + ((Dy.dMul ((Dy.dSub a2 a1 false).1) (prt k) false).2))) + ((Dy.dAdd a1 ((Dy.dMul ((Dy.dSub a2 a1 false).1) (prt k) false).1) false).2)))]) (ρ' := [.f a1, .f a2, .i k, .b (k == 0), .f ((Dy.dSub a2 a1 false).1), .i ((Dy.dSub a2 a1 false).2), .f (FloatKind.f64.nearest k), .f (prt k), .f ((Dy.dMul ((Dy.dSub a2 a1 false).1) (prt k) false).1), .i ((Dy.dMul ((Dy.dSub a2 a1 false).1) (prt k) false).2), .f ((Dy.dAdd a1 ((Dy.dMul ((Dy.dSub a2 a1 false).1) (prt k) false).1) false).1), .i ((Dy.dAdd a1 ((Dy.dMul ((Dy.dSub a2 a1 false).1) (prt k) false).1) false).2), .b (k == 65535), .i (IntKind.i64.wrap (((Dy.dSub a2 a1 false).2) + ((Dy.dMul ((Dy.dSub a2 a1 false).1) (prt k) false).2))), .i (IntKind.i64.wrap ((IntKind.i64.wrap (((Dy.dSub a2 a1 false).2) + ((Dy.dMul ((Dy.dSub a2 a1 false).1) (prt k) false).2))) + ((Dy.dAdd a1 ((Dy.dMul ((Dy.dSub a2 a1 false).1) (prt k) false).1) false).2)))]) rfl (rfl) rfl ?_
        refine T.hbind (us := [.i (IntKind.i64.wrap ((IntKind.i64.wrap (((Dy.dSub a2 a1 false).2) + ((Dy.dMul ((Dy.dSub a2 a1 false).1) (prt k) false).2))) + ((Dy.dAdd a1 ((Dy.dMul ((Dy.dSub a2 a1 false).1) (prt k) false).1) false).2))), .i 0]) (xs := [.b ((IntKind.i64.wrap ((IntKind.i64.wrap (((Dy.dSub a2 a1 false).2) + ((Dy.dMul ((Dy.dSub a2 a1 false).1) (prt k) false).2))) + ((Dy.dAdd a1 ((Dy.dMul ((Dy.dSub a2 a1 false).1) (prt k) false).1) false).2))) != 0)]) (ρ' := [.f a1, .f a2, .i k, .b (k == 0), .f ((Dy.dSub a2 a1 false).1), .i ((Dy.dSub a2 a1 false).2), .f (FloatKind.f64.nearest k), .f (prt k), .f ((Dy.dMul ((Dy.dSub a2 a1 false).1) (prt k) false).1), .i ((Dy.dMul ((Dy.dSub a2 a1 false).1) (prt k) false).2), .f ((Dy.dAdd a1 ((Dy.dMul ((Dy.dSub a2 a1 false).1) (prt k) false).1) false).1), .i ((Dy.dAdd a1 ((Dy.dMul ((Dy.dSub a2 a1 false).1) (prt k) false).1) false).2), .b (k == 65535), .i (IntKind.i64.wrap (((Dy.dSub a2 a1 false).2) + ((Dy.dMul ((Dy.dSub a2 a1 false).1) (prt k) false).2))), .i (IntKind.i64.wrap ((IntKind.i64.wrap (((Dy.dSub a2 a1 false).2) + ((Dy.dMul ((Dy.dSub a2 a1 false).1) (prt k) false).2))) + ((Dy.dAdd a1 ((Dy.dMul ((Dy.dSub a2 a1 false).1) (prt k) false).1) false).2))), .b ((IntKind.i64.wrap ((IntKind.i64.wrap (((Dy.dSub a2 a1 false).2) + ((Dy.dMul ((Dy.dSub a2 a1 false).1) (prt k) false).2))) + ((Dy.dAdd a1 ((Dy.dMul ((Dy.dSub a2 a1 false).1) (prt k) false).1) false).2))) != 0)]) rfl (rfl) rfl ?_
        refine T.hite (x := ((IntKind.i64.wrap ((IntKind.i64.wrap (((Dy.dSub a2 a1 false).2) + ((Dy.dMul ((Dy.dSub a2 a1 false).1) (prt k) false).2))) + ((Dy.dAdd a1 ((Dy.dMul ((Dy.dSub a2 a1 false).1) (prt k) false).1) false).2))) != 0)) rfl (fun c3 => ?_) (fun c3 => ?_)
        · skip
          refine T.hdone ?_
          have e0 : btwB (a1) (a2) (k) = a2 := by unfold btwB; rw [c1, c2, c3]; rfl
          exact ⟨(congrArg (fun r => some (fRes r 0)) e0.symm), trivial, rfl⟩
        · skip
          refine T.hbind (us := [.f a1, .f a2, .f ((Dy.dAdd a1 ((Dy.dMul ((Dy.dSub a2 a1 false).1) (prt k) false).1) false).1)]) (xs := [.b (Dy.ivHas (a1, a2) (((Dy.dAdd a1 ((Dy.dMul ((Dy.dSub a2 a1 false).1) (prt k) false).1) false).1)))]) (ρ' := [.f a1, .f a2, .i k, .b (k == 0), .f ((Dy.dSub a2 a1 false).1), .i ((Dy.dSub a2 a1 false).2), .f (FloatKind.f64.nearest k), .f (prt k), .f ((Dy.dMul ((Dy.dSub a2 a1 false).1) (prt k) false).1), .i ((Dy.dMul ((Dy.dSub a2 a1 false).1) (prt k) false).2), .f ((Dy.dAdd a1 ((Dy.dMul ((Dy.dSub a2 a1 false).1) (prt k) false).1) false).1), .i ((Dy.dAdd a1 ((Dy.dMul ((Dy.dSub a2 a1 false).1) (prt k) false).1) false).2), .b (k == 65535), .i (IntKind.i64.wrap (((Dy.dSub a2 a1 false).2) + ((Dy.dMul ((Dy.dSub a2 a1 false).1) (prt k) false).2))), .i (IntKind.i64.wrap ((IntKind.i64.wrap (((Dy.dSub a2 a1 false).2) + ((Dy.dMul ((Dy.dSub a2 a1 false).1) (prt k) false).2))) + ((Dy.dAdd a1 ((Dy.dMul ((Dy.dSub a2 a1 false).1) (prt k) false).1) false).2))), .b ((IntKind.i64.wrap ((IntKind.i64.wrap (((Dy.dSub a2 a1 false).2) + ((Dy.dMul ((Dy.dSub a2 a1 false).1) (prt k) false).2))) + ((Dy.dAdd a1 ((Dy.dMul ((Dy.dSub a2 a1 false).1) (prt k) false).1) false).2))) != 0), .b (Dy.ivHas (a1, a2) (((Dy.dAdd a1 ((Dy.dMul ((Dy.dSub a2 a1 false).1) (prt k) false).1) false).1)))]) rfl (rfl) rfl ?_
          refine T.hbind (us := [.b (Dy.ivHas (a1, a2) (((Dy.dAdd a1 ((Dy.dMul ((Dy.dSub a2 a1 false).1) (prt k) false).1) false).1)))]) (xs := [.b (!(Dy.ivHas (a1, a2) (((Dy.dAdd a1 ((Dy.dMul ((Dy.dSub a2 a1 false).1) (prt k) false).1) false).1))))]) (ρ' := [.f a1, .f a2, .i k, .b (k == 0), .f ((Dy.dSub a2 a1 false).1), .i ((Dy.dSub a2 a1 false).2), .f (FloatKind.f64.nearest k), .f (prt k), .f ((Dy.dMul ((Dy.dSub a2 a1 false).1) (prt k) false).1), .i ((Dy.dMul ((Dy.dSub a2 a1 false).1) (prt k) false).2), .f ((Dy.dAdd a1 ((Dy.dMul ((Dy.dSub a2 a1 false).1) (prt k) false).1) false).1), .i ((Dy.dAdd a1 ((Dy.dMul ((Dy.dSub a2 a1 false).1) (prt k) false).1) false).2), .b (k == 65535), .i (IntKind.i64.wrap (((Dy.dSub a2 a1 false).2) + ((Dy.dMul ((Dy.dSub a2 a1 false).1) (prt k) false).2))), .i (IntKind.i64.wrap ((IntKind.i64.wrap (((Dy.dSub a2 a1 false).2) + ((Dy.dMul ((Dy.dSub a2 a1 false).1) (prt k) false).2))) + ((Dy.dAdd a1 ((Dy.dMul ((Dy.dSub a2 a1 false).1) (prt k) false).1) false).2))), .b ((IntKind.i64.wrap ((IntKind.i64.wrap (((Dy.dSub a2 a1 false).2) + ((Dy.dMul ((Dy.dSub a2 a1 false).1) (prt k) false).2))) + ((Dy.dAdd a1 ((Dy.dMul ((Dy.dSub a2 a1 false).1) (prt k) false).1) false).2))) != 0), .b (Dy.ivHas (a1, a2) (((Dy.dAdd a1 ((Dy.dMul ((Dy.dSub a2 a1 false).1) (prt k) false).1) false).1))), .b (!(Dy.ivHas (a1, a2) (((Dy.dAdd a1 ((Dy.dMul ((Dy.dSub a2 a1 false).1) (prt k) false).1) false).1))))]) rfl (rfl) rfl ?_
          refine T.hite (x := (!(Dy.ivHas (a1, a2) (((Dy.dAdd a1 ((Dy.dMul ((Dy.dSub a2 a1 false).1) (prt k) false).1) false).1))))) rfl (fun c4 => ?_) (fun c4 => ?_)
          · skip
            refine T.hdone ?_
            have e0 : btwB (a1) (a2) (k) = a2 := by unfold btwB; rw [c1, c2, c3, c4]; rfl
            exact ⟨(congrArg (fun r => some (fRes r 0)) e0.symm), trivial, rfl⟩
          · skip
            refine T.hdone ?_
            have e0 : btwB (a1) (a2) (k) = (Dy.dAdd a1 (Dy.dMul (Dy.dSub a2 a1 false).1 (prt k) false).1 false).1 := by unfold btwB; rw [c1, c2, c3, c4]; rfl
            exact ⟨(congrArg (fun r => some (fRes r 0)) e0.symm), trivial, rfl⟩

def o2 : List (Nat × Ct) := (13, ctBtw) :: o1
theorem o2_ok : AllOk Try.prog o2 := ⟨ctBtw_ok, o1_ok⟩

def o3 : List (Nat × Ct) := o2
theorem o3_ok : AllOk Try.prog o3 := o2_ok
end Go.Proofs.Ytiphdhpacklboaa
