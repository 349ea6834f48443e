/- vec.Unit of what is no number; the law VecUnit there. -/
import Derived.Test.YtiphdhpacklboaaDk
namespace Go.Proofs.Ytiphdhpacklboaa
open Go Go.RowKit
set_option linter.unusedSimpArgs false
set_option linter.unusedVariables false

def vb0 : List (Nat × Ct) := dk0
theorem vb0_ok : AllOk Try.prog vb0 := dk0_ok
/-- Is one of three no number? -/
def nBad3 (us : List U) : Bool := !(Dy.right (gF us 0) && (Dy.right (gF us 1) && Dy.right (gF us 2)))
def ctUnitBad : Ct := ⟨3, [], [.agg [vf 0, vf 1, vf 2]], { binds := [], needs := [⟨nBad3, upto 0 3⟩], val := .tup [.agg [.fl (.l (.f 0)), .fl (.l (.f 0)), .fl (.l (.f 0)), .fl (.l (.f 0)), .fl (.l (.f 0)), .fl (.l (.f 0))], .it .i64 (.l (.i 50))], upd := [] }⟩
set_option maxRecDepth 100000 in
set_option maxHeartbeats 4000000 in
theorem ctUnitBad_ok : CtOk Try.prog 15 ctUnitBad := by
  refine CtOk.of_eval2G vb0_ok (dr_ok vb0_ok) Try.func15 rfl (by decide) [] 200 (by kernel_rfl) rfl (.both .stop (.both .stop (.t .stop))) (.bind ⟨fun us _ => .f (Dy.abs (gF us 0)), 1, [(.v 0)]⟩ (.bind ⟨fun us _ => .f (Dy.abs (gF us 0)), 1, [(.v 1)]⟩ (.bind ⟨fun us _ => .f (Dy.abs (gF us 0)), 1, [(.v 2)]⟩ (.pick (.bind ⟨fun us _ => .b (Dy.right (gF us 0)), 1, [(.v 0)]⟩ (.bind ⟨fun us _ => nB us, 1, [(.v 7)]⟩ (.ite (.v 8) (.done .ret ⟨[.tup [.agg [.fl (.l (.f 0)), .fl (.l (.f 0)), .fl (.l (.f 0)), .fl (.l (.f 0)), .fl (.l (.f 0)), .fl (.l (.f 0))], .it .i64 (.l (.i 50))]], [], 9, []⟩) (.bind ⟨fun us _ => .b (Dy.right (gF us 0)), 1, [(.v 1)]⟩ (.bind ⟨fun us _ => nB us, 1, [(.v 9)]⟩ (.ite (.v 10) (.done .ret ⟨[.tup [.agg [.fl (.l (.f 0)), .fl (.l (.f 0)), .fl (.l (.f 0)), .fl (.l (.f 0)), .fl (.l (.f 0)), .fl (.l (.f 0))], .it .i64 (.l (.i 50))]], [], 11, []⟩) (.bind ⟨fun us _ => .b (Dy.right (gF us 0)), 1, [(.v 2)]⟩ (.bind ⟨fun us _ => nB us, 1, [(.v 11)]⟩ (.need ⟨pT, [(.v 12)]⟩ (.done .ret ⟨[.tup [.agg [.fl (.l (.f 0)), .fl (.l (.f 0)), .fl (.l (.f 0)), .fl (.l (.f 0)), .fl (.l (.f 0)), .fl (.l (.f 0))], .it .i64 (.l (.i 50))]], [], 13, []⟩)))))))))))))) (by kernel_rfl) (by kernel_rfl) (by kernel_rfl) (fun us hl hF hB hN => ?_)
  match us, hl with
  | [u0, u1, u2], _ =>
    simp [FactsB, FactsL, Facts, ctUnitBad] at hF hB
    simp [NeedsAt, runB, evs, E.ev, upto, resl, List.range, List.range.loop, ctUnitBad] at hN
    obtain ⟨⟨a1, rfl, w1⟩, ⟨a2, rfl, w2⟩, ⟨a3, rfl, w3⟩⟩ := hF
    simp [nBad3, gF, U.F] at hN
    obtain ⟨t0, h0⟩ : ∃ t0, ((Dy.abs (a1))) = t0 := ⟨_, rfl⟩
    obtain ⟨t1, h1⟩ : ∃ t1, ((Dy.abs (a2))) = t1 := ⟨_, rfl⟩
    obtain ⟨t2, h2⟩ : ∃ t2, ((Dy.abs (a3))) = t2 := ⟨_, rfl⟩
    obtain ⟨t4, h3⟩ : ∃ t4, ((Dy.right (a1))) = t4 := ⟨_, rfl⟩
    obtain ⟨t5, h4⟩ : ∃ t5, (!t4) = t5 := ⟨_, rfl⟩
    obtain ⟨t6, h5⟩ : ∃ t6, ((Dy.right (a2))) = t6 := ⟨_, rfl⟩
    obtain ⟨t7, h6⟩ : ∃ t7, (!t6) = t7 := ⟨_, rfl⟩
    obtain ⟨t8, h7⟩ : ∃ t8, ((Dy.right (a3))) = t8 := ⟨_, rfl⟩
    have h8 : t5 = false → t7 = false → (!t8) = true := by intro c0 c1; simp_all
    refine T.HH.h ?_
    refine T.hbind (us := [.f a1]) (xs := [.f t0]) (ρ' := [.f a1, .f a2, .f a3, .f t0]) rfl (congrArg (fun r => [U.f r]) h0) rfl ?_
    refine T.hbind (us := [.f a2]) (xs := [.f t1]) (ρ' := [.f a1, .f a2, .f a3, .f t0, .f t1]) rfl (congrArg (fun r => [U.f r]) h1) rfl ?_
    refine T.hbind (us := [.f a3]) (xs := [.f t2]) (ρ' := [.f a1, .f a2, .f a3, .f t0, .f t1, .f t2]) rfl (congrArg (fun r => [U.f r]) h2) rfl ?_
    refine T.hpick (ρ' := fun k9 => [.f a1, .f a2, .f a3, .f t0, .f t1, .f t2, .f k9]) (fun _ => rfl) (fun k9 hk9 => ?_)
    refine T.hbind (us := [.f a1]) (xs := [.b t4]) (ρ' := [.f a1, .f a2, .f a3, .f t0, .f t1, .f t2, .f k9, .b t4]) rfl (congrArg (fun r => [U.b r]) h3) rfl ?_
    refine T.hbind (us := [.b t4]) (xs := [.b t5]) (ρ' := [.f a1, .f a2, .f a3, .f t0, .f t1, .f t2, .f k9, .b t4, .b t5]) rfl (congrArg (fun r => [U.b r]) h4) rfl ?_
    refine T.hite (x := t5) rfl (fun c0 => ?_) (fun c0 => ?_)
    · exact T.hdone ⟨⟨⟨rfl, rfl, rfl, rfl, rfl, rfl, trivial⟩, ⟨rfl, rfl⟩, trivial⟩, trivial, rfl⟩
    · refine T.hbind (us := [.f a2]) (xs := [.b t6]) (ρ' := [.f a1, .f a2, .f a3, .f t0, .f t1, .f t2, .f k9, .b t4, .b t5, .b t6]) rfl (congrArg (fun r => [U.b r]) h5) rfl ?_
      refine T.hbind (us := [.b t6]) (xs := [.b t7]) (ρ' := [.f a1, .f a2, .f a3, .f t0, .f t1, .f t2, .f k9, .b t4, .b t5, .b t6, .b t7]) rfl (congrArg (fun r => [U.b r]) h6) rfl ?_
      refine T.hite (x := t7) rfl (fun c1 => ?_) (fun c1 => ?_)
      · exact T.hdone ⟨⟨⟨rfl, rfl, rfl, rfl, rfl, rfl, trivial⟩, ⟨rfl, rfl⟩, trivial⟩, trivial, rfl⟩
      · refine T.hbind (us := [.f a3]) (xs := [.b t8]) (ρ' := [.f a1, .f a2, .f a3, .f t0, .f t1, .f t2, .f k9, .b t4, .b t5, .b t6, .b t7, .b t8]) rfl (congrArg (fun r => [U.b r]) h7) rfl ?_
        refine T.hbind (us := [.b t8]) (xs := [.b true]) (ρ' := [.f a1, .f a2, .f a3, .f t0, .f t1, .f t2, .f k9, .b t4, .b t5, .b t6, .b t7, .b t8, .b true]) rfl (congrArg (fun r => [U.b r]) (h8 c0 c1)) rfl ?_
        refine T.hneed (us := [.b true]) rfl (rfl) ?_
        exact T.hdone ⟨⟨⟨rfl, rfl, rfl, rfl, rfl, rfl, trivial⟩, ⟨rfl, rfl⟩, trivial⟩, trivial, rfl⟩

def vb1 : List (Nat × Ct) := (15, ctUnitBad) :: vb0
theorem vb1_ok : AllOk Try.prog vb1 := ⟨ctUnitBad_ok, vb0_ok⟩

set_option maxRecDepth 100000 in
set_option maxHeartbeats 8000000 in
theorem vecunit_d (a1 a2 a3 : Nat) (w : World) (w1 : Dy.W a1) (w2 : Dy.W a2) (w3 : Dy.W a3) {t0 : Nat} {t1 : Nat} {t2 : Nat} (h0 : ((Dy.abs (a1))) = t0) (h1 : ((Dy.abs (a2))) = t1) (h2 : ((Dy.abs (a3))) = t2) (h3 : nBad3 [.f a1, .f a2, .f a3] = true) (h4 : (((smallF (a1) && (smallF (a2) && smallF (a3))))) = false) (h5 : ((same3 (0, 0) (0, 0) (0, 0) (0, 0) (0, 0) (0, 0))) = true) : Calls Try.prog 5 #[.agg #[.float .f64 a1, .float .f64 a2, .float .f64 a3]] w fun e w' => e = .returned (.bool true) ∧ Below w.heap.size w w' := by
  refine law_calls2 (vs := [.agg #[.float .f64 a1, .float .f64 a2, .float .f64 a3]]) (us := [.f a1, .f a2, .f a3]) (args := [.agg [vf 0, vf 1, vf 2]]) vb1_ok (dr_ok vb1_ok) Try.func5 [] 200 3 rfl (.t (.t .stop)) (t := .need ⟨nBad3, [(.v 0), (.v 1), (.v 2)]⟩ (.bind ⟨fun us _ => .f (Dy.abs (gF us 0)), 1, [(.v 0)]⟩ (.bind ⟨fun us _ => .f (Dy.abs (gF us 0)), 1, [(.v 1)]⟩ (.bind ⟨fun us _ => .f (Dy.abs (gF us 0)), 1, [(.v 2)]⟩ (.pick (.bind ⟨fun us i => bRes ((smallF (gF us 0) && (smallF (gF us 1) && smallF (gF us 2)))) i, 1, [(.v 0), (.v 1), (.v 2)]⟩ (.bind ⟨fun us _ => nB us, 1, [(.v 7)]⟩ (.need ⟨pT, [(.v 8)]⟩ (.bind ⟨fun us i => bRes (same3 (gF us 0, gF us 1) (gF us 2, gF us 3) (gF us 4, gF us 5) (gF us 6, gF us 7) (gF us 8, gF us 9) (gF us 10, gF us 11)) i, 1, [(.l (.f 0)), (.l (.f 0)), (.l (.f 0)), (.l (.f 0)), (.l (.f 0)), (.l (.f 0)), (.l (.f 0)), (.l (.f 0)), (.l (.f 0)), (.l (.f 0)), (.l (.f 0)), (.l (.f 0))]⟩ (.need ⟨pT, [(.v 9)]⟩ (.done .ret ⟨[.bo (.l (.b true))], [], 10, []⟩))))))))))) (by kernel_rfl) ?_ (denL_cons.2 ⟨_, _, (agg_mk (denL_cons.2 ⟨_, _, (fl_den rfl w1), (denL_cons.2 ⟨_, _, (fl_den rfl w2), (denL_cons.2 ⟨_, _, (fl_den rfl w3), rfl, rfl⟩), rfl⟩), rfl⟩)), rfl, rfl⟩)
  refine T.HH.h ?_
  refine T.hneed (us := [.f a1, .f a2, .f a3]) rfl (h3) ?_
  refine T.hbind (us := [.f a1]) (xs := [.f t0]) (ρ' := [.f a1, .f a2, .f a3, .f t0]) rfl (congrArg (fun r => [U.f r]) h0) rfl ?_
  refine T.hbind (us := [.f a2]) (xs := [.f t1]) (ρ' := [.f a1, .f a2, .f a3, .f t0, .f t1]) rfl (congrArg (fun r => [U.f r]) h1) rfl ?_
  refine T.hbind (us := [.f a3]) (xs := [.f t2]) (ρ' := [.f a1, .f a2, .f a3, .f t0, .f t1, .f t2]) rfl (congrArg (fun r => [U.f r]) h2) rfl ?_
  refine T.hpick (ρ' := fun k4 => [.f a1, .f a2, .f a3, .f t0, .f t1, .f t2, .f k4]) (fun _ => rfl) (fun k4 hk4 => ?_)
  refine T.hbind (us := [.f a1, .f a2, .f a3]) (xs := [.b false]) (ρ' := [.f a1, .f a2, .f a3, .f t0, .f t1, .f t2, .f k4, .b false]) rfl (congrArg (fun r => [U.b r]) h4) rfl ?_
  refine T.hbind (us := [.b false]) (xs := [.b true]) (ρ' := [.f a1, .f a2, .f a3, .f t0, .f t1, .f t2, .f k4, .b false, .b true]) rfl (rfl) rfl ?_
  refine T.hneed (us := [.b true]) rfl (rfl) ?_
  refine T.hbind (us := [.f 0, .f 0, .f 0, .f 0, .f 0, .f 0, .f 0, .f 0, .f 0, .f 0, .f 0, .f 0]) (xs := [.b true]) (ρ' := [.f a1, .f a2, .f a3, .f t0, .f t1, .f t2, .f k4, .b false, .b true, .b true]) rfl (congrArg (fun r => [U.b r]) h5) rfl ?_
  refine T.hneed (us := [.b true]) rfl (rfl) ?_
  exact T.hdone rfl

end Go.Proofs.Ytiphdhpacklboaa
