/- A reckoning of programs by symbols: ray.Hit, and two points the same. -/
import Derived.Test.YtpnjfinkhafglaaCr
namespace Go.Proofs.Ytpnjfinkhafglaa
open Go Go.RowKit
set_option linter.unusedSimpArgs false
set_option linter.unusedVariables false

def bRes (b : Bool) (_ : Nat) : U := .b b
def hitC (x y : Nat) : (Nat × Nat) × (Bool × Int) := ((Dy.hX x y, Dy.hZ x y), (Dy.hits x y, (Dy.dIn x y).2))
theorem look_den2 {us : List U} {r : (Nat × Nat) × (Bool × Int)} {f : Nat → U} (h : ∀ i, f i = lookU r i) (hw : Dy.W r.1.1 ∧ Dy.W r.1.2) (hl : us.length = 2) : den (fun _ => none) (us ++ (List.range 4).map f) (.tup [.agg [vf 2, .fl (.l (.f 0)), vf 3], vb 4, vi .i64 5]) = some (.tuple #[fv r.1.1 0 r.1.2, .bool r.2.1, .int .i64 r.2.2]) := by
  have e0 := (at_den (j := 0) (k := 4) (f := f) hl (by decide)).trans (by rw [h]; rfl : _ = some (U.f r.1.1))
  have e1 := (at_den (j := 1) (k := 4) (f := f) hl (by decide)).trans (by rw [h]; rfl : _ = some (U.f r.1.2))
  have e2 := (at_den (j := 2) (k := 4) (f := f) hl (by decide)).trans (by rw [h]; rfl : _ = some (U.b r.2.1))
  have e3 := (at_den (j := 3) (k := 4) (f := f) hl (by decide)).trans (by rw [h]; rfl : _ = some (U.i r.2.2))
  have k : den (fun _ => none) (us ++ (List.range 4).map f) (.agg [vf 2, .fl (.l (.f 0)), vf 3]) = some (fv r.1.1 0 r.1.2) := by
    unfold den
    rw [denL_cons.2 ⟨_, _, fl_den e0 hw.1, denL_cons.2 ⟨_, _, fl_den (e := .l (.f 0)) (n := 0) rfl (by decide), denL_cons.2 ⟨_, [], fl_den e1 hw.2, rfl, rfl⟩, rfl⟩, rfl⟩]
  unfold den
  rw [denL_cons.2 ⟨_, _, k, denL_cons.2 ⟨_, _, bo_den e2, denL_cons.2 ⟨_, [], it_den e3, rfl, rfl⟩, rfl⟩, rfl⟩]
def ch0 : List (Nat × Ct) := cq6
theorem ch0_ok : AllOk Try.prog ch0 := cq6_ok
def ctHitC : Ct := ctP 2 [vf 0, vf 1] (fun us i => lookU (hitC (gF us 0) (gF us 1)) i) 4 (.tup [.agg [vf 2, .fl (.l (.f 0)), vf 3], vb 4, vi .i64 5]) []
theorem ctHitC_ok : CtOk Try.prog 9 ctHitC := by
  refine ctP_ok (en Try.func9 rfl (by decide)) rfl rfl (fun us w vs hl hv hn => ?_) rfl
  match us, hl with
  | [u0, u1], _ =>
    obtain ⟨x0, y0, hx0, hy0, rfl⟩ := denL_cons.1 hv
    obtain ⟨a0, e0, w0, rfl⟩ := den_fl hx0
    obtain ⟨x1, y1, hx1, hy1, rfl⟩ := denL_cons.1 hy0
    obtain ⟨a1, e1, w1, rfl⟩ := den_fl hx1
    rw [denL_nil.1 hy1]
    simp [E.ev] at e0 e1
    subst e0 e1
    exact ⟨.tuple #[fv (hitC a0 a1).1.1 0 (hitC a0 a1).1.2, .bool (hitC a0 a1).2.1, .int .i64 (hitC a0 a1).2.2], look_den2 (fun i => rfl) ⟨Dy.hX_W a0 a1, Dy.hZ_W a0 a1⟩ rfl, hit_any a0 a1 w w0 w1⟩

def ch1 : List (Nat × Ct) := (9, ctHitC) :: ch0
theorem ch1_ok : AllOk Try.prog ch1 := ⟨ctHitC_ok, ch0_ok⟩

def ctSame25 : Ct := ⟨6, [], [.agg [vf 0, vf 1, vf 2], .agg [vf 3, vf 4, vf 5]], { binds := [⟨fun us i => bRes ((decide (gF us 0 = gF us 3) && (decide (gF us 1 = gF us 4) && decide (gF us 2 = gF us 5)))) i, 1, upto 0 6⟩], needs := [], val := vb 6, upd := [] }⟩
set_option maxRecDepth 100000 in
set_option maxHeartbeats 8000000 in
theorem ctSame25_ok : CtOk Try.prog 10 ctSame25 := by
  refine CtOk.of_eval2 ch1_ok (dr_ok ch1_ok) Try.func10 rfl (by decide) [] 200 (by kernel_rfl) rfl (.bind ⟨fun us _ => .b (decide (gF us 0 = gF us 1)), 1, [(.v 0), (.v 3)]⟩ (.ite (.v 6) (.bind ⟨fun us _ => .b (decide (gF us 0 = gF us 1)), 1, [(.v 1), (.v 4)]⟩ (.ite (.v 7) (.bind ⟨fun us _ => .b (decide (gF us 0 = gF us 1)), 1, [(.v 2), (.v 5)]⟩ (.done .ret ⟨[.bo (.v 8)], [], 9, []⟩)) (.done .ret ⟨[.bo (.l (.b false))], [], 8, []⟩))) (.done .ret ⟨[.bo (.l (.b false))], [], 7, []⟩))) (by kernel_rfl) (by kernel_rfl) (by kernel_rfl) (fun us hl hF hB hN => ?_)
  match us, hl with
  | [u0, u1, u2, u3, u4, u5], _ =>
    simp [FactsB, FactsL, Facts, ctSame25] at hF hB
    simp [NeedsAt, runB, evs, E.ev, upto, resl, List.range, List.range.loop, ctSame25] at hN
    obtain ⟨⟨⟨a1, rfl, wa1⟩, ⟨a2, rfl, wa2⟩, ⟨a3, rfl, wa3⟩⟩, ⟨m1, rfl, wm1⟩, ⟨m2, rfl, wm2⟩, ⟨m3, rfl, wm3⟩⟩ := hF
    refine T.HH.h ?_
    obtain ⟨t0, e1⟩ : ∃ t0, ((decide (a1 = m1))) = t0 := ⟨_, rfl⟩
    refine T.hbind (us := [.f a1, .f m1]) (xs := [.b t0]) (ρ' := [.f a1, .f a2, .f a3, .f m1, .f m2, .f m3, .b t0]) rfl (congrArg (fun r => [U.b r]) e1) rfl ?_
    refine T.hite (x := t0) ?_ ?_ ?_
    · rfl
    · intro c3
      obtain ⟨t3, e4⟩ : ∃ t3, ((decide (a2 = m2))) = t3 := ⟨_, rfl⟩
      refine T.hbind (us := [.f a2, .f m2]) (xs := [.b t3]) (ρ' := [.f a1, .f a2, .f a3, .f m1, .f m2, .f m3, .b t0, .b t3]) rfl (congrArg (fun r => [U.b r]) e4) rfl ?_
      refine T.hite (x := t3) ?_ ?_ ?_
      · rfl
      · intro c6
        obtain ⟨t6, e7⟩ : ∃ t6, ((decide (a3 = m3))) = t6 := ⟨_, rfl⟩
        refine T.hbind (us := [.f a3, .f m3]) (xs := [.b t6]) (ρ' := [.f a1, .f a2, .f a3, .f m1, .f m2, .f m3, .b t0, .b t3, .b t6]) rfl (congrArg (fun r => [U.b r]) e7) rfl ?_
        refine T.hdone ?_
        have e00 : (decide (a1 = m1) && (decide (a2 = m2) && decide (a3 = m3))) = t6 := by simp only [e1, c3, e4, c6, e7, reduceIte, Bool.false_eq_true, Bool.true_eq_false, Bool.true_and, Bool.false_and, Bool.and_true, Bool.and_false, Bool.true_or, Bool.false_or, Bool.or_true, Bool.or_false, Bool.not_true, Bool.not_false] <;> simp_all
        exact ⟨(congrArg (fun r => some (bRes r 0)) e00.symm), trivial, rfl⟩
      · intro c6
        refine T.hdone ?_
        have e00 : (decide (a1 = m1) && (decide (a2 = m2) && decide (a3 = m3))) = false := by simp only [e1, c3, e4, c6, reduceIte, Bool.false_eq_true, Bool.true_eq_false, Bool.true_and, Bool.false_and, Bool.and_true, Bool.and_false, Bool.true_or, Bool.false_or, Bool.or_true, Bool.or_false, Bool.not_true, Bool.not_false] <;> simp_all
        exact ⟨(congrArg (fun r => some (bRes r 0)) e00.symm), trivial, rfl⟩
    · intro c3
      refine T.hdone ?_
      have e00 : (decide (a1 = m1) && (decide (a2 = m2) && decide (a3 = m3))) = false := by simp only [e1, c3, reduceIte, Bool.false_eq_true, Bool.true_eq_false, Bool.true_and, Bool.false_and, Bool.and_true, Bool.and_false, Bool.true_or, Bool.false_or, Bool.or_true, Bool.or_false, Bool.not_true, Bool.not_false] <;> simp_all
      exact ⟨(congrArg (fun r => some (bRes r 0)) e00.symm), trivial, rfl⟩

def ch2 : List (Nat × Ct) := (10, ctSame25) :: ch1
theorem ch2_ok : AllOk Try.prog ch2 := ⟨ctSame25_ok, ch1_ok⟩

end Go.Proofs.Ytpnjfinkhafglaa
