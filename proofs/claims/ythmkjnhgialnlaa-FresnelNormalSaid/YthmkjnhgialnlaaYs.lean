/- A reckoning of programs by symbols: what a dielectric, a conductor reflects. -/
import Derived.Test.YthmkjnhgialnlaaYr
namespace Go.Proofs.Ythmkjnhgialnlaa
open Go Go.RowKit
set_option linter.unusedSimpArgs false
set_option linter.unusedVariables false

def g0 : List (Nat × Ct) := f6
theorem g0_ok : AllOk Try.prog g0 := f6_ok
theorem clip_good {a : Nat × Nat} {x y : Int} {l h : Nat} (ox : Dy.ok x) (oy : Dy.ok y) (hl : l = Dy.enc x) (hh : h = Dy.enc y) (w : Dy.WW a) (r : Dy.ivR a = true) : Dy.WW (Dy.clip l h a) ∧ Dy.ivR (Dy.clip l h a) = true := by
  subst hl hh
  obtain ⟨p, hp, rfl⟩ := Dy.rk_of w r
  obtain ⟨e, k⟩ := Dy.clip_E hp ox oy
  rw [e]; exact ⟨k.E_W, k.E_R⟩
theorem clip01_good {a : Nat × Nat} (w : Dy.WW a) (r : Dy.ivR a = true) : Dy.WW (Dy.clip 0 4607182418800017408 a) ∧ Dy.ivR (Dy.clip 0 4607182418800017408 a) = true := clip_good (x := 0) (y := (4607182418800017408 : Int)) Dy.ok_zero (Dy.ok_B (by decide) (by decide)) rfl (by decide) w r
/-- What a dielectric reflects, with its error. -/
def dielG (cos n : Nat × Nat) : (Nat × Nat) × Int := if (Dy.ivR cos && Dy.ivR n) = true then (if wiB 0 4607182418800017408 cos = true then (if wiB 4607463893776728064 4616189618054758400 n = true then Dy.told (dielM cos n 0) else ((0, 0), 2)) else ((0, 0), 2)) else ((0, 0), 20)
def ctDiel : Ct := ⟨4, [], [vp 0 1, vp 2 3], { binds := [⟨fun us i => calR (dielG (gF us 0, gF us 1) (gF us 2, gF us 3)) i, 3, upto 0 4⟩], needs := [], val := .tup [vp 4 5, vi .i64 6], upd := [] }⟩
set_option maxRecDepth 100000 in
set_option maxHeartbeats 8000000 in
theorem ctDiel_ok : CtOk Try.prog 29 ctDiel := by
  refine CtOk.of_eval2 g0_ok (dr_ok g0_ok) Try.func29 rfl (by decide) [] 200 (by kernel_rfl) rfl (.bind ⟨fun us i => bRes ((Dy.ivR (gF us 0, gF us 1) && Dy.ivR (gF us 2, gF us 3))) i, 1, [(.v 0), (.v 1), (.v 2), (.v 3)]⟩ (.bind ⟨fun us _ => nB us, 1, [(.v 4)]⟩ (.ite (.v 5) (.done .ret ⟨[.tup [.agg [.fl (.l (.f 0)), .fl (.l (.f 0))], .it .i64 (.l (.i 20))]], [], 6, []⟩) (.bind ⟨fun us i => bRes (wiB (gF us 0) (gF us 1) (gF us 2, gF us 3)) i, 1, [(.l (.f 0)), (.l (.f 4607182418800017408)), (.v 0), (.v 1)]⟩ (.bind ⟨fun us _ => nB us, 1, [(.v 6)]⟩ (.ite (.v 7) (.done .ret ⟨[.tup [.agg [.fl (.l (.f 0)), .fl (.l (.f 0))], .it .i64 (.l (.i 2))]], [], 8, []⟩) (.bind ⟨fun us i => bRes (wiB (gF us 0) (gF us 1) (gF us 2, gF us 3)) i, 1, [(.l (.f 4607463893776728064)), (.l (.f 4616189618054758400)), (.v 2), (.v 3)]⟩ (.bind ⟨fun us _ => nB us, 1, [(.v 8)]⟩ (.ite (.v 9) (.done .ret ⟨[.tup [.agg [.fl (.l (.f 0)), .fl (.l (.f 0))], .it .i64 (.l (.i 2))]], [], 10, []⟩) (.bind ⟨calF0 Dy.cNum, 3, [(.l (.i 0)), (.l (.f 4607182418800017408))]⟩ (.bind ⟨calF1 Dy.cSqr, 3, [(.v 12), (.v 2), (.v 3)]⟩ (.bind ⟨calF2 Dy.cSub, 3, [(.v 15), (.v 13), (.v 14), (.v 10), (.v 11)]⟩ (.bind ⟨calF1 Dy.cSqr, 3, [(.v 18), (.v 0), (.v 1)]⟩ (.bind ⟨calF2 Dy.cAdd, 3, [(.v 21), (.v 16), (.v 17), (.v 19), (.v 20)]⟩ (.bind ⟨calF1 Dy.cSqrt, 3, [(.v 24), (.v 22), (.v 23)]⟩ (.bind ⟨calF2 Dy.cSub, 3, [(.v 27), (.v 25), (.v 26), (.v 0), (.v 1)]⟩ (.bind ⟨calF2 Dy.cAdd, 3, [(.v 30), (.v 25), (.v 26), (.v 0), (.v 1)]⟩ (.bind ⟨calF2 Dy.cDiv, 3, [(.v 33), (.v 28), (.v 29), (.v 31), (.v 32)]⟩ (.bind ⟨calF1 Dy.cSqr, 3, [(.v 36), (.v 34), (.v 35)]⟩ (.bind ⟨calF2 Dy.cAdd, 3, [(.v 39), (.v 25), (.v 26), (.v 0), (.v 1)]⟩ (.bind ⟨calF2 Dy.cMul, 3, [(.v 42), (.v 0), (.v 1), (.v 40), (.v 41)]⟩ (.bind ⟨calF2 Dy.cSub, 3, [(.v 45), (.v 43), (.v 44), (.v 10), (.v 11)]⟩ (.bind ⟨calF2 Dy.cSub, 3, [(.v 48), (.v 25), (.v 26), (.v 0), (.v 1)]⟩ (.bind ⟨calF2 Dy.cMul, 3, [(.v 51), (.v 0), (.v 1), (.v 49), (.v 50)]⟩ (.bind ⟨calF2 Dy.cAdd, 3, [(.v 54), (.v 52), (.v 53), (.v 10), (.v 11)]⟩ (.bind ⟨calF2 Dy.cDiv, 3, [(.v 57), (.v 46), (.v 47), (.v 55), (.v 56)]⟩ (.bind ⟨calF1 Dy.cSqr, 3, [(.v 60), (.v 58), (.v 59)]⟩ (.bind ⟨calF0 Dy.cNum, 3, [(.v 63), (.l (.f 4602678819172646912))]⟩ (.bind ⟨calF2 Dy.cMul, 3, [(.v 66), (.v 64), (.v 65), (.v 37), (.v 38)]⟩ (.bind ⟨calF2 Dy.cAdd, 3, [(.v 69), (.v 10), (.v 11), (.v 61), (.v 62)]⟩ (.bind ⟨calF2 Dy.cMul, 3, [(.v 72), (.v 67), (.v 68), (.v 70), (.v 71)]⟩ (.bind ⟨fun us i => ivU (Dy.clip 0 4607182418800017408 (gF us 0, gF us 1)) i, 2, [(.v 73), (.v 74)]⟩ (.need ⟨nIv, [(.v 73), (.v 74)]⟩ (.bind ⟨fun us i => calR (Dy.told ((gF us 1, gF us 2), gI us 0)) i, 3, [(.v 75), (.v 76), (.v 77)]⟩ (.done .ret ⟨[.tup [.agg [.fl (.v 78), .fl (.v 79)], .it .i64 (.v 80)]], [], 81, []⟩))))))))))))))))))))))))))))))))))) (by kernel_rfl) (by kernel_rfl) (by kernel_rfl) (fun us hl hF hB hN => ?_)
  match us, hl with
  | [u0, u1, u2, u3], _ =>
    simp [FactsB, FactsL, Facts, ctDiel] at hF hB
    simp [NeedsAt, runB, evs, E.ev, upto, resl, List.range, List.range.loop, ctDiel] at hN
    obtain ⟨⟨⟨a1, rfl, wa1⟩, ⟨a2, rfl, wa2⟩⟩, ⟨b1, rfl, wb1⟩, ⟨b2, rfl, wb2⟩⟩ := hF
    refine T.HH.h ?_
    obtain ⟨t0, e1⟩ : ∃ t0, (((Dy.ivR (a1, a2) && Dy.ivR (b1, b2)))) = t0 := ⟨_, rfl⟩
    refine T.hbind (us := [.f a1, .f a2, .f b1, .f b2]) (xs := [.b t0]) (ρ' := [.f a1, .f a2, .f b1, .f b2, .b t0]) rfl (congrArg (fun r => [U.b r]) e1) rfl ?_
    obtain ⟨t2, e3⟩ : ∃ t2, (!t0) = t2 := ⟨_, rfl⟩
    refine T.hbind (us := [.b t0]) (xs := [.b t2]) (ρ' := [.f a1, .f a2, .f b1, .f b2, .b t0, .b t2]) rfl (congrArg (fun r => [U.b r]) e3) rfl ?_
    refine T.hite (x := t2) ?_ ?_ ?_
    · rfl
    · intro c5
      refine T.hdone ?_
      have e00 : dielG (a1, a2) (b1, b2) = ((0, 0), 20) := by simp only [dielG, e1, e3, c5, reduceIte, Bool.false_eq_true, Bool.true_eq_false, Bool.true_and, Bool.false_and, Bool.and_true, Bool.and_false, Bool.true_or, Bool.false_or, Bool.or_true, Bool.or_false, Bool.not_true, Bool.not_false, Dy.cm_bind, Dy.cm_pure, Dy.mNum, Dy.mAdd, Dy.mSub, Dy.mMul, Dy.mDiv, Dy.mSqr, Dy.mSqrt, Dy.mMax] <;> simp_all
      exact ⟨⟨⟨(congrArg (fun r => some (calR r 0)) e00.symm), (congrArg (fun r => some (calR r 1)) e00.symm), trivial⟩, ⟨rfl, (congrArg (fun r => some (calR r 2)) e00.symm)⟩, trivial⟩, trivial, rfl⟩
    · intro c5
      obtain ⟨t5, e6⟩ : ∃ t5, ((wiB (0) (4607182418800017408) (a1, a2))) = t5 := ⟨_, rfl⟩
      refine T.hbind (us := [.f 0, .f 4607182418800017408, .f a1, .f a2]) (xs := [.b t5]) (ρ' := [.f a1, .f a2, .f b1, .f b2, .b t0, .b t2, .b t5]) rfl (congrArg (fun r => [U.b r]) e6) rfl ?_
      obtain ⟨t7, e8⟩ : ∃ t7, (!t5) = t7 := ⟨_, rfl⟩
      refine T.hbind (us := [.b t5]) (xs := [.b t7]) (ρ' := [.f a1, .f a2, .f b1, .f b2, .b t0, .b t2, .b t5, .b t7]) rfl (congrArg (fun r => [U.b r]) e8) rfl ?_
      refine T.hite (x := t7) ?_ ?_ ?_
      · rfl
      · intro c10
        refine T.hdone ?_
        have e00 : dielG (a1, a2) (b1, b2) = ((0, 0), 2) := by simp only [dielG, e1, e3, c5, e6, e8, c10, reduceIte, Bool.false_eq_true, Bool.true_eq_false, Bool.true_and, Bool.false_and, Bool.and_true, Bool.and_false, Bool.true_or, Bool.false_or, Bool.or_true, Bool.or_false, Bool.not_true, Bool.not_false, Dy.cm_bind, Dy.cm_pure, Dy.mNum, Dy.mAdd, Dy.mSub, Dy.mMul, Dy.mDiv, Dy.mSqr, Dy.mSqrt, Dy.mMax] <;> simp_all
        exact ⟨⟨⟨(congrArg (fun r => some (calR r 0)) e00.symm), (congrArg (fun r => some (calR r 1)) e00.symm), trivial⟩, ⟨rfl, (congrArg (fun r => some (calR r 2)) e00.symm)⟩, trivial⟩, trivial, rfl⟩
      · intro c10
        obtain ⟨t10, e11⟩ : ∃ t10, ((wiB (4607463893776728064) (4616189618054758400) (b1, b2))) = t10 := ⟨_, rfl⟩
        refine T.hbind (us := [.f 4607463893776728064, .f 4616189618054758400, .f b1, .f b2]) (xs := [.b t10]) (ρ' := [.f a1, .f a2, .f b1, .f b2, .b t0, .b t2, .b t5, .b t7, .b t10]) rfl (congrArg (fun r => [U.b r]) e11) rfl ?_
        obtain ⟨t12, e13⟩ : ∃ t12, (!t10) = t12 := ⟨_, rfl⟩
        refine T.hbind (us := [.b t10]) (xs := [.b t12]) (ρ' := [.f a1, .f a2, .f b1, .f b2, .b t0, .b t2, .b t5, .b t7, .b t10, .b t12]) rfl (congrArg (fun r => [U.b r]) e13) rfl ?_
        refine T.hite (x := t12) ?_ ?_ ?_
        · rfl
        · intro c15
          refine T.hdone ?_
          have e00 : dielG (a1, a2) (b1, b2) = ((0, 0), 2) := by simp only [dielG, e1, e3, c5, e6, e8, c10, e11, e13, c15, reduceIte, Bool.false_eq_true, Bool.true_eq_false, Bool.true_and, Bool.false_and, Bool.and_true, Bool.and_false, Bool.true_or, Bool.false_or, Bool.or_true, Bool.or_false, Bool.not_true, Bool.not_false, Dy.cm_bind, Dy.cm_pure, Dy.mNum, Dy.mAdd, Dy.mSub, Dy.mMul, Dy.mDiv, Dy.mSqr, Dy.mSqrt, Dy.mMax] <;> simp_all
          exact ⟨⟨⟨(congrArg (fun r => some (calR r 0)) e00.symm), (congrArg (fun r => some (calR r 1)) e00.symm), trivial⟩, ⟨rfl, (congrArg (fun r => some (calR r 2)) e00.symm)⟩, trivial⟩, trivial, rfl⟩
        · intro c15
          obtain ⟨t15, t16, t17, e18⟩ : ∃ t15 t16 t17, (Dy.cNum 0 4607182418800017408) = ((t15, t16), t17) := Dy.ex3 _
          have g18 := Dy.good_num (show Dy.W 4607182418800017408 from by unfold Dy.W; decide) (err := 0)
          rw [e18] at g18
          refine T.hbind (us := [.i 0, .f 4607182418800017408]) (xs := [.f t15, .f t16, .i t17]) (ρ' := [.f a1, .f a2, .f b1, .f b2, .b t0, .b t2, .b t5, .b t7, .b t10, .b t12, .f t15, .f t16, .i t17]) rfl (congrArg (fun r => [calR r 0, calR r 1, calR r 2]) e18) rfl ?_
          obtain ⟨t19, t20, t21, e22⟩ : ∃ t19 t20 t21, (Dy.cSqr t17 (b1, b2)) = ((t19, t20), t21) := Dy.ex3 _
          have g22 := Dy.good_sqr (a := (b1, b2)) ⟨wb1, wb2⟩ (err := t17)
          rw [e22] at g22
          refine T.hbind (us := [.i t17, .f b1, .f b2]) (xs := [.f t19, .f t20, .i t21]) (ρ' := [.f a1, .f a2, .f b1, .f b2, .b t0, .b t2, .b t5, .b t7, .b t10, .b t12, .f t15, .f t16, .i t17, .f t19, .f t20, .i t21]) rfl (congrArg (fun r => [calR r 0, calR r 1, calR r 2]) e22) rfl ?_
          obtain ⟨t23, t24, t25, e26⟩ : ∃ t23 t24 t25, (Dy.cSub t21 (t19, t20) (t15, t16)) = ((t23, t24), t25) := Dy.ex3 _
          have g26 := Dy.good_sub (a := (t19, t20)) (b := (t15, t16)) ⟨g18.1.1, g18.1.2⟩ (err := t21)
          rw [e26] at g26
          refine T.hbind (us := [.i t21, .f t19, .f t20, .f t15, .f t16]) (xs := [.f t23, .f t24, .i t25]) (ρ' := [.f a1, .f a2, .f b1, .f b2, .b t0, .b t2, .b t5, .b t7, .b t10, .b t12, .f t15, .f t16, .i t17, .f t19, .f t20, .i t21, .f t23, .f t24, .i t25]) rfl (congrArg (fun r => [calR r 0, calR r 1, calR r 2]) e26) rfl ?_
          obtain ⟨t27, t28, t29, e30⟩ : ∃ t27 t28 t29, (Dy.cSqr t25 (a1, a2)) = ((t27, t28), t29) := Dy.ex3 _
          have g30 := Dy.good_sqr (a := (a1, a2)) ⟨wa1, wa2⟩ (err := t25)
          rw [e30] at g30
          refine T.hbind (us := [.i t25, .f a1, .f a2]) (xs := [.f t27, .f t28, .i t29]) (ρ' := [.f a1, .f a2, .f b1, .f b2, .b t0, .b t2, .b t5, .b t7, .b t10, .b t12, .f t15, .f t16, .i t17, .f t19, .f t20, .i t21, .f t23, .f t24, .i t25, .f t27, .f t28, .i t29]) rfl (congrArg (fun r => [calR r 0, calR r 1, calR r 2]) e30) rfl ?_
          obtain ⟨t31, t32, t33, e34⟩ : ∃ t31 t32 t33, (Dy.cAdd t29 (t23, t24) (t27, t28)) = ((t31, t32), t33) := Dy.ex3 _
          have g34 := Dy.good_add (a := (t23, t24)) (b := (t27, t28)) (err := t29)
          rw [e34] at g34
          refine T.hbind (us := [.i t29, .f t23, .f t24, .f t27, .f t28]) (xs := [.f t31, .f t32, .i t33]) (ρ' := [.f a1, .f a2, .f b1, .f b2, .b t0, .b t2, .b t5, .b t7, .b t10, .b t12, .f t15, .f t16, .i t17, .f t19, .f t20, .i t21, .f t23, .f t24, .i t25, .f t27, .f t28, .i t29, .f t31, .f t32, .i t33]) rfl (congrArg (fun r => [calR r 0, calR r 1, calR r 2]) e34) rfl ?_
          obtain ⟨t35, t36, t37, e38⟩ : ∃ t35 t36 t37, (Dy.cSqrt t33 (t31, t32)) = ((t35, t36), t37) := Dy.ex3 _
          have g38 := Dy.good_sqrt (a := (t31, t32)) ⟨g34.1.1, g34.1.2⟩ (err := t33)
          rw [e38] at g38
          refine T.hbind (us := [.i t33, .f t31, .f t32]) (xs := [.f t35, .f t36, .i t37]) (ρ' := [.f a1, .f a2, .f b1, .f b2, .b t0, .b t2, .b t5, .b t7, .b t10, .b t12, .f t15, .f t16, .i t17, .f t19, .f t20, .i t21, .f t23, .f t24, .i t25, .f t27, .f t28, .i t29, .f t31, .f t32, .i t33, .f t35, .f t36, .i t37]) rfl (congrArg (fun r => [calR r 0, calR r 1, calR r 2]) e38) rfl ?_
          obtain ⟨t39, t40, t41, e42⟩ : ∃ t39 t40 t41, (Dy.cSub t37 (t35, t36) (a1, a2)) = ((t39, t40), t41) := Dy.ex3 _
          have g42 := Dy.good_sub (a := (t35, t36)) (b := (a1, a2)) ⟨wa1, wa2⟩ (err := t37)
          rw [e42] at g42
          refine T.hbind (us := [.i t37, .f t35, .f t36, .f a1, .f a2]) (xs := [.f t39, .f t40, .i t41]) (ρ' := [.f a1, .f a2, .f b1, .f b2, .b t0, .b t2, .b t5, .b t7, .b t10, .b t12, .f t15, .f t16, .i t17, .f t19, .f t20, .i t21, .f t23, .f t24, .i t25, .f t27, .f t28, .i t29, .f t31, .f t32, .i t33, .f t35, .f t36, .i t37, .f t39, .f t40, .i t41]) rfl (congrArg (fun r => [calR r 0, calR r 1, calR r 2]) e42) rfl ?_
          obtain ⟨t43, t44, t45, e46⟩ : ∃ t43 t44 t45, (Dy.cAdd t41 (t35, t36) (a1, a2)) = ((t43, t44), t45) := Dy.ex3 _
          have g46 := Dy.good_add (a := (t35, t36)) (b := (a1, a2)) (err := t41)
          rw [e46] at g46
          refine T.hbind (us := [.i t41, .f t35, .f t36, .f a1, .f a2]) (xs := [.f t43, .f t44, .i t45]) (ρ' := [.f a1, .f a2, .f b1, .f b2, .b t0, .b t2, .b t5, .b t7, .b t10, .b t12, .f t15, .f t16, .i t17, .f t19, .f t20, .i t21, .f t23, .f t24, .i t25, .f t27, .f t28, .i t29, .f t31, .f t32, .i t33, .f t35, .f t36, .i t37, .f t39, .f t40, .i t41, .f t43, .f t44, .i t45]) rfl (congrArg (fun r => [calR r 0, calR r 1, calR r 2]) e46) rfl ?_
          obtain ⟨t47, t48, t49, e50⟩ : ∃ t47 t48 t49, (Dy.cDiv t45 (t39, t40) (t43, t44)) = ((t47, t48), t49) := Dy.ex3 _
          have g50 := Dy.good_div (a := (t39, t40)) (b := (t43, t44)) ⟨g46.1.1, g46.1.2⟩ (err := t45)
          rw [e50] at g50
          refine T.hbind (us := [.i t45, .f t39, .f t40, .f t43, .f t44]) (xs := [.f t47, .f t48, .i t49]) (ρ' := [.f a1, .f a2, .f b1, .f b2, .b t0, .b t2, .b t5, .b t7, .b t10, .b t12, .f t15, .f t16, .i t17, .f t19, .f t20, .i t21, .f t23, .f t24, .i t25, .f t27, .f t28, .i t29, .f t31, .f t32, .i t33, .f t35, .f t36, .i t37, .f t39, .f t40, .i t41, .f t43, .f t44, .i t45, .f t47, .f t48, .i t49]) rfl (congrArg (fun r => [calR r 0, calR r 1, calR r 2]) e50) rfl ?_
          obtain ⟨t51, t52, t53, e54⟩ : ∃ t51 t52 t53, (Dy.cSqr t49 (t47, t48)) = ((t51, t52), t53) := Dy.ex3 _
          have g54 := Dy.good_sqr (a := (t47, t48)) ⟨g50.1.1, g50.1.2⟩ (err := t49)
          rw [e54] at g54
          refine T.hbind (us := [.i t49, .f t47, .f t48]) (xs := [.f t51, .f t52, .i t53]) (ρ' := [.f a1, .f a2, .f b1, .f b2, .b t0, .b t2, .b t5, .b t7, .b t10, .b t12, .f t15, .f t16, .i t17, .f t19, .f t20, .i t21, .f t23, .f t24, .i t25, .f t27, .f t28, .i t29, .f t31, .f t32, .i t33, .f t35, .f t36, .i t37, .f t39, .f t40, .i t41, .f t43, .f t44, .i t45, .f t47, .f t48, .i t49, .f t51, .f t52, .i t53]) rfl (congrArg (fun r => [calR r 0, calR r 1, calR r 2]) e54) rfl ?_
          obtain ⟨t55, t56, t57, e58⟩ : ∃ t55 t56 t57, (Dy.cAdd t53 (t35, t36) (a1, a2)) = ((t55, t56), t57) := Dy.ex3 _
          have g58 := Dy.good_add (a := (t35, t36)) (b := (a1, a2)) (err := t53)
          rw [e58] at g58
          refine T.hbind (us := [.i t53, .f t35, .f t36, .f a1, .f a2]) (xs := [.f t55, .f t56, .i t57]) (ρ' := [.f a1, .f a2, .f b1, .f b2, .b t0, .b t2, .b t5, .b t7, .b t10, .b t12, .f t15, .f t16, .i t17, .f t19, .f t20, .i t21, .f t23, .f t24, .i t25, .f t27, .f t28, .i t29, .f t31, .f t32, .i t33, .f t35, .f t36, .i t37, .f t39, .f t40, .i t41, .f t43, .f t44, .i t45, .f t47, .f t48, .i t49, .f t51, .f t52, .i t53, .f t55, .f t56, .i t57]) rfl (congrArg (fun r => [calR r 0, calR r 1, calR r 2]) e58) rfl ?_
          obtain ⟨t59, t60, t61, e62⟩ : ∃ t59 t60 t61, (Dy.cMul t57 (a1, a2) (t55, t56)) = ((t59, t60), t61) := Dy.ex3 _
          have g62 := Dy.good_mul (a := (a1, a2)) (b := (t55, t56)) (err := t57)
          rw [e62] at g62
          refine T.hbind (us := [.i t57, .f a1, .f a2, .f t55, .f t56]) (xs := [.f t59, .f t60, .i t61]) (ρ' := [.f a1, .f a2, .f b1, .f b2, .b t0, .b t2, .b t5, .b t7, .b t10, .b t12, .f t15, .f t16, .i t17, .f t19, .f t20, .i t21, .f t23, .f t24, .i t25, .f t27, .f t28, .i t29, .f t31, .f t32, .i t33, .f t35, .f t36, .i t37, .f t39, .f t40, .i t41, .f t43, .f t44, .i t45, .f t47, .f t48, .i t49, .f t51, .f t52, .i t53, .f t55, .f t56, .i t57, .f t59, .f t60, .i t61]) rfl (congrArg (fun r => [calR r 0, calR r 1, calR r 2]) e62) rfl ?_
          obtain ⟨t63, t64, t65, e66⟩ : ∃ t63 t64 t65, (Dy.cSub t61 (t59, t60) (t15, t16)) = ((t63, t64), t65) := Dy.ex3 _
          have g66 := Dy.good_sub (a := (t59, t60)) (b := (t15, t16)) ⟨g18.1.1, g18.1.2⟩ (err := t61)
          rw [e66] at g66
          refine T.hbind (us := [.i t61, .f t59, .f t60, .f t15, .f t16]) (xs := [.f t63, .f t64, .i t65]) (ρ' := [.f a1, .f a2, .f b1, .f b2, .b t0, .b t2, .b t5, .b t7, .b t10, .b t12, .f t15, .f t16, .i t17, .f t19, .f t20, .i t21, .f t23, .f t24, .i t25, .f t27, .f t28, .i t29, .f t31, .f t32, .i t33, .f t35, .f t36, .i t37, .f t39, .f t40, .i t41, .f t43, .f t44, .i t45, .f t47, .f t48, .i t49, .f t51, .f t52, .i t53, .f t55, .f t56, .i t57, .f t59, .f t60, .i t61, .f t63, .f t64, .i t65]) rfl (congrArg (fun r => [calR r 0, calR r 1, calR r 2]) e66) rfl ?_
          obtain ⟨t67, t68, t69, e70⟩ : ∃ t67 t68 t69, (Dy.cSub t65 (t35, t36) (a1, a2)) = ((t67, t68), t69) := Dy.ex3 _
          have g70 := Dy.good_sub (a := (t35, t36)) (b := (a1, a2)) ⟨wa1, wa2⟩ (err := t65)
          rw [e70] at g70
          refine T.hbind (us := [.i t65, .f t35, .f t36, .f a1, .f a2]) (xs := [.f t67, .f t68, .i t69]) (ρ' := [.f a1, .f a2, .f b1, .f b2, .b t0, .b t2, .b t5, .b t7, .b t10, .b t12, .f t15, .f t16, .i t17, .f t19, .f t20, .i t21, .f t23, .f t24, .i t25, .f t27, .f t28, .i t29, .f t31, .f t32, .i t33, .f t35, .f t36, .i t37, .f t39, .f t40, .i t41, .f t43, .f t44, .i t45, .f t47, .f t48, .i t49, .f t51, .f t52, .i t53, .f t55, .f t56, .i t57, .f t59, .f t60, .i t61, .f t63, .f t64, .i t65, .f t67, .f t68, .i t69]) rfl (congrArg (fun r => [calR r 0, calR r 1, calR r 2]) e70) rfl ?_
          obtain ⟨t71, t72, t73, e74⟩ : ∃ t71 t72 t73, (Dy.cMul t69 (a1, a2) (t67, t68)) = ((t71, t72), t73) := Dy.ex3 _
          have g74 := Dy.good_mul (a := (a1, a2)) (b := (t67, t68)) (err := t69)
          rw [e74] at g74
          refine T.hbind (us := [.i t69, .f a1, .f a2, .f t67, .f t68]) (xs := [.f t71, .f t72, .i t73]) (ρ' := [.f a1, .f a2, .f b1, .f b2, .b t0, .b t2, .b t5, .b t7, .b t10, .b t12, .f t15, .f t16, .i t17, .f t19, .f t20, .i t21, .f t23, .f t24, .i t25, .f t27, .f t28, .i t29, .f t31, .f t32, .i t33, .f t35, .f t36, .i t37, .f t39, .f t40, .i t41, .f t43, .f t44, .i t45, .f t47, .f t48, .i t49, .f t51, .f t52, .i t53, .f t55, .f t56, .i t57, .f t59, .f t60, .i t61, .f t63, .f t64, .i t65, .f t67, .f t68, .i t69, .f t71, .f t72, .i t73]) rfl (congrArg (fun r => [calR r 0, calR r 1, calR r 2]) e74) rfl ?_
          obtain ⟨t75, t76, t77, e78⟩ : ∃ t75 t76 t77, (Dy.cAdd t73 (t71, t72) (t15, t16)) = ((t75, t76), t77) := Dy.ex3 _
          have g78 := Dy.good_add (a := (t71, t72)) (b := (t15, t16)) (err := t73)
          rw [e78] at g78
          refine T.hbind (us := [.i t73, .f t71, .f t72, .f t15, .f t16]) (xs := [.f t75, .f t76, .i t77]) (ρ' := [.f a1, .f a2, .f b1, .f b2, .b t0, .b t2, .b t5, .b t7, .b t10, .b t12, .f t15, .f t16, .i t17, .f t19, .f t20, .i t21, .f t23, .f t24, .i t25, .f t27, .f t28, .i t29, .f t31, .f t32, .i t33, .f t35, .f t36, .i t37, .f t39, .f t40, .i t41, .f t43, .f t44, .i t45, .f t47, .f t48, .i t49, .f t51, .f t52, .i t53, .f t55, .f t56, .i t57, .f t59, .f t60, .i t61, .f t63, .f t64, .i t65, .f t67, .f t68, .i t69, .f t71, .f t72, .i t73, .f t75, .f t76, .i t77]) rfl (congrArg (fun r => [calR r 0, calR r 1, calR r 2]) e78) rfl ?_
          obtain ⟨t79, t80, t81, e82⟩ : ∃ t79 t80 t81, (Dy.cDiv t77 (t63, t64) (t75, t76)) = ((t79, t80), t81) := Dy.ex3 _
          have g82 := Dy.good_div (a := (t63, t64)) (b := (t75, t76)) ⟨g78.1.1, g78.1.2⟩ (err := t77)
          rw [e82] at g82
          refine T.hbind (us := [.i t77, .f t63, .f t64, .f t75, .f t76]) (xs := [.f t79, .f t80, .i t81]) (ρ' := [.f a1, .f a2, .f b1, .f b2, .b t0, .b t2, .b t5, .b t7, .b t10, .b t12, .f t15, .f t16, .i t17, .f t19, .f t20, .i t21, .f t23, .f t24, .i t25, .f t27, .f t28, .i t29, .f t31, .f t32, .i t33, .f t35, .f t36, .i t37, .f t39, .f t40, .i t41, .f t43, .f t44, .i t45, .f t47, .f t48, .i t49, .f t51, .f t52, .i t53, .f t55, .f t56, .i t57, .f t59, .f t60, .i t61, .f t63, .f t64, .i t65, .f t67, .f t68, .i t69, .f t71, .f t72, .i t73, .f t75, .f t76, .i t77, .f t79, .f t80, .i t81]) rfl (congrArg (fun r => [calR r 0, calR r 1, calR r 2]) e82) rfl ?_
          obtain ⟨t83, t84, t85, e86⟩ : ∃ t83 t84 t85, (Dy.cSqr t81 (t79, t80)) = ((t83, t84), t85) := Dy.ex3 _
          have g86 := Dy.good_sqr (a := (t79, t80)) ⟨g82.1.1, g82.1.2⟩ (err := t81)
          rw [e86] at g86
          refine T.hbind (us := [.i t81, .f t79, .f t80]) (xs := [.f t83, .f t84, .i t85]) (ρ' := [.f a1, .f a2, .f b1, .f b2, .b t0, .b t2, .b t5, .b t7, .b t10, .b t12, .f t15, .f t16, .i t17, .f t19, .f t20, .i t21, .f t23, .f t24, .i t25, .f t27, .f t28, .i t29, .f t31, .f t32, .i t33, .f t35, .f t36, .i t37, .f t39, .f t40, .i t41, .f t43, .f t44, .i t45, .f t47, .f t48, .i t49, .f t51, .f t52, .i t53, .f t55, .f t56, .i t57, .f t59, .f t60, .i t61, .f t63, .f t64, .i t65, .f t67, .f t68, .i t69, .f t71, .f t72, .i t73, .f t75, .f t76, .i t77, .f t79, .f t80, .i t81, .f t83, .f t84, .i t85]) rfl (congrArg (fun r => [calR r 0, calR r 1, calR r 2]) e86) rfl ?_
          obtain ⟨t87, t88, t89, e90⟩ : ∃ t87 t88 t89, (Dy.cNum t85 4602678819172646912) = ((t87, t88), t89) := Dy.ex3 _
          have g90 := Dy.good_num (show Dy.W 4602678819172646912 from by unfold Dy.W; decide) (err := t85)
          rw [e90] at g90
          refine T.hbind (us := [.i t85, .f 4602678819172646912]) (xs := [.f t87, .f t88, .i t89]) (ρ' := [.f a1, .f a2, .f b1, .f b2, .b t0, .b t2, .b t5, .b t7, .b t10, .b t12, .f t15, .f t16, .i t17, .f t19, .f t20, .i t21, .f t23, .f t24, .i t25, .f t27, .f t28, .i t29, .f t31, .f t32, .i t33, .f t35, .f t36, .i t37, .f t39, .f t40, .i t41, .f t43, .f t44, .i t45, .f t47, .f t48, .i t49, .f t51, .f t52, .i t53, .f t55, .f t56, .i t57, .f t59, .f t60, .i t61, .f t63, .f t64, .i t65, .f t67, .f t68, .i t69, .f t71, .f t72, .i t73, .f t75, .f t76, .i t77, .f t79, .f t80, .i t81, .f t83, .f t84, .i t85, .f t87, .f t88, .i t89]) rfl (congrArg (fun r => [calR r 0, calR r 1, calR r 2]) e90) rfl ?_
          obtain ⟨t91, t92, t93, e94⟩ : ∃ t91 t92 t93, (Dy.cMul t89 (t87, t88) (t51, t52)) = ((t91, t92), t93) := Dy.ex3 _
          have g94 := Dy.good_mul (a := (t87, t88)) (b := (t51, t52)) (err := t89)
          rw [e94] at g94
          refine T.hbind (us := [.i t89, .f t87, .f t88, .f t51, .f t52]) (xs := [.f t91, .f t92, .i t93]) (ρ' := [.f a1, .f a2, .f b1, .f b2, .b t0, .b t2, .b t5, .b t7, .b t10, .b t12, .f t15, .f t16, .i t17, .f t19, .f t20, .i t21, .f t23, .f t24, .i t25, .f t27, .f t28, .i t29, .f t31, .f t32, .i t33, .f t35, .f t36, .i t37, .f t39, .f t40, .i t41, .f t43, .f t44, .i t45, .f t47, .f t48, .i t49, .f t51, .f t52, .i t53, .f t55, .f t56, .i t57, .f t59, .f t60, .i t61, .f t63, .f t64, .i t65, .f t67, .f t68, .i t69, .f t71, .f t72, .i t73, .f t75, .f t76, .i t77, .f t79, .f t80, .i t81, .f t83, .f t84, .i t85, .f t87, .f t88, .i t89, .f t91, .f t92, .i t93]) rfl (congrArg (fun r => [calR r 0, calR r 1, calR r 2]) e94) rfl ?_
          obtain ⟨t95, t96, t97, e98⟩ : ∃ t95 t96 t97, (Dy.cAdd t93 (t15, t16) (t83, t84)) = ((t95, t96), t97) := Dy.ex3 _
          have g98 := Dy.good_add (a := (t15, t16)) (b := (t83, t84)) (err := t93)
          rw [e98] at g98
          refine T.hbind (us := [.i t93, .f t15, .f t16, .f t83, .f t84]) (xs := [.f t95, .f t96, .i t97]) (ρ' := [.f a1, .f a2, .f b1, .f b2, .b t0, .b t2, .b t5, .b t7, .b t10, .b t12, .f t15, .f t16, .i t17, .f t19, .f t20, .i t21, .f t23, .f t24, .i t25, .f t27, .f t28, .i t29, .f t31, .f t32, .i t33, .f t35, .f t36, .i t37, .f t39, .f t40, .i t41, .f t43, .f t44, .i t45, .f t47, .f t48, .i t49, .f t51, .f t52, .i t53, .f t55, .f t56, .i t57, .f t59, .f t60, .i t61, .f t63, .f t64, .i t65, .f t67, .f t68, .i t69, .f t71, .f t72, .i t73, .f t75, .f t76, .i t77, .f t79, .f t80, .i t81, .f t83, .f t84, .i t85, .f t87, .f t88, .i t89, .f t91, .f t92, .i t93, .f t95, .f t96, .i t97]) rfl (congrArg (fun r => [calR r 0, calR r 1, calR r 2]) e98) rfl ?_
          obtain ⟨t99, t100, t101, e102⟩ : ∃ t99 t100 t101, (Dy.cMul t97 (t91, t92) (t95, t96)) = ((t99, t100), t101) := Dy.ex3 _
          have g102 := Dy.good_mul (a := (t91, t92)) (b := (t95, t96)) (err := t97)
          rw [e102] at g102
          refine T.hbind (us := [.i t97, .f t91, .f t92, .f t95, .f t96]) (xs := [.f t99, .f t100, .i t101]) (ρ' := [.f a1, .f a2, .f b1, .f b2, .b t0, .b t2, .b t5, .b t7, .b t10, .b t12, .f t15, .f t16, .i t17, .f t19, .f t20, .i t21, .f t23, .f t24, .i t25, .f t27, .f t28, .i t29, .f t31, .f t32, .i t33, .f t35, .f t36, .i t37, .f t39, .f t40, .i t41, .f t43, .f t44, .i t45, .f t47, .f t48, .i t49, .f t51, .f t52, .i t53, .f t55, .f t56, .i t57, .f t59, .f t60, .i t61, .f t63, .f t64, .i t65, .f t67, .f t68, .i t69, .f t71, .f t72, .i t73, .f t75, .f t76, .i t77, .f t79, .f t80, .i t81, .f t83, .f t84, .i t85, .f t87, .f t88, .i t89, .f t91, .f t92, .i t93, .f t95, .f t96, .i t97, .f t99, .f t100, .i t101]) rfl (congrArg (fun r => [calR r 0, calR r 1, calR r 2]) e102) rfl ?_
          obtain ⟨t103, t104, e105⟩ : ∃ t103 t104, (Dy.clip 0 4607182418800017408 (t99, t100)) = (t103, t104) := Dy.ex2 _
          have g105 := clip01_good (a := (t99, t100)) ⟨g102.1.1, g102.1.2⟩ g102.2
          rw [e105] at g105
          refine T.hbind (us := [.f t99, .f t100]) (xs := [.f t103, .f t104]) (ρ' := [.f a1, .f a2, .f b1, .f b2, .b t0, .b t2, .b t5, .b t7, .b t10, .b t12, .f t15, .f t16, .i t17, .f t19, .f t20, .i t21, .f t23, .f t24, .i t25, .f t27, .f t28, .i t29, .f t31, .f t32, .i t33, .f t35, .f t36, .i t37, .f t39, .f t40, .i t41, .f t43, .f t44, .i t45, .f t47, .f t48, .i t49, .f t51, .f t52, .i t53, .f t55, .f t56, .i t57, .f t59, .f t60, .i t61, .f t63, .f t64, .i t65, .f t67, .f t68, .i t69, .f t71, .f t72, .i t73, .f t75, .f t76, .i t77, .f t79, .f t80, .i t81, .f t83, .f t84, .i t85, .f t87, .f t88, .i t89, .f t91, .f t92, .i t93, .f t95, .f t96, .i t97, .f t99, .f t100, .i t101, .f t103, .f t104]) rfl (congrArg (fun r => [ivU r 0, ivU r 1]) e105) rfl ?_
          refine T.hneed (us := [.f t99, .f t100]) rfl (g102.2) ?_
          obtain ⟨t106, t107, t108, e109⟩ : ∃ t106 t107 t108, (Dy.told ((t103, t104), t101)) = ((t106, t107), t108) := Dy.ex3 _
          refine T.hbind (us := [.i t101, .f t103, .f t104]) (xs := [.f t106, .f t107, .i t108]) (ρ' := [.f a1, .f a2, .f b1, .f b2, .b t0, .b t2, .b t5, .b t7, .b t10, .b t12, .f t15, .f t16, .i t17, .f t19, .f t20, .i t21, .f t23, .f t24, .i t25, .f t27, .f t28, .i t29, .f t31, .f t32, .i t33, .f t35, .f t36, .i t37, .f t39, .f t40, .i t41, .f t43, .f t44, .i t45, .f t47, .f t48, .i t49, .f t51, .f t52, .i t53, .f t55, .f t56, .i t57, .f t59, .f t60, .i t61, .f t63, .f t64, .i t65, .f t67, .f t68, .i t69, .f t71, .f t72, .i t73, .f t75, .f t76, .i t77, .f t79, .f t80, .i t81, .f t83, .f t84, .i t85, .f t87, .f t88, .i t89, .f t91, .f t92, .i t93, .f t95, .f t96, .i t97, .f t99, .f t100, .i t101, .f t103, .f t104, .f t106, .f t107, .i t108]) rfl (congrArg (fun r => [calR r 0, calR r 1, calR r 2]) e109) rfl ?_
          refine T.hdone ?_
          have eM : dielM (a1, a2) (b1, b2) 0 = ((t103, t104), t101) := by
            unfold dielM
            refine (Dy.cs_num e18).trans ?_
            refine (Dy.cs_sqr e22).trans ?_
            refine (Dy.cs_sub e26).trans ?_
            refine (Dy.cs_sqr e30).trans ?_
            refine (Dy.cs_add e34).trans ?_
            refine (Dy.cs_sqrt e38).trans ?_
            refine (Dy.cs_sub e42).trans ?_
            refine (Dy.cs_add e46).trans ?_
            refine (Dy.cs_div e50).trans ?_
            refine (Dy.cs_sqr e54).trans ?_
            refine (Dy.cs_add e58).trans ?_
            refine (Dy.cs_mul e62).trans ?_
            refine (Dy.cs_sub e66).trans ?_
            refine (Dy.cs_sub e70).trans ?_
            refine (Dy.cs_mul e74).trans ?_
            refine (Dy.cs_add e78).trans ?_
            refine (Dy.cs_div e82).trans ?_
            refine (Dy.cs_sqr e86).trans ?_
            refine (Dy.cs_num e90).trans ?_
            refine (Dy.cs_mul e94).trans ?_
            refine (Dy.cs_add e98).trans ?_
            refine (Dy.cs_mul e102).trans ?_
            first | exact congrArg (fun r => (r, t101)) e105 | (rw [Dy.cm_pure]; simp only [Dy.iHull, e1, e3, c5, e6, e8, c10, e11, e13, c15, e109, e105])
          have e00 : dielG (a1, a2) (b1, b2) = ((t106, t107), t108) := by simp only [dielG, eM, e1, e3, c5, e6, e8, c10, e11, e13, c15, e109, reduceIte, Bool.false_eq_true, Bool.true_eq_false, Bool.true_and, Bool.false_and, Bool.and_true, Bool.and_false, Bool.true_or, Bool.false_or, Bool.or_true, Bool.or_false, Bool.not_true, Bool.not_false] <;> simp_all
          exact ⟨⟨⟨(congrArg (fun r => some (calR r 0)) e00.symm), (congrArg (fun r => some (calR r 1)) e00.symm), trivial⟩, ⟨rfl, (congrArg (fun r => some (calR r 2)) e00.symm)⟩, trivial⟩, trivial, rfl⟩

def g1 : List (Nat × Ct) := (29, ctDiel) :: g0
theorem g1_ok : AllOk Try.prog g1 := ⟨ctDiel_ok, g0_ok⟩

/-- What a conductor reflects, with its error. -/
def condG (cos eta k : Nat × Nat) : (Nat × Nat) × Int := if (Dy.ivR cos && (Dy.ivR eta && Dy.ivR k)) = true then (if wiB 0 4607182418800017408 cos = true then (if (wiB 4589168020290535424 4625196817309499392 eta && wiB 4589168020290535424 4625196817309499392 k) = true then Dy.told (condM cos eta k 0) else ((0, 0), 2)) else ((0, 0), 2)) else ((0, 0), 20)
def ctCond : Ct := ⟨6, [], [vp 0 1, vp 2 3, vp 4 5], { binds := [⟨fun us i => calR (condG (gF us 0, gF us 1) (gF us 2, gF us 3) (gF us 4, gF us 5)) i, 3, upto 0 6⟩], needs := [], val := .tup [vp 6 7, vi .i64 8], upd := [] }⟩
set_option maxRecDepth 100000 in
set_option maxHeartbeats 8000000 in
theorem ctCond_ok : CtOk Try.prog 34 ctCond := by
  refine CtOk.of_eval2 g1_ok (dr_ok g1_ok) Try.func34 rfl (by decide) [] 200 (by kernel_rfl) rfl (.bind ⟨fun us i => bRes ((Dy.ivR (gF us 0, gF us 1) && (Dy.ivR (gF us 2, gF us 3) && Dy.ivR (gF us 4, gF us 5)))) i, 1, [(.v 0), (.v 1), (.v 2), (.v 3), (.v 4), (.v 5)]⟩ (.bind ⟨fun us _ => nB us, 1, [(.v 6)]⟩ (.ite (.v 7) (.done .ret ⟨[.tup [.agg [.fl (.l (.f 0)), .fl (.l (.f 0))], .it .i64 (.l (.i 20))]], [], 8, []⟩) (.bind ⟨fun us i => bRes (wiB (gF us 0) (gF us 1) (gF us 2, gF us 3)) i, 1, [(.l (.f 0)), (.l (.f 4607182418800017408)), (.v 0), (.v 1)]⟩ (.bind ⟨fun us _ => nB us, 1, [(.v 8)]⟩ (.ite (.v 9) (.done .ret ⟨[.tup [.agg [.fl (.l (.f 0)), .fl (.l (.f 0))], .it .i64 (.l (.i 2))]], [], 10, []⟩) (.bind ⟨fun us i => bRes ((wiB (gF us 0) (gF us 1) (gF us 2, gF us 3) && wiB (gF us 0) (gF us 1) (gF us 4, gF us 5))) i, 1, [(.l (.f 4589168020290535424)), (.l (.f 4625196817309499392)), (.v 2), (.v 3), (.v 4), (.v 5)]⟩ (.bind ⟨fun us _ => nB us, 1, [(.v 10)]⟩ (.ite (.v 11) (.done .ret ⟨[.tup [.agg [.fl (.l (.f 0)), .fl (.l (.f 0))], .it .i64 (.l (.i 2))]], [], 12, []⟩) (.bind ⟨calF0 Dy.cNum, 3, [(.l (.i 0)), (.l (.f 4602678819172646912))]⟩ (.bind ⟨calF1 Dy.cSqr, 3, [(.v 14), (.v 0), (.v 1)]⟩ (.bind ⟨calF0 Dy.cNum, 3, [(.v 17), (.l (.f 4607182418800017408))]⟩ (.bind ⟨calF2 Dy.cSub, 3, [(.v 20), (.v 18), (.v 19), (.v 15), (.v 16)]⟩ (.bind ⟨fun us i => ivU (Dy.clip 0 4607182418800017408 (gF us 0, gF us 1)) i, 2, [(.v 21), (.v 22)]⟩ (.need ⟨nIv, [(.v 21), (.v 22)]⟩ (.bind ⟨calF1 Dy.cSqr, 3, [(.v 23), (.v 2), (.v 3)]⟩ (.bind ⟨calF1 Dy.cSqr, 3, [(.v 28), (.v 4), (.v 5)]⟩ (.bind ⟨calF2 Dy.cSub, 3, [(.v 31), (.v 26), (.v 27), (.v 29), (.v 30)]⟩ (.bind ⟨calF2 Dy.cSub, 3, [(.v 34), (.v 32), (.v 33), (.v 24), (.v 25)]⟩ (.bind ⟨calF1 Dy.cSqr, 3, [(.v 37), (.v 35), (.v 36)]⟩ (.bind ⟨calF0 Dy.cNum, 3, [(.v 40), (.l (.f 4616189618054758400))]⟩ (.bind ⟨calF2 Dy.cMul, 3, [(.v 43), (.v 26), (.v 27), (.v 29), (.v 30)]⟩ (.bind ⟨calF2 Dy.cMul, 3, [(.v 46), (.v 41), (.v 42), (.v 44), (.v 45)]⟩ (.bind ⟨calF2 Dy.cAdd, 3, [(.v 49), (.v 38), (.v 39), (.v 47), (.v 48)]⟩ (.bind ⟨calF1 Dy.cSqrt, 3, [(.v 52), (.v 50), (.v 51)]⟩ (.bind ⟨calF2 Dy.cAdd, 3, [(.v 55), (.v 53), (.v 54), (.v 35), (.v 36)]⟩ (.bind ⟨calF0 Dy.cNum, 3, [(.v 58), (.l (.f 0))]⟩ (.bind ⟨fun us i => calR (Dy.cMax (gI us 0) (gF us 1, gF us 2) (gF us 3, gF us 4)) i, 3, [(.v 61), (.v 56), (.v 57), (.v 59), (.v 60)]⟩ (.need ⟨nIv, [(.v 56), (.v 57)]⟩ (.need ⟨nIv, [(.v 59), (.v 60)]⟩ (.bind ⟨calF2 Dy.cMul, 3, [(.v 64), (.v 12), (.v 13), (.v 62), (.v 63)]⟩ (.bind ⟨calF1 Dy.cSqrt, 3, [(.v 67), (.v 65), (.v 66)]⟩ (.bind ⟨calF2 Dy.cAdd, 3, [(.v 70), (.v 53), (.v 54), (.v 15), (.v 16)]⟩ (.bind ⟨calF0 Dy.cNum, 3, [(.v 73), (.l (.f 4611686018427387904))]⟩ (.bind ⟨calF2 Dy.cMul, 3, [(.v 76), (.v 74), (.v 75), (.v 68), (.v 69)]⟩ (.bind ⟨calF2 Dy.cMul, 3, [(.v 79), (.v 77), (.v 78), (.v 0), (.v 1)]⟩ (.bind ⟨calF2 Dy.cSub, 3, [(.v 82), (.v 71), (.v 72), (.v 80), (.v 81)]⟩ (.bind ⟨calF2 Dy.cAdd, 3, [(.v 85), (.v 71), (.v 72), (.v 80), (.v 81)]⟩ (.bind ⟨calF2 Dy.cDiv, 3, [(.v 88), (.v 83), (.v 84), (.v 86), (.v 87)]⟩ (.bind ⟨fun us i => ivU (Dy.clip 0 4607182418800017408 (gF us 0, gF us 1)) i, 2, [(.v 89), (.v 90)]⟩ (.need ⟨nIv, [(.v 89), (.v 90)]⟩ (.bind ⟨calF2 Dy.cMul, 3, [(.v 91), (.v 15), (.v 16), (.v 53), (.v 54)]⟩ (.bind ⟨calF1 Dy.cSqr, 3, [(.v 96), (.v 24), (.v 25)]⟩ (.bind ⟨calF2 Dy.cAdd, 3, [(.v 99), (.v 94), (.v 95), (.v 97), (.v 98)]⟩ (.bind ⟨calF2 Dy.cMul, 3, [(.v 102), (.v 80), (.v 81), (.v 24), (.v 25)]⟩ (.bind ⟨calF2 Dy.cSub, 3, [(.v 105), (.v 100), (.v 101), (.v 103), (.v 104)]⟩ (.bind ⟨calF2 Dy.cAdd, 3, [(.v 108), (.v 100), (.v 101), (.v 103), (.v 104)]⟩ (.bind ⟨calF2 Dy.cDiv, 3, [(.v 111), (.v 106), (.v 107), (.v 109), (.v 110)]⟩ (.bind ⟨calF2 Dy.cMul, 3, [(.v 114), (.v 92), (.v 93), (.v 112), (.v 113)]⟩ (.bind ⟨fun us i => ivU (Dy.clip 0 4607182418800017408 (gF us 0, gF us 1)) i, 2, [(.v 115), (.v 116)]⟩ (.need ⟨nIv, [(.v 115), (.v 116)]⟩ (.bind ⟨calF2 Dy.cAdd, 3, [(.v 117), (.v 92), (.v 93), (.v 118), (.v 119)]⟩ (.bind ⟨calF2 Dy.cMul, 3, [(.v 122), (.v 12), (.v 13), (.v 120), (.v 121)]⟩ (.bind ⟨fun us i => calR (Dy.told ((gF us 1, gF us 2), gI us 0)) i, 3, [(.v 125), (.v 123), (.v 124)]⟩ (.done .ret ⟨[.tup [.agg [.fl (.v 126), .fl (.v 127)], .it .i64 (.v 128)]], [], 129, []⟩))))))))))))))))))))))))))))))))))))))))))))))))))))))) (by kernel_rfl) (by kernel_rfl) (by kernel_rfl) (fun us hl hF hB hN => ?_)
  match us, hl with
  | [u0, u1, u2, u3, u4, u5], _ =>
    simp [FactsB, FactsL, Facts, ctCond] at hF hB
    simp [NeedsAt, runB, evs, E.ev, upto, resl, List.range, List.range.loop, ctCond] at hN
    obtain ⟨⟨⟨a1, rfl, wa1⟩, ⟨a2, rfl, wa2⟩⟩, ⟨⟨b1, rfl, wb1⟩, ⟨b2, rfl, wb2⟩⟩, ⟨c1x, rfl, wc1x⟩, ⟨c2x, rfl, wc2x⟩⟩ := hF
    refine T.HH.h ?_
    obtain ⟨t0, e1⟩ : ∃ t0, (((Dy.ivR (a1, a2) && (Dy.ivR (b1, b2) && Dy.ivR (c1x, c2x))))) = t0 := ⟨_, rfl⟩
    refine T.hbind (us := [.f a1, .f a2, .f b1, .f b2, .f c1x, .f c2x]) (xs := [.b t0]) (ρ' := [.f a1, .f a2, .f b1, .f b2, .f c1x, .f c2x, .b t0]) rfl (congrArg (fun r => [U.b r]) e1) rfl ?_
    obtain ⟨t2, e3⟩ : ∃ t2, (!t0) = t2 := ⟨_, rfl⟩
    refine T.hbind (us := [.b t0]) (xs := [.b t2]) (ρ' := [.f a1, .f a2, .f b1, .f b2, .f c1x, .f c2x, .b t0, .b t2]) rfl (congrArg (fun r => [U.b r]) e3) rfl ?_
    refine T.hite (x := t2) ?_ ?_ ?_
    · rfl
    · intro c5
      refine T.hdone ?_
      have e00 : condG (a1, a2) (b1, b2) (c1x, c2x) = ((0, 0), 20) := by simp only [condG, e1, e3, c5, reduceIte, Bool.false_eq_true, Bool.true_eq_false, Bool.true_and, Bool.false_and, Bool.and_true, Bool.and_false, Bool.true_or, Bool.false_or, Bool.or_true, Bool.or_false, Bool.not_true, Bool.not_false, Dy.cm_bind, Dy.cm_pure, Dy.mNum, Dy.mAdd, Dy.mSub, Dy.mMul, Dy.mDiv, Dy.mSqr, Dy.mSqrt, Dy.mMax] <;> simp_all
      exact ⟨⟨⟨(congrArg (fun r => some (calR r 0)) e00.symm), (congrArg (fun r => some (calR r 1)) e00.symm), trivial⟩, ⟨rfl, (congrArg (fun r => some (calR r 2)) e00.symm)⟩, trivial⟩, trivial, rfl⟩
    · intro c5
      obtain ⟨t5, e6⟩ : ∃ t5, ((wiB (0) (4607182418800017408) (a1, a2))) = t5 := ⟨_, rfl⟩
      refine T.hbind (us := [.f 0, .f 4607182418800017408, .f a1, .f a2]) (xs := [.b t5]) (ρ' := [.f a1, .f a2, .f b1, .f b2, .f c1x, .f c2x, .b t0, .b t2, .b t5]) rfl (congrArg (fun r => [U.b r]) e6) rfl ?_
      obtain ⟨t7, e8⟩ : ∃ t7, (!t5) = t7 := ⟨_, rfl⟩
      refine T.hbind (us := [.b t5]) (xs := [.b t7]) (ρ' := [.f a1, .f a2, .f b1, .f b2, .f c1x, .f c2x, .b t0, .b t2, .b t5, .b t7]) rfl (congrArg (fun r => [U.b r]) e8) rfl ?_
      refine T.hite (x := t7) ?_ ?_ ?_
      · rfl
      · intro c10
        refine T.hdone ?_
        have e00 : condG (a1, a2) (b1, b2) (c1x, c2x) = ((0, 0), 2) := by simp only [condG, e1, e3, c5, e6, e8, c10, reduceIte, Bool.false_eq_true, Bool.true_eq_false, Bool.true_and, Bool.false_and, Bool.and_true, Bool.and_false, Bool.true_or, Bool.false_or, Bool.or_true, Bool.or_false, Bool.not_true, Bool.not_false, Dy.cm_bind, Dy.cm_pure, Dy.mNum, Dy.mAdd, Dy.mSub, Dy.mMul, Dy.mDiv, Dy.mSqr, Dy.mSqrt, Dy.mMax] <;> simp_all
        exact ⟨⟨⟨(congrArg (fun r => some (calR r 0)) e00.symm), (congrArg (fun r => some (calR r 1)) e00.symm), trivial⟩, ⟨rfl, (congrArg (fun r => some (calR r 2)) e00.symm)⟩, trivial⟩, trivial, rfl⟩
      · intro c10
        obtain ⟨t10, e11⟩ : ∃ t10, (((wiB (4589168020290535424) (4625196817309499392) (b1, b2) && wiB (4589168020290535424) (4625196817309499392) (c1x, c2x)))) = t10 := ⟨_, rfl⟩
        refine T.hbind (us := [.f 4589168020290535424, .f 4625196817309499392, .f b1, .f b2, .f c1x, .f c2x]) (xs := [.b t10]) (ρ' := [.f a1, .f a2, .f b1, .f b2, .f c1x, .f c2x, .b t0, .b t2, .b t5, .b t7, .b t10]) rfl (congrArg (fun r => [U.b r]) e11) rfl ?_
        obtain ⟨t12, e13⟩ : ∃ t12, (!t10) = t12 := ⟨_, rfl⟩
        refine T.hbind (us := [.b t10]) (xs := [.b t12]) (ρ' := [.f a1, .f a2, .f b1, .f b2, .f c1x, .f c2x, .b t0, .b t2, .b t5, .b t7, .b t10, .b t12]) rfl (congrArg (fun r => [U.b r]) e13) rfl ?_
        refine T.hite (x := t12) ?_ ?_ ?_
        · rfl
        · intro c15
          refine T.hdone ?_
          have e00 : condG (a1, a2) (b1, b2) (c1x, c2x) = ((0, 0), 2) := by simp only [condG, e1, e3, c5, e6, e8, c10, e11, e13, c15, reduceIte, Bool.false_eq_true, Bool.true_eq_false, Bool.true_and, Bool.false_and, Bool.and_true, Bool.and_false, Bool.true_or, Bool.false_or, Bool.or_true, Bool.or_false, Bool.not_true, Bool.not_false, Dy.cm_bind, Dy.cm_pure, Dy.mNum, Dy.mAdd, Dy.mSub, Dy.mMul, Dy.mDiv, Dy.mSqr, Dy.mSqrt, Dy.mMax] <;> simp_all
          exact ⟨⟨⟨(congrArg (fun r => some (calR r 0)) e00.symm), (congrArg (fun r => some (calR r 1)) e00.symm), trivial⟩, ⟨rfl, (congrArg (fun r => some (calR r 2)) e00.symm)⟩, trivial⟩, trivial, rfl⟩
        · intro c15
          obtain ⟨t15, t16, t17, e18⟩ : ∃ t15 t16 t17, (Dy.cNum 0 4602678819172646912) = ((t15, t16), t17) := Dy.ex3 _
          have g18 := Dy.good_num (show Dy.W 4602678819172646912 from by unfold Dy.W; decide) (err := 0)
          rw [e18] at g18
          refine T.hbind (us := [.i 0, .f 4602678819172646912]) (xs := [.f t15, .f t16, .i t17]) (ρ' := [.f a1, .f a2, .f b1, .f b2, .f c1x, .f c2x, .b t0, .b t2, .b t5, .b t7, .b t10, .b t12, .f t15, .f t16, .i t17]) rfl (congrArg (fun r => [calR r 0, calR r 1, calR r 2]) e18) rfl ?_
          obtain ⟨t19, t20, t21, e22⟩ : ∃ t19 t20 t21, (Dy.cSqr t17 (a1, a2)) = ((t19, t20), t21) := Dy.ex3 _
          have g22 := Dy.good_sqr (a := (a1, a2)) ⟨wa1, wa2⟩ (err := t17)
          rw [e22] at g22
          refine T.hbind (us := [.i t17, .f a1, .f a2]) (xs := [.f t19, .f t20, .i t21]) (ρ' := [.f a1, .f a2, .f b1, .f b2, .f c1x, .f c2x, .b t0, .b t2, .b t5, .b t7, .b t10, .b t12, .f t15, .f t16, .i t17, .f t19, .f t20, .i t21]) rfl (congrArg (fun r => [calR r 0, calR r 1, calR r 2]) e22) rfl ?_
          obtain ⟨t23, t24, t25, e26⟩ : ∃ t23 t24 t25, (Dy.cNum t21 4607182418800017408) = ((t23, t24), t25) := Dy.ex3 _
          have g26 := Dy.good_num (show Dy.W 4607182418800017408 from by unfold Dy.W; decide) (err := t21)
          rw [e26] at g26
          refine T.hbind (us := [.i t21, .f 4607182418800017408]) (xs := [.f t23, .f t24, .i t25]) (ρ' := [.f a1, .f a2, .f b1, .f b2, .f c1x, .f c2x, .b t0, .b t2, .b t5, .b t7, .b t10, .b t12, .f t15, .f t16, .i t17, .f t19, .f t20, .i t21, .f t23, .f t24, .i t25]) rfl (congrArg (fun r => [calR r 0, calR r 1, calR r 2]) e26) rfl ?_
          obtain ⟨t27, t28, t29, e30⟩ : ∃ t27 t28 t29, (Dy.cSub t25 (t23, t24) (t19, t20)) = ((t27, t28), t29) := Dy.ex3 _
          have g30 := Dy.good_sub (a := (t23, t24)) (b := (t19, t20)) ⟨g22.1.1, g22.1.2⟩ (err := t25)
          rw [e30] at g30
          refine T.hbind (us := [.i t25, .f t23, .f t24, .f t19, .f t20]) (xs := [.f t27, .f t28, .i t29]) (ρ' := [.f a1, .f a2, .f b1, .f b2, .f c1x, .f c2x, .b t0, .b t2, .b t5, .b t7, .b t10, .b t12, .f t15, .f t16, .i t17, .f t19, .f t20, .i t21, .f t23, .f t24, .i t25, .f t27, .f t28, .i t29]) rfl (congrArg (fun r => [calR r 0, calR r 1, calR r 2]) e30) rfl ?_
          obtain ⟨t31, t32, e33⟩ : ∃ t31 t32, (Dy.clip 0 4607182418800017408 (t27, t28)) = (t31, t32) := Dy.ex2 _
          have g33 := clip01_good (a := (t27, t28)) ⟨g30.1.1, g30.1.2⟩ g30.2
          rw [e33] at g33
          refine T.hbind (us := [.f t27, .f t28]) (xs := [.f t31, .f t32]) (ρ' := [.f a1, .f a2, .f b1, .f b2, .f c1x, .f c2x, .b t0, .b t2, .b t5, .b t7, .b t10, .b t12, .f t15, .f t16, .i t17, .f t19, .f t20, .i t21, .f t23, .f t24, .i t25, .f t27, .f t28, .i t29, .f t31, .f t32]) rfl (congrArg (fun r => [ivU r 0, ivU r 1]) e33) rfl ?_
          refine T.hneed (us := [.f t27, .f t28]) rfl (g30.2) ?_
          obtain ⟨t34, t35, t36, e37⟩ : ∃ t34 t35 t36, (Dy.cSqr t29 (b1, b2)) = ((t34, t35), t36) := Dy.ex3 _
          have g37 := Dy.good_sqr (a := (b1, b2)) ⟨wb1, wb2⟩ (err := t29)
          rw [e37] at g37
          refine T.hbind (us := [.i t29, .f b1, .f b2]) (xs := [.f t34, .f t35, .i t36]) (ρ' := [.f a1, .f a2, .f b1, .f b2, .f c1x, .f c2x, .b t0, .b t2, .b t5, .b t7, .b t10, .b t12, .f t15, .f t16, .i t17, .f t19, .f t20, .i t21, .f t23, .f t24, .i t25, .f t27, .f t28, .i t29, .f t31, .f t32, .f t34, .f t35, .i t36]) rfl (congrArg (fun r => [calR r 0, calR r 1, calR r 2]) e37) rfl ?_
          obtain ⟨t38, t39, t40, e41⟩ : ∃ t38 t39 t40, (Dy.cSqr t36 (c1x, c2x)) = ((t38, t39), t40) := Dy.ex3 _
          have g41 := Dy.good_sqr (a := (c1x, c2x)) ⟨wc1x, wc2x⟩ (err := t36)
          rw [e41] at g41
          refine T.hbind (us := [.i t36, .f c1x, .f c2x]) (xs := [.f t38, .f t39, .i t40]) (ρ' := [.f a1, .f a2, .f b1, .f b2, .f c1x, .f c2x, .b t0, .b t2, .b t5, .b t7, .b t10, .b t12, .f t15, .f t16, .i t17, .f t19, .f t20, .i t21, .f t23, .f t24, .i t25, .f t27, .f t28, .i t29, .f t31, .f t32, .f t34, .f t35, .i t36, .f t38, .f t39, .i t40]) rfl (congrArg (fun r => [calR r 0, calR r 1, calR r 2]) e41) rfl ?_
          obtain ⟨t42, t43, t44, e45⟩ : ∃ t42 t43 t44, (Dy.cSub t40 (t34, t35) (t38, t39)) = ((t42, t43), t44) := Dy.ex3 _
          have g45 := Dy.good_sub (a := (t34, t35)) (b := (t38, t39)) ⟨g41.1.1, g41.1.2⟩ (err := t40)
          rw [e45] at g45
          refine T.hbind (us := [.i t40, .f t34, .f t35, .f t38, .f t39]) (xs := [.f t42, .f t43, .i t44]) (ρ' := [.f a1, .f a2, .f b1, .f b2, .f c1x, .f c2x, .b t0, .b t2, .b t5, .b t7, .b t10, .b t12, .f t15, .f t16, .i t17, .f t19, .f t20, .i t21, .f t23, .f t24, .i t25, .f t27, .f t28, .i t29, .f t31, .f t32, .f t34, .f t35, .i t36, .f t38, .f t39, .i t40, .f t42, .f t43, .i t44]) rfl (congrArg (fun r => [calR r 0, calR r 1, calR r 2]) e45) rfl ?_
          obtain ⟨t46, t47, t48, e49⟩ : ∃ t46 t47 t48, (Dy.cSub t44 (t42, t43) (t31, t32)) = ((t46, t47), t48) := Dy.ex3 _
          have g49 := Dy.good_sub (a := (t42, t43)) (b := (t31, t32)) ⟨g33.1.1, g33.1.2⟩ (err := t44)
          rw [e49] at g49
          refine T.hbind (us := [.i t44, .f t42, .f t43, .f t31, .f t32]) (xs := [.f t46, .f t47, .i t48]) (ρ' := [.f a1, .f a2, .f b1, .f b2, .f c1x, .f c2x, .b t0, .b t2, .b t5, .b t7, .b t10, .b t12, .f t15, .f t16, .i t17, .f t19, .f t20, .i t21, .f t23, .f t24, .i t25, .f t27, .f t28, .i t29, .f t31, .f t32, .f t34, .f t35, .i t36, .f t38, .f t39, .i t40, .f t42, .f t43, .i t44, .f t46, .f t47, .i t48]) rfl (congrArg (fun r => [calR r 0, calR r 1, calR r 2]) e49) rfl ?_
          obtain ⟨t50, t51, t52, e53⟩ : ∃ t50 t51 t52, (Dy.cSqr t48 (t46, t47)) = ((t50, t51), t52) := Dy.ex3 _
          have g53 := Dy.good_sqr (a := (t46, t47)) ⟨g49.1.1, g49.1.2⟩ (err := t48)
          rw [e53] at g53
          refine T.hbind (us := [.i t48, .f t46, .f t47]) (xs := [.f t50, .f t51, .i t52]) (ρ' := [.f a1, .f a2, .f b1, .f b2, .f c1x, .f c2x, .b t0, .b t2, .b t5, .b t7, .b t10, .b t12, .f t15, .f t16, .i t17, .f t19, .f t20, .i t21, .f t23, .f t24, .i t25, .f t27, .f t28, .i t29, .f t31, .f t32, .f t34, .f t35, .i t36, .f t38, .f t39, .i t40, .f t42, .f t43, .i t44, .f t46, .f t47, .i t48, .f t50, .f t51, .i t52]) rfl (congrArg (fun r => [calR r 0, calR r 1, calR r 2]) e53) rfl ?_
          obtain ⟨t54, t55, t56, e57⟩ : ∃ t54 t55 t56, (Dy.cNum t52 4616189618054758400) = ((t54, t55), t56) := Dy.ex3 _
          have g57 := Dy.good_num (show Dy.W 4616189618054758400 from by unfold Dy.W; decide) (err := t52)
          rw [e57] at g57
          refine T.hbind (us := [.i t52, .f 4616189618054758400]) (xs := [.f t54, .f t55, .i t56]) (ρ' := [.f a1, .f a2, .f b1, .f b2, .f c1x, .f c2x, .b t0, .b t2, .b t5, .b t7, .b t10, .b t12, .f t15, .f t16, .i t17, .f t19, .f t20, .i t21, .f t23, .f t24, .i t25, .f t27, .f t28, .i t29, .f t31, .f t32, .f t34, .f t35, .i t36, .f t38, .f t39, .i t40, .f t42, .f t43, .i t44, .f t46, .f t47, .i t48, .f t50, .f t51, .i t52, .f t54, .f t55, .i t56]) rfl (congrArg (fun r => [calR r 0, calR r 1, calR r 2]) e57) rfl ?_
          obtain ⟨t58, t59, t60, e61⟩ : ∃ t58 t59 t60, (Dy.cMul t56 (t34, t35) (t38, t39)) = ((t58, t59), t60) := Dy.ex3 _
          have g61 := Dy.good_mul (a := (t34, t35)) (b := (t38, t39)) (err := t56)
          rw [e61] at g61
          refine T.hbind (us := [.i t56, .f t34, .f t35, .f t38, .f t39]) (xs := [.f t58, .f t59, .i t60]) (ρ' := [.f a1, .f a2, .f b1, .f b2, .f c1x, .f c2x, .b t0, .b t2, .b t5, .b t7, .b t10, .b t12, .f t15, .f t16, .i t17, .f t19, .f t20, .i t21, .f t23, .f t24, .i t25, .f t27, .f t28, .i t29, .f t31, .f t32, .f t34, .f t35, .i t36, .f t38, .f t39, .i t40, .f t42, .f t43, .i t44, .f t46, .f t47, .i t48, .f t50, .f t51, .i t52, .f t54, .f t55, .i t56, .f t58, .f t59, .i t60]) rfl (congrArg (fun r => [calR r 0, calR r 1, calR r 2]) e61) rfl ?_
          obtain ⟨t62, t63, t64, e65⟩ : ∃ t62 t63 t64, (Dy.cMul t60 (t54, t55) (t58, t59)) = ((t62, t63), t64) := Dy.ex3 _
          have g65 := Dy.good_mul (a := (t54, t55)) (b := (t58, t59)) (err := t60)
          rw [e65] at g65
          refine T.hbind (us := [.i t60, .f t54, .f t55, .f t58, .f t59]) (xs := [.f t62, .f t63, .i t64]) (ρ' := [.f a1, .f a2, .f b1, .f b2, .f c1x, .f c2x, .b t0, .b t2, .b t5, .b t7, .b t10, .b t12, .f t15, .f t16, .i t17, .f t19, .f t20, .i t21, .f t23, .f t24, .i t25, .f t27, .f t28, .i t29, .f t31, .f t32, .f t34, .f t35, .i t36, .f t38, .f t39, .i t40, .f t42, .f t43, .i t44, .f t46, .f t47, .i t48, .f t50, .f t51, .i t52, .f t54, .f t55, .i t56, .f t58, .f t59, .i t60, .f t62, .f t63, .i t64]) rfl (congrArg (fun r => [calR r 0, calR r 1, calR r 2]) e65) rfl ?_
          obtain ⟨t66, t67, t68, e69⟩ : ∃ t66 t67 t68, (Dy.cAdd t64 (t50, t51) (t62, t63)) = ((t66, t67), t68) := Dy.ex3 _
          have g69 := Dy.good_add (a := (t50, t51)) (b := (t62, t63)) (err := t64)
          rw [e69] at g69
          refine T.hbind (us := [.i t64, .f t50, .f t51, .f t62, .f t63]) (xs := [.f t66, .f t67, .i t68]) (ρ' := [.f a1, .f a2, .f b1, .f b2, .f c1x, .f c2x, .b t0, .b t2, .b t5, .b t7, .b t10, .b t12, .f t15, .f t16, .i t17, .f t19, .f t20, .i t21, .f t23, .f t24, .i t25, .f t27, .f t28, .i t29, .f t31, .f t32, .f t34, .f t35, .i t36, .f t38, .f t39, .i t40, .f t42, .f t43, .i t44, .f t46, .f t47, .i t48, .f t50, .f t51, .i t52, .f t54, .f t55, .i t56, .f t58, .f t59, .i t60, .f t62, .f t63, .i t64, .f t66, .f t67, .i t68]) rfl (congrArg (fun r => [calR r 0, calR r 1, calR r 2]) e69) rfl ?_
          obtain ⟨t70, t71, t72, e73⟩ : ∃ t70 t71 t72, (Dy.cSqrt t68 (t66, t67)) = ((t70, t71), t72) := Dy.ex3 _
          have g73 := Dy.good_sqrt (a := (t66, t67)) ⟨g69.1.1, g69.1.2⟩ (err := t68)
          rw [e73] at g73
          refine T.hbind (us := [.i t68, .f t66, .f t67]) (xs := [.f t70, .f t71, .i t72]) (ρ' := [.f a1, .f a2, .f b1, .f b2, .f c1x, .f c2x, .b t0, .b t2, .b t5, .b t7, .b t10, .b t12, .f t15, .f t16, .i t17, .f t19, .f t20, .i t21, .f t23, .f t24, .i t25, .f t27, .f t28, .i t29, .f t31, .f t32, .f t34, .f t35, .i t36, .f t38, .f t39, .i t40, .f t42, .f t43, .i t44, .f t46, .f t47, .i t48, .f t50, .f t51, .i t52, .f t54, .f t55, .i t56, .f t58, .f t59, .i t60, .f t62, .f t63, .i t64, .f t66, .f t67, .i t68, .f t70, .f t71, .i t72]) rfl (congrArg (fun r => [calR r 0, calR r 1, calR r 2]) e73) rfl ?_
          obtain ⟨t74, t75, t76, e77⟩ : ∃ t74 t75 t76, (Dy.cAdd t72 (t70, t71) (t46, t47)) = ((t74, t75), t76) := Dy.ex3 _
          have g77 := Dy.good_add (a := (t70, t71)) (b := (t46, t47)) (err := t72)
          rw [e77] at g77
          refine T.hbind (us := [.i t72, .f t70, .f t71, .f t46, .f t47]) (xs := [.f t74, .f t75, .i t76]) (ρ' := [.f a1, .f a2, .f b1, .f b2, .f c1x, .f c2x, .b t0, .b t2, .b t5, .b t7, .b t10, .b t12, .f t15, .f t16, .i t17, .f t19, .f t20, .i t21, .f t23, .f t24, .i t25, .f t27, .f t28, .i t29, .f t31, .f t32, .f t34, .f t35, .i t36, .f t38, .f t39, .i t40, .f t42, .f t43, .i t44, .f t46, .f t47, .i t48, .f t50, .f t51, .i t52, .f t54, .f t55, .i t56, .f t58, .f t59, .i t60, .f t62, .f t63, .i t64, .f t66, .f t67, .i t68, .f t70, .f t71, .i t72, .f t74, .f t75, .i t76]) rfl (congrArg (fun r => [calR r 0, calR r 1, calR r 2]) e77) rfl ?_
          obtain ⟨t78, t79, t80, e81⟩ : ∃ t78 t79 t80, (Dy.cNum t76 0) = ((t78, t79), t80) := Dy.ex3 _
          have g81 := Dy.good_num (show Dy.W 0 from by unfold Dy.W; decide) (err := t76)
          rw [e81] at g81
          refine T.hbind (us := [.i t76, .f 0]) (xs := [.f t78, .f t79, .i t80]) (ρ' := [.f a1, .f a2, .f b1, .f b2, .f c1x, .f c2x, .b t0, .b t2, .b t5, .b t7, .b t10, .b t12, .f t15, .f t16, .i t17, .f t19, .f t20, .i t21, .f t23, .f t24, .i t25, .f t27, .f t28, .i t29, .f t31, .f t32, .f t34, .f t35, .i t36, .f t38, .f t39, .i t40, .f t42, .f t43, .i t44, .f t46, .f t47, .i t48, .f t50, .f t51, .i t52, .f t54, .f t55, .i t56, .f t58, .f t59, .i t60, .f t62, .f t63, .i t64, .f t66, .f t67, .i t68, .f t70, .f t71, .i t72, .f t74, .f t75, .i t76, .f t78, .f t79, .i t80]) rfl (congrArg (fun r => [calR r 0, calR r 1, calR r 2]) e81) rfl ?_
          obtain ⟨t82, t83, t84, e85⟩ : ∃ t82 t83 t84, (Dy.cMax (t80) (t74, t75) (t78, t79)) = ((t82, t83), t84) := Dy.ex3 _
          have g85 := Dy.good_max (a := (t74, t75)) (b := (t78, t79)) ⟨g77.1.1, g77.1.2⟩ ⟨g81.1.1, g81.1.2⟩ (err := t80)
          rw [e85] at g85
          refine T.hbind (us := [.i t80, .f t74, .f t75, .f t78, .f t79]) (xs := [.f t82, .f t83, .i t84]) (ρ' := [.f a1, .f a2, .f b1, .f b2, .f c1x, .f c2x, .b t0, .b t2, .b t5, .b t7, .b t10, .b t12, .f t15, .f t16, .i t17, .f t19, .f t20, .i t21, .f t23, .f t24, .i t25, .f t27, .f t28, .i t29, .f t31, .f t32, .f t34, .f t35, .i t36, .f t38, .f t39, .i t40, .f t42, .f t43, .i t44, .f t46, .f t47, .i t48, .f t50, .f t51, .i t52, .f t54, .f t55, .i t56, .f t58, .f t59, .i t60, .f t62, .f t63, .i t64, .f t66, .f t67, .i t68, .f t70, .f t71, .i t72, .f t74, .f t75, .i t76, .f t78, .f t79, .i t80, .f t82, .f t83, .i t84]) rfl (congrArg (fun r => [calR r 0, calR r 1, calR r 2]) e85) rfl ?_
          refine T.hneed (us := [.f t74, .f t75]) rfl (g77.2) ?_
          refine T.hneed (us := [.f t78, .f t79]) rfl (g81.2) ?_
          obtain ⟨t86, t87, t88, e89⟩ : ∃ t86 t87 t88, (Dy.cMul t84 (t15, t16) (t82, t83)) = ((t86, t87), t88) := Dy.ex3 _
          have g89 := Dy.good_mul (a := (t15, t16)) (b := (t82, t83)) (err := t84)
          rw [e89] at g89
          refine T.hbind (us := [.i t84, .f t15, .f t16, .f t82, .f t83]) (xs := [.f t86, .f t87, .i t88]) (ρ' := [.f a1, .f a2, .f b1, .f b2, .f c1x, .f c2x, .b t0, .b t2, .b t5, .b t7, .b t10, .b t12, .f t15, .f t16, .i t17, .f t19, .f t20, .i t21, .f t23, .f t24, .i t25, .f t27, .f t28, .i t29, .f t31, .f t32, .f t34, .f t35, .i t36, .f t38, .f t39, .i t40, .f t42, .f t43, .i t44, .f t46, .f t47, .i t48, .f t50, .f t51, .i t52, .f t54, .f t55, .i t56, .f t58, .f t59, .i t60, .f t62, .f t63, .i t64, .f t66, .f t67, .i t68, .f t70, .f t71, .i t72, .f t74, .f t75, .i t76, .f t78, .f t79, .i t80, .f t82, .f t83, .i t84, .f t86, .f t87, .i t88]) rfl (congrArg (fun r => [calR r 0, calR r 1, calR r 2]) e89) rfl ?_
          obtain ⟨t90, t91, t92, e93⟩ : ∃ t90 t91 t92, (Dy.cSqrt t88 (t86, t87)) = ((t90, t91), t92) := Dy.ex3 _
          have g93 := Dy.good_sqrt (a := (t86, t87)) ⟨g89.1.1, g89.1.2⟩ (err := t88)
          rw [e93] at g93
          refine T.hbind (us := [.i t88, .f t86, .f t87]) (xs := [.f t90, .f t91, .i t92]) (ρ' := [.f a1, .f a2, .f b1, .f b2, .f c1x, .f c2x, .b t0, .b t2, .b t5, .b t7, .b t10, .b t12, .f t15, .f t16, .i t17, .f t19, .f t20, .i t21, .f t23, .f t24, .i t25, .f t27, .f t28, .i t29, .f t31, .f t32, .f t34, .f t35, .i t36, .f t38, .f t39, .i t40, .f t42, .f t43, .i t44, .f t46, .f t47, .i t48, .f t50, .f t51, .i t52, .f t54, .f t55, .i t56, .f t58, .f t59, .i t60, .f t62, .f t63, .i t64, .f t66, .f t67, .i t68, .f t70, .f t71, .i t72, .f t74, .f t75, .i t76, .f t78, .f t79, .i t80, .f t82, .f t83, .i t84, .f t86, .f t87, .i t88, .f t90, .f t91, .i t92]) rfl (congrArg (fun r => [calR r 0, calR r 1, calR r 2]) e93) rfl ?_
          obtain ⟨t94, t95, t96, e97⟩ : ∃ t94 t95 t96, (Dy.cAdd t92 (t70, t71) (t19, t20)) = ((t94, t95), t96) := Dy.ex3 _
          have g97 := Dy.good_add (a := (t70, t71)) (b := (t19, t20)) (err := t92)
          rw [e97] at g97
          refine T.hbind (us := [.i t92, .f t70, .f t71, .f t19, .f t20]) (xs := [.f t94, .f t95, .i t96]) (ρ' := [.f a1, .f a2, .f b1, .f b2, .f c1x, .f c2x, .b t0, .b t2, .b t5, .b t7, .b t10, .b t12, .f t15, .f t16, .i t17, .f t19, .f t20, .i t21, .f t23, .f t24, .i t25, .f t27, .f t28, .i t29, .f t31, .f t32, .f t34, .f t35, .i t36, .f t38, .f t39, .i t40, .f t42, .f t43, .i t44, .f t46, .f t47, .i t48, .f t50, .f t51, .i t52, .f t54, .f t55, .i t56, .f t58, .f t59, .i t60, .f t62, .f t63, .i t64, .f t66, .f t67, .i t68, .f t70, .f t71, .i t72, .f t74, .f t75, .i t76, .f t78, .f t79, .i t80, .f t82, .f t83, .i t84, .f t86, .f t87, .i t88, .f t90, .f t91, .i t92, .f t94, .f t95, .i t96]) rfl (congrArg (fun r => [calR r 0, calR r 1, calR r 2]) e97) rfl ?_
          obtain ⟨t98, t99, t100, e101⟩ : ∃ t98 t99 t100, (Dy.cNum t96 4611686018427387904) = ((t98, t99), t100) := Dy.ex3 _
          have g101 := Dy.good_num (show Dy.W 4611686018427387904 from by unfold Dy.W; decide) (err := t96)
          rw [e101] at g101
          refine T.hbind (us := [.i t96, .f 4611686018427387904]) (xs := [.f t98, .f t99, .i t100]) (ρ' := [.f a1, .f a2, .f b1, .f b2, .f c1x, .f c2x, .b t0, .b t2, .b t5, .b t7, .b t10, .b t12, .f t15, .f t16, .i t17, .f t19, .f t20, .i t21, .f t23, .f t24, .i t25, .f t27, .f t28, .i t29, .f t31, .f t32, .f t34, .f t35, .i t36, .f t38, .f t39, .i t40, .f t42, .f t43, .i t44, .f t46, .f t47, .i t48, .f t50, .f t51, .i t52, .f t54, .f t55, .i t56, .f t58, .f t59, .i t60, .f t62, .f t63, .i t64, .f t66, .f t67, .i t68, .f t70, .f t71, .i t72, .f t74, .f t75, .i t76, .f t78, .f t79, .i t80, .f t82, .f t83, .i t84, .f t86, .f t87, .i t88, .f t90, .f t91, .i t92, .f t94, .f t95, .i t96, .f t98, .f t99, .i t100]) rfl (congrArg (fun r => [calR r 0, calR r 1, calR r 2]) e101) rfl ?_
          obtain ⟨t102, t103, t104, e105⟩ : ∃ t102 t103 t104, (Dy.cMul t100 (t98, t99) (t90, t91)) = ((t102, t103), t104) := Dy.ex3 _
          have g105 := Dy.good_mul (a := (t98, t99)) (b := (t90, t91)) (err := t100)
          rw [e105] at g105
          refine T.hbind (us := [.i t100, .f t98, .f t99, .f t90, .f t91]) (xs := [.f t102, .f t103, .i t104]) (ρ' := [.f a1, .f a2, .f b1, .f b2, .f c1x, .f c2x, .b t0, .b t2, .b t5, .b t7, .b t10, .b t12, .f t15, .f t16, .i t17, .f t19, .f t20, .i t21, .f t23, .f t24, .i t25, .f t27, .f t28, .i t29, .f t31, .f t32, .f t34, .f t35, .i t36, .f t38, .f t39, .i t40, .f t42, .f t43, .i t44, .f t46, .f t47, .i t48, .f t50, .f t51, .i t52, .f t54, .f t55, .i t56, .f t58, .f t59, .i t60, .f t62, .f t63, .i t64, .f t66, .f t67, .i t68, .f t70, .f t71, .i t72, .f t74, .f t75, .i t76, .f t78, .f t79, .i t80, .f t82, .f t83, .i t84, .f t86, .f t87, .i t88, .f t90, .f t91, .i t92, .f t94, .f t95, .i t96, .f t98, .f t99, .i t100, .f t102, .f t103, .i t104]) rfl (congrArg (fun r => [calR r 0, calR r 1, calR r 2]) e105) rfl ?_
          obtain ⟨t106, t107, t108, e109⟩ : ∃ t106 t107 t108, (Dy.cMul t104 (t102, t103) (a1, a2)) = ((t106, t107), t108) := Dy.ex3 _
          have g109 := Dy.good_mul (a := (t102, t103)) (b := (a1, a2)) (err := t104)
          rw [e109] at g109
          refine T.hbind (us := [.i t104, .f t102, .f t103, .f a1, .f a2]) (xs := [.f t106, .f t107, .i t108]) (ρ' := [.f a1, .f a2, .f b1, .f b2, .f c1x, .f c2x, .b t0, .b t2, .b t5, .b t7, .b t10, .b t12, .f t15, .f t16, .i t17, .f t19, .f t20, .i t21, .f t23, .f t24, .i t25, .f t27, .f t28, .i t29, .f t31, .f t32, .f t34, .f t35, .i t36, .f t38, .f t39, .i t40, .f t42, .f t43, .i t44, .f t46, .f t47, .i t48, .f t50, .f t51, .i t52, .f t54, .f t55, .i t56, .f t58, .f t59, .i t60, .f t62, .f t63, .i t64, .f t66, .f t67, .i t68, .f t70, .f t71, .i t72, .f t74, .f t75, .i t76, .f t78, .f t79, .i t80, .f t82, .f t83, .i t84, .f t86, .f t87, .i t88, .f t90, .f t91, .i t92, .f t94, .f t95, .i t96, .f t98, .f t99, .i t100, .f t102, .f t103, .i t104, .f t106, .f t107, .i t108]) rfl (congrArg (fun r => [calR r 0, calR r 1, calR r 2]) e109) rfl ?_
          obtain ⟨t110, t111, t112, e113⟩ : ∃ t110 t111 t112, (Dy.cSub t108 (t94, t95) (t106, t107)) = ((t110, t111), t112) := Dy.ex3 _
          have g113 := Dy.good_sub (a := (t94, t95)) (b := (t106, t107)) ⟨g109.1.1, g109.1.2⟩ (err := t108)
          rw [e113] at g113
          refine T.hbind (us := [.i t108, .f t94, .f t95, .f t106, .f t107]) (xs := [.f t110, .f t111, .i t112]) (ρ' := [.f a1, .f a2, .f b1, .f b2, .f c1x, .f c2x, .b t0, .b t2, .b t5, .b t7, .b t10, .b t12, .f t15, .f t16, .i t17, .f t19, .f t20, .i t21, .f t23, .f t24, .i t25, .f t27, .f t28, .i t29, .f t31, .f t32, .f t34, .f t35, .i t36, .f t38, .f t39, .i t40, .f t42, .f t43, .i t44, .f t46, .f t47, .i t48, .f t50, .f t51, .i t52, .f t54, .f t55, .i t56, .f t58, .f t59, .i t60, .f t62, .f t63, .i t64, .f t66, .f t67, .i t68, .f t70, .f t71, .i t72, .f t74, .f t75, .i t76, .f t78, .f t79, .i t80, .f t82, .f t83, .i t84, .f t86, .f t87, .i t88, .f t90, .f t91, .i t92, .f t94, .f t95, .i t96, .f t98, .f t99, .i t100, .f t102, .f t103, .i t104, .f t106, .f t107, .i t108, .f t110, .f t111, .i t112]) rfl (congrArg (fun r => [calR r 0, calR r 1, calR r 2]) e113) rfl ?_
          obtain ⟨t114, t115, t116, e117⟩ : ∃ t114 t115 t116, (Dy.cAdd t112 (t94, t95) (t106, t107)) = ((t114, t115), t116) := Dy.ex3 _
          have g117 := Dy.good_add (a := (t94, t95)) (b := (t106, t107)) (err := t112)
          rw [e117] at g117
          refine T.hbind (us := [.i t112, .f t94, .f t95, .f t106, .f t107]) (xs := [.f t114, .f t115, .i t116]) (ρ' := [.f a1, .f a2, .f b1, .f b2, .f c1x, .f c2x, .b t0, .b t2, .b t5, .b t7, .b t10, .b t12, .f t15, .f t16, .i t17, .f t19, .f t20, .i t21, .f t23, .f t24, .i t25, .f t27, .f t28, .i t29, .f t31, .f t32, .f t34, .f t35, .i t36, .f t38, .f t39, .i t40, .f t42, .f t43, .i t44, .f t46, .f t47, .i t48, .f t50, .f t51, .i t52, .f t54, .f t55, .i t56, .f t58, .f t59, .i t60, .f t62, .f t63, .i t64, .f t66, .f t67, .i t68, .f t70, .f t71, .i t72, .f t74, .f t75, .i t76, .f t78, .f t79, .i t80, .f t82, .f t83, .i t84, .f t86, .f t87, .i t88, .f t90, .f t91, .i t92, .f t94, .f t95, .i t96, .f t98, .f t99, .i t100, .f t102, .f t103, .i t104, .f t106, .f t107, .i t108, .f t110, .f t111, .i t112, .f t114, .f t115, .i t116]) rfl (congrArg (fun r => [calR r 0, calR r 1, calR r 2]) e117) rfl ?_
          obtain ⟨t118, t119, t120, e121⟩ : ∃ t118 t119 t120, (Dy.cDiv t116 (t110, t111) (t114, t115)) = ((t118, t119), t120) := Dy.ex3 _
          have g121 := Dy.good_div (a := (t110, t111)) (b := (t114, t115)) ⟨g117.1.1, g117.1.2⟩ (err := t116)
          rw [e121] at g121
          refine T.hbind (us := [.i t116, .f t110, .f t111, .f t114, .f t115]) (xs := [.f t118, .f t119, .i t120]) (ρ' := [.f a1, .f a2, .f b1, .f b2, .f c1x, .f c2x, .b t0, .b t2, .b t5, .b t7, .b t10, .b t12, .f t15, .f t16, .i t17, .f t19, .f t20, .i t21, .f t23, .f t24, .i t25, .f t27, .f t28, .i t29, .f t31, .f t32, .f t34, .f t35, .i t36, .f t38, .f t39, .i t40, .f t42, .f t43, .i t44, .f t46, .f t47, .i t48, .f t50, .f t51, .i t52, .f t54, .f t55, .i t56, .f t58, .f t59, .i t60, .f t62, .f t63, .i t64, .f t66, .f t67, .i t68, .f t70, .f t71, .i t72, .f t74, .f t75, .i t76, .f t78, .f t79, .i t80, .f t82, .f t83, .i t84, .f t86, .f t87, .i t88, .f t90, .f t91, .i t92, .f t94, .f t95, .i t96, .f t98, .f t99, .i t100, .f t102, .f t103, .i t104, .f t106, .f t107, .i t108, .f t110, .f t111, .i t112, .f t114, .f t115, .i t116, .f t118, .f t119, .i t120]) rfl (congrArg (fun r => [calR r 0, calR r 1, calR r 2]) e121) rfl ?_
          obtain ⟨t122, t123, e124⟩ : ∃ t122 t123, (Dy.clip 0 4607182418800017408 (t118, t119)) = (t122, t123) := Dy.ex2 _
          have g124 := clip01_good (a := (t118, t119)) ⟨g121.1.1, g121.1.2⟩ g121.2
          rw [e124] at g124
          refine T.hbind (us := [.f t118, .f t119]) (xs := [.f t122, .f t123]) (ρ' := [.f a1, .f a2, .f b1, .f b2, .f c1x, .f c2x, .b t0, .b t2, .b t5, .b t7, .b t10, .b t12, .f t15, .f t16, .i t17, .f t19, .f t20, .i t21, .f t23, .f t24, .i t25, .f t27, .f t28, .i t29, .f t31, .f t32, .f t34, .f t35, .i t36, .f t38, .f t39, .i t40, .f t42, .f t43, .i t44, .f t46, .f t47, .i t48, .f t50, .f t51, .i t52, .f t54, .f t55, .i t56, .f t58, .f t59, .i t60, .f t62, .f t63, .i t64, .f t66, .f t67, .i t68, .f t70, .f t71, .i t72, .f t74, .f t75, .i t76, .f t78, .f t79, .i t80, .f t82, .f t83, .i t84, .f t86, .f t87, .i t88, .f t90, .f t91, .i t92, .f t94, .f t95, .i t96, .f t98, .f t99, .i t100, .f t102, .f t103, .i t104, .f t106, .f t107, .i t108, .f t110, .f t111, .i t112, .f t114, .f t115, .i t116, .f t118, .f t119, .i t120, .f t122, .f t123]) rfl (congrArg (fun r => [ivU r 0, ivU r 1]) e124) rfl ?_
          refine T.hneed (us := [.f t118, .f t119]) rfl (g121.2) ?_
          obtain ⟨t125, t126, t127, e128⟩ : ∃ t125 t126 t127, (Dy.cMul t120 (t19, t20) (t70, t71)) = ((t125, t126), t127) := Dy.ex3 _
          have g128 := Dy.good_mul (a := (t19, t20)) (b := (t70, t71)) (err := t120)
          rw [e128] at g128
          refine T.hbind (us := [.i t120, .f t19, .f t20, .f t70, .f t71]) (xs := [.f t125, .f t126, .i t127]) (ρ' := [.f a1, .f a2, .f b1, .f b2, .f c1x, .f c2x, .b t0, .b t2, .b t5, .b t7, .b t10, .b t12, .f t15, .f t16, .i t17, .f t19, .f t20, .i t21, .f t23, .f t24, .i t25, .f t27, .f t28, .i t29, .f t31, .f t32, .f t34, .f t35, .i t36, .f t38, .f t39, .i t40, .f t42, .f t43, .i t44, .f t46, .f t47, .i t48, .f t50, .f t51, .i t52, .f t54, .f t55, .i t56, .f t58, .f t59, .i t60, .f t62, .f t63, .i t64, .f t66, .f t67, .i t68, .f t70, .f t71, .i t72, .f t74, .f t75, .i t76, .f t78, .f t79, .i t80, .f t82, .f t83, .i t84, .f t86, .f t87, .i t88, .f t90, .f t91, .i t92, .f t94, .f t95, .i t96, .f t98, .f t99, .i t100, .f t102, .f t103, .i t104, .f t106, .f t107, .i t108, .f t110, .f t111, .i t112, .f t114, .f t115, .i t116, .f t118, .f t119, .i t120, .f t122, .f t123, .f t125, .f t126, .i t127]) rfl (congrArg (fun r => [calR r 0, calR r 1, calR r 2]) e128) rfl ?_
          obtain ⟨t129, t130, t131, e132⟩ : ∃ t129 t130 t131, (Dy.cSqr t127 (t31, t32)) = ((t129, t130), t131) := Dy.ex3 _
          have g132 := Dy.good_sqr (a := (t31, t32)) ⟨g33.1.1, g33.1.2⟩ (err := t127)
          rw [e132] at g132
          refine T.hbind (us := [.i t127, .f t31, .f t32]) (xs := [.f t129, .f t130, .i t131]) (ρ' := [.f a1, .f a2, .f b1, .f b2, .f c1x, .f c2x, .b t0, .b t2, .b t5, .b t7, .b t10, .b t12, .f t15, .f t16, .i t17, .f t19, .f t20, .i t21, .f t23, .f t24, .i t25, .f t27, .f t28, .i t29, .f t31, .f t32, .f t34, .f t35, .i t36, .f t38, .f t39, .i t40, .f t42, .f t43, .i t44, .f t46, .f t47, .i t48, .f t50, .f t51, .i t52, .f t54, .f t55, .i t56, .f t58, .f t59, .i t60, .f t62, .f t63, .i t64, .f t66, .f t67, .i t68, .f t70, .f t71, .i t72, .f t74, .f t75, .i t76, .f t78, .f t79, .i t80, .f t82, .f t83, .i t84, .f t86, .f t87, .i t88, .f t90, .f t91, .i t92, .f t94, .f t95, .i t96, .f t98, .f t99, .i t100, .f t102, .f t103, .i t104, .f t106, .f t107, .i t108, .f t110, .f t111, .i t112, .f t114, .f t115, .i t116, .f t118, .f t119, .i t120, .f t122, .f t123, .f t125, .f t126, .i t127, .f t129, .f t130, .i t131]) rfl (congrArg (fun r => [calR r 0, calR r 1, calR r 2]) e132) rfl ?_
          obtain ⟨t133, t134, t135, e136⟩ : ∃ t133 t134 t135, (Dy.cAdd t131 (t125, t126) (t129, t130)) = ((t133, t134), t135) := Dy.ex3 _
          have g136 := Dy.good_add (a := (t125, t126)) (b := (t129, t130)) (err := t131)
          rw [e136] at g136
          refine T.hbind (us := [.i t131, .f t125, .f t126, .f t129, .f t130]) (xs := [.f t133, .f t134, .i t135]) (ρ' := [.f a1, .f a2, .f b1, .f b2, .f c1x, .f c2x, .b t0, .b t2, .b t5, .b t7, .b t10, .b t12, .f t15, .f t16, .i t17, .f t19, .f t20, .i t21, .f t23, .f t24, .i t25, .f t27, .f t28, .i t29, .f t31, .f t32, .f t34, .f t35, .i t36, .f t38, .f t39, .i t40, .f t42, .f t43, .i t44, .f t46, .f t47, .i t48, .f t50, .f t51, .i t52, .f t54, .f t55, .i t56, .f t58, .f t59, .i t60, .f t62, .f t63, .i t64, .f t66, .f t67, .i t68, .f t70, .f t71, .i t72, .f t74, .f t75, .i t76, .f t78, .f t79, .i t80, .f t82, .f t83, .i t84, .f t86, .f t87, .i t88, .f t90, .f t91, .i t92, .f t94, .f t95, .i t96, .f t98, .f t99, .i t100, .f t102, .f t103, .i t104, .f t106, .f t107, .i t108, .f t110, .f t111, .i t112, .f t114, .f t115, .i t116, .f t118, .f t119, .i t120, .f t122, .f t123, .f t125, .f t126, .i t127, .f t129, .f t130, .i t131, .f t133, .f t134, .i t135]) rfl (congrArg (fun r => [calR r 0, calR r 1, calR r 2]) e136) rfl ?_
          obtain ⟨t137, t138, t139, e140⟩ : ∃ t137 t138 t139, (Dy.cMul t135 (t106, t107) (t31, t32)) = ((t137, t138), t139) := Dy.ex3 _
          have g140 := Dy.good_mul (a := (t106, t107)) (b := (t31, t32)) (err := t135)
          rw [e140] at g140
          refine T.hbind (us := [.i t135, .f t106, .f t107, .f t31, .f t32]) (xs := [.f t137, .f t138, .i t139]) (ρ' := [.f a1, .f a2, .f b1, .f b2, .f c1x, .f c2x, .b t0, .b t2, .b t5, .b t7, .b t10, .b t12, .f t15, .f t16, .i t17, .f t19, .f t20, .i t21, .f t23, .f t24, .i t25, .f t27, .f t28, .i t29, .f t31, .f t32, .f t34, .f t35, .i t36, .f t38, .f t39, .i t40, .f t42, .f t43, .i t44, .f t46, .f t47, .i t48, .f t50, .f t51, .i t52, .f t54, .f t55, .i t56, .f t58, .f t59, .i t60, .f t62, .f t63, .i t64, .f t66, .f t67, .i t68, .f t70, .f t71, .i t72, .f t74, .f t75, .i t76, .f t78, .f t79, .i t80, .f t82, .f t83, .i t84, .f t86, .f t87, .i t88, .f t90, .f t91, .i t92, .f t94, .f t95, .i t96, .f t98, .f t99, .i t100, .f t102, .f t103, .i t104, .f t106, .f t107, .i t108, .f t110, .f t111, .i t112, .f t114, .f t115, .i t116, .f t118, .f t119, .i t120, .f t122, .f t123, .f t125, .f t126, .i t127, .f t129, .f t130, .i t131, .f t133, .f t134, .i t135, .f t137, .f t138, .i t139]) rfl (congrArg (fun r => [calR r 0, calR r 1, calR r 2]) e140) rfl ?_
          obtain ⟨t141, t142, t143, e144⟩ : ∃ t141 t142 t143, (Dy.cSub t139 (t133, t134) (t137, t138)) = ((t141, t142), t143) := Dy.ex3 _
          have g144 := Dy.good_sub (a := (t133, t134)) (b := (t137, t138)) ⟨g140.1.1, g140.1.2⟩ (err := t139)
          rw [e144] at g144
          refine T.hbind (us := [.i t139, .f t133, .f t134, .f t137, .f t138]) (xs := [.f t141, .f t142, .i t143]) (ρ' := [.f a1, .f a2, .f b1, .f b2, .f c1x, .f c2x, .b t0, .b t2, .b t5, .b t7, .b t10, .b t12, .f t15, .f t16, .i t17, .f t19, .f t20, .i t21, .f t23, .f t24, .i t25, .f t27, .f t28, .i t29, .f t31, .f t32, .f t34, .f t35, .i t36, .f t38, .f t39, .i t40, .f t42, .f t43, .i t44, .f t46, .f t47, .i t48, .f t50, .f t51, .i t52, .f t54, .f t55, .i t56, .f t58, .f t59, .i t60, .f t62, .f t63, .i t64, .f t66, .f t67, .i t68, .f t70, .f t71, .i t72, .f t74, .f t75, .i t76, .f t78, .f t79, .i t80, .f t82, .f t83, .i t84, .f t86, .f t87, .i t88, .f t90, .f t91, .i t92, .f t94, .f t95, .i t96, .f t98, .f t99, .i t100, .f t102, .f t103, .i t104, .f t106, .f t107, .i t108, .f t110, .f t111, .i t112, .f t114, .f t115, .i t116, .f t118, .f t119, .i t120, .f t122, .f t123, .f t125, .f t126, .i t127, .f t129, .f t130, .i t131, .f t133, .f t134, .i t135, .f t137, .f t138, .i t139, .f t141, .f t142, .i t143]) rfl (congrArg (fun r => [calR r 0, calR r 1, calR r 2]) e144) rfl ?_
          obtain ⟨t145, t146, t147, e148⟩ : ∃ t145 t146 t147, (Dy.cAdd t143 (t133, t134) (t137, t138)) = ((t145, t146), t147) := Dy.ex3 _
          have g148 := Dy.good_add (a := (t133, t134)) (b := (t137, t138)) (err := t143)
          rw [e148] at g148
          refine T.hbind (us := [.i t143, .f t133, .f t134, .f t137, .f t138]) (xs := [.f t145, .f t146, .i t147]) (ρ' := [.f a1, .f a2, .f b1, .f b2, .f c1x, .f c2x, .b t0, .b t2, .b t5, .b t7, .b t10, .b t12, .f t15, .f t16, .i t17, .f t19, .f t20, .i t21, .f t23, .f t24, .i t25, .f t27, .f t28, .i t29, .f t31, .f t32, .f t34, .f t35, .i t36, .f t38, .f t39, .i t40, .f t42, .f t43, .i t44, .f t46, .f t47, .i t48, .f t50, .f t51, .i t52, .f t54, .f t55, .i t56, .f t58, .f t59, .i t60, .f t62, .f t63, .i t64, .f t66, .f t67, .i t68, .f t70, .f t71, .i t72, .f t74, .f t75, .i t76, .f t78, .f t79, .i t80, .f t82, .f t83, .i t84, .f t86, .f t87, .i t88, .f t90, .f t91, .i t92, .f t94, .f t95, .i t96, .f t98, .f t99, .i t100, .f t102, .f t103, .i t104, .f t106, .f t107, .i t108, .f t110, .f t111, .i t112, .f t114, .f t115, .i t116, .f t118, .f t119, .i t120, .f t122, .f t123, .f t125, .f t126, .i t127, .f t129, .f t130, .i t131, .f t133, .f t134, .i t135, .f t137, .f t138, .i t139, .f t141, .f t142, .i t143, .f t145, .f t146, .i t147]) rfl (congrArg (fun r => [calR r 0, calR r 1, calR r 2]) e148) rfl ?_
          obtain ⟨t149, t150, t151, e152⟩ : ∃ t149 t150 t151, (Dy.cDiv t147 (t141, t142) (t145, t146)) = ((t149, t150), t151) := Dy.ex3 _
          have g152 := Dy.good_div (a := (t141, t142)) (b := (t145, t146)) ⟨g148.1.1, g148.1.2⟩ (err := t147)
          rw [e152] at g152
          refine T.hbind (us := [.i t147, .f t141, .f t142, .f t145, .f t146]) (xs := [.f t149, .f t150, .i t151]) (ρ' := [.f a1, .f a2, .f b1, .f b2, .f c1x, .f c2x, .b t0, .b t2, .b t5, .b t7, .b t10, .b t12, .f t15, .f t16, .i t17, .f t19, .f t20, .i t21, .f t23, .f t24, .i t25, .f t27, .f t28, .i t29, .f t31, .f t32, .f t34, .f t35, .i t36, .f t38, .f t39, .i t40, .f t42, .f t43, .i t44, .f t46, .f t47, .i t48, .f t50, .f t51, .i t52, .f t54, .f t55, .i t56, .f t58, .f t59, .i t60, .f t62, .f t63, .i t64, .f t66, .f t67, .i t68, .f t70, .f t71, .i t72, .f t74, .f t75, .i t76, .f t78, .f t79, .i t80, .f t82, .f t83, .i t84, .f t86, .f t87, .i t88, .f t90, .f t91, .i t92, .f t94, .f t95, .i t96, .f t98, .f t99, .i t100, .f t102, .f t103, .i t104, .f t106, .f t107, .i t108, .f t110, .f t111, .i t112, .f t114, .f t115, .i t116, .f t118, .f t119, .i t120, .f t122, .f t123, .f t125, .f t126, .i t127, .f t129, .f t130, .i t131, .f t133, .f t134, .i t135, .f t137, .f t138, .i t139, .f t141, .f t142, .i t143, .f t145, .f t146, .i t147, .f t149, .f t150, .i t151]) rfl (congrArg (fun r => [calR r 0, calR r 1, calR r 2]) e152) rfl ?_
          obtain ⟨t153, t154, t155, e156⟩ : ∃ t153 t154 t155, (Dy.cMul t151 (t122, t123) (t149, t150)) = ((t153, t154), t155) := Dy.ex3 _
          have g156 := Dy.good_mul (a := (t122, t123)) (b := (t149, t150)) (err := t151)
          rw [e156] at g156
          refine T.hbind (us := [.i t151, .f t122, .f t123, .f t149, .f t150]) (xs := [.f t153, .f t154, .i t155]) (ρ' := [.f a1, .f a2, .f b1, .f b2, .f c1x, .f c2x, .b t0, .b t2, .b t5, .b t7, .b t10, .b t12, .f t15, .f t16, .i t17, .f t19, .f t20, .i t21, .f t23, .f t24, .i t25, .f t27, .f t28, .i t29, .f t31, .f t32, .f t34, .f t35, .i t36, .f t38, .f t39, .i t40, .f t42, .f t43, .i t44, .f t46, .f t47, .i t48, .f t50, .f t51, .i t52, .f t54, .f t55, .i t56, .f t58, .f t59, .i t60, .f t62, .f t63, .i t64, .f t66, .f t67, .i t68, .f t70, .f t71, .i t72, .f t74, .f t75, .i t76, .f t78, .f t79, .i t80, .f t82, .f t83, .i t84, .f t86, .f t87, .i t88, .f t90, .f t91, .i t92, .f t94, .f t95, .i t96, .f t98, .f t99, .i t100, .f t102, .f t103, .i t104, .f t106, .f t107, .i t108, .f t110, .f t111, .i t112, .f t114, .f t115, .i t116, .f t118, .f t119, .i t120, .f t122, .f t123, .f t125, .f t126, .i t127, .f t129, .f t130, .i t131, .f t133, .f t134, .i t135, .f t137, .f t138, .i t139, .f t141, .f t142, .i t143, .f t145, .f t146, .i t147, .f t149, .f t150, .i t151, .f t153, .f t154, .i t155]) rfl (congrArg (fun r => [calR r 0, calR r 1, calR r 2]) e156) rfl ?_
          obtain ⟨t157, t158, e159⟩ : ∃ t157 t158, (Dy.clip 0 4607182418800017408 (t153, t154)) = (t157, t158) := Dy.ex2 _
          have g159 := clip01_good (a := (t153, t154)) ⟨g156.1.1, g156.1.2⟩ g156.2
          rw [e159] at g159
          refine T.hbind (us := [.f t153, .f t154]) (xs := [.f t157, .f t158]) (ρ' := [.f a1, .f a2, .f b1, .f b2, .f c1x, .f c2x, .b t0, .b t2, .b t5, .b t7, .b t10, .b t12, .f t15, .f t16, .i t17, .f t19, .f t20, .i t21, .f t23, .f t24, .i t25, .f t27, .f t28, .i t29, .f t31, .f t32, .f t34, .f t35, .i t36, .f t38, .f t39, .i t40, .f t42, .f t43, .i t44, .f t46, .f t47, .i t48, .f t50, .f t51, .i t52, .f t54, .f t55, .i t56, .f t58, .f t59, .i t60, .f t62, .f t63, .i t64, .f t66, .f t67, .i t68, .f t70, .f t71, .i t72, .f t74, .f t75, .i t76, .f t78, .f t79, .i t80, .f t82, .f t83, .i t84, .f t86, .f t87, .i t88, .f t90, .f t91, .i t92, .f t94, .f t95, .i t96, .f t98, .f t99, .i t100, .f t102, .f t103, .i t104, .f t106, .f t107, .i t108, .f t110, .f t111, .i t112, .f t114, .f t115, .i t116, .f t118, .f t119, .i t120, .f t122, .f t123, .f t125, .f t126, .i t127, .f t129, .f t130, .i t131, .f t133, .f t134, .i t135, .f t137, .f t138, .i t139, .f t141, .f t142, .i t143, .f t145, .f t146, .i t147, .f t149, .f t150, .i t151, .f t153, .f t154, .i t155, .f t157, .f t158]) rfl (congrArg (fun r => [ivU r 0, ivU r 1]) e159) rfl ?_
          refine T.hneed (us := [.f t153, .f t154]) rfl (g156.2) ?_
          obtain ⟨t160, t161, t162, e163⟩ : ∃ t160 t161 t162, (Dy.cAdd t155 (t122, t123) (t157, t158)) = ((t160, t161), t162) := Dy.ex3 _
          have g163 := Dy.good_add (a := (t122, t123)) (b := (t157, t158)) (err := t155)
          rw [e163] at g163
          refine T.hbind (us := [.i t155, .f t122, .f t123, .f t157, .f t158]) (xs := [.f t160, .f t161, .i t162]) (ρ' := [.f a1, .f a2, .f b1, .f b2, .f c1x, .f c2x, .b t0, .b t2, .b t5, .b t7, .b t10, .b t12, .f t15, .f t16, .i t17, .f t19, .f t20, .i t21, .f t23, .f t24, .i t25, .f t27, .f t28, .i t29, .f t31, .f t32, .f t34, .f t35, .i t36, .f t38, .f t39, .i t40, .f t42, .f t43, .i t44, .f t46, .f t47, .i t48, .f t50, .f t51, .i t52, .f t54, .f t55, .i t56, .f t58, .f t59, .i t60, .f t62, .f t63, .i t64, .f t66, .f t67, .i t68, .f t70, .f t71, .i t72, .f t74, .f t75, .i t76, .f t78, .f t79, .i t80, .f t82, .f t83, .i t84, .f t86, .f t87, .i t88, .f t90, .f t91, .i t92, .f t94, .f t95, .i t96, .f t98, .f t99, .i t100, .f t102, .f t103, .i t104, .f t106, .f t107, .i t108, .f t110, .f t111, .i t112, .f t114, .f t115, .i t116, .f t118, .f t119, .i t120, .f t122, .f t123, .f t125, .f t126, .i t127, .f t129, .f t130, .i t131, .f t133, .f t134, .i t135, .f t137, .f t138, .i t139, .f t141, .f t142, .i t143, .f t145, .f t146, .i t147, .f t149, .f t150, .i t151, .f t153, .f t154, .i t155, .f t157, .f t158, .f t160, .f t161, .i t162]) rfl (congrArg (fun r => [calR r 0, calR r 1, calR r 2]) e163) rfl ?_
          obtain ⟨t164, t165, t166, e167⟩ : ∃ t164 t165 t166, (Dy.cMul t162 (t15, t16) (t160, t161)) = ((t164, t165), t166) := Dy.ex3 _
          have g167 := Dy.good_mul (a := (t15, t16)) (b := (t160, t161)) (err := t162)
          rw [e167] at g167
          refine T.hbind (us := [.i t162, .f t15, .f t16, .f t160, .f t161]) (xs := [.f t164, .f t165, .i t166]) (ρ' := [.f a1, .f a2, .f b1, .f b2, .f c1x, .f c2x, .b t0, .b t2, .b t5, .b t7, .b t10, .b t12, .f t15, .f t16, .i t17, .f t19, .f t20, .i t21, .f t23, .f t24, .i t25, .f t27, .f t28, .i t29, .f t31, .f t32, .f t34, .f t35, .i t36, .f t38, .f t39, .i t40, .f t42, .f t43, .i t44, .f t46, .f t47, .i t48, .f t50, .f t51, .i t52, .f t54, .f t55, .i t56, .f t58, .f t59, .i t60, .f t62, .f t63, .i t64, .f t66, .f t67, .i t68, .f t70, .f t71, .i t72, .f t74, .f t75, .i t76, .f t78, .f t79, .i t80, .f t82, .f t83, .i t84, .f t86, .f t87, .i t88, .f t90, .f t91, .i t92, .f t94, .f t95, .i t96, .f t98, .f t99, .i t100, .f t102, .f t103, .i t104, .f t106, .f t107, .i t108, .f t110, .f t111, .i t112, .f t114, .f t115, .i t116, .f t118, .f t119, .i t120, .f t122, .f t123, .f t125, .f t126, .i t127, .f t129, .f t130, .i t131, .f t133, .f t134, .i t135, .f t137, .f t138, .i t139, .f t141, .f t142, .i t143, .f t145, .f t146, .i t147, .f t149, .f t150, .i t151, .f t153, .f t154, .i t155, .f t157, .f t158, .f t160, .f t161, .i t162, .f t164, .f t165, .i t166]) rfl (congrArg (fun r => [calR r 0, calR r 1, calR r 2]) e167) rfl ?_
          obtain ⟨t168, t169, t170, e171⟩ : ∃ t168 t169 t170, (Dy.told ((t164, t165), t166)) = ((t168, t169), t170) := Dy.ex3 _
          refine T.hbind (us := [.i t166, .f t164, .f t165]) (xs := [.f t168, .f t169, .i t170]) (ρ' := [.f a1, .f a2, .f b1, .f b2, .f c1x, .f c2x, .b t0, .b t2, .b t5, .b t7, .b t10, .b t12, .f t15, .f t16, .i t17, .f t19, .f t20, .i t21, .f t23, .f t24, .i t25, .f t27, .f t28, .i t29, .f t31, .f t32, .f t34, .f t35, .i t36, .f t38, .f t39, .i t40, .f t42, .f t43, .i t44, .f t46, .f t47, .i t48, .f t50, .f t51, .i t52, .f t54, .f t55, .i t56, .f t58, .f t59, .i t60, .f t62, .f t63, .i t64, .f t66, .f t67, .i t68, .f t70, .f t71, .i t72, .f t74, .f t75, .i t76, .f t78, .f t79, .i t80, .f t82, .f t83, .i t84, .f t86, .f t87, .i t88, .f t90, .f t91, .i t92, .f t94, .f t95, .i t96, .f t98, .f t99, .i t100, .f t102, .f t103, .i t104, .f t106, .f t107, .i t108, .f t110, .f t111, .i t112, .f t114, .f t115, .i t116, .f t118, .f t119, .i t120, .f t122, .f t123, .f t125, .f t126, .i t127, .f t129, .f t130, .i t131, .f t133, .f t134, .i t135, .f t137, .f t138, .i t139, .f t141, .f t142, .i t143, .f t145, .f t146, .i t147, .f t149, .f t150, .i t151, .f t153, .f t154, .i t155, .f t157, .f t158, .f t160, .f t161, .i t162, .f t164, .f t165, .i t166, .f t168, .f t169, .i t170]) rfl (congrArg (fun r => [calR r 0, calR r 1, calR r 2]) e171) rfl ?_
          refine T.hdone ?_
          have eM : condM (a1, a2) (b1, b2) (c1x, c2x) 0 = ((t164, t165), t166) := by
            unfold condM
            refine (Dy.cs_num e18).trans ?_
            refine (Dy.cs_sqr e22).trans ?_
            refine (Dy.cs_num e26).trans ?_
            refine (Dy.cs_sub e30).trans ?_
            refine (Dy.cm_p e33).trans ?_
            refine (Dy.cs_sqr e37).trans ?_
            refine (Dy.cs_sqr e41).trans ?_
            refine (Dy.cs_sub e45).trans ?_
            refine (Dy.cs_sub e49).trans ?_
            refine (Dy.cs_sqr e53).trans ?_
            refine (Dy.cs_num e57).trans ?_
            refine (Dy.cs_mul e61).trans ?_
            refine (Dy.cs_mul e65).trans ?_
            refine (Dy.cs_add e69).trans ?_
            refine (Dy.cs_sqrt e73).trans ?_
            refine (Dy.cs_add e77).trans ?_
            refine (Dy.cs_num e81).trans ?_
            refine (Dy.cs_max e85).trans ?_
            refine (Dy.cs_mul e89).trans ?_
            refine (Dy.cs_sqrt e93).trans ?_
            refine (Dy.cs_add e97).trans ?_
            refine (Dy.cs_num e101).trans ?_
            refine (Dy.cs_mul e105).trans ?_
            refine (Dy.cs_mul e109).trans ?_
            refine (Dy.cs_sub e113).trans ?_
            refine (Dy.cs_add e117).trans ?_
            refine (Dy.cs_div e121).trans ?_
            refine (Dy.cm_p e124).trans ?_
            refine (Dy.cs_mul e128).trans ?_
            refine (Dy.cs_sqr e132).trans ?_
            refine (Dy.cs_add e136).trans ?_
            refine (Dy.cs_mul e140).trans ?_
            refine (Dy.cs_sub e144).trans ?_
            refine (Dy.cs_add e148).trans ?_
            refine (Dy.cs_div e152).trans ?_
            refine (Dy.cs_mul e156).trans ?_
            refine (Dy.cm_p e159).trans ?_
            refine (Dy.cs_add e163).trans ?_
            first | exact e167 | (refine (Dy.cs_mul e167).trans ?_; rfl) | (refine (Dy.cs_mul e167).trans ?_; rw [Dy.cm_pure]; simp only [e1, e3, c5, e6, e8, c10, e11, e13, c15, e171])
          have e00 : condG (a1, a2) (b1, b2) (c1x, c2x) = ((t168, t169), t170) := by simp only [condG, eM, e1, e3, c5, e6, e8, c10, e11, e13, c15, e171, reduceIte, Bool.false_eq_true, Bool.true_eq_false, Bool.true_and, Bool.false_and, Bool.and_true, Bool.and_false, Bool.true_or, Bool.false_or, Bool.or_true, Bool.or_false, Bool.not_true, Bool.not_false] <;> simp_all
          exact ⟨⟨⟨(congrArg (fun r => some (calR r 0)) e00.symm), (congrArg (fun r => some (calR r 1)) e00.symm), trivial⟩, ⟨rfl, (congrArg (fun r => some (calR r 2)) e00.symm)⟩, trivial⟩, trivial, rfl⟩

def g2 : List (Nat × Ct) := (34, ctCond) :: g1
theorem g2_ok : AllOk Try.prog g2 := ⟨ctCond_ok, g1_ok⟩

end Go.Proofs.Ythmkjnhgialnlaa
