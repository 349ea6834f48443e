/- A reckoning of programs by symbols: burnishlaw02.point. -/
import Derived.Test.YtiphdhpacklboaaYo
import Derived.Test.YtiphdhpacklboaaZo
import Derived.Test.YtiphdhpacklboaaEb
import Derived.Test.YtiphdhpacklboaaCa
namespace Go.Proofs.Ytiphdhpacklboaa
open Go Go.RowKit
set_option linter.unusedSimpArgs false
set_option linter.unusedVariables false

def p0 : List (Nat × Ct) := o3
theorem p0_ok : AllOk Try.prog p0 := o3_ok
/-- What an operation answers of numbers, either way. -/
def pointG (k : Int) (x y : Nat) (up : Bool) : Nat × Bool := if (k.tmod 11 == 0) = true then ((Dy.dAdd x y up).1, (Dy.dAdd x y up).2 == 0) else if (k.tmod 11 == 1) = true then ((Dy.dSub x y up).1, (Dy.dSub x y up).2 == 0) else if (k.tmod 11 == 2) = true then ((Dy.dMul x y up).1, (Dy.dMul x y up).2 == 0) else if (k.tmod 11 == 3) = true then ((Dy.dDiv x y up).1, (Dy.dDiv x y up).2 == 0) else if (k.tmod 11 == 4) = true then (Dy.dmin x y, true) else if (k.tmod 11 == 5) = true then (Dy.dmax x y, true) else if (k.tmod 11 == 6) = true then ((Dy.dMul x x up).1, (Dy.dMul x x up).2 == 0) else if (k.tmod 11 == 7) = true then ((Dy.dSqrt x up).1, (Dy.dSqrt x up).2 == 0) else if (k.tmod 11 == 8) = true then ((Ieee.double.sub 0 x).getD 0, true) else if (k.tmod 11 == 9) = true then (Dy.dmax x ((Ieee.double.sub 0 x).getD 0), true) else (x, true)
def ptU (r : Nat × Bool) (i : Nat) : U := match i with
  | 0 => .f r.1
  | _ => .b r.2
theorem sub0_E {x : Nat} (w : Dy.W x) (r : Dy.right x = true) : Ieee.double.sub 0 x = some (Dy.minus x) := by
  have ox := Dy.ok_dec w r
  have e0 : Dy.nz (Dy.V 0 - Dy.V (Dy.dec x)) = -Dy.dec x := by rw [Dy.V_zero, Int.zero_sub, ← Dy.V_neg]; exact Int.le_antisymm (Dy.nz_le (Int.le_refl _)) (Dy.le_nz (Int.le_refl _))
  have e := Dy.sub_enc Dy.ok_zero ox (by rw [e0]; exact Dy.ok_neg ox)
  rw [e0, Dy.enc_of_dec w r, ← Dy.minus_enc ox, Dy.enc_of_dec w r] at e
  exact e
theorem sub0_N {x : Nat} (w : Dy.W x) (r : Dy.right x = true) : (fN Ieee.double.sub) [.f 0, .f x] = true ∧ Dy.W ((Ieee.double.sub 0 x).getD 0) ∧ Dy.right ((Ieee.double.sub 0 x).getD 0) = true := by
  have e := sub0_E w r
  obtain ⟨m1, m2, m3⟩ := Dy.minus_dec w r
  exact ⟨by show okF (Ieee.double.sub 0 x) = true; rw [e]; exact decide_eq_true m3, by rw [e]; exact m3, by rw [e]; exact m1⟩
def ctPoint : Ct := ⟨4, [], [vi .u8 0, vf 1, vf 2, vb 3], { binds := [⟨fun us i => ptU ((pointG (gI us 0) (gF us 1) (gF us 2) (gB' us 3))) i, 2, upto 0 4⟩], needs := [⟨rN, [.v 1, .v 2]⟩], val := .tup [vf 4, vb 5], upd := [] }⟩
set_option maxRecDepth 100000 in
set_option maxHeartbeats 8000000 in
theorem ctPoint_ok : CtOk Try.prog 14 ctPoint := by
  refine CtOk.of_eval2 p0_ok (dr_ok p0_ok) Try.func14 rfl (by decide) [] 200 (by kernel_rfl) rfl (.bind ⟨fun us _ => iB (fun a b => a.tmod b) us, 1, [(.v 0), (.l (.i 11))]⟩ (.need ⟨iN, [(.v 0), (.l (.i 11))]⟩ (.bind ⟨fun us _ => jB (fun a b => a == b) us, 1, [(.v 4), (.l (.i 0))]⟩ (.ite (.v 5) (.bind ⟨fOp2 Dy.dAdd, 2, [(.v 1), (.v 2), (.v 3)]⟩ (.bind ⟨fun us _ => jB (fun a b => a == b) us, 1, [(.v 7), (.l (.i 0))]⟩ (.done .ret ⟨[.tup [.fl (.v 6), .bo (.v 8)]], [], 9, []⟩))) (.bind ⟨fun us _ => jB (fun a b => a == b) us, 1, [(.v 4), (.l (.i 1))]⟩ (.ite (.v 6) (.bind ⟨fOp2 Dy.dSub, 2, [(.v 1), (.v 2), (.v 3)]⟩ (.bind ⟨fun us _ => jB (fun a b => a == b) us, 1, [(.v 8), (.l (.i 0))]⟩ (.done .ret ⟨[.tup [.fl (.v 7), .bo (.v 9)]], [], 10, []⟩))) (.bind ⟨fun us _ => jB (fun a b => a == b) us, 1, [(.v 4), (.l (.i 2))]⟩ (.ite (.v 7) (.bind ⟨fOp2 Dy.dMul, 2, [(.v 1), (.v 2), (.v 3)]⟩ (.bind ⟨fun us _ => jB (fun a b => a == b) us, 1, [(.v 9), (.l (.i 0))]⟩ (.done .ret ⟨[.tup [.fl (.v 8), .bo (.v 10)]], [], 11, []⟩))) (.bind ⟨fun us _ => jB (fun a b => a == b) us, 1, [(.v 4), (.l (.i 3))]⟩ (.ite (.v 8) (.bind ⟨fOp2 Dy.dDiv, 2, [(.v 1), (.v 2), (.v 3)]⟩ (.bind ⟨fun us _ => jB (fun a b => a == b) us, 1, [(.v 10), (.l (.i 0))]⟩ (.done .ret ⟨[.tup [.fl (.v 9), .bo (.v 11)]], [], 12, []⟩))) (.bind ⟨fun us _ => jB (fun a b => a == b) us, 1, [(.v 4), (.l (.i 4))]⟩ (.ite (.v 9) (.bind ⟨fun us _ => gB Dy.dmin us, 1, [(.v 1), (.v 2)]⟩ (.need ⟨rN, [(.v 1), (.v 2)]⟩ (.done .ret ⟨[.tup [.fl (.v 10), .bo (.l (.b true))]], [], 11, []⟩))) (.bind ⟨fun us _ => jB (fun a b => a == b) us, 1, [(.v 4), (.l (.i 5))]⟩ (.ite (.v 10) (.bind ⟨fun us _ => gB Dy.dmax us, 1, [(.v 1), (.v 2)]⟩ (.need ⟨rN, [(.v 1), (.v 2)]⟩ (.done .ret ⟨[.tup [.fl (.v 11), .bo (.l (.b true))]], [], 12, []⟩))) (.bind ⟨fun us _ => jB (fun a b => a == b) us, 1, [(.v 4), (.l (.i 6))]⟩ (.ite (.v 11) (.bind ⟨fOp2 Dy.dMul, 2, [(.v 1), (.v 1), (.v 3)]⟩ (.bind ⟨fun us _ => jB (fun a b => a == b) us, 1, [(.v 13), (.l (.i 0))]⟩ (.done .ret ⟨[.tup [.fl (.v 12), .bo (.v 14)]], [], 15, []⟩))) (.bind ⟨fun us _ => jB (fun a b => a == b) us, 1, [(.v 4), (.l (.i 7))]⟩ (.ite (.v 12) (.bind ⟨fOp1 Dy.dSqrt, 2, [(.v 1), (.v 3)]⟩ (.bind ⟨fun us _ => jB (fun a b => a == b) us, 1, [(.v 14), (.l (.i 0))]⟩ (.done .ret ⟨[.tup [.fl (.v 13), .bo (.v 15)]], [], 16, []⟩))) (.bind ⟨fun us _ => jB (fun a b => a == b) us, 1, [(.v 4), (.l (.i 8))]⟩ (.ite (.v 13) (.bind ⟨fun us _ => fB Ieee.double.sub us, 1, [(.l (.f 0)), (.v 1)]⟩ (.need ⟨fN Ieee.double.sub, [(.l (.f 0)), (.v 1)]⟩ (.done .ret ⟨[.tup [.fl (.v 14), .bo (.l (.b true))]], [], 15, []⟩))) (.bind ⟨fun us _ => jB (fun a b => a == b) us, 1, [(.v 4), (.l (.i 9))]⟩ (.ite (.v 14) (.bind ⟨fun us _ => fB Ieee.double.sub us, 1, [(.l (.f 0)), (.v 1)]⟩ (.need ⟨fN Ieee.double.sub, [(.l (.f 0)), (.v 1)]⟩ (.bind ⟨fun us _ => gB Dy.dmax us, 1, [(.v 1), (.v 15)]⟩ (.need ⟨rN, [(.v 1), (.v 15)]⟩ (.done .ret ⟨[.tup [.fl (.v 16), .bo (.l (.b true))]], [], 17, []⟩))))) (.done .ret ⟨[.tup [.fl (.v 1), .bo (.l (.b true))]], [], 15, []⟩))))))))))))))))))))))) (by kernel_rfl) (by kernel_rfl) (by kernel_rfl) (fun us hl hF hB hN => ?_)
  match us, hl with
  | [u0, u1, u2, u3], _ =>
    simp [FactsB, FactsL, Facts, ctPoint] at hF hB
    simp [NeedsAt, runB, evs, E.ev, upto, resl, List.range, List.range.loop, ctPoint] at hN
    obtain ⟨⟨k, rfl⟩, ⟨x, rfl, wx⟩, ⟨y, rfl, wy⟩, hb⟩ := hF
    obtain ⟨up, rfl⟩ : ∃ b, u3 = U.b b := by rcases hb with rfl | rfl <;> exact ⟨_, rfl⟩
    have hr : Dy.right x = true ∧ Dy.right y = true := by simpa [rN, gF, U.F] using hN
    obtain ⟨rx, ry⟩ := hr
    refine T.HH.h ?_
    obtain ⟨t0, e1⟩ : ∃ t0, (k.tmod 11) = t0 := ⟨_, rfl⟩
    refine T.hbind (us := [.i k, .i 11]) (xs := [.i t0]) (ρ' := [.i k, .f x, .f y, .b up, .i t0]) rfl (congrArg (fun r => [U.i r]) e1) rfl ?_
    refine T.hneed (us := [.i k, .i 11]) rfl (rfl) ?_
    obtain ⟨t2, e3⟩ : ∃ t2, (t0 == 0) = t2 := ⟨_, rfl⟩
    refine T.hbind (us := [.i t0, .i 0]) (xs := [.b t2]) (ρ' := [.i k, .f x, .f y, .b up, .i t0, .b t2]) rfl (congrArg (fun r => [U.b r]) e3) rfl ?_
    refine T.hite (x := t2) ?_ ?_ ?_
    · rfl
    · intro c5
      obtain ⟨t5, t6, e7⟩ : ∃ t5 t6, (Dy.dAdd x y up) = (t5, t6) := Dy.ex2 _
      refine T.hbind (us := [.f x, .f y, .b up]) (xs := [.f t5, .i t6]) (ρ' := [.i k, .f x, .f y, .b up, .i t0, .b t2, .f t5, .i t6]) rfl (congrArg (fun r : Nat × Int => [U.f r.1, U.i r.2]) e7) rfl ?_
      obtain ⟨t8, e9⟩ : ∃ t8, (t6 == 0) = t8 := ⟨_, rfl⟩
      refine T.hbind (us := [.i t6, .i 0]) (xs := [.b t8]) (ρ' := [.i k, .f x, .f y, .b up, .i t0, .b t2, .f t5, .i t6, .b t8]) rfl (congrArg (fun r => [U.b r]) e9) rfl ?_
      refine T.hdone ?_
      have e00 : (pointG (k) (x) (y) (up)) = (t5, t8) := by simp only [pointG, e1, e3, c5, e7, e9, reduceIte, Bool.false_eq_true, Bool.true_eq_false, Bool.true_and, Bool.false_and, Bool.and_true, Bool.and_false, Bool.true_or, Bool.false_or, Bool.or_true, Bool.or_false, Bool.not_true, Bool.not_false] <;> simp_all
      exact ⟨⟨(congrArg (fun r => some (ptU r 0)) e00.symm), (congrArg (fun r => some (ptU r 1)) e00.symm), trivial⟩, trivial, rfl⟩
    · intro c5
      obtain ⟨t10, e11⟩ : ∃ t10, (t0 == 1) = t10 := ⟨_, rfl⟩
      refine T.hbind (us := [.i t0, .i 1]) (xs := [.b t10]) (ρ' := [.i k, .f x, .f y, .b up, .i t0, .b t2, .b t10]) rfl (congrArg (fun r => [U.b r]) e11) rfl ?_
      refine T.hite (x := t10) ?_ ?_ ?_
      · rfl
      · intro c13
        obtain ⟨t13, t14, e15⟩ : ∃ t13 t14, (Dy.dSub x y up) = (t13, t14) := Dy.ex2 _
        refine T.hbind (us := [.f x, .f y, .b up]) (xs := [.f t13, .i t14]) (ρ' := [.i k, .f x, .f y, .b up, .i t0, .b t2, .b t10, .f t13, .i t14]) rfl (congrArg (fun r : Nat × Int => [U.f r.1, U.i r.2]) e15) rfl ?_
        obtain ⟨t16, e17⟩ : ∃ t16, (t14 == 0) = t16 := ⟨_, rfl⟩
        refine T.hbind (us := [.i t14, .i 0]) (xs := [.b t16]) (ρ' := [.i k, .f x, .f y, .b up, .i t0, .b t2, .b t10, .f t13, .i t14, .b t16]) rfl (congrArg (fun r => [U.b r]) e17) rfl ?_
        refine T.hdone ?_
        have e00 : (pointG (k) (x) (y) (up)) = (t13, t16) := by simp only [pointG, e1, e3, c5, e11, c13, e15, e17, reduceIte, Bool.false_eq_true, Bool.true_eq_false, Bool.true_and, Bool.false_and, Bool.and_true, Bool.and_false, Bool.true_or, Bool.false_or, Bool.or_true, Bool.or_false, Bool.not_true, Bool.not_false] <;> simp_all
        exact ⟨⟨(congrArg (fun r => some (ptU r 0)) e00.symm), (congrArg (fun r => some (ptU r 1)) e00.symm), trivial⟩, trivial, rfl⟩
      · intro c13
        obtain ⟨t18, e19⟩ : ∃ t18, (t0 == 2) = t18 := ⟨_, rfl⟩
        refine T.hbind (us := [.i t0, .i 2]) (xs := [.b t18]) (ρ' := [.i k, .f x, .f y, .b up, .i t0, .b t2, .b t10, .b t18]) rfl (congrArg (fun r => [U.b r]) e19) rfl ?_
        refine T.hite (x := t18) ?_ ?_ ?_
        · rfl
        · intro c21
          obtain ⟨t21, t22, e23⟩ : ∃ t21 t22, (Dy.dMul x y up) = (t21, t22) := Dy.ex2 _
          refine T.hbind (us := [.f x, .f y, .b up]) (xs := [.f t21, .i t22]) (ρ' := [.i k, .f x, .f y, .b up, .i t0, .b t2, .b t10, .b t18, .f t21, .i t22]) rfl (congrArg (fun r : Nat × Int => [U.f r.1, U.i r.2]) e23) rfl ?_
          obtain ⟨t24, e25⟩ : ∃ t24, (t22 == 0) = t24 := ⟨_, rfl⟩
          refine T.hbind (us := [.i t22, .i 0]) (xs := [.b t24]) (ρ' := [.i k, .f x, .f y, .b up, .i t0, .b t2, .b t10, .b t18, .f t21, .i t22, .b t24]) rfl (congrArg (fun r => [U.b r]) e25) rfl ?_
          refine T.hdone ?_
          have e00 : (pointG (k) (x) (y) (up)) = (t21, t24) := by simp only [pointG, e1, e3, c5, e11, c13, e19, c21, e23, e25, reduceIte, Bool.false_eq_true, Bool.true_eq_false, Bool.true_and, Bool.false_and, Bool.and_true, Bool.and_false, Bool.true_or, Bool.false_or, Bool.or_true, Bool.or_false, Bool.not_true, Bool.not_false] <;> simp_all
          exact ⟨⟨(congrArg (fun r => some (ptU r 0)) e00.symm), (congrArg (fun r => some (ptU r 1)) e00.symm), trivial⟩, trivial, rfl⟩
        · intro c21
          obtain ⟨t26, e27⟩ : ∃ t26, (t0 == 3) = t26 := ⟨_, rfl⟩
          refine T.hbind (us := [.i t0, .i 3]) (xs := [.b t26]) (ρ' := [.i k, .f x, .f y, .b up, .i t0, .b t2, .b t10, .b t18, .b t26]) rfl (congrArg (fun r => [U.b r]) e27) rfl ?_
          refine T.hite (x := t26) ?_ ?_ ?_
          · rfl
          · intro c29
            obtain ⟨t29, t30, e31⟩ : ∃ t29 t30, (Dy.dDiv x y up) = (t29, t30) := Dy.ex2 _
            refine T.hbind (us := [.f x, .f y, .b up]) (xs := [.f t29, .i t30]) (ρ' := [.i k, .f x, .f y, .b up, .i t0, .b t2, .b t10, .b t18, .b t26, .f t29, .i t30]) rfl (congrArg (fun r : Nat × Int => [U.f r.1, U.i r.2]) e31) rfl ?_
            obtain ⟨t32, e33⟩ : ∃ t32, (t30 == 0) = t32 := ⟨_, rfl⟩
            refine T.hbind (us := [.i t30, .i 0]) (xs := [.b t32]) (ρ' := [.i k, .f x, .f y, .b up, .i t0, .b t2, .b t10, .b t18, .b t26, .f t29, .i t30, .b t32]) rfl (congrArg (fun r => [U.b r]) e33) rfl ?_
            refine T.hdone ?_
            have e00 : (pointG (k) (x) (y) (up)) = (t29, t32) := by simp only [pointG, e1, e3, c5, e11, c13, e19, c21, e27, c29, e31, e33, reduceIte, Bool.false_eq_true, Bool.true_eq_false, Bool.true_and, Bool.false_and, Bool.and_true, Bool.and_false, Bool.true_or, Bool.false_or, Bool.or_true, Bool.or_false, Bool.not_true, Bool.not_false] <;> simp_all
            exact ⟨⟨(congrArg (fun r => some (ptU r 0)) e00.symm), (congrArg (fun r => some (ptU r 1)) e00.symm), trivial⟩, trivial, rfl⟩
          · intro c29
            obtain ⟨t34, e35⟩ : ∃ t34, (t0 == 4) = t34 := ⟨_, rfl⟩
            refine T.hbind (us := [.i t0, .i 4]) (xs := [.b t34]) (ρ' := [.i k, .f x, .f y, .b up, .i t0, .b t2, .b t10, .b t18, .b t26, .b t34]) rfl (congrArg (fun r => [U.b r]) e35) rfl ?_
            refine T.hite (x := t34) ?_ ?_ ?_
            · rfl
            · intro c37
              obtain ⟨t37, e38⟩ : ∃ t37, (Dy.dmin x y) = t37 := ⟨_, rfl⟩
              have W38 : Dy.W t37 := by rw [← e38]; exact Dy.dmin_W wx wy
              refine T.hbind (us := [.f x, .f y]) (xs := [.f t37]) (ρ' := [.i k, .f x, .f y, .b up, .i t0, .b t2, .b t10, .b t18, .b t26, .b t34, .f t37]) rfl (congrArg (fun r => [U.f r]) e38) rfl ?_
              refine T.hneed (us := [.f x, .f y]) rfl (show (Dy.right x && Dy.right y) = true from by rw [rx, ry]; rfl) ?_
              refine T.hdone ?_
              have e00 : (pointG (k) (x) (y) (up)) = (t37, true) := by simp only [pointG, e1, e3, c5, e11, c13, e19, c21, e27, c29, e35, c37, e38, reduceIte, Bool.false_eq_true, Bool.true_eq_false, Bool.true_and, Bool.false_and, Bool.and_true, Bool.and_false, Bool.true_or, Bool.false_or, Bool.or_true, Bool.or_false, Bool.not_true, Bool.not_false] <;> simp_all
              exact ⟨⟨(congrArg (fun r => some (ptU r 0)) e00.symm), (congrArg (fun r => some (ptU r 1)) e00.symm), trivial⟩, trivial, rfl⟩
            · intro c37
              obtain ⟨t39, e40⟩ : ∃ t39, (t0 == 5) = t39 := ⟨_, rfl⟩
              refine T.hbind (us := [.i t0, .i 5]) (xs := [.b t39]) (ρ' := [.i k, .f x, .f y, .b up, .i t0, .b t2, .b t10, .b t18, .b t26, .b t34, .b t39]) rfl (congrArg (fun r => [U.b r]) e40) rfl ?_
              refine T.hite (x := t39) ?_ ?_ ?_
              · rfl
              · intro c42
                obtain ⟨t42, e43⟩ : ∃ t42, (Dy.dmax x y) = t42 := ⟨_, rfl⟩
                have W43 : Dy.W t42 := by rw [← e43]; exact Dy.dmax_W wx wy
                refine T.hbind (us := [.f x, .f y]) (xs := [.f t42]) (ρ' := [.i k, .f x, .f y, .b up, .i t0, .b t2, .b t10, .b t18, .b t26, .b t34, .b t39, .f t42]) rfl (congrArg (fun r => [U.f r]) e43) rfl ?_
                refine T.hneed (us := [.f x, .f y]) rfl (show (Dy.right x && Dy.right y) = true from by rw [rx, ry]; rfl) ?_
                refine T.hdone ?_
                have e00 : (pointG (k) (x) (y) (up)) = (t42, true) := by simp only [pointG, e1, e3, c5, e11, c13, e19, c21, e27, c29, e35, c37, e40, c42, e43, reduceIte, Bool.false_eq_true, Bool.true_eq_false, Bool.true_and, Bool.false_and, Bool.and_true, Bool.and_false, Bool.true_or, Bool.false_or, Bool.or_true, Bool.or_false, Bool.not_true, Bool.not_false] <;> simp_all
                exact ⟨⟨(congrArg (fun r => some (ptU r 0)) e00.symm), (congrArg (fun r => some (ptU r 1)) e00.symm), trivial⟩, trivial, rfl⟩
              · intro c42
                obtain ⟨t44, e45⟩ : ∃ t44, (t0 == 6) = t44 := ⟨_, rfl⟩
                refine T.hbind (us := [.i t0, .i 6]) (xs := [.b t44]) (ρ' := [.i k, .f x, .f y, .b up, .i t0, .b t2, .b t10, .b t18, .b t26, .b t34, .b t39, .b t44]) rfl (congrArg (fun r => [U.b r]) e45) rfl ?_
                refine T.hite (x := t44) ?_ ?_ ?_
                · rfl
                · intro c47
                  obtain ⟨t47, t48, e49⟩ : ∃ t47 t48, (Dy.dMul x x up) = (t47, t48) := Dy.ex2 _
                  refine T.hbind (us := [.f x, .f x, .b up]) (xs := [.f t47, .i t48]) (ρ' := [.i k, .f x, .f y, .b up, .i t0, .b t2, .b t10, .b t18, .b t26, .b t34, .b t39, .b t44, .f t47, .i t48]) rfl (congrArg (fun r : Nat × Int => [U.f r.1, U.i r.2]) e49) rfl ?_
                  obtain ⟨t50, e51⟩ : ∃ t50, (t48 == 0) = t50 := ⟨_, rfl⟩
                  refine T.hbind (us := [.i t48, .i 0]) (xs := [.b t50]) (ρ' := [.i k, .f x, .f y, .b up, .i t0, .b t2, .b t10, .b t18, .b t26, .b t34, .b t39, .b t44, .f t47, .i t48, .b t50]) rfl (congrArg (fun r => [U.b r]) e51) rfl ?_
                  refine T.hdone ?_
                  have e00 : (pointG (k) (x) (y) (up)) = (t47, t50) := by simp only [pointG, e1, e3, c5, e11, c13, e19, c21, e27, c29, e35, c37, e40, c42, e45, c47, e49, e51, reduceIte, Bool.false_eq_true, Bool.true_eq_false, Bool.true_and, Bool.false_and, Bool.and_true, Bool.and_false, Bool.true_or, Bool.false_or, Bool.or_true, Bool.or_false, Bool.not_true, Bool.not_false] <;> simp_all
                  exact ⟨⟨(congrArg (fun r => some (ptU r 0)) e00.symm), (congrArg (fun r => some (ptU r 1)) e00.symm), trivial⟩, trivial, rfl⟩
                · intro c47
                  obtain ⟨t52, e53⟩ : ∃ t52, (t0 == 7) = t52 := ⟨_, rfl⟩
                  refine T.hbind (us := [.i t0, .i 7]) (xs := [.b t52]) (ρ' := [.i k, .f x, .f y, .b up, .i t0, .b t2, .b t10, .b t18, .b t26, .b t34, .b t39, .b t44, .b t52]) rfl (congrArg (fun r => [U.b r]) e53) rfl ?_
                  refine T.hite (x := t52) ?_ ?_ ?_
                  · rfl
                  · intro c55
                    obtain ⟨t55, t56, e57⟩ : ∃ t55 t56, (Dy.dSqrt x up) = (t55, t56) := Dy.ex2 _
                    refine T.hbind (us := [.f x, .b up]) (xs := [.f t55, .i t56]) (ρ' := [.i k, .f x, .f y, .b up, .i t0, .b t2, .b t10, .b t18, .b t26, .b t34, .b t39, .b t44, .b t52, .f t55, .i t56]) rfl (congrArg (fun r : Nat × Int => [U.f r.1, U.i r.2]) e57) rfl ?_
                    obtain ⟨t58, e59⟩ : ∃ t58, (t56 == 0) = t58 := ⟨_, rfl⟩
                    refine T.hbind (us := [.i t56, .i 0]) (xs := [.b t58]) (ρ' := [.i k, .f x, .f y, .b up, .i t0, .b t2, .b t10, .b t18, .b t26, .b t34, .b t39, .b t44, .b t52, .f t55, .i t56, .b t58]) rfl (congrArg (fun r => [U.b r]) e59) rfl ?_
                    refine T.hdone ?_
                    have e00 : (pointG (k) (x) (y) (up)) = (t55, t58) := by simp only [pointG, e1, e3, c5, e11, c13, e19, c21, e27, c29, e35, c37, e40, c42, e45, c47, e53, c55, e57, e59, reduceIte, Bool.false_eq_true, Bool.true_eq_false, Bool.true_and, Bool.false_and, Bool.and_true, Bool.and_false, Bool.true_or, Bool.false_or, Bool.or_true, Bool.or_false, Bool.not_true, Bool.not_false] <;> simp_all
                    exact ⟨⟨(congrArg (fun r => some (ptU r 0)) e00.symm), (congrArg (fun r => some (ptU r 1)) e00.symm), trivial⟩, trivial, rfl⟩
                  · intro c55
                    obtain ⟨t60, e61⟩ : ∃ t60, (t0 == 8) = t60 := ⟨_, rfl⟩
                    refine T.hbind (us := [.i t0, .i 8]) (xs := [.b t60]) (ρ' := [.i k, .f x, .f y, .b up, .i t0, .b t2, .b t10, .b t18, .b t26, .b t34, .b t39, .b t44, .b t52, .b t60]) rfl (congrArg (fun r => [U.b r]) e61) rfl ?_
                    refine T.hite (x := t60) ?_ ?_ ?_
                    · rfl
                    · intro c63
                      obtain ⟨t63, e64⟩ : ∃ t63, ((Ieee.double.sub 0 x).getD 0) = t63 := ⟨_, rfl⟩
                      refine T.hbind (us := [.f 0, .f x]) (xs := [.f t63]) (ρ' := [.i k, .f x, .f y, .b up, .i t0, .b t2, .b t10, .b t18, .b t26, .b t34, .b t39, .b t44, .b t52, .b t60, .f t63]) rfl (congrArg (fun r => [U.f r]) e64) rfl ?_
                      refine T.hneed (us := [.f 0, .f x]) rfl ((sub0_N wx rx).1) ?_
                      refine T.hdone ?_
                      have e00 : (pointG (k) (x) (y) (up)) = (t63, true) := by simp only [pointG, e1, e3, c5, e11, c13, e19, c21, e27, c29, e35, c37, e40, c42, e45, c47, e53, c55, e61, c63, e64, reduceIte, Bool.false_eq_true, Bool.true_eq_false, Bool.true_and, Bool.false_and, Bool.and_true, Bool.and_false, Bool.true_or, Bool.false_or, Bool.or_true, Bool.or_false, Bool.not_true, Bool.not_false] <;> simp_all
                      exact ⟨⟨(congrArg (fun r => some (ptU r 0)) e00.symm), (congrArg (fun r => some (ptU r 1)) e00.symm), trivial⟩, trivial, rfl⟩
                    · intro c63
                      obtain ⟨t65, e66⟩ : ∃ t65, (t0 == 9) = t65 := ⟨_, rfl⟩
                      refine T.hbind (us := [.i t0, .i 9]) (xs := [.b t65]) (ρ' := [.i k, .f x, .f y, .b up, .i t0, .b t2, .b t10, .b t18, .b t26, .b t34, .b t39, .b t44, .b t52, .b t60, .b t65]) rfl (congrArg (fun r => [U.b r]) e66) rfl ?_
                      refine T.hite (x := t65) ?_ ?_ ?_
                      · rfl
                      · intro c68
                        obtain ⟨t68, e69⟩ : ∃ t68, ((Ieee.double.sub 0 x).getD 0) = t68 := ⟨_, rfl⟩
                        refine T.hbind (us := [.f 0, .f x]) (xs := [.f t68]) (ρ' := [.i k, .f x, .f y, .b up, .i t0, .b t2, .b t10, .b t18, .b t26, .b t34, .b t39, .b t44, .b t52, .b t60, .b t65, .f t68]) rfl (congrArg (fun r => [U.f r]) e69) rfl ?_
                        refine T.hneed (us := [.f 0, .f x]) rfl ((sub0_N wx rx).1) ?_
                        obtain ⟨t70, e71⟩ : ∃ t70, (Dy.dmax x t68) = t70 := ⟨_, rfl⟩
                        refine T.hbind (us := [.f x, .f t68]) (xs := [.f t70]) (ρ' := [.i k, .f x, .f y, .b up, .i t0, .b t2, .b t10, .b t18, .b t26, .b t34, .b t39, .b t44, .b t52, .b t60, .b t65, .f t68, .f t70]) rfl (congrArg (fun r => [U.f r]) e71) rfl ?_
                        refine T.hneed (us := [.f x, .f t68]) rfl (show (Dy.right x && Dy.right t68) = true from by rw [rx, ← (show (Ieee.double.sub 0 x).getD 0 = t68 by assumption), (sub0_N wx rx).2.2]; rfl) ?_
                        refine T.hdone ?_
                        have e00 : (pointG (k) (x) (y) (up)) = (t70, true) := by simp only [pointG, e1, e3, c5, e11, c13, e19, c21, e27, c29, e35, c37, e40, c42, e45, c47, e53, c55, e61, c63, e66, c68, e69, e71, reduceIte, Bool.false_eq_true, Bool.true_eq_false, Bool.true_and, Bool.false_and, Bool.and_true, Bool.and_false, Bool.true_or, Bool.false_or, Bool.or_true, Bool.or_false, Bool.not_true, Bool.not_false] <;> simp_all
                        exact ⟨⟨(congrArg (fun r => some (ptU r 0)) e00.symm), (congrArg (fun r => some (ptU r 1)) e00.symm), trivial⟩, trivial, rfl⟩
                      · intro c68
                        refine T.hdone ?_
                        have e00 : (pointG (k) (x) (y) (up)) = (x, true) := by simp only [pointG, e1, e3, c5, e11, c13, e19, c21, e27, c29, e35, c37, e40, c42, e45, c47, e53, c55, e61, c63, e66, c68, reduceIte, Bool.false_eq_true, Bool.true_eq_false, Bool.true_and, Bool.false_and, Bool.and_true, Bool.and_false, Bool.true_or, Bool.false_or, Bool.or_true, Bool.or_false, Bool.not_true, Bool.not_false] <;> simp_all
                        exact ⟨⟨(congrArg (fun r => some (ptU r 0)) e00.symm), (congrArg (fun r => some (ptU r 1)) e00.symm), trivial⟩, trivial, rfl⟩

def p1 : List (Nat × Ct) := (14, ctPoint) :: p0
theorem p1_ok : AllOk Try.prog p1 := ⟨ctPoint_ok, p0_ok⟩

end Go.Proofs.Ytiphdhpacklboaa
