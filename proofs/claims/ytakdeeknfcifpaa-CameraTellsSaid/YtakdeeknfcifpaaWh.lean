/- A reckoning of programs by symbols: contracts of ray and burnishref25; the examples. -/
import Derived.Test.YtakdeeknfcifpaaWg
namespace Go.Proofs.Ytakdeeknfcifpaa
open Go Go.RowKit
set_option linter.unusedSimpArgs false
set_option linter.unusedVariables false

theorem _root_.Go.Dy.ex2 {α β : Type} (r : α × β) : ∃ a b, r = (a, b) := ⟨_, _, rfl⟩
theorem _root_.Go.Dy.ex3 {α β γ : Type} (r : (α × β) × γ) : ∃ a b c, r = ((a, b), c) := ⟨_, _, _, rfl⟩
theorem _root_.Go.Dy.ex4 {α β γ δ : Type} (r : (α × β) × (γ × δ)) : ∃ a b c d, r = ((a, b), (c, d)) := ⟨_, _, _, _, rfl⟩
def lookU (r : (Nat × Nat) × (Bool × Int)) (i : Nat) : U := match i with
  | 0 => .f r.1.1
  | 1 => .f r.1.2
  | 2 => .b r.2.1
  | _ => .i r.2.2
def inU (r : Bool × Int) (i : Nat) : U := match i with
  | 0 => .b r.1
  | _ => .i r.2
def hitC (x y : Nat) : (Nat × Nat) × (Bool × Int) := ((Dy.hX x y, Dy.hZ x y), (Dy.hits x y, (Dy.dIn x y).2))
/-- As burnishref25.Hit has it. -/
def hitR (x y : Nat) : (Nat × Nat) × (Bool × Int) := if (Dy.dIn x y).1 = true then
    (if (Dy.flt (Dy.dSub 4607182418800017408 (Dy.dAdd (Dy.dMul x x true).1 (Dy.dMul y y true).1 true).1 false).1 0 || Dy.feq (Dy.dSub 4607182418800017408 (Dy.dAdd (Dy.dMul x x true).1 (Dy.dMul y y true).1 true).1 false).1 0) = true then ((0, 0), (false, 0))
      else (((Dy.dSqrt (Dy.dAdd (Dy.dMul x x true).1 (Dy.dMul y y true).1 true).1 false).1, (Dy.dSqrt (Dy.dSub 4607182418800017408 (Dy.dAdd (Dy.dMul x x true).1 (Dy.dMul y y true).1 true).1 false).1 false).1), (true, 0)))
    else ((0, 0), (false, (Dy.dIn x y).2))
theorem at_den {us : List U} {m k j : Nat} {f : Nat → U} (hl : us.length = m) (hj : j < k) : (E.v (m + j)).ev (us ++ (List.range k).map f) = some (f j) := by
  show (us ++ (List.range k).map f)[m + j]? = _
  rw [List.getElem?_append_right (by omega), hl, show m + j - m = j by omega, List.getElem?_map]; simp [hj]
theorem in_den {us : List U} {r : Bool × Int} {f : Nat → U} (h : ∀ i, f i = inU r i) (hl : us.length = 2) : den (fun _ => none) (us ++ (List.range 2).map f) (.tup [vb 2, vi .i64 3]) = some (.tuple #[.bool r.1, .int .i64 r.2]) := by
  have e0 := (at_den (j := 0) (k := 2) (f := f) hl (by decide)).trans (by rw [h]; rfl : _ = some (U.b r.1))
  have e1 := (at_den (j := 1) (k := 2) (f := f) hl (by decide)).trans (by rw [h]; rfl : _ = some (U.i r.2))
  unfold den
  rw [denL_cons.2 ⟨_, _, bo_den e0, denL_cons.2 ⟨_, [], it_den e1, rfl, rfl⟩, rfl⟩]
theorem look_den2 {us : List U} {r : (Nat × Nat) × (Bool × Int)} {f : Nat → U} (h : ∀ i, f i = lookU r i) (hw : Dy.W r.1.1 ∧ Dy.W r.1.2) (hl : us.length = 2) : den (fun _ => none) (us ++ (List.range 4).map f) (.tup [.agg [vf 2, .fl (.l (.f 0)), vf 3], vb 4, vi .i64 5]) = some (.tuple #[fv r.1.1 0 r.1.2, .bool r.2.1, .int .i64 r.2.2]) := by
  have e0 := (at_den (j := 0) (k := 4) (f := f) hl (by decide)).trans (by rw [h]; rfl : _ = some (U.f r.1.1))
  have e1 := (at_den (j := 1) (k := 4) (f := f) hl (by decide)).trans (by rw [h]; rfl : _ = some (U.f r.1.2))
  have e2 := (at_den (j := 2) (k := 4) (f := f) hl (by decide)).trans (by rw [h]; rfl : _ = some (U.b r.2.1))
  have e3 := (at_den (j := 3) (k := 4) (f := f) hl (by decide)).trans (by rw [h]; rfl : _ = some (U.i r.2.2))
  have k : den (fun _ => none) (us ++ (List.range 4).map f) (.agg [vf 2, .fl (.l (.f 0)), vf 3]) = some (fv r.1.1 0 r.1.2) := by
    unfold den
    rw [denL_cons.2 ⟨_, _, fl_den e0 hw.1, denL_cons.2 ⟨_, _, fl_den (e := .l (.f 0)) (n := 0) rfl (by decide), denL_cons.2 ⟨_, [], fl_den e1 hw.2, rfl, rfl⟩, rfl⟩, rfl⟩]
  unfold den
  rw [denL_cons.2 ⟨_, _, k, denL_cons.2 ⟨_, _, bo_den e2, denL_cons.2 ⟨_, [], it_den e3, rfl, rfl⟩, rfl⟩, rfl⟩]
def wh0 : List (Nat × Ct) := wf0
theorem wh0_ok : AllOk Try.prog wh0 := wf0_ok
def ctSame01 : Ct := ctP 2 [vf 0, vf 1] (fun us _ => .b (decide (gF us 0 = gF us 1))) 1 (vb 2) []
theorem ctSame01_ok : CtOk Try.prog 15 ctSame01 := by
  refine ctP_ok (en Try.func15 rfl (by decide)) rfl rfl (fun us w vs hl hv hn => ?_) rfl
  match us, hl with
  | [u0, u1], _ =>
    obtain ⟨x0, y0, hx0, hy0, rfl⟩ := denL_cons.1 hv
    obtain ⟨a0, e0, w0, rfl⟩ := den_fl hx0
    obtain ⟨x1, y1, hx1, hy1, rfl⟩ := denL_cons.1 hy0
    obtain ⟨a1, e1, w1, rfl⟩ := den_fl hx1
    rw [denL_nil.1 hy1]
    simp [E.ev] at e0 e1
    subst e0 e1
    exact ⟨.bool (decide (a0 = a1)), rfl, (same_any a0 a1 w).mono fun e w2 ⟨h1, h2⟩ => ⟨by rw [h1]; congr 2; rw [Bool.eq_iff_iff]; simp; omega, by subst h2; exact Below.refl _ _⟩⟩

def wh1 : List (Nat × Ct) := (15, ctSame01) :: wh0
theorem wh1_ok : AllOk Try.prog wh1 := ⟨ctSame01_ok, wh0_ok⟩

def ctIn25 : Ct := ctP 2 [vf 0, vf 1] (fun us i => inU (Dy.dIn (gF us 0) (gF us 1)) i) 2 (.tup [vb 2, vi .i64 3]) []
theorem ctIn25_ok : CtOk Try.prog 5 ctIn25 := by
  refine ctP_ok (en Try.func5 rfl (by decide)) rfl rfl (fun us w vs hl hv hn => ?_) rfl
  match us, hl with
  | [u0, u1], _ =>
    obtain ⟨x0, y0, hx0, hy0, rfl⟩ := denL_cons.1 hv
    obtain ⟨a0, e0, w0, rfl⟩ := den_fl hx0
    obtain ⟨x1, y1, hx1, hy1, rfl⟩ := denL_cons.1 hy0
    obtain ⟨a1, e1, w1, rfl⟩ := den_fl hx1
    rw [denL_nil.1 hy1]
    simp [E.ev] at e0 e1
    subst e0 e1
    exact ⟨.tuple #[.bool (Dy.dIn a0 a1).1, .int .i64 (Dy.dIn a0 a1).2], in_den (fun i => rfl) rfl, inside_any a0 a1 w w0 w1⟩

def wh2 : List (Nat × Ct) := (5, ctIn25) :: wh1
theorem wh2_ok : AllOk Try.prog wh2 := ⟨ctIn25_ok, wh1_ok⟩

def ctInR : Ct := ctP 2 [vf 0, vf 1] (fun us i => inU (Dy.dIn (gF us 0) (gF us 1)) i) 2 (.tup [vb 2, vi .i64 3]) []
theorem ctInR_ok : CtOk Try.prog 6 ctInR := by
  refine ctP_ok (en Try.func6 rfl (by decide)) rfl rfl (fun us w vs hl hv hn => ?_) rfl
  match us, hl with
  | [u0, u1], _ =>
    obtain ⟨x0, y0, hx0, hy0, rfl⟩ := denL_cons.1 hv
    obtain ⟨a0, e0, w0, rfl⟩ := den_fl hx0
    obtain ⟨x1, y1, hx1, hy1, rfl⟩ := denL_cons.1 hy0
    obtain ⟨a1, e1, w1, rfl⟩ := den_fl hx1
    rw [denL_nil.1 hy1]
    simp [E.ev] at e0 e1
    subst e0 e1
    exact ⟨.tuple #[.bool (Dy.dIn a0 a1).1, .int .i64 (Dy.dIn a0 a1).2], in_den (fun i => rfl) rfl, refInside_any a0 a1 w w0 w1⟩

def wh3 : List (Nat × Ct) := (6, ctInR) :: wh2
theorem wh3_ok : AllOk Try.prog wh3 := ⟨ctInR_ok, wh2_ok⟩

def ctHitC : Ct := ctP 2 [vf 0, vf 1] (fun us i => lookU (hitC (gF us 0) (gF us 1)) i) 4 (.tup [.agg [vf 2, .fl (.l (.f 0)), vf 3], vb 4, vi .i64 5]) []
theorem ctHitC_ok : CtOk Try.prog 7 ctHitC := by
  refine ctP_ok (en Try.func7 rfl (by decide)) rfl rfl (fun us w vs hl hv hn => ?_) rfl
  match us, hl with
  | [u0, u1], _ =>
    obtain ⟨x0, y0, hx0, hy0, rfl⟩ := denL_cons.1 hv
    obtain ⟨a0, e0, w0, rfl⟩ := den_fl hx0
    obtain ⟨x1, y1, hx1, hy1, rfl⟩ := denL_cons.1 hy0
    obtain ⟨a1, e1, w1, rfl⟩ := den_fl hx1
    rw [denL_nil.1 hy1]
    simp [E.ev] at e0 e1
    subst e0 e1
    exact ⟨.tuple #[fv (hitC a0 a1).1.1 0 (hitC a0 a1).1.2, .bool (hitC a0 a1).2.1, .int .i64 (hitC a0 a1).2.2], look_den2 (fun i => rfl) ⟨Dy.hX_W a0 a1, Dy.hZ_W a0 a1⟩ rfl, hit_any a0 a1 w w0 w1⟩

def wh4 : List (Nat × Ct) := (7, ctHitC) :: wh3
theorem wh4_ok : AllOk Try.prog wh4 := ⟨ctHitC_ok, wh3_ok⟩

def ctHitR : Ct := ⟨2, [], [vf 0, vf 1], { binds := [⟨fun us i => lookU (hitR (gF us 0) (gF us 1)) i, 4, upto 0 2⟩], needs := [], val := .tup [.agg [vf 2, .fl (.l (.f 0)), vf 3], vb 4, vi .i64 5], upd := [] }⟩
set_option maxRecDepth 100000 in
set_option maxHeartbeats 8000000 in
theorem ctHitR_ok : CtOk Try.prog 8 ctHitR := by
  refine CtOk.of_eval2 wh4_ok (dr_ok wh4_ok) Try.func8 rfl (by decide) [] 200 (by kernel_rfl) rfl (.bind ⟨fun us i => inU (Dy.dIn (gF us 0) (gF us 1)) i, 2, [(.v 0), (.v 1)]⟩ (.bind ⟨fun us _ => nB us, 1, [(.v 2)]⟩ (.ite (.v 4) (.done .ret ⟨[.tup [.agg [.fl (.l (.f 0)), .fl (.l (.f 0)), .fl (.l (.f 0))], .bo (.l (.b false)), .it .i64 (.v 3)]], [], 5, []⟩) (.bind ⟨fOp2 Dy.dMul, 2, [(.v 0), (.v 0), (.l (.b true))]⟩ (.bind ⟨fOp2 Dy.dMul, 2, [(.v 1), (.v 1), (.l (.b true))]⟩ (.bind ⟨fOp2 Dy.dAdd, 2, [(.v 5), (.v 7), (.l (.b true))]⟩ (.bind ⟨fOp2 Dy.dSub, 2, [(.l (.f 4607182418800017408)), (.v 9), (.l (.b false))]⟩ (.bind ⟨fun us _ => cB (fun a b => Dy.flt a b || Dy.feq a b) us, 1, [(.v 11), (.l (.f 0))]⟩ (.ite (.v 13) (.done .ret ⟨[.tup [.agg [.fl (.l (.f 0)), .fl (.l (.f 0)), .fl (.l (.f 0))], .bo (.l (.b false)), .it .i64 (.l (.i 0))]], [], 14, []⟩) (.bind ⟨fOp1 Dy.dSqrt, 2, [(.v 9), (.l (.b false))]⟩ (.bind ⟨fOp1 Dy.dSqrt, 2, [(.v 11), (.l (.b false))]⟩ (.done .ret ⟨[.tup [.agg [.fl (.v 14), .fl (.l (.f 0)), .fl (.v 16)], .bo (.l (.b true)), .it .i64 (.l (.i 0))]], [], 18, []⟩)))))))))))) (by kernel_rfl) (by kernel_rfl) (by kernel_rfl) (fun us hl hF hB hN => ?_)
  match us, hl with
  | [u0, u1], _ =>
    simp [FactsB, FactsL, Facts, ctHitR] at hF hB
    simp [NeedsAt, runB, evs, E.ev, upto, resl, List.range, List.range.loop, ctHitR] at hN
    obtain ⟨⟨x1, rfl, wx1⟩, ⟨x2, rfl, wx2⟩⟩ := hF
    refine T.HH.h ?_
    obtain ⟨t0, t1, e2⟩ : ∃ t0 t1, (Dy.dIn (x1) (x2)) = (t0, t1) := Dy.ex2 _
    refine T.hbind (us := [.f x1, .f x2]) (xs := [.b t0, .i t1]) (ρ' := [.f x1, .f x2, .b t0, .i t1]) rfl (congrArg (fun r => [inU r 0, inU r 1]) e2) rfl ?_
    obtain ⟨t3, e4⟩ : ∃ t3, (!t0) = t3 := ⟨_, rfl⟩
    refine T.hbind (us := [.b t0]) (xs := [.b t3]) (ρ' := [.f x1, .f x2, .b t0, .i t1, .b t3]) rfl (congrArg (fun r => [U.b r]) e4) rfl ?_
    refine T.hite (x := t3) ?_ ?_ ?_
    · rfl
    · intro c6
      refine T.hdone ?_
      have e00 : hitR (x1) (x2) = ((0, 0), (false, t1)) := by simp only [hitR, e2, e4, c6, reduceIte, Bool.false_eq_true, Bool.true_eq_false, Bool.true_and, Bool.false_and, Bool.and_true, Bool.and_false, Bool.true_or, Bool.false_or, Bool.or_true, Bool.or_false, Bool.not_true, Bool.not_false] <;> simp_all
      exact ⟨⟨⟨(congrArg (fun r => some (lookU r 0)) e00.symm), rfl, (congrArg (fun r => some (lookU r 1)) e00.symm), trivial⟩, (congrArg (fun r => some (lookU r 2)) e00.symm), ⟨rfl, (congrArg (fun r => some (lookU r 3)) e00.symm)⟩, trivial⟩, trivial, rfl⟩
    · intro c6
      obtain ⟨t6, t7, e8⟩ : ∃ t6 t7, (Dy.dMul x1 x1 true) = (t6, t7) := Dy.ex2 _
      refine T.hbind (us := [.f x1, .f x1, .b true]) (xs := [.f t6, .i t7]) (ρ' := [.f x1, .f x2, .b t0, .i t1, .b t3, .f t6, .i t7]) rfl (congrArg (fun r : Nat × Int => [U.f r.1, U.i r.2]) e8) rfl ?_
      obtain ⟨t9, t10, e11⟩ : ∃ t9 t10, (Dy.dMul x2 x2 true) = (t9, t10) := Dy.ex2 _
      refine T.hbind (us := [.f x2, .f x2, .b true]) (xs := [.f t9, .i t10]) (ρ' := [.f x1, .f x2, .b t0, .i t1, .b t3, .f t6, .i t7, .f t9, .i t10]) rfl (congrArg (fun r : Nat × Int => [U.f r.1, U.i r.2]) e11) rfl ?_
      obtain ⟨t12, t13, e14⟩ : ∃ t12 t13, (Dy.dAdd t6 t9 true) = (t12, t13) := Dy.ex2 _
      refine T.hbind (us := [.f t6, .f t9, .b true]) (xs := [.f t12, .i t13]) (ρ' := [.f x1, .f x2, .b t0, .i t1, .b t3, .f t6, .i t7, .f t9, .i t10, .f t12, .i t13]) rfl (congrArg (fun r : Nat × Int => [U.f r.1, U.i r.2]) e14) rfl ?_
      obtain ⟨t15, t16, e17⟩ : ∃ t15 t16, (Dy.dSub 4607182418800017408 t12 false) = (t15, t16) := Dy.ex2 _
      refine T.hbind (us := [.f 4607182418800017408, .f t12, .b false]) (xs := [.f t15, .i t16]) (ρ' := [.f x1, .f x2, .b t0, .i t1, .b t3, .f t6, .i t7, .f t9, .i t10, .f t12, .i t13, .f t15, .i t16]) rfl (congrArg (fun r : Nat × Int => [U.f r.1, U.i r.2]) e17) rfl ?_
      obtain ⟨t18, e19⟩ : ∃ t18, (Dy.flt t15 0 || Dy.feq t15 0) = t18 := ⟨_, rfl⟩
      refine T.hbind (us := [.f t15, .f 0]) (xs := [.b t18]) (ρ' := [.f x1, .f x2, .b t0, .i t1, .b t3, .f t6, .i t7, .f t9, .i t10, .f t12, .i t13, .f t15, .i t16, .b t18]) rfl (congrArg (fun r => [U.b r]) e19) rfl ?_
      refine T.hite (x := t18) ?_ ?_ ?_
      · rfl
      · intro c21
        refine T.hdone ?_
        have e00 : hitR (x1) (x2) = ((0, 0), (false, 0)) := by simp only [hitR, e2, e4, c6, e8, e11, e14, e17, e19, c21, reduceIte, Bool.false_eq_true, Bool.true_eq_false, Bool.true_and, Bool.false_and, Bool.and_true, Bool.and_false, Bool.true_or, Bool.false_or, Bool.or_true, Bool.or_false, Bool.not_true, Bool.not_false] <;> simp_all
        exact ⟨⟨⟨(congrArg (fun r => some (lookU r 0)) e00.symm), rfl, (congrArg (fun r => some (lookU r 1)) e00.symm), trivial⟩, (congrArg (fun r => some (lookU r 2)) e00.symm), ⟨rfl, (congrArg (fun r => some (lookU r 3)) e00.symm)⟩, trivial⟩, trivial, rfl⟩
      · intro c21
        obtain ⟨t21, t22, e23⟩ : ∃ t21 t22, (Dy.dSqrt t12 false) = (t21, t22) := Dy.ex2 _
        refine T.hbind (us := [.f t12, .b false]) (xs := [.f t21, .i t22]) (ρ' := [.f x1, .f x2, .b t0, .i t1, .b t3, .f t6, .i t7, .f t9, .i t10, .f t12, .i t13, .f t15, .i t16, .b t18, .f t21, .i t22]) rfl (congrArg (fun r : Nat × Int => [U.f r.1, U.i r.2]) e23) rfl ?_
        obtain ⟨t24, t25, e26⟩ : ∃ t24 t25, (Dy.dSqrt t15 false) = (t24, t25) := Dy.ex2 _
        refine T.hbind (us := [.f t15, .b false]) (xs := [.f t24, .i t25]) (ρ' := [.f x1, .f x2, .b t0, .i t1, .b t3, .f t6, .i t7, .f t9, .i t10, .f t12, .i t13, .f t15, .i t16, .b t18, .f t21, .i t22, .f t24, .i t25]) rfl (congrArg (fun r : Nat × Int => [U.f r.1, U.i r.2]) e26) rfl ?_
        refine T.hdone ?_
        have e00 : hitR (x1) (x2) = ((t21, t24), (true, 0)) := by simp only [hitR, e2, e4, c6, e8, e11, e14, e17, e19, c21, e23, e26, reduceIte, Bool.false_eq_true, Bool.true_eq_false, Bool.true_and, Bool.false_and, Bool.and_true, Bool.and_false, Bool.true_or, Bool.false_or, Bool.or_true, Bool.or_false, Bool.not_true, Bool.not_false] <;> simp_all
        exact ⟨⟨⟨(congrArg (fun r => some (lookU r 0)) e00.symm), rfl, (congrArg (fun r => some (lookU r 1)) e00.symm), trivial⟩, (congrArg (fun r => some (lookU r 2)) e00.symm), ⟨rfl, (congrArg (fun r => some (lookU r 3)) e00.symm)⟩, trivial⟩, trivial, rfl⟩

def wh5 : List (Nat × Ct) := (8, ctHitR) :: wh4
theorem wh5_ok : AllOk Try.prog wh5 := ⟨ctHitR_ok, wh4_ok⟩

def ctSame25 : Ct := ⟨6, [], [.agg [vf 0, vf 1, vf 2], .agg [vf 3, vf 4, vf 5]], { binds := [⟨fun us i => bRes ((decide (gF us 0 = gF us 3) && (decide (gF us 1 = gF us 4) && decide (gF us 2 = gF us 5)))) i, 1, upto 0 6⟩], needs := [], val := vb 6, upd := [] }⟩
set_option maxRecDepth 100000 in
set_option maxHeartbeats 8000000 in
theorem ctSame25_ok : CtOk Try.prog 9 ctSame25 := by
  refine CtOk.of_eval2 wh5_ok (dr_ok wh5_ok) Try.func9 rfl (by decide) [] 200 (by kernel_rfl) rfl (.bind ⟨fun us _ => .b (decide (gF us 0 = gF us 1)), 1, [(.v 0), (.v 3)]⟩ (.ite (.v 6) (.bind ⟨fun us _ => .b (decide (gF us 0 = gF us 1)), 1, [(.v 1), (.v 4)]⟩ (.ite (.v 7) (.bind ⟨fun us _ => .b (decide (gF us 0 = gF us 1)), 1, [(.v 2), (.v 5)]⟩ (.done .ret ⟨[.bo (.v 8)], [], 9, []⟩)) (.done .ret ⟨[.bo (.l (.b false))], [], 8, []⟩))) (.done .ret ⟨[.bo (.l (.b false))], [], 7, []⟩))) (by kernel_rfl) (by kernel_rfl) (by kernel_rfl) (fun us hl hF hB hN => ?_)
  match us, hl with
  | [u0, u1, u2, u3, u4, u5], _ =>
    simp [FactsB, FactsL, Facts, ctSame25] at hF hB
    simp [NeedsAt, runB, evs, E.ev, upto, resl, List.range, List.range.loop, ctSame25] at hN
    obtain ⟨⟨⟨a1, rfl, wa1⟩, ⟨a2, rfl, wa2⟩, ⟨a3, rfl, wa3⟩⟩, ⟨m1, rfl, wm1⟩, ⟨m2, rfl, wm2⟩, ⟨m3, rfl, wm3⟩⟩ := hF
    refine T.HH.h ?_
    obtain ⟨t0, e1⟩ : ∃ t0, ((decide (a1 = m1))) = t0 := ⟨_, rfl⟩
    refine T.hbind (us := [.f a1, .f m1]) (xs := [.b t0]) (ρ' := [.f a1, .f a2, .f a3, .f m1, .f m2, .f m3, .b t0]) rfl (congrArg (fun r => [U.b r]) e1) rfl ?_
    refine T.hite (x := t0) ?_ ?_ ?_
    · rfl
    · intro c3
      obtain ⟨t3, e4⟩ : ∃ t3, ((decide (a2 = m2))) = t3 := ⟨_, rfl⟩
      refine T.hbind (us := [.f a2, .f m2]) (xs := [.b t3]) (ρ' := [.f a1, .f a2, .f a3, .f m1, .f m2, .f m3, .b t0, .b t3]) rfl (congrArg (fun r => [U.b r]) e4) rfl ?_
      refine T.hite (x := t3) ?_ ?_ ?_
      · rfl
      · intro c6
        obtain ⟨t6, e7⟩ : ∃ t6, ((decide (a3 = m3))) = t6 := ⟨_, rfl⟩
        refine T.hbind (us := [.f a3, .f m3]) (xs := [.b t6]) (ρ' := [.f a1, .f a2, .f a3, .f m1, .f m2, .f m3, .b t0, .b t3, .b t6]) rfl (congrArg (fun r => [U.b r]) e7) rfl ?_
        refine T.hdone ?_
        have e00 : (decide (a1 = m1) && (decide (a2 = m2) && decide (a3 = m3))) = t6 := by simp only [e1, c3, e4, c6, e7, reduceIte, Bool.false_eq_true, Bool.true_eq_false, Bool.true_and, Bool.false_and, Bool.and_true, Bool.and_false, Bool.true_or, Bool.false_or, Bool.or_true, Bool.or_false, Bool.not_true, Bool.not_false] <;> simp_all
        exact ⟨(congrArg (fun r => some (bRes r 0)) e00.symm), trivial, rfl⟩
      · intro c6
        refine T.hdone ?_
        have e00 : (decide (a1 = m1) && (decide (a2 = m2) && decide (a3 = m3))) = false := by simp only [e1, c3, e4, c6, reduceIte, Bool.false_eq_true, Bool.true_eq_false, Bool.true_and, Bool.false_and, Bool.and_true, Bool.and_false, Bool.true_or, Bool.false_or, Bool.or_true, Bool.or_false, Bool.not_true, Bool.not_false] <;> simp_all
        exact ⟨(congrArg (fun r => some (bRes r 0)) e00.symm), trivial, rfl⟩
    · intro c3
      refine T.hdone ?_
      have e00 : (decide (a1 = m1) && (decide (a2 = m2) && decide (a3 = m3))) = false := by simp only [e1, c3, reduceIte, Bool.false_eq_true, Bool.true_eq_false, Bool.true_and, Bool.false_and, Bool.and_true, Bool.and_false, Bool.true_or, Bool.false_or, Bool.or_true, Bool.or_false, Bool.not_true, Bool.not_false] <;> simp_all
      exact ⟨(congrArg (fun r => some (bRes r 0)) e00.symm), trivial, rfl⟩

def wh6 : List (Nat × Ct) := (9, ctSame25) :: wh5
theorem wh6_ok : AllOk Try.prog wh6 := ⟨ctSame25_ok, wh5_ok⟩

def ctAwake25 : Ct := ctTrue
theorem ctAwake25_ok : CtOk Try.prog 10 ctAwake25 := ctTrue_ok wh6_ok (dr_ok wh6_ok) Try.func10 rfl (by decide) 200 _ rfl (by kernel_rfl)

def wh7 : List (Nat × Ct) := (10, ctAwake25) :: wh6
theorem wh7_ok : AllOk Try.prog wh7 := ⟨ctAwake25_ok, wh6_ok⟩

end Go.Proofs.Ytakdeeknfcifpaa
