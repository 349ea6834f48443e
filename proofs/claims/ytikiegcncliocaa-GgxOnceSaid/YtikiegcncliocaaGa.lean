/- A reckoning of programs by symbols: microfacets (ggx). -/
import Derived.Test.YtikiegcncliocaaVc
import Derived.Test.YtikiegcncliocaaCe
namespace Go.Proofs.Ytikiegcncliocaa
open Go Go.RowKit
set_option linter.unusedSimpArgs false
set_option linter.unusedVariables false

theorem clip_ends {a : Nat × Nat} {l h : Nat} (w : Dy.WW a) (r1 : Dy.right a.1 = true) (r2 : Dy.right a.2 = true) (wl : Dy.W l) (rl : Dy.right l = true) (wh : Dy.W h) (rh : Dy.right h = true) : Dy.WW (Dy.clip l h a) ∧ Dy.right (Dy.clip l h a).1 = true ∧ Dy.right (Dy.clip l h a).2 = true := by
  refine ⟨⟨Dy.dmin_W (Dy.dmax_W w.1 wl) wh, Dy.dmin_W (Dy.dmax_W w.2 wl) wh⟩, Dy.dmin_right (Dy.dmax_right r1 rl) rh, Dy.dmin_right (Dy.dmax_right r2 rl) rh⟩
/-- An alpha, a cosine that may be. -/
def gA (a : Nat × Nat) : Bool := Dy.ivR a && (Dy.fgt a.1 4584664420663164928 || Dy.feq a.1 4584664420663164928) && (Dy.flt a.2 4607182418800017408 || Dy.feq a.2 4607182418800017408)
def gC (a : Nat × Nat) : Bool := Dy.ivR a && (Dy.fgt a.1 0 || Dy.feq a.1 0) && (Dy.flt a.2 4607182418800017408 || Dy.feq a.2 4607182418800017408)
def nG1 (us : List U) : Bool := gA (gF us 0, gF us 1) && gC (gF us 2, gF us 3)
def nG2 (us : List U) : Bool := gA (gF us 0, gF us 1) && gC (gF us 2, gF us 3) && gC (gF us 4, gF us 5)
theorem gA_of {a b : Nat} (h : gA (a, b) = true) : Dy.ivR (a, b) = true ∧ (Dy.fgt a 4584664420663164928 || Dy.feq a 4584664420663164928) = true ∧ (Dy.flt b 4607182418800017408 || Dy.feq b 4607182418800017408) = true := by
  unfold gA at h; rw [Bool.and_eq_true, Bool.and_eq_true] at h; exact ⟨h.1.1, h.1.2, h.2⟩
theorem gC_of {a b : Nat} (h : gC (a, b) = true) : Dy.ivR (a, b) = true ∧ (Dy.fgt a 0 || Dy.feq a 0) = true ∧ (Dy.flt b 4607182418800017408 || Dy.feq b 4607182418800017408) = true := by
  unfold gC at h; rw [Bool.and_eq_true, Bool.and_eq_true] at h; exact ⟨h.1.1, h.1.2, h.2⟩
attribute [local irreducible] bentM leansM hidesM facesM seen1M seen2M dM lambdaM facingM g1M g2M
def z0 : List (Nat × Ct) := v21
theorem z0_ok : AllOk Try.prog z0 := v21_ok
def ctPiL : Ct := ⟨0, [], [], { val := .agg [.fl (.l (.f 4614256656552045848)), .fl (.l (.f 4614256656552045849))] }⟩
set_option maxRecDepth 100000 in
theorem ctPiL_ok : CtOk Try.prog 27 ctPiL := by
  refine CtOk.of_eval2 z0_ok (dr_ok z0_ok) Try.func27 rfl (by decide) [] 200 (by kernel_rfl) rfl (.bind ⟨fOp1 Dy.dNext, 2, [(.l (.f 4614256656552045848)), (.l (.b true))]⟩ (.done .ret ⟨[.agg [.fl (.l (.f 4614256656552045848)), .fl (.v 0)]], [], 2, []⟩)) (by kernel_rfl) (by kernel_rfl) (by kernel_rfl) (fun us hl hF hB hN => ?_)
  match us, hl with
  | [], _ =>
    refine T.HH.h ?_
    refine T.hbind (us := [.f 4614256656552045848, .b true]) (xs := [.f 4614256656552045849, .i 0]) (ρ' := [.f 4614256656552045849, .i 0]) rfl (congrArg (fun r : Nat × Int => [U.f r.1, U.i r.2]) (show Dy.dNext 4614256656552045848 true = (4614256656552045849, 0) from by decide +kernel)) rfl ?_
    exact T.hdone ⟨⟨rfl, rfl, trivial⟩, trivial, rfl⟩

def z1 : List (Nat × Ct) := (27, ctPiL) :: z0
theorem z1_ok : AllOk Try.prog z1 := ⟨ctPiL_ok, z0_ok⟩

def ctBent : Ct := ⟨5, [[vi .i64 0]], [.agg [.ptr 0 0, vf 1, vf 2], vp 3 4], { binds := [⟨fun us i => calR (bentM (gF us 1, gF us 2) (gF us 3, gF us 4) (gI us 0)) i, 3, upto 0 5⟩], needs := [], val := vp 5 6, upd := [(0, [vi .i64 7])] }⟩
set_option maxRecDepth 100000 in
set_option maxHeartbeats 8000000 in
theorem ctBent_ok : CtOk Try.prog 163 ctBent := by
  refine CtOk.of_eval2 z1_ok (dr_ok z1_ok) Try.func163 rfl (by decide) [] 200 (by kernel_rfl) rfl (.bind ⟨calF0 Dy.cNum, 3, [(.v 0), (.l (.f 4607182418800017408))]⟩ (.bind ⟨calF2 Dy.cSub, 3, [(.v 7), (.v 1), (.v 2), (.v 5), (.v 6)]⟩ (.bind ⟨calF1 Dy.cSqr, 3, [(.v 10), (.v 3), (.v 4)]⟩ (.bind ⟨calF2 Dy.cMul, 3, [(.v 13), (.v 8), (.v 9), (.v 11), (.v 12)]⟩ (.bind ⟨calF0 Dy.cNum, 3, [(.v 16), (.l (.f 4607182418800017408))]⟩ (.bind ⟨calF2 Dy.cAdd, 3, [(.v 19), (.v 14), (.v 15), (.v 17), (.v 18)]⟩ (.done .ret ⟨[.agg [.fl (.v 20), .fl (.v 21)]], [some ([.it .i64 (.v 22)])], 23, [0, 0, 0, 0, 0, 0]⟩))))))) (by kernel_rfl) (by kernel_rfl) (by kernel_rfl) (fun us hl hF hB hN => ?_)
  match us, hl with
  | [u0, u1, u2, u3, u4], _ =>
    simp [FactsB, FactsL, Facts, ctBent] at hF hB
    simp [NeedsAt, runB, evs, E.ev, upto, resl, List.range, List.range.loop, ctBent] at hN
    obtain ⟨⟨⟨a1, rfl, wa1⟩, ⟨a2, rfl, wa2⟩⟩, ⟨b1, rfl, wb1⟩, ⟨b2, rfl, wb2⟩⟩ := hF
    obtain ⟨e, rfl⟩ := hB
    refine T.HH.h ?_
    obtain ⟨t0, t1, t2, e3⟩ : ∃ t0 t1 t2, (Dy.cNum e 4607182418800017408) = ((t0, t1), t2) := Dy.ex3 _
    have g3 := Dy.good_num (show Dy.W 4607182418800017408 from by unfold Dy.W; decide) (err := e)
    rw [e3] at g3
    refine T.hbind (us := [.i e, .f 4607182418800017408]) (xs := [.f t0, .f t1, .i t2]) (ρ' := [.i e, .f a1, .f a2, .f b1, .f b2, .f t0, .f t1, .i t2]) rfl (congrArg (fun r => [calR r 0, calR r 1, calR r 2]) e3) rfl ?_
    obtain ⟨t4, t5, t6, e7⟩ : ∃ t4 t5 t6, (Dy.cSub t2 (a1, a2) (t0, t1)) = ((t4, t5), t6) := Dy.ex3 _
    have g7 := Dy.good_sub (a := (a1, a2)) (b := (t0, t1)) ⟨g3.1.1, g3.1.2⟩ (err := t2)
    rw [e7] at g7
    refine T.hbind (us := [.i t2, .f a1, .f a2, .f t0, .f t1]) (xs := [.f t4, .f t5, .i t6]) (ρ' := [.i e, .f a1, .f a2, .f b1, .f b2, .f t0, .f t1, .i t2, .f t4, .f t5, .i t6]) rfl (congrArg (fun r => [calR r 0, calR r 1, calR r 2]) e7) rfl ?_
    obtain ⟨t8, t9, t10, e11⟩ : ∃ t8 t9 t10, (Dy.cSqr t6 (b1, b2)) = ((t8, t9), t10) := Dy.ex3 _
    have g11 := Dy.good_sqr (a := (b1, b2)) ⟨wb1, wb2⟩ (err := t6)
    rw [e11] at g11
    refine T.hbind (us := [.i t6, .f b1, .f b2]) (xs := [.f t8, .f t9, .i t10]) (ρ' := [.i e, .f a1, .f a2, .f b1, .f b2, .f t0, .f t1, .i t2, .f t4, .f t5, .i t6, .f t8, .f t9, .i t10]) rfl (congrArg (fun r => [calR r 0, calR r 1, calR r 2]) e11) rfl ?_
    obtain ⟨t12, t13, t14, e15⟩ : ∃ t12 t13 t14, (Dy.cMul t10 (t4, t5) (t8, t9)) = ((t12, t13), t14) := Dy.ex3 _
    have g15 := Dy.good_mul (a := (t4, t5)) (b := (t8, t9)) (err := t10)
    rw [e15] at g15
    refine T.hbind (us := [.i t10, .f t4, .f t5, .f t8, .f t9]) (xs := [.f t12, .f t13, .i t14]) (ρ' := [.i e, .f a1, .f a2, .f b1, .f b2, .f t0, .f t1, .i t2, .f t4, .f t5, .i t6, .f t8, .f t9, .i t10, .f t12, .f t13, .i t14]) rfl (congrArg (fun r => [calR r 0, calR r 1, calR r 2]) e15) rfl ?_
    obtain ⟨t16, t17, t18, e19⟩ : ∃ t16 t17 t18, (Dy.cNum t14 4607182418800017408) = ((t16, t17), t18) := Dy.ex3 _
    have g19 := Dy.good_num (show Dy.W 4607182418800017408 from by unfold Dy.W; decide) (err := t14)
    rw [e19] at g19
    refine T.hbind (us := [.i t14, .f 4607182418800017408]) (xs := [.f t16, .f t17, .i t18]) (ρ' := [.i e, .f a1, .f a2, .f b1, .f b2, .f t0, .f t1, .i t2, .f t4, .f t5, .i t6, .f t8, .f t9, .i t10, .f t12, .f t13, .i t14, .f t16, .f t17, .i t18]) rfl (congrArg (fun r => [calR r 0, calR r 1, calR r 2]) e19) rfl ?_
    obtain ⟨t20, t21, t22, e23⟩ : ∃ t20 t21 t22, (Dy.cAdd t18 (t12, t13) (t16, t17)) = ((t20, t21), t22) := Dy.ex3 _
    have g23 := Dy.good_add (a := (t12, t13)) (b := (t16, t17)) (err := t18)
    rw [e23] at g23
    refine T.hbind (us := [.i t18, .f t12, .f t13, .f t16, .f t17]) (xs := [.f t20, .f t21, .i t22]) (ρ' := [.i e, .f a1, .f a2, .f b1, .f b2, .f t0, .f t1, .i t2, .f t4, .f t5, .i t6, .f t8, .f t9, .i t10, .f t12, .f t13, .i t14, .f t16, .f t17, .i t18, .f t20, .f t21, .i t22]) rfl (congrArg (fun r => [calR r 0, calR r 1, calR r 2]) e23) rfl ?_
    refine T.hdone ?_
    have eM : bentM (a1, a2) (b1, b2) e = ((t20, t21), t22) := by
      unfold bentM
      refine (Dy.cs_num e3).trans ?_
      refine (Dy.cs_sub e7).trans ?_
      refine (Dy.cs_sqr e11).trans ?_
      refine (Dy.cs_mul e15).trans ?_
      refine (Dy.cs_num e19).trans ?_
      first | exact e23 | (refine (Dy.cs_add e23).trans ?_; rfl)
    have e00 : bentM (a1, a2) (b1, b2) (e) = ((t20, t21), t22) := by simp only [eM, reduceIte, Bool.false_eq_true, Bool.true_eq_false, Bool.true_and, Bool.false_and, Bool.and_true, Bool.and_false, Bool.true_or, Bool.false_or, Bool.or_true, Bool.or_false, Bool.not_true, Bool.not_false] <;> simp_all
    exact ⟨⟨(congrArg (fun r => some (calR r 0)) e00.symm), (congrArg (fun r => some (calR r 1)) e00.symm), trivial⟩, ⟨⟨⟨rfl, (congrArg (fun r => some (calR r 2)) e00.symm)⟩, trivial⟩, trivial⟩, rfl⟩

def z2 : List (Nat × Ct) := (163, ctBent) :: z1
theorem z2_ok : AllOk Try.prog z2 := ⟨ctBent_ok, z1_ok⟩

def ctS_leans : Ct := ⟨5, [[vi .i64 0], [vf 3, vf 4]], [.agg [.ptr 0 0, vf 1, vf 2], .slc 1 0 1 1], { binds := [⟨fun us i => calR (leansM (gF us 1, gF us 2) (gF us 3, gF us 4) (gI us 0)) i, 3, upto 0 5⟩], needs := [], val := vp 5 6, upd := [(0, [vi .i64 7])] }⟩
set_option maxRecDepth 100000 in
set_option maxHeartbeats 8000000 in
theorem ctS_leans_ok : CtOk Try.prog 150 ctS_leans := by
  refine CtOk.of_eval2 z2_ok (dr_ok z2_ok) Try.func150 rfl (by decide) [] 200 (by kernel_rfl) rfl (.bind ⟨fun us i => calR (bentM (gF us 1, gF us 2) (gF us 3, gF us 4) (gI us 0)) i, 3, [(.v 0), (.v 1), (.v 2), (.v 3), (.v 4)]⟩ (.bind ⟨calF1 Dy.cSqr, 3, [(.v 7), (.v 5), (.v 6)]⟩ (.bind ⟨calF2 Dy.cMul, 3, [(.v 10), (.l (.f 4614256656552045848)), (.l (.f 4614256656552045849)), (.v 8), (.v 9)]⟩ (.bind ⟨calF2 Dy.cDiv, 3, [(.v 13), (.v 1), (.v 2), (.v 11), (.v 12)]⟩ (.done .ret ⟨[.agg [.fl (.v 14), .fl (.v 15)]], [some ([.it .i64 (.v 16)]), some ([.fl (.v 3), .fl (.v 4)])], 17, [0, 0, 0, 0]⟩))))) (by kernel_rfl) (by kernel_rfl) (by kernel_rfl) (fun us hl hF hB hN => ?_)
  match us, hl with
  | [u0, u1, u2, u3, u4], _ =>
    simp [FactsB, FactsL, Facts, ctS_leans] at hF hB
    simp [NeedsAt, runB, evs, E.ev, upto, resl, List.range, List.range.loop, ctS_leans] at hN
    obtain ⟨⟨a1, rfl, wa1⟩, ⟨a2, rfl, wa2⟩⟩ := hF
    obtain ⟨⟨e, rfl⟩, ⟨b1, rfl, wb1⟩, ⟨b2, rfl, wb2⟩⟩ := hB
    refine T.HH.h ?_
    obtain ⟨t0, t1, t2, e3⟩ : ∃ t0 t1 t2, (bentM (a1, a2) (b1, b2) (e)) = ((t0, t1), t2) := Dy.ex3 _
    refine T.hbind (us := [.i e, .f a1, .f a2, .f b1, .f b2]) (xs := [.f t0, .f t1, .i t2]) (ρ' := [.i e, .f a1, .f a2, .f b1, .f b2, .f t0, .f t1, .i t2]) rfl (congrArg (fun r => [calR r 0, calR r 1, calR r 2]) e3) rfl ?_
    obtain ⟨t4, t5, t6, e7⟩ : ∃ t4 t5 t6, (Dy.cSqr t2 (t0, t1)) = ((t4, t5), t6) := Dy.ex3 _
    refine T.hbind (us := [.i t2, .f t0, .f t1]) (xs := [.f t4, .f t5, .i t6]) (ρ' := [.i e, .f a1, .f a2, .f b1, .f b2, .f t0, .f t1, .i t2, .f t4, .f t5, .i t6]) rfl (congrArg (fun r => [calR r 0, calR r 1, calR r 2]) e7) rfl ?_
    obtain ⟨t8, t9, t10, e11⟩ : ∃ t8 t9 t10, (Dy.cMul t6 (4614256656552045848, 4614256656552045849) (t4, t5)) = ((t8, t9), t10) := Dy.ex3 _
    have g11 := Dy.good_mul (a := (4614256656552045848, 4614256656552045849)) (b := (t4, t5)) (err := t6)
    rw [e11] at g11
    refine T.hbind (us := [.i t6, .f 4614256656552045848, .f 4614256656552045849, .f t4, .f t5]) (xs := [.f t8, .f t9, .i t10]) (ρ' := [.i e, .f a1, .f a2, .f b1, .f b2, .f t0, .f t1, .i t2, .f t4, .f t5, .i t6, .f t8, .f t9, .i t10]) rfl (congrArg (fun r => [calR r 0, calR r 1, calR r 2]) e11) rfl ?_
    obtain ⟨t12, t13, t14, e15⟩ : ∃ t12 t13 t14, (Dy.cDiv t10 (a1, a2) (t8, t9)) = ((t12, t13), t14) := Dy.ex3 _
    have g15 := Dy.good_div (a := (a1, a2)) (b := (t8, t9)) ⟨g11.1.1, g11.1.2⟩ (err := t10)
    rw [e15] at g15
    refine T.hbind (us := [.i t10, .f a1, .f a2, .f t8, .f t9]) (xs := [.f t12, .f t13, .i t14]) (ρ' := [.i e, .f a1, .f a2, .f b1, .f b2, .f t0, .f t1, .i t2, .f t4, .f t5, .i t6, .f t8, .f t9, .i t10, .f t12, .f t13, .i t14]) rfl (congrArg (fun r => [calR r 0, calR r 1, calR r 2]) e15) rfl ?_
    refine T.hdone ?_
    have eM : leansM (a1, a2) (b1, b2) e = ((t12, t13), t14) := by
      unfold leansM
      refine (Dy.cm_s (x := bentM (a1, a2) (b1, b2)) e3).trans ?_
      refine (Dy.cs_sqr e7).trans ?_
      refine (Dy.cs_mul e11).trans ?_
      first | exact e15 | (refine (Dy.cs_div e15).trans ?_; rfl)
    have e00 : leansM (a1, a2) (b1, b2) (e) = ((t12, t13), t14) := by simp only [eM, reduceIte, Bool.false_eq_true, Bool.true_eq_false, Bool.true_and, Bool.false_and, Bool.and_true, Bool.and_false, Bool.true_or, Bool.false_or, Bool.or_true, Bool.or_false, Bool.not_true, Bool.not_false] <;> simp_all
    exact ⟨⟨(congrArg (fun r => some (calR r 0)) e00.symm), (congrArg (fun r => some (calR r 1)) e00.symm), trivial⟩, ⟨⟨⟨rfl, (congrArg (fun r => some (calR r 2)) e00.symm)⟩, trivial⟩, trivial⟩, rfl⟩

def z3 : List (Nat × Ct) := (150, ctS_leans) :: z2
theorem z3_ok : AllOk Try.prog z3 := ⟨ctS_leans_ok, z2_ok⟩

def ctS_hides : Ct := ⟨5, [[vi .i64 0], [vf 3, vf 4]], [.agg [.ptr 0 0, vf 1, vf 2], .slc 1 0 1 1], { binds := [⟨fun us i => calR (hidesM (gF us 1, gF us 2) (gF us 3, gF us 4) (gI us 0)) i, 3, upto 0 5⟩], needs := [], val := vp 5 6, upd := [(0, [vi .i64 7])] }⟩
set_option maxRecDepth 100000 in
set_option maxHeartbeats 8000000 in
theorem ctS_hides_ok : CtOk Try.prog 164 ctS_hides := by
  refine CtOk.of_eval2 z3_ok (dr_ok z3_ok) Try.func164 rfl (by decide) [] 200 (by kernel_rfl) rfl (.bind ⟨calF1 Dy.cSqr, 3, [(.v 0), (.v 3), (.v 4)]⟩ (.bind ⟨calF0 Dy.cNum, 3, [(.v 7), (.l (.f 4607182418800017408))]⟩ (.bind ⟨calF2 Dy.cSub, 3, [(.v 10), (.v 8), (.v 9), (.v 5), (.v 6)]⟩ (.bind ⟨calF2 Dy.cDiv, 3, [(.v 13), (.v 11), (.v 12), (.v 5), (.v 6)]⟩ (.bind ⟨calF0 Dy.cNum, 3, [(.v 16), (.l (.f 4602678819172646912))]⟩ (.bind ⟨calF0 Dy.cNum, 3, [(.v 19), (.l (.f 4607182418800017408))]⟩ (.bind ⟨calF2 Dy.cMul, 3, [(.v 22), (.v 1), (.v 2), (.v 14), (.v 15)]⟩ (.bind ⟨calF2 Dy.cAdd, 3, [(.v 25), (.v 20), (.v 21), (.v 23), (.v 24)]⟩ (.bind ⟨calF1 Dy.cSqrt, 3, [(.v 28), (.v 26), (.v 27)]⟩ (.bind ⟨calF0 Dy.cNum, 3, [(.v 31), (.l (.f 4607182418800017408))]⟩ (.bind ⟨calF2 Dy.cSub, 3, [(.v 34), (.v 29), (.v 30), (.v 32), (.v 33)]⟩ (.bind ⟨calF2 Dy.cMul, 3, [(.v 37), (.v 17), (.v 18), (.v 35), (.v 36)]⟩ (.bind ⟨fun us _ => gB Dy.dmax us, 1, [(.v 38), (.l (.f 0))]⟩ (.need ⟨rN, [(.v 38), (.l (.f 0))]⟩ (.bind ⟨fun us _ => gB Dy.dmax us, 1, [(.v 39), (.l (.f 0))]⟩ (.need ⟨rN, [(.v 39), (.l (.f 0))]⟩ (.done .ret ⟨[.agg [.fl (.v 41), .fl (.v 42)]], [some ([.it .i64 (.v 40)]), some ([.fl (.v 3), .fl (.v 4)])], 43, [0, 0, 0, 0, 0, 0, 0, 0, 0, 0, 0, 0]⟩))))))))))))))))) (by kernel_rfl) (by kernel_rfl) (by kernel_rfl) (fun us hl hF hB hN => ?_)
  match us, hl with
  | [u0, u1, u2, u3, u4], _ =>
    simp [FactsB, FactsL, Facts, ctS_hides] at hF hB
    simp [NeedsAt, runB, evs, E.ev, upto, resl, List.range, List.range.loop, ctS_hides] at hN
    obtain ⟨⟨a1, rfl, wa1⟩, ⟨a2, rfl, wa2⟩⟩ := hF
    obtain ⟨⟨e, rfl⟩, ⟨b1, rfl, wb1⟩, ⟨b2, rfl, wb2⟩⟩ := hB
    refine T.HH.h ?_
    obtain ⟨t0, t1, t2, e3⟩ : ∃ t0 t1 t2, (Dy.cSqr e (b1, b2)) = ((t0, t1), t2) := Dy.ex3 _
    have g3 := Dy.good_sqr (a := (b1, b2)) ⟨wb1, wb2⟩ (err := e)
    rw [e3] at g3
    refine T.hbind (us := [.i e, .f b1, .f b2]) (xs := [.f t0, .f t1, .i t2]) (ρ' := [.i e, .f a1, .f a2, .f b1, .f b2, .f t0, .f t1, .i t2]) rfl (congrArg (fun r => [calR r 0, calR r 1, calR r 2]) e3) rfl ?_
    obtain ⟨t4, t5, t6, e7⟩ : ∃ t4 t5 t6, (Dy.cNum t2 4607182418800017408) = ((t4, t5), t6) := Dy.ex3 _
    have g7 := Dy.good_num (show Dy.W 4607182418800017408 from by unfold Dy.W; decide) (err := t2)
    rw [e7] at g7
    refine T.hbind (us := [.i t2, .f 4607182418800017408]) (xs := [.f t4, .f t5, .i t6]) (ρ' := [.i e, .f a1, .f a2, .f b1, .f b2, .f t0, .f t1, .i t2, .f t4, .f t5, .i t6]) rfl (congrArg (fun r => [calR r 0, calR r 1, calR r 2]) e7) rfl ?_
    obtain ⟨t8, t9, t10, e11⟩ : ∃ t8 t9 t10, (Dy.cSub t6 (t4, t5) (t0, t1)) = ((t8, t9), t10) := Dy.ex3 _
    have g11 := Dy.good_sub (a := (t4, t5)) (b := (t0, t1)) ⟨g3.1.1, g3.1.2⟩ (err := t6)
    rw [e11] at g11
    refine T.hbind (us := [.i t6, .f t4, .f t5, .f t0, .f t1]) (xs := [.f t8, .f t9, .i t10]) (ρ' := [.i e, .f a1, .f a2, .f b1, .f b2, .f t0, .f t1, .i t2, .f t4, .f t5, .i t6, .f t8, .f t9, .i t10]) rfl (congrArg (fun r => [calR r 0, calR r 1, calR r 2]) e11) rfl ?_
    obtain ⟨t12, t13, t14, e15⟩ : ∃ t12 t13 t14, (Dy.cDiv t10 (t8, t9) (t0, t1)) = ((t12, t13), t14) := Dy.ex3 _
    have g15 := Dy.good_div (a := (t8, t9)) (b := (t0, t1)) ⟨g3.1.1, g3.1.2⟩ (err := t10)
    rw [e15] at g15
    refine T.hbind (us := [.i t10, .f t8, .f t9, .f t0, .f t1]) (xs := [.f t12, .f t13, .i t14]) (ρ' := [.i e, .f a1, .f a2, .f b1, .f b2, .f t0, .f t1, .i t2, .f t4, .f t5, .i t6, .f t8, .f t9, .i t10, .f t12, .f t13, .i t14]) rfl (congrArg (fun r => [calR r 0, calR r 1, calR r 2]) e15) rfl ?_
    obtain ⟨t16, t17, t18, e19⟩ : ∃ t16 t17 t18, (Dy.cNum t14 4602678819172646912) = ((t16, t17), t18) := Dy.ex3 _
    have g19 := Dy.good_num (show Dy.W 4602678819172646912 from by unfold Dy.W; decide) (err := t14)
    rw [e19] at g19
    refine T.hbind (us := [.i t14, .f 4602678819172646912]) (xs := [.f t16, .f t17, .i t18]) (ρ' := [.i e, .f a1, .f a2, .f b1, .f b2, .f t0, .f t1, .i t2, .f t4, .f t5, .i t6, .f t8, .f t9, .i t10, .f t12, .f t13, .i t14, .f t16, .f t17, .i t18]) rfl (congrArg (fun r => [calR r 0, calR r 1, calR r 2]) e19) rfl ?_
    obtain ⟨t20, t21, t22, e23⟩ : ∃ t20 t21 t22, (Dy.cNum t18 4607182418800017408) = ((t20, t21), t22) := Dy.ex3 _
    have g23 := Dy.good_num (show Dy.W 4607182418800017408 from by unfold Dy.W; decide) (err := t18)
    rw [e23] at g23
    refine T.hbind (us := [.i t18, .f 4607182418800017408]) (xs := [.f t20, .f t21, .i t22]) (ρ' := [.i e, .f a1, .f a2, .f b1, .f b2, .f t0, .f t1, .i t2, .f t4, .f t5, .i t6, .f t8, .f t9, .i t10, .f t12, .f t13, .i t14, .f t16, .f t17, .i t18, .f t20, .f t21, .i t22]) rfl (congrArg (fun r => [calR r 0, calR r 1, calR r 2]) e23) rfl ?_
    obtain ⟨t24, t25, t26, e27⟩ : ∃ t24 t25 t26, (Dy.cMul t22 (a1, a2) (t12, t13)) = ((t24, t25), t26) := Dy.ex3 _
    have g27 := Dy.good_mul (a := (a1, a2)) (b := (t12, t13)) (err := t22)
    rw [e27] at g27
    refine T.hbind (us := [.i t22, .f a1, .f a2, .f t12, .f t13]) (xs := [.f t24, .f t25, .i t26]) (ρ' := [.i e, .f a1, .f a2, .f b1, .f b2, .f t0, .f t1, .i t2, .f t4, .f t5, .i t6, .f t8, .f t9, .i t10, .f t12, .f t13, .i t14, .f t16, .f t17, .i t18, .f t20, .f t21, .i t22, .f t24, .f t25, .i t26]) rfl (congrArg (fun r => [calR r 0, calR r 1, calR r 2]) e27) rfl ?_
    obtain ⟨t28, t29, t30, e31⟩ : ∃ t28 t29 t30, (Dy.cAdd t26 (t20, t21) (t24, t25)) = ((t28, t29), t30) := Dy.ex3 _
    have g31 := Dy.good_add (a := (t20, t21)) (b := (t24, t25)) (err := t26)
    rw [e31] at g31
    refine T.hbind (us := [.i t26, .f t20, .f t21, .f t24, .f t25]) (xs := [.f t28, .f t29, .i t30]) (ρ' := [.i e, .f a1, .f a2, .f b1, .f b2, .f t0, .f t1, .i t2, .f t4, .f t5, .i t6, .f t8, .f t9, .i t10, .f t12, .f t13, .i t14, .f t16, .f t17, .i t18, .f t20, .f t21, .i t22, .f t24, .f t25, .i t26, .f t28, .f t29, .i t30]) rfl (congrArg (fun r => [calR r 0, calR r 1, calR r 2]) e31) rfl ?_
    obtain ⟨t32, t33, t34, e35⟩ : ∃ t32 t33 t34, (Dy.cSqrt t30 (t28, t29)) = ((t32, t33), t34) := Dy.ex3 _
    have g35 := Dy.good_sqrt (a := (t28, t29)) ⟨g31.1.1, g31.1.2⟩ (err := t30)
    rw [e35] at g35
    refine T.hbind (us := [.i t30, .f t28, .f t29]) (xs := [.f t32, .f t33, .i t34]) (ρ' := [.i e, .f a1, .f a2, .f b1, .f b2, .f t0, .f t1, .i t2, .f t4, .f t5, .i t6, .f t8, .f t9, .i t10, .f t12, .f t13, .i t14, .f t16, .f t17, .i t18, .f t20, .f t21, .i t22, .f t24, .f t25, .i t26, .f t28, .f t29, .i t30, .f t32, .f t33, .i t34]) rfl (congrArg (fun r => [calR r 0, calR r 1, calR r 2]) e35) rfl ?_
    obtain ⟨t36, t37, t38, e39⟩ : ∃ t36 t37 t38, (Dy.cNum t34 4607182418800017408) = ((t36, t37), t38) := Dy.ex3 _
    have g39 := Dy.good_num (show Dy.W 4607182418800017408 from by unfold Dy.W; decide) (err := t34)
    rw [e39] at g39
    refine T.hbind (us := [.i t34, .f 4607182418800017408]) (xs := [.f t36, .f t37, .i t38]) (ρ' := [.i e, .f a1, .f a2, .f b1, .f b2, .f t0, .f t1, .i t2, .f t4, .f t5, .i t6, .f t8, .f t9, .i t10, .f t12, .f t13, .i t14, .f t16, .f t17, .i t18, .f t20, .f t21, .i t22, .f t24, .f t25, .i t26, .f t28, .f t29, .i t30, .f t32, .f t33, .i t34, .f t36, .f t37, .i t38]) rfl (congrArg (fun r => [calR r 0, calR r 1, calR r 2]) e39) rfl ?_
    obtain ⟨t40, t41, t42, e43⟩ : ∃ t40 t41 t42, (Dy.cSub t38 (t32, t33) (t36, t37)) = ((t40, t41), t42) := Dy.ex3 _
    have g43 := Dy.good_sub (a := (t32, t33)) (b := (t36, t37)) ⟨g39.1.1, g39.1.2⟩ (err := t38)
    rw [e43] at g43
    refine T.hbind (us := [.i t38, .f t32, .f t33, .f t36, .f t37]) (xs := [.f t40, .f t41, .i t42]) (ρ' := [.i e, .f a1, .f a2, .f b1, .f b2, .f t0, .f t1, .i t2, .f t4, .f t5, .i t6, .f t8, .f t9, .i t10, .f t12, .f t13, .i t14, .f t16, .f t17, .i t18, .f t20, .f t21, .i t22, .f t24, .f t25, .i t26, .f t28, .f t29, .i t30, .f t32, .f t33, .i t34, .f t36, .f t37, .i t38, .f t40, .f t41, .i t42]) rfl (congrArg (fun r => [calR r 0, calR r 1, calR r 2]) e43) rfl ?_
    obtain ⟨t44, t45, t46, e47⟩ : ∃ t44 t45 t46, (Dy.cMul t42 (t16, t17) (t40, t41)) = ((t44, t45), t46) := Dy.ex3 _
    have g47 := Dy.good_mul (a := (t16, t17)) (b := (t40, t41)) (err := t42)
    rw [e47] at g47
    refine T.hbind (us := [.i t42, .f t16, .f t17, .f t40, .f t41]) (xs := [.f t44, .f t45, .i t46]) (ρ' := [.i e, .f a1, .f a2, .f b1, .f b2, .f t0, .f t1, .i t2, .f t4, .f t5, .i t6, .f t8, .f t9, .i t10, .f t12, .f t13, .i t14, .f t16, .f t17, .i t18, .f t20, .f t21, .i t22, .f t24, .f t25, .i t26, .f t28, .f t29, .i t30, .f t32, .f t33, .i t34, .f t36, .f t37, .i t38, .f t40, .f t41, .i t42, .f t44, .f t45, .i t46]) rfl (congrArg (fun r => [calR r 0, calR r 1, calR r 2]) e47) rfl ?_
    obtain ⟨t48, e49⟩ : ∃ t48, (Dy.dmax t44 0) = t48 := ⟨_, rfl⟩
    have W49 : Dy.W t48 := by rw [← e49]; exact Dy.dmax_W g47.1.1 (show Dy.W 0 from by unfold Dy.W; decide)
    have R49 : Dy.right t48 = true := by rw [← e49]; exact Dy.dmax_right (Dy.ivR_of g47.2).1 (show Dy.right 0 = true from by decide +kernel)
    refine T.hbind (us := [.f t44, .f 0]) (xs := [.f t48]) (ρ' := [.i e, .f a1, .f a2, .f b1, .f b2, .f t0, .f t1, .i t2, .f t4, .f t5, .i t6, .f t8, .f t9, .i t10, .f t12, .f t13, .i t14, .f t16, .f t17, .i t18, .f t20, .f t21, .i t22, .f t24, .f t25, .i t26, .f t28, .f t29, .i t30, .f t32, .f t33, .i t34, .f t36, .f t37, .i t38, .f t40, .f t41, .i t42, .f t44, .f t45, .i t46, .f t48]) rfl (congrArg (fun r => [U.f r]) e49) rfl ?_
    refine T.hneed (us := [.f t44, .f 0]) rfl (show (Dy.right t44 && Dy.right 0) = true from by rw [(Dy.ivR_of g47.2).1, (show Dy.right 0 = true from by decide +kernel)]; rfl) ?_
    obtain ⟨t50, e51⟩ : ∃ t50, (Dy.dmax t45 0) = t50 := ⟨_, rfl⟩
    have W51 : Dy.W t50 := by rw [← e51]; exact Dy.dmax_W g47.1.2 (show Dy.W 0 from by unfold Dy.W; decide)
    have R51 : Dy.right t50 = true := by rw [← e51]; exact Dy.dmax_right (Dy.ivR_of g47.2).2.1 (show Dy.right 0 = true from by decide +kernel)
    refine T.hbind (us := [.f t45, .f 0]) (xs := [.f t50]) (ρ' := [.i e, .f a1, .f a2, .f b1, .f b2, .f t0, .f t1, .i t2, .f t4, .f t5, .i t6, .f t8, .f t9, .i t10, .f t12, .f t13, .i t14, .f t16, .f t17, .i t18, .f t20, .f t21, .i t22, .f t24, .f t25, .i t26, .f t28, .f t29, .i t30, .f t32, .f t33, .i t34, .f t36, .f t37, .i t38, .f t40, .f t41, .i t42, .f t44, .f t45, .i t46, .f t48, .f t50]) rfl (congrArg (fun r => [U.f r]) e51) rfl ?_
    refine T.hneed (us := [.f t45, .f 0]) rfl (show (Dy.right t45 && Dy.right 0) = true from by rw [(Dy.ivR_of g47.2).2.1, (show Dy.right 0 = true from by decide +kernel)]; rfl) ?_
    refine T.hdone ?_
    have eM : hidesM (a1, a2) (b1, b2) e = ((t48, t50), t46) := by
      unfold hidesM
      refine (Dy.cs_sqr e3).trans ?_
      refine (Dy.cs_num e7).trans ?_
      refine (Dy.cs_sub e11).trans ?_
      refine (Dy.cs_div e15).trans ?_
      refine (Dy.cs_num e19).trans ?_
      refine (Dy.cs_num e23).trans ?_
      refine (Dy.cs_mul e27).trans ?_
      refine (Dy.cs_add e31).trans ?_
      refine (Dy.cs_sqrt e35).trans ?_
      refine (Dy.cs_num e39).trans ?_
      refine (Dy.cs_sub e43).trans ?_
      first | exact e47 | (refine (Dy.cs_mul e47).trans ?_; rfl) | (refine (Dy.cs_mul e47).trans ?_; rw [Dy.cm_pure]; simp only [e49, e51])
    have e00 : hidesM (a1, a2) (b1, b2) (e) = ((t48, t50), t46) := by simp only [eM, e49, e51, reduceIte, Bool.false_eq_true, Bool.true_eq_false, Bool.true_and, Bool.false_and, Bool.and_true, Bool.and_false, Bool.true_or, Bool.false_or, Bool.or_true, Bool.or_false, Bool.not_true, Bool.not_false] <;> simp_all
    exact ⟨⟨(congrArg (fun r => some (calR r 0)) e00.symm), (congrArg (fun r => some (calR r 1)) e00.symm), trivial⟩, ⟨⟨⟨rfl, (congrArg (fun r => some (calR r 2)) e00.symm)⟩, trivial⟩, trivial⟩, rfl⟩

def z4 : List (Nat × Ct) := (164, ctS_hides) :: z3
theorem z4_ok : AllOk Try.prog z4 := ⟨ctS_hides_ok, z3_ok⟩

def ctS_faces : Ct := ⟨5, [[vi .i64 0], [vf 3, vf 4]], [.agg [.ptr 0 0, vf 1, vf 2], .slc 1 0 1 1], { binds := [⟨fun us i => calR (facesM (gF us 1, gF us 2) (gF us 3, gF us 4) (gI us 0)) i, 3, upto 0 5⟩], needs := [], val := vp 5 6, upd := [(0, [vi .i64 7])] }⟩
set_option maxRecDepth 100000 in
set_option maxHeartbeats 8000000 in
theorem ctS_faces_ok : CtOk Try.prog 149 ctS_faces := by
  refine CtOk.of_eval2 z4_ok (dr_ok z4_ok) Try.func149 rfl (by decide) [] 200 (by kernel_rfl) rfl (.bind ⟨calF0 Dy.cNum, 3, [(.v 0), (.l (.f 4607182418800017408))]⟩ (.bind ⟨calF1 Dy.cSqr, 3, [(.v 7), (.v 3), (.v 4)]⟩ (.bind ⟨calF2 Dy.cSub, 3, [(.v 10), (.v 5), (.v 6), (.v 8), (.v 9)]⟩ (.bind ⟨fun us i => calR (bentM (gF us 1, gF us 2) (gF us 3, gF us 4) (gI us 0)) i, 3, [(.v 13), (.v 1), (.v 2), (.v 3), (.v 4)]⟩ (.bind ⟨calF2 Dy.cDiv, 3, [(.v 16), (.v 11), (.v 12), (.v 14), (.v 15)]⟩ (.done .ret ⟨[.agg [.fl (.v 17), .fl (.v 18)]], [some ([.it .i64 (.v 19)]), some ([.fl (.v 3), .fl (.v 4)])], 20, [0, 0, 0, 0, 0]⟩)))))) (by kernel_rfl) (by kernel_rfl) (by kernel_rfl) (fun us hl hF hB hN => ?_)
  match us, hl with
  | [u0, u1, u2, u3, u4], _ =>
    simp [FactsB, FactsL, Facts, ctS_faces] at hF hB
    simp [NeedsAt, runB, evs, E.ev, upto, resl, List.range, List.range.loop, ctS_faces] at hN
    obtain ⟨⟨a1, rfl, wa1⟩, ⟨a2, rfl, wa2⟩⟩ := hF
    obtain ⟨⟨e, rfl⟩, ⟨b1, rfl, wb1⟩, ⟨b2, rfl, wb2⟩⟩ := hB
    refine T.HH.h ?_
    obtain ⟨t0, t1, t2, e3⟩ : ∃ t0 t1 t2, (Dy.cNum e 4607182418800017408) = ((t0, t1), t2) := Dy.ex3 _
    have g3 := Dy.good_num (show Dy.W 4607182418800017408 from by unfold Dy.W; decide) (err := e)
    rw [e3] at g3
    refine T.hbind (us := [.i e, .f 4607182418800017408]) (xs := [.f t0, .f t1, .i t2]) (ρ' := [.i e, .f a1, .f a2, .f b1, .f b2, .f t0, .f t1, .i t2]) rfl (congrArg (fun r => [calR r 0, calR r 1, calR r 2]) e3) rfl ?_
    obtain ⟨t4, t5, t6, e7⟩ : ∃ t4 t5 t6, (Dy.cSqr t2 (b1, b2)) = ((t4, t5), t6) := Dy.ex3 _
    have g7 := Dy.good_sqr (a := (b1, b2)) ⟨wb1, wb2⟩ (err := t2)
    rw [e7] at g7
    refine T.hbind (us := [.i t2, .f b1, .f b2]) (xs := [.f t4, .f t5, .i t6]) (ρ' := [.i e, .f a1, .f a2, .f b1, .f b2, .f t0, .f t1, .i t2, .f t4, .f t5, .i t6]) rfl (congrArg (fun r => [calR r 0, calR r 1, calR r 2]) e7) rfl ?_
    obtain ⟨t8, t9, t10, e11⟩ : ∃ t8 t9 t10, (Dy.cSub t6 (t0, t1) (t4, t5)) = ((t8, t9), t10) := Dy.ex3 _
    have g11 := Dy.good_sub (a := (t0, t1)) (b := (t4, t5)) ⟨g7.1.1, g7.1.2⟩ (err := t6)
    rw [e11] at g11
    refine T.hbind (us := [.i t6, .f t0, .f t1, .f t4, .f t5]) (xs := [.f t8, .f t9, .i t10]) (ρ' := [.i e, .f a1, .f a2, .f b1, .f b2, .f t0, .f t1, .i t2, .f t4, .f t5, .i t6, .f t8, .f t9, .i t10]) rfl (congrArg (fun r => [calR r 0, calR r 1, calR r 2]) e11) rfl ?_
    obtain ⟨t12, t13, t14, e15⟩ : ∃ t12 t13 t14, (bentM (a1, a2) (b1, b2) (t10)) = ((t12, t13), t14) := Dy.ex3 _
    refine T.hbind (us := [.i t10, .f a1, .f a2, .f b1, .f b2]) (xs := [.f t12, .f t13, .i t14]) (ρ' := [.i e, .f a1, .f a2, .f b1, .f b2, .f t0, .f t1, .i t2, .f t4, .f t5, .i t6, .f t8, .f t9, .i t10, .f t12, .f t13, .i t14]) rfl (congrArg (fun r => [calR r 0, calR r 1, calR r 2]) e15) rfl ?_
    obtain ⟨t16, t17, t18, e19⟩ : ∃ t16 t17 t18, (Dy.cDiv t14 (t8, t9) (t12, t13)) = ((t16, t17), t18) := Dy.ex3 _
    refine T.hbind (us := [.i t14, .f t8, .f t9, .f t12, .f t13]) (xs := [.f t16, .f t17, .i t18]) (ρ' := [.i e, .f a1, .f a2, .f b1, .f b2, .f t0, .f t1, .i t2, .f t4, .f t5, .i t6, .f t8, .f t9, .i t10, .f t12, .f t13, .i t14, .f t16, .f t17, .i t18]) rfl (congrArg (fun r => [calR r 0, calR r 1, calR r 2]) e19) rfl ?_
    refine T.hdone ?_
    have eM : facesM (a1, a2) (b1, b2) e = ((t16, t17), t18) := by
      unfold facesM
      refine (Dy.cs_num e3).trans ?_
      refine (Dy.cs_sqr e7).trans ?_
      refine (Dy.cs_sub e11).trans ?_
      refine (Dy.cm_s (x := bentM (a1, a2) (b1, b2)) e15).trans ?_
      first | exact e19 | (refine (Dy.cs_div e19).trans ?_; rfl)
    have e00 : facesM (a1, a2) (b1, b2) (e) = ((t16, t17), t18) := by simp only [eM, reduceIte, Bool.false_eq_true, Bool.true_eq_false, Bool.true_and, Bool.false_and, Bool.and_true, Bool.and_false, Bool.true_or, Bool.false_or, Bool.or_true, Bool.or_false, Bool.not_true, Bool.not_false] <;> simp_all
    exact ⟨⟨(congrArg (fun r => some (calR r 0)) e00.symm), (congrArg (fun r => some (calR r 1)) e00.symm), trivial⟩, ⟨⟨⟨rfl, (congrArg (fun r => some (calR r 2)) e00.symm)⟩, trivial⟩, trivial⟩, rfl⟩

def z5 : List (Nat × Ct) := (149, ctS_faces) :: z4
theorem z5_ok : AllOk Try.prog z5 := ⟨ctS_faces_ok, z4_ok⟩

def ctS_seen : Ct := ⟨5, [[vi .i64 0], [vf 3, vf 4]], [.agg [.ptr 0 0, vf 1, vf 2], .slc 1 0 1 1], { binds := [⟨fun us i => calR (seen1M (gF us 1, gF us 2) (gF us 3, gF us 4) (gI us 0)) i, 3, upto 0 5⟩], needs := [], val := vp 5 6, upd := [(0, [vi .i64 7])] }⟩
set_option maxRecDepth 100000 in
set_option maxHeartbeats 8000000 in
theorem ctS_seen_ok : CtOk Try.prog 153 ctS_seen := by
  refine CtOk.of_eval2 z5_ok (dr_ok z5_ok) Try.func153 rfl (by decide) [] 200 (by kernel_rfl) rfl (.bind ⟨calF0 Dy.cNum, 3, [(.v 0), (.l (.f 4607182418800017408))]⟩ (.bind ⟨fun us i => calR (hidesM (gF us 1, gF us 2) (gF us 3, gF us 4) (gI us 0)) i, 3, [(.v 7), (.v 1), (.v 2), (.v 3), (.v 4)]⟩ (.bind ⟨calF2 Dy.cAdd, 3, [(.v 10), (.v 5), (.v 6), (.v 8), (.v 9)]⟩ (.bind ⟨calF0 Dy.cNum, 3, [(.v 13), (.l (.f 4607182418800017408))]⟩ (.bind ⟨calF2 Dy.cDiv, 3, [(.v 16), (.v 14), (.v 15), (.v 11), (.v 12)]⟩ (.done .ret ⟨[.agg [.fl (.v 17), .fl (.v 18)]], [some ([.it .i64 (.v 19)]), some ([.fl (.v 3), .fl (.v 4)])], 20, [0, 0, 0, 0, 0]⟩)))))) (by kernel_rfl) (by kernel_rfl) (by kernel_rfl) (fun us hl hF hB hN => ?_)
  match us, hl with
  | [u0, u1, u2, u3, u4], _ =>
    simp [FactsB, FactsL, Facts, ctS_seen] at hF hB
    simp [NeedsAt, runB, evs, E.ev, upto, resl, List.range, List.range.loop, ctS_seen] at hN
    obtain ⟨⟨a1, rfl, wa1⟩, ⟨a2, rfl, wa2⟩⟩ := hF
    obtain ⟨⟨e, rfl⟩, ⟨b1, rfl, wb1⟩, ⟨b2, rfl, wb2⟩⟩ := hB
    refine T.HH.h ?_
    obtain ⟨t0, t1, t2, e3⟩ : ∃ t0 t1 t2, (Dy.cNum e 4607182418800017408) = ((t0, t1), t2) := Dy.ex3 _
    have g3 := Dy.good_num (show Dy.W 4607182418800017408 from by unfold Dy.W; decide) (err := e)
    rw [e3] at g3
    refine T.hbind (us := [.i e, .f 4607182418800017408]) (xs := [.f t0, .f t1, .i t2]) (ρ' := [.i e, .f a1, .f a2, .f b1, .f b2, .f t0, .f t1, .i t2]) rfl (congrArg (fun r => [calR r 0, calR r 1, calR r 2]) e3) rfl ?_
    obtain ⟨t4, t5, t6, e7⟩ : ∃ t4 t5 t6, (hidesM (a1, a2) (b1, b2) (t2)) = ((t4, t5), t6) := Dy.ex3 _
    refine T.hbind (us := [.i t2, .f a1, .f a2, .f b1, .f b2]) (xs := [.f t4, .f t5, .i t6]) (ρ' := [.i e, .f a1, .f a2, .f b1, .f b2, .f t0, .f t1, .i t2, .f t4, .f t5, .i t6]) rfl (congrArg (fun r => [calR r 0, calR r 1, calR r 2]) e7) rfl ?_
    obtain ⟨t8, t9, t10, e11⟩ : ∃ t8 t9 t10, (Dy.cAdd t6 (t0, t1) (t4, t5)) = ((t8, t9), t10) := Dy.ex3 _
    have g11 := Dy.good_add (a := (t0, t1)) (b := (t4, t5)) (err := t6)
    rw [e11] at g11
    refine T.hbind (us := [.i t6, .f t0, .f t1, .f t4, .f t5]) (xs := [.f t8, .f t9, .i t10]) (ρ' := [.i e, .f a1, .f a2, .f b1, .f b2, .f t0, .f t1, .i t2, .f t4, .f t5, .i t6, .f t8, .f t9, .i t10]) rfl (congrArg (fun r => [calR r 0, calR r 1, calR r 2]) e11) rfl ?_
    obtain ⟨t12, t13, t14, e15⟩ : ∃ t12 t13 t14, (Dy.cNum t10 4607182418800017408) = ((t12, t13), t14) := Dy.ex3 _
    have g15 := Dy.good_num (show Dy.W 4607182418800017408 from by unfold Dy.W; decide) (err := t10)
    rw [e15] at g15
    refine T.hbind (us := [.i t10, .f 4607182418800017408]) (xs := [.f t12, .f t13, .i t14]) (ρ' := [.i e, .f a1, .f a2, .f b1, .f b2, .f t0, .f t1, .i t2, .f t4, .f t5, .i t6, .f t8, .f t9, .i t10, .f t12, .f t13, .i t14]) rfl (congrArg (fun r => [calR r 0, calR r 1, calR r 2]) e15) rfl ?_
    obtain ⟨t16, t17, t18, e19⟩ : ∃ t16 t17 t18, (Dy.cDiv t14 (t12, t13) (t8, t9)) = ((t16, t17), t18) := Dy.ex3 _
    have g19 := Dy.good_div (a := (t12, t13)) (b := (t8, t9)) ⟨g11.1.1, g11.1.2⟩ (err := t14)
    rw [e19] at g19
    refine T.hbind (us := [.i t14, .f t12, .f t13, .f t8, .f t9]) (xs := [.f t16, .f t17, .i t18]) (ρ' := [.i e, .f a1, .f a2, .f b1, .f b2, .f t0, .f t1, .i t2, .f t4, .f t5, .i t6, .f t8, .f t9, .i t10, .f t12, .f t13, .i t14, .f t16, .f t17, .i t18]) rfl (congrArg (fun r => [calR r 0, calR r 1, calR r 2]) e19) rfl ?_
    refine T.hdone ?_
    have eM : seen1M (a1, a2) (b1, b2) e = ((t16, t17), t18) := by
      unfold seen1M
      refine (Dy.cs_num e3).trans ?_
      refine (Dy.cm_s (x := hidesM (a1, a2) (b1, b2)) e7).trans ?_
      refine (Dy.cs_add e11).trans ?_
      refine (Dy.cs_num e15).trans ?_
      first | exact e19 | (refine (Dy.cs_div e19).trans ?_; rfl)
    have e00 : seen1M (a1, a2) (b1, b2) (e) = ((t16, t17), t18) := by simp only [eM, reduceIte, Bool.false_eq_true, Bool.true_eq_false, Bool.true_and, Bool.false_and, Bool.and_true, Bool.and_false, Bool.true_or, Bool.false_or, Bool.or_true, Bool.or_false, Bool.not_true, Bool.not_false] <;> simp_all
    exact ⟨⟨(congrArg (fun r => some (calR r 0)) e00.symm), (congrArg (fun r => some (calR r 1)) e00.symm), trivial⟩, ⟨⟨⟨rfl, (congrArg (fun r => some (calR r 2)) e00.symm)⟩, trivial⟩, trivial⟩, rfl⟩

def z6 : List (Nat × Ct) := (153, ctS_seen) :: z5
theorem z6_ok : AllOk Try.prog z6 := ⟨ctS_seen_ok, z5_ok⟩

def ctS_seen2 : Ct := ⟨7, [[vi .i64 0], [vf 3, vf 4, vf 5, vf 6]], [.agg [.ptr 0 0, vf 1, vf 2], .slc 1 0 2 2], { binds := [⟨fun us i => calR (seen2M (gF us 1, gF us 2) (gF us 3, gF us 4) (gF us 5, gF us 6) (gI us 0)) i, 3, upto 0 7⟩], needs := [], val := vp 7 8, upd := [(0, [vi .i64 9])] }⟩
set_option maxRecDepth 100000 in
set_option maxHeartbeats 8000000 in
theorem ctS_seen2_ok : CtOk Try.prog 153 ctS_seen2 := by
  refine CtOk.of_eval2 z6_ok (dr_ok z6_ok) Try.func153 rfl (by decide) [] 200 (by kernel_rfl) rfl (.bind ⟨calF0 Dy.cNum, 3, [(.v 0), (.l (.f 4607182418800017408))]⟩ (.bind ⟨fun us i => calR (hidesM (gF us 1, gF us 2) (gF us 3, gF us 4) (gI us 0)) i, 3, [(.v 9), (.v 1), (.v 2), (.v 3), (.v 4)]⟩ (.bind ⟨calF2 Dy.cAdd, 3, [(.v 12), (.v 7), (.v 8), (.v 10), (.v 11)]⟩ (.bind ⟨fun us i => calR (hidesM (gF us 1, gF us 2) (gF us 3, gF us 4) (gI us 0)) i, 3, [(.v 15), (.v 1), (.v 2), (.v 5), (.v 6)]⟩ (.bind ⟨calF2 Dy.cAdd, 3, [(.v 18), (.v 13), (.v 14), (.v 16), (.v 17)]⟩ (.bind ⟨calF0 Dy.cNum, 3, [(.v 21), (.l (.f 4607182418800017408))]⟩ (.bind ⟨calF2 Dy.cDiv, 3, [(.v 24), (.v 22), (.v 23), (.v 19), (.v 20)]⟩ (.done .ret ⟨[.agg [.fl (.v 25), .fl (.v 26)]], [some ([.it .i64 (.v 27)]), some ([.fl (.v 3), .fl (.v 4), .fl (.v 5), .fl (.v 6)])], 28, [0, 0, 0, 0, 0, 0, 0]⟩)))))))) (by kernel_rfl) (by kernel_rfl) (by kernel_rfl) (fun us hl hF hB hN => ?_)
  match us, hl with
  | [u0, u1, u2, u3, u4, u5, u6], _ =>
    simp [FactsB, FactsL, Facts, ctS_seen2] at hF hB
    simp [NeedsAt, runB, evs, E.ev, upto, resl, List.range, List.range.loop, ctS_seen2] at hN
    obtain ⟨⟨a1, rfl, wa1⟩, ⟨a2, rfl, wa2⟩⟩ := hF
    obtain ⟨⟨e, rfl⟩, ⟨b1, rfl, wb1⟩, ⟨b2, rfl, wb2⟩, ⟨c1, rfl, wc1⟩, ⟨c2, rfl, wc2⟩⟩ := hB
    refine T.HH.h ?_
    obtain ⟨t0, t1, t2, e3⟩ : ∃ t0 t1 t2, (Dy.cNum e 4607182418800017408) = ((t0, t1), t2) := Dy.ex3 _
    have g3 := Dy.good_num (show Dy.W 4607182418800017408 from by unfold Dy.W; decide) (err := e)
    rw [e3] at g3
    refine T.hbind (us := [.i e, .f 4607182418800017408]) (xs := [.f t0, .f t1, .i t2]) (ρ' := [.i e, .f a1, .f a2, .f b1, .f b2, .f c1, .f c2, .f t0, .f t1, .i t2]) rfl (congrArg (fun r => [calR r 0, calR r 1, calR r 2]) e3) rfl ?_
    obtain ⟨t4, t5, t6, e7⟩ : ∃ t4 t5 t6, (hidesM (a1, a2) (b1, b2) (t2)) = ((t4, t5), t6) := Dy.ex3 _
    refine T.hbind (us := [.i t2, .f a1, .f a2, .f b1, .f b2]) (xs := [.f t4, .f t5, .i t6]) (ρ' := [.i e, .f a1, .f a2, .f b1, .f b2, .f c1, .f c2, .f t0, .f t1, .i t2, .f t4, .f t5, .i t6]) rfl (congrArg (fun r => [calR r 0, calR r 1, calR r 2]) e7) rfl ?_
    obtain ⟨t8, t9, t10, e11⟩ : ∃ t8 t9 t10, (Dy.cAdd t6 (t0, t1) (t4, t5)) = ((t8, t9), t10) := Dy.ex3 _
    have g11 := Dy.good_add (a := (t0, t1)) (b := (t4, t5)) (err := t6)
    rw [e11] at g11
    refine T.hbind (us := [.i t6, .f t0, .f t1, .f t4, .f t5]) (xs := [.f t8, .f t9, .i t10]) (ρ' := [.i e, .f a1, .f a2, .f b1, .f b2, .f c1, .f c2, .f t0, .f t1, .i t2, .f t4, .f t5, .i t6, .f t8, .f t9, .i t10]) rfl (congrArg (fun r => [calR r 0, calR r 1, calR r 2]) e11) rfl ?_
    obtain ⟨t12, t13, t14, e15⟩ : ∃ t12 t13 t14, (hidesM (a1, a2) (c1, c2) (t10)) = ((t12, t13), t14) := Dy.ex3 _
    refine T.hbind (us := [.i t10, .f a1, .f a2, .f c1, .f c2]) (xs := [.f t12, .f t13, .i t14]) (ρ' := [.i e, .f a1, .f a2, .f b1, .f b2, .f c1, .f c2, .f t0, .f t1, .i t2, .f t4, .f t5, .i t6, .f t8, .f t9, .i t10, .f t12, .f t13, .i t14]) rfl (congrArg (fun r => [calR r 0, calR r 1, calR r 2]) e15) rfl ?_
    obtain ⟨t16, t17, t18, e19⟩ : ∃ t16 t17 t18, (Dy.cAdd t14 (t8, t9) (t12, t13)) = ((t16, t17), t18) := Dy.ex3 _
    have g19 := Dy.good_add (a := (t8, t9)) (b := (t12, t13)) (err := t14)
    rw [e19] at g19
    refine T.hbind (us := [.i t14, .f t8, .f t9, .f t12, .f t13]) (xs := [.f t16, .f t17, .i t18]) (ρ' := [.i e, .f a1, .f a2, .f b1, .f b2, .f c1, .f c2, .f t0, .f t1, .i t2, .f t4, .f t5, .i t6, .f t8, .f t9, .i t10, .f t12, .f t13, .i t14, .f t16, .f t17, .i t18]) rfl (congrArg (fun r => [calR r 0, calR r 1, calR r 2]) e19) rfl ?_
    obtain ⟨t20, t21, t22, e23⟩ : ∃ t20 t21 t22, (Dy.cNum t18 4607182418800017408) = ((t20, t21), t22) := Dy.ex3 _
    have g23 := Dy.good_num (show Dy.W 4607182418800017408 from by unfold Dy.W; decide) (err := t18)
    rw [e23] at g23
    refine T.hbind (us := [.i t18, .f 4607182418800017408]) (xs := [.f t20, .f t21, .i t22]) (ρ' := [.i e, .f a1, .f a2, .f b1, .f b2, .f c1, .f c2, .f t0, .f t1, .i t2, .f t4, .f t5, .i t6, .f t8, .f t9, .i t10, .f t12, .f t13, .i t14, .f t16, .f t17, .i t18, .f t20, .f t21, .i t22]) rfl (congrArg (fun r => [calR r 0, calR r 1, calR r 2]) e23) rfl ?_
    obtain ⟨t24, t25, t26, e27⟩ : ∃ t24 t25 t26, (Dy.cDiv t22 (t20, t21) (t16, t17)) = ((t24, t25), t26) := Dy.ex3 _
    have g27 := Dy.good_div (a := (t20, t21)) (b := (t16, t17)) ⟨g19.1.1, g19.1.2⟩ (err := t22)
    rw [e27] at g27
    refine T.hbind (us := [.i t22, .f t20, .f t21, .f t16, .f t17]) (xs := [.f t24, .f t25, .i t26]) (ρ' := [.i e, .f a1, .f a2, .f b1, .f b2, .f c1, .f c2, .f t0, .f t1, .i t2, .f t4, .f t5, .i t6, .f t8, .f t9, .i t10, .f t12, .f t13, .i t14, .f t16, .f t17, .i t18, .f t20, .f t21, .i t22, .f t24, .f t25, .i t26]) rfl (congrArg (fun r => [calR r 0, calR r 1, calR r 2]) e27) rfl ?_
    refine T.hdone ?_
    have eM : seen2M (a1, a2) (b1, b2) (c1, c2) e = ((t24, t25), t26) := by
      unfold seen2M
      refine (Dy.cs_num e3).trans ?_
      refine (Dy.cm_s (x := hidesM (a1, a2) (b1, b2)) e7).trans ?_
      refine (Dy.cs_add e11).trans ?_
      refine (Dy.cm_s (x := hidesM (a1, a2) (c1, c2)) e15).trans ?_
      refine (Dy.cs_add e19).trans ?_
      refine (Dy.cs_num e23).trans ?_
      first | exact e27 | (refine (Dy.cs_div e27).trans ?_; rfl)
    have e00 : seen2M (a1, a2) (b1, b2) (c1, c2) (e) = ((t24, t25), t26) := by simp only [eM, reduceIte, Bool.false_eq_true, Bool.true_eq_false, Bool.true_and, Bool.false_and, Bool.and_true, Bool.and_false, Bool.true_or, Bool.false_or, Bool.or_true, Bool.or_false, Bool.not_true, Bool.not_false] <;> simp_all
    exact ⟨⟨(congrArg (fun r => some (calR r 0)) e00.symm), (congrArg (fun r => some (calR r 1)) e00.symm), trivial⟩, ⟨⟨⟨rfl, (congrArg (fun r => some (calR r 2)) e00.symm)⟩, trivial⟩, trivial⟩, rfl⟩

def z7 : List (Nat × Ct) := (153, ctS_seen2) :: z6
theorem z7_ok : AllOk Try.prog z7 := ⟨ctS_seen2_ok, z6_ok⟩

def ctF_leans : Ct := ⟨3, [[vi .i64 0]], [.agg [.ptr 0 0, vf 1, vf 2]], { binds := [], needs := [], val := .fn 150 [.agg [.ptr 0 0, .fl (.v 1), .fl (.v 2)]] [], upd := [] }⟩
theorem ctF_leans_ok : CtOk Try.prog 113 ctF_leans := CtOk.flat z7_ok (dr_ok z7_ok) Try.func113 rfl (by decide) [] 200 ⟨[.fn 150 [.agg [.ptr 0 0, .fl (.v 1), .fl (.v 2)]] []], [some ([.it .i64 (.v 0)])], 3, []⟩ (by kernel_rfl) rfl (by kernel_rfl) rfl (by kernel_rfl) (by kernel_rfl) (by kernel_rfl) (by kernel_rfl)

def z8 : List (Nat × Ct) := (113, ctF_leans) :: z7
theorem z8_ok : AllOk Try.prog z8 := ⟨ctF_leans_ok, z7_ok⟩

def ctF_hides : Ct := ⟨3, [[vi .i64 0]], [.agg [.ptr 0 0, vf 1, vf 2]], { binds := [], needs := [], val := .fn 164 [.agg [.ptr 0 0, .fl (.v 1), .fl (.v 2)]] [], upd := [] }⟩
theorem ctF_hides_ok : CtOk Try.prog 151 ctF_hides := CtOk.flat z8_ok (dr_ok z8_ok) Try.func151 rfl (by decide) [] 200 ⟨[.fn 164 [.agg [.ptr 0 0, .fl (.v 1), .fl (.v 2)]] []], [some ([.it .i64 (.v 0)])], 3, []⟩ (by kernel_rfl) rfl (by kernel_rfl) rfl (by kernel_rfl) (by kernel_rfl) (by kernel_rfl) (by kernel_rfl)

def z9 : List (Nat × Ct) := (151, ctF_hides) :: z8
theorem z9_ok : AllOk Try.prog z9 := ⟨ctF_hides_ok, z8_ok⟩

def ctF_seen : Ct := ⟨3, [[vi .i64 0]], [.agg [.ptr 0 0, vf 1, vf 2]], { binds := [], needs := [], val := .fn 153 [.agg [.ptr 0 0, .fl (.v 1), .fl (.v 2)]] [], upd := [] }⟩
theorem ctF_seen_ok : CtOk Try.prog 122 ctF_seen := CtOk.flat z9_ok (dr_ok z9_ok) Try.func122 rfl (by decide) [] 200 ⟨[.fn 153 [.agg [.ptr 0 0, .fl (.v 1), .fl (.v 2)]] []], [some ([.it .i64 (.v 0)])], 3, []⟩ (by kernel_rfl) rfl (by kernel_rfl) rfl (by kernel_rfl) (by kernel_rfl) (by kernel_rfl) (by kernel_rfl)

def z10 : List (Nat × Ct) := (122, ctF_seen) :: z9
theorem z10_ok : AllOk Try.prog z10 := ⟨ctF_seen_ok, z9_ok⟩

def ctF_faces : Ct := ⟨3, [[vi .i64 0]], [.agg [.ptr 0 0, vf 1, vf 2]], { binds := [], needs := [], val := .fn 149 [.agg [.ptr 0 0, .fl (.v 1), .fl (.v 2)]] [], upd := [] }⟩
theorem ctF_faces_ok : CtOk Try.prog 112 ctF_faces := CtOk.flat z10_ok (dr_ok z10_ok) Try.func112 rfl (by decide) [] 200 ⟨[.fn 149 [.agg [.ptr 0 0, .fl (.v 1), .fl (.v 2)]] []], [some ([.it .i64 (.v 0)])], 3, []⟩ (by kernel_rfl) rfl (by kernel_rfl) rfl (by kernel_rfl) (by kernel_rfl) (by kernel_rfl) (by kernel_rfl)

def z11 : List (Nat × Ct) := (112, ctF_faces) :: z10
theorem z11_ok : AllOk Try.prog z11 := ⟨ctF_faces_ok, z10_ok⟩

def ctOf_leans : Ct := ⟨4, [[vf 2, vf 3]], [.fn 113 [] [], vp 0 1, .slc 0 0 1 1], { binds := [⟨fun us i => calR (Dy.told (dM (gF us 2, gF us 3) (gF us 0, gF us 1) 0)) i, 3, upto 0 4⟩], needs := [⟨nG1, [.v 0, .v 1, .v 2, .v 3]⟩], val := .tup [vp 4 5, vi .i64 6], upd := [] }⟩
set_option maxRecDepth 100000 in
set_option maxHeartbeats 8000000 in
theorem ctOf_leans_ok : CtOk Try.prog 111 ctOf_leans := by
  refine CtOk.of_eval2 z11_ok (dr_ok z11_ok) Try.func111 rfl (by decide) [] 200 (by kernel_rfl) rfl (.bind ⟨fIv1 Dy.ivR, 1, [(.v 0), (.v 1)]⟩ (.bind ⟨fun us _ => cB (fun a b => Dy.fgt a b || Dy.feq a b) us, 1, [(.v 0), (.l (.f 4584664420663164928))]⟩ (.ite (.v 5) (.bind ⟨fun us _ => cB (fun a b => Dy.flt a b || Dy.feq a b) us, 1, [(.v 1), (.l (.f 4607182418800017408))]⟩ (.ite (.v 4) (.bind ⟨fIv1 Dy.ivR, 1, [(.v 2), (.v 3)]⟩ (.ite (.v 6) (.bind ⟨fun us _ => cB (fun a b => Dy.fgt a b || Dy.feq a b) us, 1, [(.v 2), (.l (.f 0))]⟩ (.ite (.v 8) (.bind ⟨fun us _ => cB (fun a b => Dy.flt a b || Dy.feq a b) us, 1, [(.v 3), (.l (.f 4607182418800017408))]⟩ (.bind ⟨fun us _ => nB us, 1, [(.v 7)]⟩ (.ite (.v 10) (.done .ret ⟨[.tup [.agg [.fl (.l (.f 0)), .fl (.l (.f 0))], .it .i64 (.l (.i 20))]], [some ([.fl (.v 2), .fl (.v 3)])], 11, []⟩) (.bind ⟨fun us _ => nB us, 1, [(.v 9)]⟩ (.ite (.v 11) (.done .ret ⟨[.tup [.agg [.fl (.l (.f 0)), .fl (.l (.f 0))], .it .i64 (.l (.i 2))]], [some ([.fl (.v 2), .fl (.v 3)])], 12, []⟩) (.bind ⟨calF1 Dy.cSqr, 3, [(.l (.i 0)), (.v 0), (.v 1)]⟩ (.bind ⟨fun us i => calR (leansM (gF us 1, gF us 2) (gF us 3, gF us 4) (gI us 0)) i, 3, [(.v 14), (.v 12), (.v 13), (.v 2), (.v 3)]⟩ (.bind ⟨fun us _ => jB (fun a b => a != b) us, 1, [(.v 17), (.l (.i 0))]⟩ (.ite (.v 18) (.done .ret ⟨[.tup [.agg [.fl (.l (.f 0)), .fl (.l (.f 0))], .it .i64 (.v 17)]], [some ([.fl (.v 2), .fl (.v 3)])], 19, []⟩) (.done .ret ⟨[.tup [.agg [.fl (.v 15), .fl (.v 16)], .it .i64 (.l (.i 0))]], [some ([.fl (.v 2), .fl (.v 3)])], 19, []⟩)))))))))) (.bind ⟨fun us _ => nB us, 1, [(.v 7)]⟩ (.ite (.v 9) (.done .ret ⟨[.tup [.agg [.fl (.l (.f 0)), .fl (.l (.f 0))], .it .i64 (.l (.i 20))]], [some ([.fl (.v 2), .fl (.v 3)])], 10, []⟩) (.done .ret ⟨[.tup [.agg [.fl (.l (.f 0)), .fl (.l (.f 0))], .it .i64 (.l (.i 2))]], [some ([.fl (.v 2), .fl (.v 3)])], 10, []⟩))))) (.bind ⟨fun us _ => nB us, 1, [(.v 7)]⟩ (.ite (.v 8) (.done .ret ⟨[.tup [.agg [.fl (.l (.f 0)), .fl (.l (.f 0))], .it .i64 (.l (.i 20))]], [some ([.fl (.v 2), .fl (.v 3)])], 9, []⟩) (.done .ret ⟨[.tup [.agg [.fl (.l (.f 0)), .fl (.l (.f 0))], .it .i64 (.l (.i 2))]], [some ([.fl (.v 2), .fl (.v 3)])], 9, []⟩))))) (.ite (.v 6) (.bind ⟨fun us _ => cB (fun a b => Dy.fgt a b || Dy.feq a b) us, 1, [(.v 2), (.l (.f 0))]⟩ (.ite (.v 7) (.bind ⟨fun us _ => cB (fun a b => Dy.flt a b || Dy.feq a b) us, 1, [(.v 3), (.l (.f 4607182418800017408))]⟩ (.done .ret ⟨[.tup [.agg [.fl (.l (.f 0)), .fl (.l (.f 0))], .it .i64 (.l (.i 20))]], [some ([.fl (.v 2), .fl (.v 3)])], 9, []⟩)) (.done .ret ⟨[.tup [.agg [.fl (.l (.f 0)), .fl (.l (.f 0))], .it .i64 (.l (.i 20))]], [some ([.fl (.v 2), .fl (.v 3)])], 8, []⟩))) (.done .ret ⟨[.tup [.agg [.fl (.l (.f 0)), .fl (.l (.f 0))], .it .i64 (.l (.i 20))]], [some ([.fl (.v 2), .fl (.v 3)])], 7, []⟩)))) (.ite (.v 4) (.bind ⟨fIv1 Dy.ivR, 1, [(.v 2), (.v 3)]⟩ (.bind ⟨fun us _ => nB us, 1, [(.v 6)]⟩ (.ite (.v 7) (.done .ret ⟨[.tup [.agg [.fl (.l (.f 0)), .fl (.l (.f 0))], .it .i64 (.l (.i 20))]], [some ([.fl (.v 2), .fl (.v 3)])], 8, []⟩) (.done .ret ⟨[.tup [.agg [.fl (.l (.f 0)), .fl (.l (.f 0))], .it .i64 (.l (.i 2))]], [some ([.fl (.v 2), .fl (.v 3)])], 8, []⟩)))) (.done .ret ⟨[.tup [.agg [.fl (.l (.f 0)), .fl (.l (.f 0))], .it .i64 (.l (.i 20))]], [some ([.fl (.v 2), .fl (.v 3)])], 6, []⟩))))) (by kernel_rfl) (by kernel_rfl) (by kernel_rfl) (fun us hl hF hB hN => ?_)
  match us, hl with
  | [u0, u1, u2, u3], _ =>
    simp [FactsB, FactsL, Facts, ctOf_leans] at hF hB
    simp [NeedsAt, runB, evs, E.ev, upto, resl, List.range, List.range.loop, ctOf_leans] at hN
    obtain ⟨⟨a1, rfl, wa1⟩, ⟨a2, rfl, wa2⟩⟩ := hF
    obtain ⟨⟨b1, rfl, wb1⟩, ⟨b2, rfl, wb2⟩⟩ := hB
    simp [nG1, gF, U.F] at hN
    refine T.HH.h ?_
    obtain ⟨t0, e1⟩ : ∃ t0, (Dy.ivR (a1, a2)) = t0 := ⟨_, rfl⟩
    refine T.hbind (us := [.f a1, .f a2]) (xs := [.b t0]) (ρ' := [.f a1, .f a2, .f b1, .f b2, .b t0]) rfl (congrArg (fun r => [U.b r]) e1) rfl ?_
    obtain ⟨t2, e3⟩ : ∃ t2, (Dy.fgt a1 4584664420663164928 || Dy.feq a1 4584664420663164928) = t2 := ⟨_, rfl⟩
    refine T.hbind (us := [.f a1, .f 4584664420663164928]) (xs := [.b t2]) (ρ' := [.f a1, .f a2, .f b1, .f b2, .b t0, .b t2]) rfl (congrArg (fun r => [U.b r]) e3) rfl ?_
    refine T.hiteT (x := t2) rfl (e3.symm.trans (gA_of hN.1).2.1) ?_
    obtain ⟨t4, e5⟩ : ∃ t4, (Dy.flt a2 4607182418800017408 || Dy.feq a2 4607182418800017408) = t4 := ⟨_, rfl⟩
    refine T.hbind (us := [.f a2, .f 4607182418800017408]) (xs := [.b t4]) (ρ' := [.f a1, .f a2, .f b1, .f b2, .b t0, .b t2, .b t4]) rfl (congrArg (fun r => [U.b r]) e5) rfl ?_
    refine T.hiteT (x := t0) rfl (e1.symm.trans (gA_of hN.1).1) ?_
    obtain ⟨t6, e7⟩ : ∃ t6, (Dy.ivR (b1, b2)) = t6 := ⟨_, rfl⟩
    refine T.hbind (us := [.f b1, .f b2]) (xs := [.b t6]) (ρ' := [.f a1, .f a2, .f b1, .f b2, .b t0, .b t2, .b t4, .b t6]) rfl (congrArg (fun r => [U.b r]) e7) rfl ?_
    refine T.hiteT (x := t4) rfl (e5.symm.trans (gA_of hN.1).2.2) ?_
    obtain ⟨t8, e9⟩ : ∃ t8, (Dy.fgt b1 0 || Dy.feq b1 0) = t8 := ⟨_, rfl⟩
    refine T.hbind (us := [.f b1, .f 0]) (xs := [.b t8]) (ρ' := [.f a1, .f a2, .f b1, .f b2, .b t0, .b t2, .b t4, .b t6, .b t8]) rfl (congrArg (fun r => [U.b r]) e9) rfl ?_
    refine T.hiteT (x := t8) rfl (e9.symm.trans (gC_of hN.2).2.1) ?_
    obtain ⟨t10, e11⟩ : ∃ t10, (Dy.flt b2 4607182418800017408 || Dy.feq b2 4607182418800017408) = t10 := ⟨_, rfl⟩
    refine T.hbind (us := [.f b2, .f 4607182418800017408]) (xs := [.b t10]) (ρ' := [.f a1, .f a2, .f b1, .f b2, .b t0, .b t2, .b t4, .b t6, .b t8, .b t10]) rfl (congrArg (fun r => [U.b r]) e11) rfl ?_
    obtain ⟨t12, e13⟩ : ∃ t12, (!t6) = t12 := ⟨_, rfl⟩
    refine T.hbind (us := [.b t6]) (xs := [.b t12]) (ρ' := [.f a1, .f a2, .f b1, .f b2, .b t0, .b t2, .b t4, .b t6, .b t8, .b t10, .b t12]) rfl (congrArg (fun r => [U.b r]) e13) rfl ?_
    refine T.hiteF (x := t12) rfl (e13.symm.trans (by rw [e7.symm.trans (gC_of hN.2).1]; rfl)) ?_
    obtain ⟨t14, e15⟩ : ∃ t14, (!t10) = t14 := ⟨_, rfl⟩
    refine T.hbind (us := [.b t10]) (xs := [.b t14]) (ρ' := [.f a1, .f a2, .f b1, .f b2, .b t0, .b t2, .b t4, .b t6, .b t8, .b t10, .b t12, .b t14]) rfl (congrArg (fun r => [U.b r]) e15) rfl ?_
    refine T.hiteF (x := t14) rfl (e15.symm.trans (by rw [e11.symm.trans (gC_of hN.2).2.2]; rfl)) ?_
    obtain ⟨t16, t17, t18, e19⟩ : ∃ t16 t17 t18, (Dy.cSqr 0 (a1, a2)) = ((t16, t17), t18) := Dy.ex3 _
    have g19 := Dy.good_sqr (a := (a1, a2)) ⟨wa1, wa2⟩ (err := 0)
    rw [e19] at g19
    refine T.hbind (us := [.i 0, .f a1, .f a2]) (xs := [.f t16, .f t17, .i t18]) (ρ' := [.f a1, .f a2, .f b1, .f b2, .b t0, .b t2, .b t4, .b t6, .b t8, .b t10, .b t12, .b t14, .f t16, .f t17, .i t18]) rfl (congrArg (fun r => [calR r 0, calR r 1, calR r 2]) e19) rfl ?_
    obtain ⟨t20, t21, t22, e23⟩ : ∃ t20 t21 t22, (leansM (t16, t17) (b1, b2) (t18)) = ((t20, t21), t22) := Dy.ex3 _
    refine T.hbind (us := [.i t18, .f t16, .f t17, .f b1, .f b2]) (xs := [.f t20, .f t21, .i t22]) (ρ' := [.f a1, .f a2, .f b1, .f b2, .b t0, .b t2, .b t4, .b t6, .b t8, .b t10, .b t12, .b t14, .f t16, .f t17, .i t18, .f t20, .f t21, .i t22]) rfl (congrArg (fun r => [calR r 0, calR r 1, calR r 2]) e23) rfl ?_
    obtain ⟨t24, e25⟩ : ∃ t24, (t22 != 0) = t24 := ⟨_, rfl⟩
    refine T.hbind (us := [.i t22, .i 0]) (xs := [.b t24]) (ρ' := [.f a1, .f a2, .f b1, .f b2, .b t0, .b t2, .b t4, .b t6, .b t8, .b t10, .b t12, .b t14, .f t16, .f t17, .i t18, .f t20, .f t21, .i t22, .b t24]) rfl (congrArg (fun r => [U.b r]) e25) rfl ?_
    refine T.hite (x := t24) ?_ ?_ ?_
    · rfl
    · intro c27
      refine T.hdone ?_
      have eM : dM (b1, b2) (a1, a2) 0 = ((t20, t21), t22) := by
        unfold dM
        refine (Dy.cs_sqr e19).trans ?_
        first | exact e23 | (refine (Dy.cm_s (x := leansM (t16, t17) (b1, b2)) e23).trans ?_; rfl) | (refine (Dy.cm_s (x := leansM (t16, t17) (b1, b2)) e23).trans ?_; rw [Dy.cm_pure]; simp only [e1, e3, e5, e7, e9, e11, e13, e15, e25, c27])
      have e00 : Dy.told (dM (b1, b2) (a1, a2) 0) = ((0, 0), t22) := by simp only [Dy.told, eM, e1, e3, e5, e7, e9, e11, e13, e15, e25, c27, reduceIte, Bool.false_eq_true, Bool.true_eq_false, Bool.true_and, Bool.false_and, Bool.and_true, Bool.and_false, Bool.true_or, Bool.false_or, Bool.or_true, Bool.or_false, Bool.not_true, Bool.not_false] <;> simp_all
      exact ⟨⟨⟨(congrArg (fun r => some (calR r 0)) e00.symm), (congrArg (fun r => some (calR r 1)) e00.symm), trivial⟩, ⟨rfl, (congrArg (fun r => some (calR r 2)) e00.symm)⟩, trivial⟩, trivial, rfl⟩
    · intro c27
      refine T.hdone ?_
      have eM : dM (b1, b2) (a1, a2) 0 = ((t20, t21), t22) := by
        unfold dM
        refine (Dy.cs_sqr e19).trans ?_
        first | exact e23 | (refine (Dy.cm_s (x := leansM (t16, t17) (b1, b2)) e23).trans ?_; rfl) | (refine (Dy.cm_s (x := leansM (t16, t17) (b1, b2)) e23).trans ?_; rw [Dy.cm_pure]; simp only [e1, e3, e5, e7, e9, e11, e13, e15, e25, c27])
      have e00 : Dy.told (dM (b1, b2) (a1, a2) 0) = ((t20, t21), 0) := by simp only [Dy.told, eM, e1, e3, e5, e7, e9, e11, e13, e15, e25, c27, reduceIte, Bool.false_eq_true, Bool.true_eq_false, Bool.true_and, Bool.false_and, Bool.and_true, Bool.and_false, Bool.true_or, Bool.false_or, Bool.or_true, Bool.or_false, Bool.not_true, Bool.not_false] <;> simp_all
      exact ⟨⟨⟨(congrArg (fun r => some (calR r 0)) e00.symm), (congrArg (fun r => some (calR r 1)) e00.symm), trivial⟩, ⟨rfl, (congrArg (fun r => some (calR r 2)) e00.symm)⟩, trivial⟩, trivial, rfl⟩

def z12 : List (Nat × Ct) := (111, ctOf_leans) :: z11
theorem z12_ok : AllOk Try.prog z12 := ⟨ctOf_leans_ok, z11_ok⟩

def ctOf_hides : Ct := ⟨4, [[vf 2, vf 3]], [.fn 151 [] [], vp 0 1, .slc 0 0 1 1], { binds := [⟨fun us i => calR (Dy.told (lambdaM (gF us 2, gF us 3) (gF us 0, gF us 1) 0)) i, 3, upto 0 4⟩], needs := [⟨nG1, [.v 0, .v 1, .v 2, .v 3]⟩], val := .tup [vp 4 5, vi .i64 6], upd := [] }⟩
set_option maxRecDepth 100000 in
set_option maxHeartbeats 8000000 in
theorem ctOf_hides_ok : CtOk Try.prog 111 ctOf_hides := by
  refine CtOk.of_eval2 z12_ok (dr_ok z12_ok) Try.func111 rfl (by decide) [] 200 (by kernel_rfl) rfl (.bind ⟨fIv1 Dy.ivR, 1, [(.v 0), (.v 1)]⟩ (.bind ⟨fun us _ => cB (fun a b => Dy.fgt a b || Dy.feq a b) us, 1, [(.v 0), (.l (.f 4584664420663164928))]⟩ (.ite (.v 5) (.bind ⟨fun us _ => cB (fun a b => Dy.flt a b || Dy.feq a b) us, 1, [(.v 1), (.l (.f 4607182418800017408))]⟩ (.ite (.v 4) (.bind ⟨fIv1 Dy.ivR, 1, [(.v 2), (.v 3)]⟩ (.ite (.v 6) (.bind ⟨fun us _ => cB (fun a b => Dy.fgt a b || Dy.feq a b) us, 1, [(.v 2), (.l (.f 0))]⟩ (.ite (.v 8) (.bind ⟨fun us _ => cB (fun a b => Dy.flt a b || Dy.feq a b) us, 1, [(.v 3), (.l (.f 4607182418800017408))]⟩ (.bind ⟨fun us _ => nB us, 1, [(.v 7)]⟩ (.ite (.v 10) (.done .ret ⟨[.tup [.agg [.fl (.l (.f 0)), .fl (.l (.f 0))], .it .i64 (.l (.i 20))]], [some ([.fl (.v 2), .fl (.v 3)])], 11, []⟩) (.bind ⟨fun us _ => nB us, 1, [(.v 9)]⟩ (.ite (.v 11) (.done .ret ⟨[.tup [.agg [.fl (.l (.f 0)), .fl (.l (.f 0))], .it .i64 (.l (.i 2))]], [some ([.fl (.v 2), .fl (.v 3)])], 12, []⟩) (.bind ⟨calF1 Dy.cSqr, 3, [(.l (.i 0)), (.v 0), (.v 1)]⟩ (.bind ⟨fun us i => calR (hidesM (gF us 1, gF us 2) (gF us 3, gF us 4) (gI us 0)) i, 3, [(.v 14), (.v 12), (.v 13), (.v 2), (.v 3)]⟩ (.bind ⟨fun us _ => jB (fun a b => a != b) us, 1, [(.v 17), (.l (.i 0))]⟩ (.ite (.v 18) (.done .ret ⟨[.tup [.agg [.fl (.l (.f 0)), .fl (.l (.f 0))], .it .i64 (.v 17)]], [some ([.fl (.v 2), .fl (.v 3)])], 19, []⟩) (.done .ret ⟨[.tup [.agg [.fl (.v 15), .fl (.v 16)], .it .i64 (.l (.i 0))]], [some ([.fl (.v 2), .fl (.v 3)])], 19, []⟩)))))))))) (.bind ⟨fun us _ => nB us, 1, [(.v 7)]⟩ (.ite (.v 9) (.done .ret ⟨[.tup [.agg [.fl (.l (.f 0)), .fl (.l (.f 0))], .it .i64 (.l (.i 20))]], [some ([.fl (.v 2), .fl (.v 3)])], 10, []⟩) (.done .ret ⟨[.tup [.agg [.fl (.l (.f 0)), .fl (.l (.f 0))], .it .i64 (.l (.i 2))]], [some ([.fl (.v 2), .fl (.v 3)])], 10, []⟩))))) (.bind ⟨fun us _ => nB us, 1, [(.v 7)]⟩ (.ite (.v 8) (.done .ret ⟨[.tup [.agg [.fl (.l (.f 0)), .fl (.l (.f 0))], .it .i64 (.l (.i 20))]], [some ([.fl (.v 2), .fl (.v 3)])], 9, []⟩) (.done .ret ⟨[.tup [.agg [.fl (.l (.f 0)), .fl (.l (.f 0))], .it .i64 (.l (.i 2))]], [some ([.fl (.v 2), .fl (.v 3)])], 9, []⟩))))) (.ite (.v 6) (.bind ⟨fun us _ => cB (fun a b => Dy.fgt a b || Dy.feq a b) us, 1, [(.v 2), (.l (.f 0))]⟩ (.ite (.v 7) (.bind ⟨fun us _ => cB (fun a b => Dy.flt a b || Dy.feq a b) us, 1, [(.v 3), (.l (.f 4607182418800017408))]⟩ (.done .ret ⟨[.tup [.agg [.fl (.l (.f 0)), .fl (.l (.f 0))], .it .i64 (.l (.i 20))]], [some ([.fl (.v 2), .fl (.v 3)])], 9, []⟩)) (.done .ret ⟨[.tup [.agg [.fl (.l (.f 0)), .fl (.l (.f 0))], .it .i64 (.l (.i 20))]], [some ([.fl (.v 2), .fl (.v 3)])], 8, []⟩))) (.done .ret ⟨[.tup [.agg [.fl (.l (.f 0)), .fl (.l (.f 0))], .it .i64 (.l (.i 20))]], [some ([.fl (.v 2), .fl (.v 3)])], 7, []⟩)))) (.ite (.v 4) (.bind ⟨fIv1 Dy.ivR, 1, [(.v 2), (.v 3)]⟩ (.bind ⟨fun us _ => nB us, 1, [(.v 6)]⟩ (.ite (.v 7) (.done .ret ⟨[.tup [.agg [.fl (.l (.f 0)), .fl (.l (.f 0))], .it .i64 (.l (.i 20))]], [some ([.fl (.v 2), .fl (.v 3)])], 8, []⟩) (.done .ret ⟨[.tup [.agg [.fl (.l (.f 0)), .fl (.l (.f 0))], .it .i64 (.l (.i 2))]], [some ([.fl (.v 2), .fl (.v 3)])], 8, []⟩)))) (.done .ret ⟨[.tup [.agg [.fl (.l (.f 0)), .fl (.l (.f 0))], .it .i64 (.l (.i 20))]], [some ([.fl (.v 2), .fl (.v 3)])], 6, []⟩))))) (by kernel_rfl) (by kernel_rfl) (by kernel_rfl) (fun us hl hF hB hN => ?_)
  match us, hl with
  | [u0, u1, u2, u3], _ =>
    simp [FactsB, FactsL, Facts, ctOf_hides] at hF hB
    simp [NeedsAt, runB, evs, E.ev, upto, resl, List.range, List.range.loop, ctOf_hides] at hN
    obtain ⟨⟨a1, rfl, wa1⟩, ⟨a2, rfl, wa2⟩⟩ := hF
    obtain ⟨⟨b1, rfl, wb1⟩, ⟨b2, rfl, wb2⟩⟩ := hB
    simp [nG1, gF, U.F] at hN
    refine T.HH.h ?_
    obtain ⟨t0, e1⟩ : ∃ t0, (Dy.ivR (a1, a2)) = t0 := ⟨_, rfl⟩
    refine T.hbind (us := [.f a1, .f a2]) (xs := [.b t0]) (ρ' := [.f a1, .f a2, .f b1, .f b2, .b t0]) rfl (congrArg (fun r => [U.b r]) e1) rfl ?_
    obtain ⟨t2, e3⟩ : ∃ t2, (Dy.fgt a1 4584664420663164928 || Dy.feq a1 4584664420663164928) = t2 := ⟨_, rfl⟩
    refine T.hbind (us := [.f a1, .f 4584664420663164928]) (xs := [.b t2]) (ρ' := [.f a1, .f a2, .f b1, .f b2, .b t0, .b t2]) rfl (congrArg (fun r => [U.b r]) e3) rfl ?_
    refine T.hiteT (x := t2) rfl (e3.symm.trans (gA_of hN.1).2.1) ?_
    obtain ⟨t4, e5⟩ : ∃ t4, (Dy.flt a2 4607182418800017408 || Dy.feq a2 4607182418800017408) = t4 := ⟨_, rfl⟩
    refine T.hbind (us := [.f a2, .f 4607182418800017408]) (xs := [.b t4]) (ρ' := [.f a1, .f a2, .f b1, .f b2, .b t0, .b t2, .b t4]) rfl (congrArg (fun r => [U.b r]) e5) rfl ?_
    refine T.hiteT (x := t0) rfl (e1.symm.trans (gA_of hN.1).1) ?_
    obtain ⟨t6, e7⟩ : ∃ t6, (Dy.ivR (b1, b2)) = t6 := ⟨_, rfl⟩
    refine T.hbind (us := [.f b1, .f b2]) (xs := [.b t6]) (ρ' := [.f a1, .f a2, .f b1, .f b2, .b t0, .b t2, .b t4, .b t6]) rfl (congrArg (fun r => [U.b r]) e7) rfl ?_
    refine T.hiteT (x := t4) rfl (e5.symm.trans (gA_of hN.1).2.2) ?_
    obtain ⟨t8, e9⟩ : ∃ t8, (Dy.fgt b1 0 || Dy.feq b1 0) = t8 := ⟨_, rfl⟩
    refine T.hbind (us := [.f b1, .f 0]) (xs := [.b t8]) (ρ' := [.f a1, .f a2, .f b1, .f b2, .b t0, .b t2, .b t4, .b t6, .b t8]) rfl (congrArg (fun r => [U.b r]) e9) rfl ?_
    refine T.hiteT (x := t8) rfl (e9.symm.trans (gC_of hN.2).2.1) ?_
    obtain ⟨t10, e11⟩ : ∃ t10, (Dy.flt b2 4607182418800017408 || Dy.feq b2 4607182418800017408) = t10 := ⟨_, rfl⟩
    refine T.hbind (us := [.f b2, .f 4607182418800017408]) (xs := [.b t10]) (ρ' := [.f a1, .f a2, .f b1, .f b2, .b t0, .b t2, .b t4, .b t6, .b t8, .b t10]) rfl (congrArg (fun r => [U.b r]) e11) rfl ?_
    obtain ⟨t12, e13⟩ : ∃ t12, (!t6) = t12 := ⟨_, rfl⟩
    refine T.hbind (us := [.b t6]) (xs := [.b t12]) (ρ' := [.f a1, .f a2, .f b1, .f b2, .b t0, .b t2, .b t4, .b t6, .b t8, .b t10, .b t12]) rfl (congrArg (fun r => [U.b r]) e13) rfl ?_
    refine T.hiteF (x := t12) rfl (e13.symm.trans (by rw [e7.symm.trans (gC_of hN.2).1]; rfl)) ?_
    obtain ⟨t14, e15⟩ : ∃ t14, (!t10) = t14 := ⟨_, rfl⟩
    refine T.hbind (us := [.b t10]) (xs := [.b t14]) (ρ' := [.f a1, .f a2, .f b1, .f b2, .b t0, .b t2, .b t4, .b t6, .b t8, .b t10, .b t12, .b t14]) rfl (congrArg (fun r => [U.b r]) e15) rfl ?_
    refine T.hiteF (x := t14) rfl (e15.symm.trans (by rw [e11.symm.trans (gC_of hN.2).2.2]; rfl)) ?_
    obtain ⟨t16, t17, t18, e19⟩ : ∃ t16 t17 t18, (Dy.cSqr 0 (a1, a2)) = ((t16, t17), t18) := Dy.ex3 _
    have g19 := Dy.good_sqr (a := (a1, a2)) ⟨wa1, wa2⟩ (err := 0)
    rw [e19] at g19
    refine T.hbind (us := [.i 0, .f a1, .f a2]) (xs := [.f t16, .f t17, .i t18]) (ρ' := [.f a1, .f a2, .f b1, .f b2, .b t0, .b t2, .b t4, .b t6, .b t8, .b t10, .b t12, .b t14, .f t16, .f t17, .i t18]) rfl (congrArg (fun r => [calR r 0, calR r 1, calR r 2]) e19) rfl ?_
    obtain ⟨t20, t21, t22, e23⟩ : ∃ t20 t21 t22, (hidesM (t16, t17) (b1, b2) (t18)) = ((t20, t21), t22) := Dy.ex3 _
    refine T.hbind (us := [.i t18, .f t16, .f t17, .f b1, .f b2]) (xs := [.f t20, .f t21, .i t22]) (ρ' := [.f a1, .f a2, .f b1, .f b2, .b t0, .b t2, .b t4, .b t6, .b t8, .b t10, .b t12, .b t14, .f t16, .f t17, .i t18, .f t20, .f t21, .i t22]) rfl (congrArg (fun r => [calR r 0, calR r 1, calR r 2]) e23) rfl ?_
    obtain ⟨t24, e25⟩ : ∃ t24, (t22 != 0) = t24 := ⟨_, rfl⟩
    refine T.hbind (us := [.i t22, .i 0]) (xs := [.b t24]) (ρ' := [.f a1, .f a2, .f b1, .f b2, .b t0, .b t2, .b t4, .b t6, .b t8, .b t10, .b t12, .b t14, .f t16, .f t17, .i t18, .f t20, .f t21, .i t22, .b t24]) rfl (congrArg (fun r => [U.b r]) e25) rfl ?_
    refine T.hite (x := t24) ?_ ?_ ?_
    · rfl
    · intro c27
      refine T.hdone ?_
      have eM : lambdaM (b1, b2) (a1, a2) 0 = ((t20, t21), t22) := by
        unfold lambdaM
        refine (Dy.cs_sqr e19).trans ?_
        first | exact e23 | (refine (Dy.cm_s (x := hidesM (t16, t17) (b1, b2)) e23).trans ?_; rfl) | (refine (Dy.cm_s (x := hidesM (t16, t17) (b1, b2)) e23).trans ?_; rw [Dy.cm_pure]; simp only [e1, e3, e5, e7, e9, e11, e13, e15, e25, c27])
      have e00 : Dy.told (lambdaM (b1, b2) (a1, a2) 0) = ((0, 0), t22) := by simp only [Dy.told, eM, e1, e3, e5, e7, e9, e11, e13, e15, e25, c27, reduceIte, Bool.false_eq_true, Bool.true_eq_false, Bool.true_and, Bool.false_and, Bool.and_true, Bool.and_false, Bool.true_or, Bool.false_or, Bool.or_true, Bool.or_false, Bool.not_true, Bool.not_false] <;> simp_all
      exact ⟨⟨⟨(congrArg (fun r => some (calR r 0)) e00.symm), (congrArg (fun r => some (calR r 1)) e00.symm), trivial⟩, ⟨rfl, (congrArg (fun r => some (calR r 2)) e00.symm)⟩, trivial⟩, trivial, rfl⟩
    · intro c27
      refine T.hdone ?_
      have eM : lambdaM (b1, b2) (a1, a2) 0 = ((t20, t21), t22) := by
        unfold lambdaM
        refine (Dy.cs_sqr e19).trans ?_
        first | exact e23 | (refine (Dy.cm_s (x := hidesM (t16, t17) (b1, b2)) e23).trans ?_; rfl) | (refine (Dy.cm_s (x := hidesM (t16, t17) (b1, b2)) e23).trans ?_; rw [Dy.cm_pure]; simp only [e1, e3, e5, e7, e9, e11, e13, e15, e25, c27])
      have e00 : Dy.told (lambdaM (b1, b2) (a1, a2) 0) = ((t20, t21), 0) := by simp only [Dy.told, eM, e1, e3, e5, e7, e9, e11, e13, e15, e25, c27, reduceIte, Bool.false_eq_true, Bool.true_eq_false, Bool.true_and, Bool.false_and, Bool.and_true, Bool.and_false, Bool.true_or, Bool.false_or, Bool.or_true, Bool.or_false, Bool.not_true, Bool.not_false] <;> simp_all
      exact ⟨⟨⟨(congrArg (fun r => some (calR r 0)) e00.symm), (congrArg (fun r => some (calR r 1)) e00.symm), trivial⟩, ⟨rfl, (congrArg (fun r => some (calR r 2)) e00.symm)⟩, trivial⟩, trivial, rfl⟩

def z13 : List (Nat × Ct) := (111, ctOf_hides) :: z12
theorem z13_ok : AllOk Try.prog z13 := ⟨ctOf_hides_ok, z12_ok⟩

def ctOf_faces : Ct := ⟨4, [[vf 2, vf 3]], [.fn 112 [] [], vp 0 1, .slc 0 0 1 1], { binds := [⟨fun us i => calR (Dy.told (facingM (gF us 2, gF us 3) (gF us 0, gF us 1) 0)) i, 3, upto 0 4⟩], needs := [⟨nG1, [.v 0, .v 1, .v 2, .v 3]⟩], val := .tup [vp 4 5, vi .i64 6], upd := [] }⟩
set_option maxRecDepth 100000 in
set_option maxHeartbeats 8000000 in
theorem ctOf_faces_ok : CtOk Try.prog 111 ctOf_faces := by
  refine CtOk.of_eval2 z13_ok (dr_ok z13_ok) Try.func111 rfl (by decide) [] 200 (by kernel_rfl) rfl (.bind ⟨fIv1 Dy.ivR, 1, [(.v 0), (.v 1)]⟩ (.bind ⟨fun us _ => cB (fun a b => Dy.fgt a b || Dy.feq a b) us, 1, [(.v 0), (.l (.f 4584664420663164928))]⟩ (.ite (.v 5) (.bind ⟨fun us _ => cB (fun a b => Dy.flt a b || Dy.feq a b) us, 1, [(.v 1), (.l (.f 4607182418800017408))]⟩ (.ite (.v 4) (.bind ⟨fIv1 Dy.ivR, 1, [(.v 2), (.v 3)]⟩ (.ite (.v 6) (.bind ⟨fun us _ => cB (fun a b => Dy.fgt a b || Dy.feq a b) us, 1, [(.v 2), (.l (.f 0))]⟩ (.ite (.v 8) (.bind ⟨fun us _ => cB (fun a b => Dy.flt a b || Dy.feq a b) us, 1, [(.v 3), (.l (.f 4607182418800017408))]⟩ (.bind ⟨fun us _ => nB us, 1, [(.v 7)]⟩ (.ite (.v 10) (.done .ret ⟨[.tup [.agg [.fl (.l (.f 0)), .fl (.l (.f 0))], .it .i64 (.l (.i 20))]], [some ([.fl (.v 2), .fl (.v 3)])], 11, []⟩) (.bind ⟨fun us _ => nB us, 1, [(.v 9)]⟩ (.ite (.v 11) (.done .ret ⟨[.tup [.agg [.fl (.l (.f 0)), .fl (.l (.f 0))], .it .i64 (.l (.i 2))]], [some ([.fl (.v 2), .fl (.v 3)])], 12, []⟩) (.bind ⟨calF1 Dy.cSqr, 3, [(.l (.i 0)), (.v 0), (.v 1)]⟩ (.bind ⟨fun us i => calR (facesM (gF us 1, gF us 2) (gF us 3, gF us 4) (gI us 0)) i, 3, [(.v 14), (.v 12), (.v 13), (.v 2), (.v 3)]⟩ (.bind ⟨fun us _ => jB (fun a b => a != b) us, 1, [(.v 17), (.l (.i 0))]⟩ (.ite (.v 18) (.done .ret ⟨[.tup [.agg [.fl (.l (.f 0)), .fl (.l (.f 0))], .it .i64 (.v 17)]], [some ([.fl (.v 2), .fl (.v 3)])], 19, []⟩) (.done .ret ⟨[.tup [.agg [.fl (.v 15), .fl (.v 16)], .it .i64 (.l (.i 0))]], [some ([.fl (.v 2), .fl (.v 3)])], 19, []⟩)))))))))) (.bind ⟨fun us _ => nB us, 1, [(.v 7)]⟩ (.ite (.v 9) (.done .ret ⟨[.tup [.agg [.fl (.l (.f 0)), .fl (.l (.f 0))], .it .i64 (.l (.i 20))]], [some ([.fl (.v 2), .fl (.v 3)])], 10, []⟩) (.done .ret ⟨[.tup [.agg [.fl (.l (.f 0)), .fl (.l (.f 0))], .it .i64 (.l (.i 2))]], [some ([.fl (.v 2), .fl (.v 3)])], 10, []⟩))))) (.bind ⟨fun us _ => nB us, 1, [(.v 7)]⟩ (.ite (.v 8) (.done .ret ⟨[.tup [.agg [.fl (.l (.f 0)), .fl (.l (.f 0))], .it .i64 (.l (.i 20))]], [some ([.fl (.v 2), .fl (.v 3)])], 9, []⟩) (.done .ret ⟨[.tup [.agg [.fl (.l (.f 0)), .fl (.l (.f 0))], .it .i64 (.l (.i 2))]], [some ([.fl (.v 2), .fl (.v 3)])], 9, []⟩))))) (.ite (.v 6) (.bind ⟨fun us _ => cB (fun a b => Dy.fgt a b || Dy.feq a b) us, 1, [(.v 2), (.l (.f 0))]⟩ (.ite (.v 7) (.bind ⟨fun us _ => cB (fun a b => Dy.flt a b || Dy.feq a b) us, 1, [(.v 3), (.l (.f 4607182418800017408))]⟩ (.done .ret ⟨[.tup [.agg [.fl (.l (.f 0)), .fl (.l (.f 0))], .it .i64 (.l (.i 20))]], [some ([.fl (.v 2), .fl (.v 3)])], 9, []⟩)) (.done .ret ⟨[.tup [.agg [.fl (.l (.f 0)), .fl (.l (.f 0))], .it .i64 (.l (.i 20))]], [some ([.fl (.v 2), .fl (.v 3)])], 8, []⟩))) (.done .ret ⟨[.tup [.agg [.fl (.l (.f 0)), .fl (.l (.f 0))], .it .i64 (.l (.i 20))]], [some ([.fl (.v 2), .fl (.v 3)])], 7, []⟩)))) (.ite (.v 4) (.bind ⟨fIv1 Dy.ivR, 1, [(.v 2), (.v 3)]⟩ (.bind ⟨fun us _ => nB us, 1, [(.v 6)]⟩ (.ite (.v 7) (.done .ret ⟨[.tup [.agg [.fl (.l (.f 0)), .fl (.l (.f 0))], .it .i64 (.l (.i 20))]], [some ([.fl (.v 2), .fl (.v 3)])], 8, []⟩) (.done .ret ⟨[.tup [.agg [.fl (.l (.f 0)), .fl (.l (.f 0))], .it .i64 (.l (.i 2))]], [some ([.fl (.v 2), .fl (.v 3)])], 8, []⟩)))) (.done .ret ⟨[.tup [.agg [.fl (.l (.f 0)), .fl (.l (.f 0))], .it .i64 (.l (.i 20))]], [some ([.fl (.v 2), .fl (.v 3)])], 6, []⟩))))) (by kernel_rfl) (by kernel_rfl) (by kernel_rfl) (fun us hl hF hB hN => ?_)
  match us, hl with
  | [u0, u1, u2, u3], _ =>
    simp [FactsB, FactsL, Facts, ctOf_faces] at hF hB
    simp [NeedsAt, runB, evs, E.ev, upto, resl, List.range, List.range.loop, ctOf_faces] at hN
    obtain ⟨⟨a1, rfl, wa1⟩, ⟨a2, rfl, wa2⟩⟩ := hF
    obtain ⟨⟨b1, rfl, wb1⟩, ⟨b2, rfl, wb2⟩⟩ := hB
    simp [nG1, gF, U.F] at hN
    refine T.HH.h ?_
    obtain ⟨t0, e1⟩ : ∃ t0, (Dy.ivR (a1, a2)) = t0 := ⟨_, rfl⟩
    refine T.hbind (us := [.f a1, .f a2]) (xs := [.b t0]) (ρ' := [.f a1, .f a2, .f b1, .f b2, .b t0]) rfl (congrArg (fun r => [U.b r]) e1) rfl ?_
    obtain ⟨t2, e3⟩ : ∃ t2, (Dy.fgt a1 4584664420663164928 || Dy.feq a1 4584664420663164928) = t2 := ⟨_, rfl⟩
    refine T.hbind (us := [.f a1, .f 4584664420663164928]) (xs := [.b t2]) (ρ' := [.f a1, .f a2, .f b1, .f b2, .b t0, .b t2]) rfl (congrArg (fun r => [U.b r]) e3) rfl ?_
    refine T.hiteT (x := t2) rfl (e3.symm.trans (gA_of hN.1).2.1) ?_
    obtain ⟨t4, e5⟩ : ∃ t4, (Dy.flt a2 4607182418800017408 || Dy.feq a2 4607182418800017408) = t4 := ⟨_, rfl⟩
    refine T.hbind (us := [.f a2, .f 4607182418800017408]) (xs := [.b t4]) (ρ' := [.f a1, .f a2, .f b1, .f b2, .b t0, .b t2, .b t4]) rfl (congrArg (fun r => [U.b r]) e5) rfl ?_
    refine T.hiteT (x := t0) rfl (e1.symm.trans (gA_of hN.1).1) ?_
    obtain ⟨t6, e7⟩ : ∃ t6, (Dy.ivR (b1, b2)) = t6 := ⟨_, rfl⟩
    refine T.hbind (us := [.f b1, .f b2]) (xs := [.b t6]) (ρ' := [.f a1, .f a2, .f b1, .f b2, .b t0, .b t2, .b t4, .b t6]) rfl (congrArg (fun r => [U.b r]) e7) rfl ?_
    refine T.hiteT (x := t4) rfl (e5.symm.trans (gA_of hN.1).2.2) ?_
    obtain ⟨t8, e9⟩ : ∃ t8, (Dy.fgt b1 0 || Dy.feq b1 0) = t8 := ⟨_, rfl⟩
    refine T.hbind (us := [.f b1, .f 0]) (xs := [.b t8]) (ρ' := [.f a1, .f a2, .f b1, .f b2, .b t0, .b t2, .b t4, .b t6, .b t8]) rfl (congrArg (fun r => [U.b r]) e9) rfl ?_
    refine T.hiteT (x := t8) rfl (e9.symm.trans (gC_of hN.2).2.1) ?_
    obtain ⟨t10, e11⟩ : ∃ t10, (Dy.flt b2 4607182418800017408 || Dy.feq b2 4607182418800017408) = t10 := ⟨_, rfl⟩
    refine T.hbind (us := [.f b2, .f 4607182418800017408]) (xs := [.b t10]) (ρ' := [.f a1, .f a2, .f b1, .f b2, .b t0, .b t2, .b t4, .b t6, .b t8, .b t10]) rfl (congrArg (fun r => [U.b r]) e11) rfl ?_
    obtain ⟨t12, e13⟩ : ∃ t12, (!t6) = t12 := ⟨_, rfl⟩
    refine T.hbind (us := [.b t6]) (xs := [.b t12]) (ρ' := [.f a1, .f a2, .f b1, .f b2, .b t0, .b t2, .b t4, .b t6, .b t8, .b t10, .b t12]) rfl (congrArg (fun r => [U.b r]) e13) rfl ?_
    refine T.hiteF (x := t12) rfl (e13.symm.trans (by rw [e7.symm.trans (gC_of hN.2).1]; rfl)) ?_
    obtain ⟨t14, e15⟩ : ∃ t14, (!t10) = t14 := ⟨_, rfl⟩
    refine T.hbind (us := [.b t10]) (xs := [.b t14]) (ρ' := [.f a1, .f a2, .f b1, .f b2, .b t0, .b t2, .b t4, .b t6, .b t8, .b t10, .b t12, .b t14]) rfl (congrArg (fun r => [U.b r]) e15) rfl ?_
    refine T.hiteF (x := t14) rfl (e15.symm.trans (by rw [e11.symm.trans (gC_of hN.2).2.2]; rfl)) ?_
    obtain ⟨t16, t17, t18, e19⟩ : ∃ t16 t17 t18, (Dy.cSqr 0 (a1, a2)) = ((t16, t17), t18) := Dy.ex3 _
    have g19 := Dy.good_sqr (a := (a1, a2)) ⟨wa1, wa2⟩ (err := 0)
    rw [e19] at g19
    refine T.hbind (us := [.i 0, .f a1, .f a2]) (xs := [.f t16, .f t17, .i t18]) (ρ' := [.f a1, .f a2, .f b1, .f b2, .b t0, .b t2, .b t4, .b t6, .b t8, .b t10, .b t12, .b t14, .f t16, .f t17, .i t18]) rfl (congrArg (fun r => [calR r 0, calR r 1, calR r 2]) e19) rfl ?_
    obtain ⟨t20, t21, t22, e23⟩ : ∃ t20 t21 t22, (facesM (t16, t17) (b1, b2) (t18)) = ((t20, t21), t22) := Dy.ex3 _
    refine T.hbind (us := [.i t18, .f t16, .f t17, .f b1, .f b2]) (xs := [.f t20, .f t21, .i t22]) (ρ' := [.f a1, .f a2, .f b1, .f b2, .b t0, .b t2, .b t4, .b t6, .b t8, .b t10, .b t12, .b t14, .f t16, .f t17, .i t18, .f t20, .f t21, .i t22]) rfl (congrArg (fun r => [calR r 0, calR r 1, calR r 2]) e23) rfl ?_
    obtain ⟨t24, e25⟩ : ∃ t24, (t22 != 0) = t24 := ⟨_, rfl⟩
    refine T.hbind (us := [.i t22, .i 0]) (xs := [.b t24]) (ρ' := [.f a1, .f a2, .f b1, .f b2, .b t0, .b t2, .b t4, .b t6, .b t8, .b t10, .b t12, .b t14, .f t16, .f t17, .i t18, .f t20, .f t21, .i t22, .b t24]) rfl (congrArg (fun r => [U.b r]) e25) rfl ?_
    refine T.hite (x := t24) ?_ ?_ ?_
    · rfl
    · intro c27
      refine T.hdone ?_
      have eM : facingM (b1, b2) (a1, a2) 0 = ((t20, t21), t22) := by
        unfold facingM
        refine (Dy.cs_sqr e19).trans ?_
        first | exact e23 | (refine (Dy.cm_s (x := facesM (t16, t17) (b1, b2)) e23).trans ?_; rfl) | (refine (Dy.cm_s (x := facesM (t16, t17) (b1, b2)) e23).trans ?_; rw [Dy.cm_pure]; simp only [e1, e3, e5, e7, e9, e11, e13, e15, e25, c27])
      have e00 : Dy.told (facingM (b1, b2) (a1, a2) 0) = ((0, 0), t22) := by simp only [Dy.told, eM, e1, e3, e5, e7, e9, e11, e13, e15, e25, c27, reduceIte, Bool.false_eq_true, Bool.true_eq_false, Bool.true_and, Bool.false_and, Bool.and_true, Bool.and_false, Bool.true_or, Bool.false_or, Bool.or_true, Bool.or_false, Bool.not_true, Bool.not_false] <;> simp_all
      exact ⟨⟨⟨(congrArg (fun r => some (calR r 0)) e00.symm), (congrArg (fun r => some (calR r 1)) e00.symm), trivial⟩, ⟨rfl, (congrArg (fun r => some (calR r 2)) e00.symm)⟩, trivial⟩, trivial, rfl⟩
    · intro c27
      refine T.hdone ?_
      have eM : facingM (b1, b2) (a1, a2) 0 = ((t20, t21), t22) := by
        unfold facingM
        refine (Dy.cs_sqr e19).trans ?_
        first | exact e23 | (refine (Dy.cm_s (x := facesM (t16, t17) (b1, b2)) e23).trans ?_; rfl) | (refine (Dy.cm_s (x := facesM (t16, t17) (b1, b2)) e23).trans ?_; rw [Dy.cm_pure]; simp only [e1, e3, e5, e7, e9, e11, e13, e15, e25, c27])
      have e00 : Dy.told (facingM (b1, b2) (a1, a2) 0) = ((t20, t21), 0) := by simp only [Dy.told, eM, e1, e3, e5, e7, e9, e11, e13, e15, e25, c27, reduceIte, Bool.false_eq_true, Bool.true_eq_false, Bool.true_and, Bool.false_and, Bool.and_true, Bool.and_false, Bool.true_or, Bool.false_or, Bool.or_true, Bool.or_false, Bool.not_true, Bool.not_false] <;> simp_all
      exact ⟨⟨⟨(congrArg (fun r => some (calR r 0)) e00.symm), (congrArg (fun r => some (calR r 1)) e00.symm), trivial⟩, ⟨rfl, (congrArg (fun r => some (calR r 2)) e00.symm)⟩, trivial⟩, trivial, rfl⟩

def z14 : List (Nat × Ct) := (111, ctOf_faces) :: z13
theorem z14_ok : AllOk Try.prog z14 := ⟨ctOf_faces_ok, z13_ok⟩

def ctOf_seen : Ct := ⟨4, [[vf 2, vf 3]], [.fn 122 [] [], vp 0 1, .slc 0 0 1 1], { binds := [⟨fun us i => calR (Dy.told (g1M (gF us 2, gF us 3) (gF us 0, gF us 1) 0)) i, 3, upto 0 4⟩], needs := [⟨nG1, [.v 0, .v 1, .v 2, .v 3]⟩], val := .tup [vp 4 5, vi .i64 6], upd := [] }⟩
set_option maxRecDepth 100000 in
set_option maxHeartbeats 8000000 in
theorem ctOf_seen_ok : CtOk Try.prog 111 ctOf_seen := by
  refine CtOk.of_eval2 z14_ok (dr_ok z14_ok) Try.func111 rfl (by decide) [] 200 (by kernel_rfl) rfl (.bind ⟨fIv1 Dy.ivR, 1, [(.v 0), (.v 1)]⟩ (.bind ⟨fun us _ => cB (fun a b => Dy.fgt a b || Dy.feq a b) us, 1, [(.v 0), (.l (.f 4584664420663164928))]⟩ (.ite (.v 5) (.bind ⟨fun us _ => cB (fun a b => Dy.flt a b || Dy.feq a b) us, 1, [(.v 1), (.l (.f 4607182418800017408))]⟩ (.ite (.v 4) (.bind ⟨fIv1 Dy.ivR, 1, [(.v 2), (.v 3)]⟩ (.ite (.v 6) (.bind ⟨fun us _ => cB (fun a b => Dy.fgt a b || Dy.feq a b) us, 1, [(.v 2), (.l (.f 0))]⟩ (.ite (.v 8) (.bind ⟨fun us _ => cB (fun a b => Dy.flt a b || Dy.feq a b) us, 1, [(.v 3), (.l (.f 4607182418800017408))]⟩ (.bind ⟨fun us _ => nB us, 1, [(.v 7)]⟩ (.ite (.v 10) (.done .ret ⟨[.tup [.agg [.fl (.l (.f 0)), .fl (.l (.f 0))], .it .i64 (.l (.i 20))]], [some ([.fl (.v 2), .fl (.v 3)])], 11, []⟩) (.bind ⟨fun us _ => nB us, 1, [(.v 9)]⟩ (.ite (.v 11) (.done .ret ⟨[.tup [.agg [.fl (.l (.f 0)), .fl (.l (.f 0))], .it .i64 (.l (.i 2))]], [some ([.fl (.v 2), .fl (.v 3)])], 12, []⟩) (.bind ⟨calF1 Dy.cSqr, 3, [(.l (.i 0)), (.v 0), (.v 1)]⟩ (.bind ⟨fun us i => calR (seen1M (gF us 1, gF us 2) (gF us 3, gF us 4) (gI us 0)) i, 3, [(.v 14), (.v 12), (.v 13), (.v 2), (.v 3)]⟩ (.bind ⟨fun us _ => jB (fun a b => a != b) us, 1, [(.v 17), (.l (.i 0))]⟩ (.ite (.v 18) (.done .ret ⟨[.tup [.agg [.fl (.l (.f 0)), .fl (.l (.f 0))], .it .i64 (.v 17)]], [some ([.fl (.v 2), .fl (.v 3)])], 19, []⟩) (.done .ret ⟨[.tup [.agg [.fl (.v 15), .fl (.v 16)], .it .i64 (.l (.i 0))]], [some ([.fl (.v 2), .fl (.v 3)])], 19, []⟩)))))))))) (.bind ⟨fun us _ => nB us, 1, [(.v 7)]⟩ (.ite (.v 9) (.done .ret ⟨[.tup [.agg [.fl (.l (.f 0)), .fl (.l (.f 0))], .it .i64 (.l (.i 20))]], [some ([.fl (.v 2), .fl (.v 3)])], 10, []⟩) (.done .ret ⟨[.tup [.agg [.fl (.l (.f 0)), .fl (.l (.f 0))], .it .i64 (.l (.i 2))]], [some ([.fl (.v 2), .fl (.v 3)])], 10, []⟩))))) (.bind ⟨fun us _ => nB us, 1, [(.v 7)]⟩ (.ite (.v 8) (.done .ret ⟨[.tup [.agg [.fl (.l (.f 0)), .fl (.l (.f 0))], .it .i64 (.l (.i 20))]], [some ([.fl (.v 2), .fl (.v 3)])], 9, []⟩) (.done .ret ⟨[.tup [.agg [.fl (.l (.f 0)), .fl (.l (.f 0))], .it .i64 (.l (.i 2))]], [some ([.fl (.v 2), .fl (.v 3)])], 9, []⟩))))) (.ite (.v 6) (.bind ⟨fun us _ => cB (fun a b => Dy.fgt a b || Dy.feq a b) us, 1, [(.v 2), (.l (.f 0))]⟩ (.ite (.v 7) (.bind ⟨fun us _ => cB (fun a b => Dy.flt a b || Dy.feq a b) us, 1, [(.v 3), (.l (.f 4607182418800017408))]⟩ (.done .ret ⟨[.tup [.agg [.fl (.l (.f 0)), .fl (.l (.f 0))], .it .i64 (.l (.i 20))]], [some ([.fl (.v 2), .fl (.v 3)])], 9, []⟩)) (.done .ret ⟨[.tup [.agg [.fl (.l (.f 0)), .fl (.l (.f 0))], .it .i64 (.l (.i 20))]], [some ([.fl (.v 2), .fl (.v 3)])], 8, []⟩))) (.done .ret ⟨[.tup [.agg [.fl (.l (.f 0)), .fl (.l (.f 0))], .it .i64 (.l (.i 20))]], [some ([.fl (.v 2), .fl (.v 3)])], 7, []⟩)))) (.ite (.v 4) (.bind ⟨fIv1 Dy.ivR, 1, [(.v 2), (.v 3)]⟩ (.bind ⟨fun us _ => nB us, 1, [(.v 6)]⟩ (.ite (.v 7) (.done .ret ⟨[.tup [.agg [.fl (.l (.f 0)), .fl (.l (.f 0))], .it .i64 (.l (.i 20))]], [some ([.fl (.v 2), .fl (.v 3)])], 8, []⟩) (.done .ret ⟨[.tup [.agg [.fl (.l (.f 0)), .fl (.l (.f 0))], .it .i64 (.l (.i 2))]], [some ([.fl (.v 2), .fl (.v 3)])], 8, []⟩)))) (.done .ret ⟨[.tup [.agg [.fl (.l (.f 0)), .fl (.l (.f 0))], .it .i64 (.l (.i 20))]], [some ([.fl (.v 2), .fl (.v 3)])], 6, []⟩))))) (by kernel_rfl) (by kernel_rfl) (by kernel_rfl) (fun us hl hF hB hN => ?_)
  match us, hl with
  | [u0, u1, u2, u3], _ =>
    simp [FactsB, FactsL, Facts, ctOf_seen] at hF hB
    simp [NeedsAt, runB, evs, E.ev, upto, resl, List.range, List.range.loop, ctOf_seen] at hN
    obtain ⟨⟨a1, rfl, wa1⟩, ⟨a2, rfl, wa2⟩⟩ := hF
    obtain ⟨⟨b1, rfl, wb1⟩, ⟨b2, rfl, wb2⟩⟩ := hB
    simp [nG1, gF, U.F] at hN
    refine T.HH.h ?_
    obtain ⟨t0, e1⟩ : ∃ t0, (Dy.ivR (a1, a2)) = t0 := ⟨_, rfl⟩
    refine T.hbind (us := [.f a1, .f a2]) (xs := [.b t0]) (ρ' := [.f a1, .f a2, .f b1, .f b2, .b t0]) rfl (congrArg (fun r => [U.b r]) e1) rfl ?_
    obtain ⟨t2, e3⟩ : ∃ t2, (Dy.fgt a1 4584664420663164928 || Dy.feq a1 4584664420663164928) = t2 := ⟨_, rfl⟩
    refine T.hbind (us := [.f a1, .f 4584664420663164928]) (xs := [.b t2]) (ρ' := [.f a1, .f a2, .f b1, .f b2, .b t0, .b t2]) rfl (congrArg (fun r => [U.b r]) e3) rfl ?_
    refine T.hiteT (x := t2) rfl (e3.symm.trans (gA_of hN.1).2.1) ?_
    obtain ⟨t4, e5⟩ : ∃ t4, (Dy.flt a2 4607182418800017408 || Dy.feq a2 4607182418800017408) = t4 := ⟨_, rfl⟩
    refine T.hbind (us := [.f a2, .f 4607182418800017408]) (xs := [.b t4]) (ρ' := [.f a1, .f a2, .f b1, .f b2, .b t0, .b t2, .b t4]) rfl (congrArg (fun r => [U.b r]) e5) rfl ?_
    refine T.hiteT (x := t0) rfl (e1.symm.trans (gA_of hN.1).1) ?_
    obtain ⟨t6, e7⟩ : ∃ t6, (Dy.ivR (b1, b2)) = t6 := ⟨_, rfl⟩
    refine T.hbind (us := [.f b1, .f b2]) (xs := [.b t6]) (ρ' := [.f a1, .f a2, .f b1, .f b2, .b t0, .b t2, .b t4, .b t6]) rfl (congrArg (fun r => [U.b r]) e7) rfl ?_
    refine T.hiteT (x := t4) rfl (e5.symm.trans (gA_of hN.1).2.2) ?_
    obtain ⟨t8, e9⟩ : ∃ t8, (Dy.fgt b1 0 || Dy.feq b1 0) = t8 := ⟨_, rfl⟩
    refine T.hbind (us := [.f b1, .f 0]) (xs := [.b t8]) (ρ' := [.f a1, .f a2, .f b1, .f b2, .b t0, .b t2, .b t4, .b t6, .b t8]) rfl (congrArg (fun r => [U.b r]) e9) rfl ?_
    refine T.hiteT (x := t8) rfl (e9.symm.trans (gC_of hN.2).2.1) ?_
    obtain ⟨t10, e11⟩ : ∃ t10, (Dy.flt b2 4607182418800017408 || Dy.feq b2 4607182418800017408) = t10 := ⟨_, rfl⟩
    refine T.hbind (us := [.f b2, .f 4607182418800017408]) (xs := [.b t10]) (ρ' := [.f a1, .f a2, .f b1, .f b2, .b t0, .b t2, .b t4, .b t6, .b t8, .b t10]) rfl (congrArg (fun r => [U.b r]) e11) rfl ?_
    obtain ⟨t12, e13⟩ : ∃ t12, (!t6) = t12 := ⟨_, rfl⟩
    refine T.hbind (us := [.b t6]) (xs := [.b t12]) (ρ' := [.f a1, .f a2, .f b1, .f b2, .b t0, .b t2, .b t4, .b t6, .b t8, .b t10, .b t12]) rfl (congrArg (fun r => [U.b r]) e13) rfl ?_
    refine T.hiteF (x := t12) rfl (e13.symm.trans (by rw [e7.symm.trans (gC_of hN.2).1]; rfl)) ?_
    obtain ⟨t14, e15⟩ : ∃ t14, (!t10) = t14 := ⟨_, rfl⟩
    refine T.hbind (us := [.b t10]) (xs := [.b t14]) (ρ' := [.f a1, .f a2, .f b1, .f b2, .b t0, .b t2, .b t4, .b t6, .b t8, .b t10, .b t12, .b t14]) rfl (congrArg (fun r => [U.b r]) e15) rfl ?_
    refine T.hiteF (x := t14) rfl (e15.symm.trans (by rw [e11.symm.trans (gC_of hN.2).2.2]; rfl)) ?_
    obtain ⟨t16, t17, t18, e19⟩ : ∃ t16 t17 t18, (Dy.cSqr 0 (a1, a2)) = ((t16, t17), t18) := Dy.ex3 _
    have g19 := Dy.good_sqr (a := (a1, a2)) ⟨wa1, wa2⟩ (err := 0)
    rw [e19] at g19
    refine T.hbind (us := [.i 0, .f a1, .f a2]) (xs := [.f t16, .f t17, .i t18]) (ρ' := [.f a1, .f a2, .f b1, .f b2, .b t0, .b t2, .b t4, .b t6, .b t8, .b t10, .b t12, .b t14, .f t16, .f t17, .i t18]) rfl (congrArg (fun r => [calR r 0, calR r 1, calR r 2]) e19) rfl ?_
    obtain ⟨t20, t21, t22, e23⟩ : ∃ t20 t21 t22, (seen1M (t16, t17) (b1, b2) (t18)) = ((t20, t21), t22) := Dy.ex3 _
    refine T.hbind (us := [.i t18, .f t16, .f t17, .f b1, .f b2]) (xs := [.f t20, .f t21, .i t22]) (ρ' := [.f a1, .f a2, .f b1, .f b2, .b t0, .b t2, .b t4, .b t6, .b t8, .b t10, .b t12, .b t14, .f t16, .f t17, .i t18, .f t20, .f t21, .i t22]) rfl (congrArg (fun r => [calR r 0, calR r 1, calR r 2]) e23) rfl ?_
    obtain ⟨t24, e25⟩ : ∃ t24, (t22 != 0) = t24 := ⟨_, rfl⟩
    refine T.hbind (us := [.i t22, .i 0]) (xs := [.b t24]) (ρ' := [.f a1, .f a2, .f b1, .f b2, .b t0, .b t2, .b t4, .b t6, .b t8, .b t10, .b t12, .b t14, .f t16, .f t17, .i t18, .f t20, .f t21, .i t22, .b t24]) rfl (congrArg (fun r => [U.b r]) e25) rfl ?_
    refine T.hite (x := t24) ?_ ?_ ?_
    · rfl
    · intro c27
      refine T.hdone ?_
      have eM : g1M (b1, b2) (a1, a2) 0 = ((t20, t21), t22) := by
        unfold g1M
        refine (Dy.cs_sqr e19).trans ?_
        first | exact e23 | (refine (Dy.cm_s (x := seen1M (t16, t17) (b1, b2)) e23).trans ?_; rfl) | (refine (Dy.cm_s (x := seen1M (t16, t17) (b1, b2)) e23).trans ?_; rw [Dy.cm_pure]; simp only [e1, e3, e5, e7, e9, e11, e13, e15, e25, c27])
      have e00 : Dy.told (g1M (b1, b2) (a1, a2) 0) = ((0, 0), t22) := by simp only [Dy.told, eM, e1, e3, e5, e7, e9, e11, e13, e15, e25, c27, reduceIte, Bool.false_eq_true, Bool.true_eq_false, Bool.true_and, Bool.false_and, Bool.and_true, Bool.and_false, Bool.true_or, Bool.false_or, Bool.or_true, Bool.or_false, Bool.not_true, Bool.not_false] <;> simp_all
      exact ⟨⟨⟨(congrArg (fun r => some (calR r 0)) e00.symm), (congrArg (fun r => some (calR r 1)) e00.symm), trivial⟩, ⟨rfl, (congrArg (fun r => some (calR r 2)) e00.symm)⟩, trivial⟩, trivial, rfl⟩
    · intro c27
      refine T.hdone ?_
      have eM : g1M (b1, b2) (a1, a2) 0 = ((t20, t21), t22) := by
        unfold g1M
        refine (Dy.cs_sqr e19).trans ?_
        first | exact e23 | (refine (Dy.cm_s (x := seen1M (t16, t17) (b1, b2)) e23).trans ?_; rfl) | (refine (Dy.cm_s (x := seen1M (t16, t17) (b1, b2)) e23).trans ?_; rw [Dy.cm_pure]; simp only [e1, e3, e5, e7, e9, e11, e13, e15, e25, c27])
      have e00 : Dy.told (g1M (b1, b2) (a1, a2) 0) = ((t20, t21), 0) := by simp only [Dy.told, eM, e1, e3, e5, e7, e9, e11, e13, e15, e25, c27, reduceIte, Bool.false_eq_true, Bool.true_eq_false, Bool.true_and, Bool.false_and, Bool.and_true, Bool.and_false, Bool.true_or, Bool.false_or, Bool.or_true, Bool.or_false, Bool.not_true, Bool.not_false] <;> simp_all
      exact ⟨⟨⟨(congrArg (fun r => some (calR r 0)) e00.symm), (congrArg (fun r => some (calR r 1)) e00.symm), trivial⟩, ⟨rfl, (congrArg (fun r => some (calR r 2)) e00.symm)⟩, trivial⟩, trivial, rfl⟩

def z15 : List (Nat × Ct) := (111, ctOf_seen) :: z14
theorem z15_ok : AllOk Try.prog z15 := ⟨ctOf_seen_ok, z14_ok⟩

def ctOf_seen2 : Ct := ⟨6, [[vf 2, vf 3, vf 4, vf 5]], [.fn 122 [] [], vp 0 1, .slc 0 0 2 2], { binds := [⟨fun us i => calR (Dy.told (g2M (gF us 2, gF us 3) (gF us 4, gF us 5) (gF us 0, gF us 1) 0)) i, 3, upto 0 6⟩], needs := [⟨nG2, [.v 0, .v 1, .v 2, .v 3, .v 4, .v 5]⟩], val := .tup [vp 6 7, vi .i64 8], upd := [] }⟩
set_option maxRecDepth 100000 in
set_option maxHeartbeats 8000000 in
theorem ctOf_seen2_ok : CtOk Try.prog 111 ctOf_seen2 := by
  refine CtOk.of_eval2 z15_ok (dr_ok z15_ok) Try.func111 rfl (by decide) [] 200 (by kernel_rfl) rfl (.bind ⟨fIv1 Dy.ivR, 1, [(.v 0), (.v 1)]⟩ (.bind ⟨fun us _ => cB (fun a b => Dy.fgt a b || Dy.feq a b) us, 1, [(.v 0), (.l (.f 4584664420663164928))]⟩ (.ite (.v 7) (.bind ⟨fun us _ => cB (fun a b => Dy.flt a b || Dy.feq a b) us, 1, [(.v 1), (.l (.f 4607182418800017408))]⟩ (.ite (.v 6) (.bind ⟨fIv1 Dy.ivR, 1, [(.v 2), (.v 3)]⟩ (.ite (.v 8) (.bind ⟨fun us _ => cB (fun a b => Dy.fgt a b || Dy.feq a b) us, 1, [(.v 2), (.l (.f 0))]⟩ (.ite (.v 10) (.bind ⟨fun us _ => cB (fun a b => Dy.flt a b || Dy.feq a b) us, 1, [(.v 3), (.l (.f 4607182418800017408))]⟩ (.ite (.v 9) (.bind ⟨fIv1 Dy.ivR, 1, [(.v 4), (.v 5)]⟩ (.ite (.v 11) (.bind ⟨fun us _ => cB (fun a b => Dy.fgt a b || Dy.feq a b) us, 1, [(.v 4), (.l (.f 0))]⟩ (.ite (.v 13) (.bind ⟨fun us _ => cB (fun a b => Dy.flt a b || Dy.feq a b) us, 1, [(.v 5), (.l (.f 4607182418800017408))]⟩ (.bind ⟨fun us _ => nB us, 1, [(.v 12)]⟩ (.ite (.v 15) (.done .ret ⟨[.tup [.agg [.fl (.l (.f 0)), .fl (.l (.f 0))], .it .i64 (.l (.i 20))]], [some ([.fl (.v 2), .fl (.v 3), .fl (.v 4), .fl (.v 5)])], 16, []⟩) (.bind ⟨fun us _ => nB us, 1, [(.v 14)]⟩ (.ite (.v 16) (.done .ret ⟨[.tup [.agg [.fl (.l (.f 0)), .fl (.l (.f 0))], .it .i64 (.l (.i 2))]], [some ([.fl (.v 2), .fl (.v 3), .fl (.v 4), .fl (.v 5)])], 17, []⟩) (.bind ⟨calF1 Dy.cSqr, 3, [(.l (.i 0)), (.v 0), (.v 1)]⟩ (.bind ⟨fun us i => calR (seen2M (gF us 1, gF us 2) (gF us 3, gF us 4) (gF us 5, gF us 6) (gI us 0)) i, 3, [(.v 19), (.v 17), (.v 18), (.v 2), (.v 3), (.v 4), (.v 5)]⟩ (.bind ⟨fun us _ => jB (fun a b => a != b) us, 1, [(.v 22), (.l (.i 0))]⟩ (.ite (.v 23) (.done .ret ⟨[.tup [.agg [.fl (.l (.f 0)), .fl (.l (.f 0))], .it .i64 (.v 22)]], [some ([.fl (.v 2), .fl (.v 3), .fl (.v 4), .fl (.v 5)])], 24, []⟩) (.done .ret ⟨[.tup [.agg [.fl (.v 20), .fl (.v 21)], .it .i64 (.l (.i 0))]], [some ([.fl (.v 2), .fl (.v 3), .fl (.v 4), .fl (.v 5)])], 24, []⟩)))))))))) (.bind ⟨fun us _ => nB us, 1, [(.v 12)]⟩ (.ite (.v 14) (.done .ret ⟨[.tup [.agg [.fl (.l (.f 0)), .fl (.l (.f 0))], .it .i64 (.l (.i 20))]], [some ([.fl (.v 2), .fl (.v 3), .fl (.v 4), .fl (.v 5)])], 15, []⟩) (.done .ret ⟨[.tup [.agg [.fl (.l (.f 0)), .fl (.l (.f 0))], .it .i64 (.l (.i 2))]], [some ([.fl (.v 2), .fl (.v 3), .fl (.v 4), .fl (.v 5)])], 15, []⟩))))) (.bind ⟨fun us _ => nB us, 1, [(.v 12)]⟩ (.ite (.v 13) (.done .ret ⟨[.tup [.agg [.fl (.l (.f 0)), .fl (.l (.f 0))], .it .i64 (.l (.i 20))]], [some ([.fl (.v 2), .fl (.v 3), .fl (.v 4), .fl (.v 5)])], 14, []⟩) (.done .ret ⟨[.tup [.agg [.fl (.l (.f 0)), .fl (.l (.f 0))], .it .i64 (.l (.i 2))]], [some ([.fl (.v 2), .fl (.v 3), .fl (.v 4), .fl (.v 5)])], 14, []⟩))))) (.ite (.v 11) (.bind ⟨fun us _ => cB (fun a b => Dy.fgt a b || Dy.feq a b) us, 1, [(.v 4), (.l (.f 0))]⟩ (.ite (.v 12) (.bind ⟨fun us _ => cB (fun a b => Dy.flt a b || Dy.feq a b) us, 1, [(.v 5), (.l (.f 4607182418800017408))]⟩ (.done .ret ⟨[.tup [.agg [.fl (.l (.f 0)), .fl (.l (.f 0))], .it .i64 (.l (.i 20))]], [some ([.fl (.v 2), .fl (.v 3), .fl (.v 4), .fl (.v 5)])], 14, []⟩)) (.done .ret ⟨[.tup [.agg [.fl (.l (.f 0)), .fl (.l (.f 0))], .it .i64 (.l (.i 20))]], [some ([.fl (.v 2), .fl (.v 3), .fl (.v 4), .fl (.v 5)])], 13, []⟩))) (.done .ret ⟨[.tup [.agg [.fl (.l (.f 0)), .fl (.l (.f 0))], .it .i64 (.l (.i 20))]], [some ([.fl (.v 2), .fl (.v 3), .fl (.v 4), .fl (.v 5)])], 12, []⟩)))) (.ite (.v 9) (.bind ⟨fIv1 Dy.ivR, 1, [(.v 4), (.v 5)]⟩ (.bind ⟨fun us _ => nB us, 1, [(.v 11)]⟩ (.ite (.v 12) (.done .ret ⟨[.tup [.agg [.fl (.l (.f 0)), .fl (.l (.f 0))], .it .i64 (.l (.i 20))]], [some ([.fl (.v 2), .fl (.v 3), .fl (.v 4), .fl (.v 5)])], 13, []⟩) (.done .ret ⟨[.tup [.agg [.fl (.l (.f 0)), .fl (.l (.f 0))], .it .i64 (.l (.i 2))]], [some ([.fl (.v 2), .fl (.v 3), .fl (.v 4), .fl (.v 5)])], 13, []⟩)))) (.done .ret ⟨[.tup [.agg [.fl (.l (.f 0)), .fl (.l (.f 0))], .it .i64 (.l (.i 20))]], [some ([.fl (.v 2), .fl (.v 3), .fl (.v 4), .fl (.v 5)])], 11, []⟩)))) (.ite (.v 9) (.bind ⟨fIv1 Dy.ivR, 1, [(.v 4), (.v 5)]⟩ (.bind ⟨fun us _ => nB us, 1, [(.v 10)]⟩ (.ite (.v 11) (.done .ret ⟨[.tup [.agg [.fl (.l (.f 0)), .fl (.l (.f 0))], .it .i64 (.l (.i 20))]], [some ([.fl (.v 2), .fl (.v 3), .fl (.v 4), .fl (.v 5)])], 12, []⟩) (.done .ret ⟨[.tup [.agg [.fl (.l (.f 0)), .fl (.l (.f 0))], .it .i64 (.l (.i 2))]], [some ([.fl (.v 2), .fl (.v 3), .fl (.v 4), .fl (.v 5)])], 12, []⟩)))) (.done .ret ⟨[.tup [.agg [.fl (.l (.f 0)), .fl (.l (.f 0))], .it .i64 (.l (.i 20))]], [some ([.fl (.v 2), .fl (.v 3), .fl (.v 4), .fl (.v 5)])], 10, []⟩)))) (.ite (.v 8) (.bind ⟨fun us _ => cB (fun a b => Dy.fgt a b || Dy.feq a b) us, 1, [(.v 2), (.l (.f 0))]⟩ (.ite (.v 9) (.bind ⟨fun us _ => cB (fun a b => Dy.flt a b || Dy.feq a b) us, 1, [(.v 3), (.l (.f 4607182418800017408))]⟩ (.ite (.v 10) (.bind ⟨fun us _ => cB (fun a b => Dy.fgt a b || Dy.feq a b) us, 1, [(.v 4), (.l (.f 0))]⟩ (.ite (.v 11) (.bind ⟨fun us _ => cB (fun a b => Dy.flt a b || Dy.feq a b) us, 1, [(.v 5), (.l (.f 4607182418800017408))]⟩ (.done .ret ⟨[.tup [.agg [.fl (.l (.f 0)), .fl (.l (.f 0))], .it .i64 (.l (.i 20))]], [some ([.fl (.v 2), .fl (.v 3), .fl (.v 4), .fl (.v 5)])], 13, []⟩)) (.done .ret ⟨[.tup [.agg [.fl (.l (.f 0)), .fl (.l (.f 0))], .it .i64 (.l (.i 20))]], [some ([.fl (.v 2), .fl (.v 3), .fl (.v 4), .fl (.v 5)])], 12, []⟩))) (.done .ret ⟨[.tup [.agg [.fl (.l (.f 0)), .fl (.l (.f 0))], .it .i64 (.l (.i 20))]], [some ([.fl (.v 2), .fl (.v 3), .fl (.v 4), .fl (.v 5)])], 11, []⟩))) (.done .ret ⟨[.tup [.agg [.fl (.l (.f 0)), .fl (.l (.f 0))], .it .i64 (.l (.i 20))]], [some ([.fl (.v 2), .fl (.v 3), .fl (.v 4), .fl (.v 5)])], 10, []⟩))) (.done .ret ⟨[.tup [.agg [.fl (.l (.f 0)), .fl (.l (.f 0))], .it .i64 (.l (.i 20))]], [some ([.fl (.v 2), .fl (.v 3), .fl (.v 4), .fl (.v 5)])], 9, []⟩)))) (.ite (.v 6) (.bind ⟨fIv1 Dy.ivR, 1, [(.v 2), (.v 3)]⟩ (.ite (.v 8) (.bind ⟨fIv1 Dy.ivR, 1, [(.v 4), (.v 5)]⟩ (.bind ⟨fun us _ => nB us, 1, [(.v 9)]⟩ (.ite (.v 10) (.done .ret ⟨[.tup [.agg [.fl (.l (.f 0)), .fl (.l (.f 0))], .it .i64 (.l (.i 20))]], [some ([.fl (.v 2), .fl (.v 3), .fl (.v 4), .fl (.v 5)])], 11, []⟩) (.done .ret ⟨[.tup [.agg [.fl (.l (.f 0)), .fl (.l (.f 0))], .it .i64 (.l (.i 2))]], [some ([.fl (.v 2), .fl (.v 3), .fl (.v 4), .fl (.v 5)])], 11, []⟩)))) (.done .ret ⟨[.tup [.agg [.fl (.l (.f 0)), .fl (.l (.f 0))], .it .i64 (.l (.i 20))]], [some ([.fl (.v 2), .fl (.v 3), .fl (.v 4), .fl (.v 5)])], 9, []⟩))) (.done .ret ⟨[.tup [.agg [.fl (.l (.f 0)), .fl (.l (.f 0))], .it .i64 (.l (.i 20))]], [some ([.fl (.v 2), .fl (.v 3), .fl (.v 4), .fl (.v 5)])], 8, []⟩))))) (by kernel_rfl) (by kernel_rfl) (by kernel_rfl) (fun us hl hF hB hN => ?_)
  match us, hl with
  | [u0, u1, u2, u3, u4, u5], _ =>
    simp [FactsB, FactsL, Facts, ctOf_seen2] at hF hB
    simp [NeedsAt, runB, evs, E.ev, upto, resl, List.range, List.range.loop, ctOf_seen2] at hN
    obtain ⟨⟨a1, rfl, wa1⟩, ⟨a2, rfl, wa2⟩⟩ := hF
    obtain ⟨⟨b1, rfl, wb1⟩, ⟨b2, rfl, wb2⟩, ⟨c1, rfl, wc1⟩, ⟨c2, rfl, wc2⟩⟩ := hB
    simp [nG2, gF, U.F] at hN
    refine T.HH.h ?_
    obtain ⟨t0, e1⟩ : ∃ t0, (Dy.ivR (a1, a2)) = t0 := ⟨_, rfl⟩
    refine T.hbind (us := [.f a1, .f a2]) (xs := [.b t0]) (ρ' := [.f a1, .f a2, .f b1, .f b2, .f c1, .f c2, .b t0]) rfl (congrArg (fun r => [U.b r]) e1) rfl ?_
    obtain ⟨t2, e3⟩ : ∃ t2, (Dy.fgt a1 4584664420663164928 || Dy.feq a1 4584664420663164928) = t2 := ⟨_, rfl⟩
    refine T.hbind (us := [.f a1, .f 4584664420663164928]) (xs := [.b t2]) (ρ' := [.f a1, .f a2, .f b1, .f b2, .f c1, .f c2, .b t0, .b t2]) rfl (congrArg (fun r => [U.b r]) e3) rfl ?_
    refine T.hiteT (x := t2) rfl (e3.symm.trans (gA_of hN.1.1).2.1) ?_
    obtain ⟨t4, e5⟩ : ∃ t4, (Dy.flt a2 4607182418800017408 || Dy.feq a2 4607182418800017408) = t4 := ⟨_, rfl⟩
    refine T.hbind (us := [.f a2, .f 4607182418800017408]) (xs := [.b t4]) (ρ' := [.f a1, .f a2, .f b1, .f b2, .f c1, .f c2, .b t0, .b t2, .b t4]) rfl (congrArg (fun r => [U.b r]) e5) rfl ?_
    refine T.hiteT (x := t0) rfl (e1.symm.trans (gA_of hN.1.1).1) ?_
    obtain ⟨t6, e7⟩ : ∃ t6, (Dy.ivR (b1, b2)) = t6 := ⟨_, rfl⟩
    refine T.hbind (us := [.f b1, .f b2]) (xs := [.b t6]) (ρ' := [.f a1, .f a2, .f b1, .f b2, .f c1, .f c2, .b t0, .b t2, .b t4, .b t6]) rfl (congrArg (fun r => [U.b r]) e7) rfl ?_
    refine T.hiteT (x := t4) rfl (e5.symm.trans (gA_of hN.1.1).2.2) ?_
    obtain ⟨t8, e9⟩ : ∃ t8, (Dy.fgt b1 0 || Dy.feq b1 0) = t8 := ⟨_, rfl⟩
    refine T.hbind (us := [.f b1, .f 0]) (xs := [.b t8]) (ρ' := [.f a1, .f a2, .f b1, .f b2, .f c1, .f c2, .b t0, .b t2, .b t4, .b t6, .b t8]) rfl (congrArg (fun r => [U.b r]) e9) rfl ?_
    refine T.hiteT (x := t8) rfl (e9.symm.trans (gC_of hN.1.2).2.1) ?_
    obtain ⟨t10, e11⟩ : ∃ t10, (Dy.flt b2 4607182418800017408 || Dy.feq b2 4607182418800017408) = t10 := ⟨_, rfl⟩
    refine T.hbind (us := [.f b2, .f 4607182418800017408]) (xs := [.b t10]) (ρ' := [.f a1, .f a2, .f b1, .f b2, .f c1, .f c2, .b t0, .b t2, .b t4, .b t6, .b t8, .b t10]) rfl (congrArg (fun r => [U.b r]) e11) rfl ?_
    refine T.hiteT (x := t6) rfl (e7.symm.trans (gC_of hN.1.2).1) ?_
    obtain ⟨t12, e13⟩ : ∃ t12, (Dy.ivR (c1, c2)) = t12 := ⟨_, rfl⟩
    refine T.hbind (us := [.f c1, .f c2]) (xs := [.b t12]) (ρ' := [.f a1, .f a2, .f b1, .f b2, .f c1, .f c2, .b t0, .b t2, .b t4, .b t6, .b t8, .b t10, .b t12]) rfl (congrArg (fun r => [U.b r]) e13) rfl ?_
    refine T.hiteT (x := t10) rfl (e11.symm.trans (gC_of hN.1.2).2.2) ?_
    obtain ⟨t14, e15⟩ : ∃ t14, (Dy.fgt c1 0 || Dy.feq c1 0) = t14 := ⟨_, rfl⟩
    refine T.hbind (us := [.f c1, .f 0]) (xs := [.b t14]) (ρ' := [.f a1, .f a2, .f b1, .f b2, .f c1, .f c2, .b t0, .b t2, .b t4, .b t6, .b t8, .b t10, .b t12, .b t14]) rfl (congrArg (fun r => [U.b r]) e15) rfl ?_
    refine T.hiteT (x := t14) rfl (e15.symm.trans (gC_of hN.2).2.1) ?_
    obtain ⟨t16, e17⟩ : ∃ t16, (Dy.flt c2 4607182418800017408 || Dy.feq c2 4607182418800017408) = t16 := ⟨_, rfl⟩
    refine T.hbind (us := [.f c2, .f 4607182418800017408]) (xs := [.b t16]) (ρ' := [.f a1, .f a2, .f b1, .f b2, .f c1, .f c2, .b t0, .b t2, .b t4, .b t6, .b t8, .b t10, .b t12, .b t14, .b t16]) rfl (congrArg (fun r => [U.b r]) e17) rfl ?_
    obtain ⟨t18, e19⟩ : ∃ t18, (!t12) = t18 := ⟨_, rfl⟩
    refine T.hbind (us := [.b t12]) (xs := [.b t18]) (ρ' := [.f a1, .f a2, .f b1, .f b2, .f c1, .f c2, .b t0, .b t2, .b t4, .b t6, .b t8, .b t10, .b t12, .b t14, .b t16, .b t18]) rfl (congrArg (fun r => [U.b r]) e19) rfl ?_
    refine T.hiteF (x := t18) rfl (e19.symm.trans (by rw [e13.symm.trans (gC_of hN.2).1]; rfl)) ?_
    obtain ⟨t20, e21⟩ : ∃ t20, (!t16) = t20 := ⟨_, rfl⟩
    refine T.hbind (us := [.b t16]) (xs := [.b t20]) (ρ' := [.f a1, .f a2, .f b1, .f b2, .f c1, .f c2, .b t0, .b t2, .b t4, .b t6, .b t8, .b t10, .b t12, .b t14, .b t16, .b t18, .b t20]) rfl (congrArg (fun r => [U.b r]) e21) rfl ?_
    refine T.hiteF (x := t20) rfl (e21.symm.trans (by rw [e17.symm.trans (gC_of hN.2).2.2]; rfl)) ?_
    obtain ⟨t22, t23, t24, e25⟩ : ∃ t22 t23 t24, (Dy.cSqr 0 (a1, a2)) = ((t22, t23), t24) := Dy.ex3 _
    have g25 := Dy.good_sqr (a := (a1, a2)) ⟨wa1, wa2⟩ (err := 0)
    rw [e25] at g25
    refine T.hbind (us := [.i 0, .f a1, .f a2]) (xs := [.f t22, .f t23, .i t24]) (ρ' := [.f a1, .f a2, .f b1, .f b2, .f c1, .f c2, .b t0, .b t2, .b t4, .b t6, .b t8, .b t10, .b t12, .b t14, .b t16, .b t18, .b t20, .f t22, .f t23, .i t24]) rfl (congrArg (fun r => [calR r 0, calR r 1, calR r 2]) e25) rfl ?_
    obtain ⟨t26, t27, t28, e29⟩ : ∃ t26 t27 t28, (seen2M (t22, t23) (b1, b2) (c1, c2) (t24)) = ((t26, t27), t28) := Dy.ex3 _
    refine T.hbind (us := [.i t24, .f t22, .f t23, .f b1, .f b2, .f c1, .f c2]) (xs := [.f t26, .f t27, .i t28]) (ρ' := [.f a1, .f a2, .f b1, .f b2, .f c1, .f c2, .b t0, .b t2, .b t4, .b t6, .b t8, .b t10, .b t12, .b t14, .b t16, .b t18, .b t20, .f t22, .f t23, .i t24, .f t26, .f t27, .i t28]) rfl (congrArg (fun r => [calR r 0, calR r 1, calR r 2]) e29) rfl ?_
    obtain ⟨t30, e31⟩ : ∃ t30, (t28 != 0) = t30 := ⟨_, rfl⟩
    refine T.hbind (us := [.i t28, .i 0]) (xs := [.b t30]) (ρ' := [.f a1, .f a2, .f b1, .f b2, .f c1, .f c2, .b t0, .b t2, .b t4, .b t6, .b t8, .b t10, .b t12, .b t14, .b t16, .b t18, .b t20, .f t22, .f t23, .i t24, .f t26, .f t27, .i t28, .b t30]) rfl (congrArg (fun r => [U.b r]) e31) rfl ?_
    refine T.hite (x := t30) ?_ ?_ ?_
    · rfl
    · intro c33
      refine T.hdone ?_
      have eM : g2M (b1, b2) (c1, c2) (a1, a2) 0 = ((t26, t27), t28) := by
        unfold g2M
        refine (Dy.cs_sqr e25).trans ?_
        first | exact e29 | (refine (Dy.cm_s (x := seen2M (t22, t23) (b1, b2) (c1, c2)) e29).trans ?_; rfl) | (refine (Dy.cm_s (x := seen2M (t22, t23) (b1, b2) (c1, c2)) e29).trans ?_; rw [Dy.cm_pure]; simp only [e1, e3, e5, e7, e9, e11, e13, e15, e17, e19, e21, e31, c33])
      have e00 : Dy.told (g2M (b1, b2) (c1, c2) (a1, a2) 0) = ((0, 0), t28) := by simp only [Dy.told, eM, e1, e3, e5, e7, e9, e11, e13, e15, e17, e19, e21, e31, c33, reduceIte, Bool.false_eq_true, Bool.true_eq_false, Bool.true_and, Bool.false_and, Bool.and_true, Bool.and_false, Bool.true_or, Bool.false_or, Bool.or_true, Bool.or_false, Bool.not_true, Bool.not_false] <;> simp_all
      exact ⟨⟨⟨(congrArg (fun r => some (calR r 0)) e00.symm), (congrArg (fun r => some (calR r 1)) e00.symm), trivial⟩, ⟨rfl, (congrArg (fun r => some (calR r 2)) e00.symm)⟩, trivial⟩, trivial, rfl⟩
    · intro c33
      refine T.hdone ?_
      have eM : g2M (b1, b2) (c1, c2) (a1, a2) 0 = ((t26, t27), t28) := by
        unfold g2M
        refine (Dy.cs_sqr e25).trans ?_
        first | exact e29 | (refine (Dy.cm_s (x := seen2M (t22, t23) (b1, b2) (c1, c2)) e29).trans ?_; rfl) | (refine (Dy.cm_s (x := seen2M (t22, t23) (b1, b2) (c1, c2)) e29).trans ?_; rw [Dy.cm_pure]; simp only [e1, e3, e5, e7, e9, e11, e13, e15, e17, e19, e21, e31, c33])
      have e00 : Dy.told (g2M (b1, b2) (c1, c2) (a1, a2) 0) = ((t26, t27), 0) := by simp only [Dy.told, eM, e1, e3, e5, e7, e9, e11, e13, e15, e17, e19, e21, e31, c33, reduceIte, Bool.false_eq_true, Bool.true_eq_false, Bool.true_and, Bool.false_and, Bool.and_true, Bool.and_false, Bool.true_or, Bool.false_or, Bool.or_true, Bool.or_false, Bool.not_true, Bool.not_false] <;> simp_all
      exact ⟨⟨⟨(congrArg (fun r => some (calR r 0)) e00.symm), (congrArg (fun r => some (calR r 1)) e00.symm), trivial⟩, ⟨rfl, (congrArg (fun r => some (calR r 2)) e00.symm)⟩, trivial⟩, trivial, rfl⟩

def z16 : List (Nat × Ct) := (111, ctOf_seen2) :: z15
theorem z16_ok : AllOk Try.prog z16 := ⟨ctOf_seen2_ok, z15_ok⟩

def ctG_D : Ct := ⟨4, [], [vp 0 1, vp 2 3], { binds := [⟨fun us i => calR (Dy.told (dM (gF us 2, gF us 3) (gF us 0, gF us 1) 0)) i, 3, [(.v 2), (.v 3), (.v 0), (.v 1)]⟩], needs := [⟨nG1, [(.v 2), (.v 3), (.v 0), (.v 1)]⟩], val := .tup [.agg [.fl (.v 4), .fl (.v 5)], .it .i64 (.v 6)], upd := [] }⟩
theorem ctG_D_ok : CtOk Try.prog 53 ctG_D := CtOk.flat z16_ok (dr_ok z16_ok) Try.func53 rfl (by decide) [] 200 ⟨[.tup [.agg [.fl (.v 4), .fl (.v 5)], .it .i64 (.v 6)]], [], 7, []⟩ (by kernel_rfl) rfl (by kernel_rfl) rfl (by kernel_rfl) (by kernel_rfl) (by kernel_rfl) (by kernel_rfl)

def z17 : List (Nat × Ct) := (53, ctG_D) :: z16
theorem z17_ok : AllOk Try.prog z17 := ⟨ctG_D_ok, z16_ok⟩

def ctG_Lambda : Ct := ⟨4, [], [vp 0 1, vp 2 3], { binds := [⟨fun us i => calR (Dy.told (lambdaM (gF us 2, gF us 3) (gF us 0, gF us 1) 0)) i, 3, [(.v 2), (.v 3), (.v 0), (.v 1)]⟩], needs := [⟨nG1, [(.v 2), (.v 3), (.v 0), (.v 1)]⟩], val := .tup [.agg [.fl (.v 4), .fl (.v 5)], .it .i64 (.v 6)], upd := [] }⟩
theorem ctG_Lambda_ok : CtOk Try.prog 114 ctG_Lambda := CtOk.flat z17_ok (dr_ok z17_ok) Try.func114 rfl (by decide) [] 200 ⟨[.tup [.agg [.fl (.v 4), .fl (.v 5)], .it .i64 (.v 6)]], [], 7, []⟩ (by kernel_rfl) rfl (by kernel_rfl) rfl (by kernel_rfl) (by kernel_rfl) (by kernel_rfl) (by kernel_rfl)

def z18 : List (Nat × Ct) := (114, ctG_Lambda) :: z17
theorem z18_ok : AllOk Try.prog z18 := ⟨ctG_Lambda_ok, z17_ok⟩

def ctG_Facing : Ct := ⟨4, [], [vp 0 1, vp 2 3], { binds := [⟨fun us i => calR (Dy.told (facingM (gF us 2, gF us 3) (gF us 0, gF us 1) 0)) i, 3, [(.v 2), (.v 3), (.v 0), (.v 1)]⟩], needs := [⟨nG1, [(.v 2), (.v 3), (.v 0), (.v 1)]⟩], val := .tup [.agg [.fl (.v 4), .fl (.v 5)], .it .i64 (.v 6)], upd := [] }⟩
theorem ctG_Facing_ok : CtOk Try.prog 52 ctG_Facing := CtOk.flat z18_ok (dr_ok z18_ok) Try.func52 rfl (by decide) [] 200 ⟨[.tup [.agg [.fl (.v 4), .fl (.v 5)], .it .i64 (.v 6)]], [], 7, []⟩ (by kernel_rfl) rfl (by kernel_rfl) rfl (by kernel_rfl) (by kernel_rfl) (by kernel_rfl) (by kernel_rfl)

def z19 : List (Nat × Ct) := (52, ctG_Facing) :: z18
theorem z19_ok : AllOk Try.prog z19 := ⟨ctG_Facing_ok, z18_ok⟩

def ctG_G1 : Ct := ⟨4, [], [vp 0 1, vp 2 3], { binds := [⟨fun us i => calR (Dy.told (g1M (gF us 2, gF us 3) (gF us 0, gF us 1) 0)) i, 3, [(.v 2), (.v 3), (.v 0), (.v 1)]⟩], needs := [⟨nG1, [(.v 2), (.v 3), (.v 0), (.v 1)]⟩], val := .tup [.agg [.fl (.v 4), .fl (.v 5)], .it .i64 (.v 6)], upd := [] }⟩
theorem ctG_G1_ok : CtOk Try.prog 66 ctG_G1 := CtOk.flat z19_ok (dr_ok z19_ok) Try.func66 rfl (by decide) [] 200 ⟨[.tup [.agg [.fl (.v 4), .fl (.v 5)], .it .i64 (.v 6)]], [], 7, []⟩ (by kernel_rfl) rfl (by kernel_rfl) rfl (by kernel_rfl) (by kernel_rfl) (by kernel_rfl) (by kernel_rfl)

def z20 : List (Nat × Ct) := (66, ctG_G1) :: z19
theorem z20_ok : AllOk Try.prog z20 := ⟨ctG_G1_ok, z19_ok⟩

def ctG_G2 : Ct := ⟨6, [], [vp 0 1, vp 2 3, vp 4 5], { binds := [⟨fun us i => calR (Dy.told (g2M (gF us 2, gF us 3) (gF us 4, gF us 5) (gF us 0, gF us 1) 0)) i, 3, [(.v 4), (.v 5), (.v 0), (.v 1), (.v 2), (.v 3)]⟩], needs := [⟨nG2, [(.v 4), (.v 5), (.v 0), (.v 1), (.v 2), (.v 3)]⟩], val := .tup [.agg [.fl (.v 6), .fl (.v 7)], .it .i64 (.v 8)], upd := [] }⟩
theorem ctG_G2_ok : CtOk Try.prog 65 ctG_G2 := CtOk.flat z20_ok (dr_ok z20_ok) Try.func65 rfl (by decide) [] 200 ⟨[.tup [.agg [.fl (.v 6), .fl (.v 7)], .it .i64 (.v 8)]], [], 9, []⟩ (by kernel_rfl) rfl (by kernel_rfl) rfl (by kernel_rfl) (by kernel_rfl) (by kernel_rfl) (by kernel_rfl)

def z21 : List (Nat × Ct) := (65, ctG_G2) :: z20
theorem z21_ok : AllOk Try.prog z21 := ⟨ctG_G2_ok, z20_ok⟩

end Go.Proofs.Ytikiegcncliocaa
