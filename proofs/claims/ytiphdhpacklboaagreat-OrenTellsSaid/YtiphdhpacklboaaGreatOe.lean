/- The law OrenTells walked, its two ways. -/
import Derived.Test.YtiphdhpacklboaaGreatOd
namespace Go.Proofs.YtiphdhpacklboaaGreat
open Go Go.RowKit
set_option linter.unusedSimpArgs false
set_option linter.unusedVariables false
def oe0 : List (Nat × Ct) := oD0
theorem oe0_ok : AllOk Tryz.prog oe0 := oD0_ok
def ctP08 : Ct := ⟨1, [], [vf 0], { binds := [⟨fun us _ => fB Ieee.double.add us, 1, [(.v 0), (.l (.f 0))]⟩, ⟨fun us _ => fB Ieee.double.add us, 1, [(.v 0), (.l (.f 0))]⟩], needs := [⟨fN Ieee.double.add, [(.v 0), (.l (.f 0))]⟩, ⟨fN Ieee.double.add, [(.v 0), (.l (.f 0))]⟩], val := .agg [.fl (.v 1), .fl (.v 2)], upd := [] }⟩
theorem ctP08_ok : CtOk Tryz.prog 35 ctP08 := CtOk.flat oe0_ok (dr_ok oe0_ok) Tryz.func35 rfl (by decide) [] 200 ⟨[.agg [.fl (.v 1), .fl (.v 2)]], [], 3, []⟩ (by kernel_rfl) rfl (by kernel_rfl) rfl (by kernel_rfl) (by kernel_rfl) (by kernel_rfl) (by kernel_rfl)
def oe1 : List (Nat × Ct) := (35, ctP08) :: oe0
theorem oe1_ok : AllOk Tryz.prog oe1 := ⟨ctP08_ok, oe0_ok⟩
def ctFrac : Ct := ⟨1, [], [vi .u32 0], { binds := [⟨fun us _ => nF us, 1, [(.v 0)]⟩, ⟨fun us _ => fB Ieee.double.div us, 1, [(.v 1), (.l (.f 4751297606873776128))]⟩], needs := [⟨nN, [(.v 0)]⟩, ⟨fN Ieee.double.div, [(.v 1), (.l (.f 4751297606873776128))]⟩], val := .fl (.v 2), upd := [] }⟩
theorem ctFrac_ok : CtOk Tryz.prog 68 ctFrac := CtOk.flat oe1_ok (dr_ok oe1_ok) Tryz.func68 rfl (by decide) [] 200 ⟨[.fl (.v 2)], [], 3, []⟩ (by kernel_rfl) rfl (by kernel_rfl) rfl (by kernel_rfl) (by kernel_rfl) (by kernel_rfl) (by kernel_rfl)
def oe2 : List (Nat × Ct) := (68, ctFrac) :: oe1
theorem oe2_ok : AllOk Tryz.prog oe2 := ⟨ctFrac_ok, oe1_ok⟩
def ctBtw : Ct := ⟨3, [], [vf 0, vf 1, vi .u32 2], { binds := [⟨fun us i => fRes (btwF (gF us 0) (gF us 1) (gI us 2)) i, 1, upto 0 3⟩], needs := [⟨nBtw, [.v 0, .v 1, .v 2]⟩], val := vf 3, upd := [] }⟩
set_option maxRecDepth 100000 in
set_option maxHeartbeats 8000000 in
theorem ctBtw_ok : CtOk Tryz.prog 36 ctBtw := by
 refine CtOk.of_eval2 oe2_ok (dr_ok oe2_ok) Tryz.func36 rfl (by decide) [] 200 (by kernel_rfl) rfl (.bind ⟨fun us _ => fB Ieee.double.sub us, 1, [(.v 1), (.v 0)]⟩ (.need ⟨fN Ieee.double.sub, [(.v 1), (.v 0)]⟩ (.bind ⟨fun us _ => nF us, 1, [(.v 2)]⟩ (.bind ⟨fun us _ => fB Ieee.double.div us, 1, [(.v 4), (.l (.f 4751297606873776128))]⟩ (.need ⟨nN, [(.v 2)]⟩ (.need ⟨fN Ieee.double.div, [(.v 4), (.l (.f 4751297606873776128))]⟩ (.bind ⟨fun us _ => fB Ieee.double.mul us, 1, [(.v 3), (.v 5)]⟩ (.need ⟨fN Ieee.double.mul, [(.v 3), (.v 5)]⟩ (.bind ⟨fun us _ => fB Ieee.double.add us, 1, [(.v 0), (.v 6)]⟩ (.need ⟨fN Ieee.double.add, [(.v 0), (.v 6)]⟩ (.bind ⟨fun us _ => cB Dy.flt us, 1, [(.v 7), (.v 0)]⟩ (.ite (.v 8) (.done .ret ⟨[.fl (.v 0)], [], 9, []⟩) (.bind ⟨fun us _ => cB Dy.fgt us, 1, [(.v 7), (.v 1)]⟩ (.ite (.v 9) (.done .ret ⟨[.fl (.v 1)], [], 10, []⟩) (.done .ret ⟨[.fl (.v 7)], [], 10, []⟩))))))))))))))) (by kernel_rfl) (by kernel_rfl) (by kernel_rfl) (fun us hl hF hB hN => ?_)
 match us, hl with
 | [u0, u1, u2], _ =>
  simp [FactsB, FactsL, Facts, ctBtw] at hF hB
  simp [NeedsAt, runB, evs, E.ev, upto, resl, List.range, List.range.loop, ctBtw] at hN
  obtain ⟨⟨a1, rfl, w1⟩, ⟨a2, rfl, w2⟩, ⟨u, rfl⟩⟩ := hF
  simp [nBtw, btwN, fracN, gF, gI, U.F, U.I] at hN
  obtain ⟨⟨⟨⟨n1, n2⟩, n3⟩, n4⟩, n5⟩ := hN
  refine T.HH.h ?_
  obtain ⟨t0, e1⟩ : ∃ t0, ((Ieee.double.sub a2 a1).getD 0) = t0 := ⟨_, rfl⟩
  refine T.hbind (us := [.f a2, .f a1]) (xs := [.f t0]) rfl (uF e1) rfl ?_
  refine T.hneed (us := [.f a2, .f a1]) rfl (by subst e1; exact n3) ?_
  obtain ⟨t2, e3⟩ : ∃ t2, (FloatKind.f64.nearest u) = t2 := ⟨_, rfl⟩
  refine T.hbind (us := [.i u]) (xs := [.f t2]) rfl (uF e3) rfl ?_
  obtain ⟨t4, e5⟩ : ∃ t4, ((Ieee.double.div t2 4751297606873776128).getD 0) = t4 := ⟨_, rfl⟩
  refine T.hbind (us := [.f t2, .f 4751297606873776128]) (xs := [.f t4]) rfl (uF e5) rfl ?_
  refine T.hneed (us := [.i u]) rfl (decide_eq_true n1) ?_
  refine T.hneed (us := [.f t2, .f 4751297606873776128]) rfl (by subst e1; subst e3; subst e5; exact n2) ?_
  obtain ⟨t6, e7⟩ : ∃ t6, ((Ieee.double.mul t0 t4).getD 0) = t6 := ⟨_, rfl⟩
  refine T.hbind (us := [.f t0, .f t4]) (xs := [.f t6]) rfl (uF e7) rfl ?_
  refine T.hneed (us := [.f t0, .f t4]) rfl (by subst e1; subst e3; subst e5; subst e7; exact n4) ?_
  obtain ⟨t8, e9⟩ : ∃ t8, ((Ieee.double.add a1 t6).getD 0) = t8 := ⟨_, rfl⟩
  refine T.hbind (us := [.f a1, .f t6]) (xs := [.f t8]) rfl (uF e9) rfl ?_
  refine T.hneed (us := [.f a1, .f t6]) rfl (by subst e1; subst e3; subst e5; subst e7; subst e9; exact n5) ?_
  obtain ⟨t10, e11⟩ : ∃ t10, (Dy.flt t8 a1) = t10 := ⟨_, rfl⟩
  refine T.hbind (us := [.f t8, .f a1]) (xs := [.b t10]) rfl (uB e11) rfl ?_
  refine T.hite (x := t10) ?_ ?_ ?_
  ·rfl
  ·intro c13
   refine T.hdone ?_
   have e00 : btwF (a1) (a2) (u) = a1 := by simp only [btwF, btwT, fracF, e1, e3, e5, e7, e9, e11, c13] <;> simp_all
   exact ⟨(congrArg (fun r => some (fRes r 0)) e00.symm), trivial, rfl⟩
  ·intro c13
   obtain ⟨t13, e14⟩ : ∃ t13, (Dy.fgt t8 a2) = t13 := ⟨_, rfl⟩
   refine T.hbind (us := [.f t8, .f a2]) (xs := [.b t13]) rfl (uB e14) rfl ?_
   refine T.hite (x := t13) ?_ ?_ ?_
   ·rfl
   ·intro c16
    refine T.hdone ?_
    have e00 : btwF (a1) (a2) (u) = a2 := by simp only [btwF, btwT, fracF, e1, e3, e5, e7, e9, e11, c13, e14, c16] <;> simp_all
    exact ⟨(congrArg (fun r => some (fRes r 0)) e00.symm), trivial, rfl⟩
   ·intro c16
    refine T.hdone ?_
    have e00 : btwF (a1) (a2) (u) = t8 := by simp only [btwF, btwT, fracF, e1, e3, e5, e7, e9, e11, c13, e14, c16] <;> simp_all
    exact ⟨(congrArg (fun r => some (fRes r 0)) e00.symm), trivial, rfl⟩
def oe3 : List (Nat × Ct) := (36, ctBtw) :: oe2
theorem oe3_ok : AllOk Tryz.prog oe3 := ⟨ctBtw_ok, oe2_ok⟩
def ctSpan : Ct := ⟨4, [], [vf 0, vf 1, vi .u32 2, vi .u32 3], { binds := [⟨fun us i => ivU (spanF (gF us 0) (gF us 1) (gI us 2) (gI us 3)) i, 2, upto 0 4⟩], needs := [⟨nSpan, [.v 0, .v 1, .v 2, .v 3]⟩], val := vp 4 5, upd := [] }⟩
set_option maxRecDepth 100000 in
set_option maxHeartbeats 8000000 in
theorem ctSpan_ok : CtOk Tryz.prog 13 ctSpan := by
 refine CtOk.of_eval2 oe3_ok (dr_ok oe3_ok) Tryz.func13 rfl (by decide) [] 200 (by kernel_rfl) rfl (.bind ⟨fun us i => fRes (btwF (gF us 0) (gF us 1) (gI us 2)) i, 1, [(.v 0), (.v 1), (.v 2)]⟩ (.need ⟨nBtw, [(.v 0), (.v 1), (.v 2)]⟩ (.bind ⟨fun us i => fRes (btwF (gF us 0) (gF us 1) (gI us 2)) i, 1, [(.v 0), (.v 1), (.v 3)]⟩ (.need ⟨nBtw, [(.v 0), (.v 1), (.v 3)]⟩ (.bind ⟨fun us _ => cB Dy.fgt us, 1, [(.v 4), (.v 5)]⟩ (.ite (.v 6) (.done .ret ⟨[.agg [.fl (.v 5), .fl (.v 4)]], [], 7, []⟩) (.done .ret ⟨[.agg [.fl (.v 4), .fl (.v 5)]], [], 7, []⟩))))))) (by kernel_rfl) (by kernel_rfl) (by kernel_rfl) (fun us hl hF hB hN => ?_)
 match us, hl with
 | [u0, u1, u2, u3], _ =>
  simp [FactsB, FactsL, Facts, ctSpan] at hF hB
  simp [NeedsAt, runB, evs, E.ev, upto, resl, List.range, List.range.loop, ctSpan] at hN
  obtain ⟨⟨a1, rfl, w1⟩, ⟨a2, rfl, w2⟩, ⟨u, rfl⟩, ⟨v, rfl⟩⟩ := hF
  simp [nSpan, gF, gI, U.F, U.I] at hN
  refine T.HH.h ?_
  obtain ⟨t0, e1⟩ : ∃ t0, ((btwF (a1) (a2) (u))) = t0 := ⟨_, rfl⟩
  refine T.hbind (us := [.f a1, .f a2, .i u]) (xs := [.f t0]) (ρ' := [.f a1, .f a2, .i u, .i v, .f t0]) rfl (uF e1) rfl ?_
  refine T.hneed (us := [.f a1, .f a2, .i u]) rfl (hN.1) ?_
  obtain ⟨t2, e3⟩ : ∃ t2, ((btwF (a1) (a2) (v))) = t2 := ⟨_, rfl⟩
  refine T.hbind (us := [.f a1, .f a2, .i v]) (xs := [.f t2]) rfl (uF e3) rfl ?_
  refine T.hneed (us := [.f a1, .f a2, .i v]) rfl (hN.2) ?_
  obtain ⟨t4, e5⟩ : ∃ t4, (Dy.fgt t0 t2) = t4 := ⟨_, rfl⟩
  refine T.hbind (us := [.f t0, .f t2]) (xs := [.b t4]) rfl (uB e5) rfl ?_
  refine T.hite (x := t4) ?_ ?_ ?_
  ·rfl
  ·intro c7
   refine T.hdone ?_
   have e00 : spanF (a1) (a2) (u) (v) = (t2, t0) := by simp only [spanF, e1, e3, e5, c7] <;> simp_all
   exact ⟨⟨vI e00 0, vI e00 1, trivial⟩, trivial, rfl⟩
  ·intro c7
   refine T.hdone ?_
   have e00 : spanF (a1) (a2) (u) (v) = (t0, t2) := by simp only [spanF, e1, e3, e5, c7] <;> simp_all
   exact ⟨⟨vI e00 0, vI e00 1, trivial⟩, trivial, rfl⟩
def oe4 : List (Nat × Ct) := (13, ctSpan) :: oe3
theorem oe4_ok : AllOk Tryz.prog oe4 := ⟨ctSpan_ok, oe3_ok⟩
def ctAskV : Ct := ⟨10, [], [.agg [.fl (.v 0), .fl (.v 1), .fl (.v 2), .fl (.v 3), .fl (.v 4), .fl (.v 5), .fl (.v 6), .fl (.v 7), .fl (.v 8), .fl (.v 9)]], { binds := [⟨fun us i => calR ((oVal (gF us 0, gF us 1) (gF us 2, gF us 3) (gF us 4, gF us 5) (gF us 6, gF us 7) (gF us 8, gF us 9))) i, 3, [(.v 0), (.v 1), (.v 2), (.v 3), (.v 4), (.v 5), (.v 6), (.v 7), (.v 8), (.v 9)]⟩], needs := [], val := .tup [.agg [.fl (.v 10), .fl (.v 11)], .it .i64 (.v 12)], upd := [] }⟩
theorem ctAskV_ok : CtOk Tryz.prog 10 ctAskV := CtOk.flat oe4_ok (dr_ok oe4_ok) Tryz.func10 rfl (by decide) [] 200 ⟨[.tup [.agg [.fl (.v 10), .fl (.v 11)], .it .i64 (.v 12)]], [], 13, []⟩ (by kernel_rfl) rfl (by kernel_rfl) rfl (by kernel_rfl) (by kernel_rfl) (by kernel_rfl) (by kernel_rfl)
def oe5 : List (Nat × Ct) := (10, ctAskV) :: oe4
theorem oe5_ok : AllOk Tryz.prog oe5 := ⟨ctAskV_ok, oe4_ok⟩
def ctAskW : Ct := ⟨10, [], [.agg [vi .u32 0, vi .u32 1, vi .u32 2, vi .u32 3, vi .u32 4, vi .u32 5, vi .u32 6, vi .u32 7, vi .u32 8, vi .u32 9]], { binds := [⟨fun us i => ivU (spanF (gF us 0) (gF us 1) (gI us 2) (gI us 3)) i, 2, [(.l (.f 0)), (.l (.f 4607182418800017408)), (.v 0), (.v 1)]⟩, ⟨fun us i => ivU (spanF (gF us 0) (gF us 1) (gI us 2) (gI us 3)) i, 2, [(.l (.f 0)), (.l (.f 4607182418800017408)), (.v 2), (.v 3)]⟩, ⟨fun us i => ivU (spanF (gF us 0) (gF us 1) (gI us 2) (gI us 3)) i, 2, [(.l (.f 0)), (.l (.f 4607182418800017408)), (.v 4), (.v 5)]⟩, ⟨fun us i => ivU (spanF (gF us 0) (gF us 1) (gI us 2) (gI us 3)) i, 2, [(.l (.f 0)), (.l (.f 4607182418800017408)), (.v 6), (.v 7)]⟩, ⟨fun us i => ivU (spanF (gF us 0) (gF us 1) (gI us 2) (gI us 3)) i, 2, [(.l (.f 13830554455654793216)), (.l (.f 4607182418800017408)), (.v 8), (.v 9)]⟩], needs := [⟨nSpan, [(.l (.f 0)), (.l (.f 4607182418800017408)), (.v 0), (.v 1)]⟩, ⟨nSpan, [(.l (.f 0)), (.l (.f 4607182418800017408)), (.v 2), (.v 3)]⟩, ⟨nSpan, [(.l (.f 0)), (.l (.f 4607182418800017408)), (.v 4), (.v 5)]⟩, ⟨nSpan, [(.l (.f 0)), (.l (.f 4607182418800017408)), (.v 6), (.v 7)]⟩, ⟨nSpan, [(.l (.f 13830554455654793216)), (.l (.f 4607182418800017408)), (.v 8), (.v 9)]⟩], val := .agg [.fl (.v 10), .fl (.v 11), .fl (.v 12), .fl (.v 13), .fl (.v 14), .fl (.v 15), .fl (.v 16), .fl (.v 17), .fl (.v 18), .fl (.v 19)], upd := [] }⟩
theorem ctAskW_ok : CtOk Tryz.prog 5 ctAskW := CtOk.flat oe5_ok (dr_ok oe5_ok) Tryz.func5 rfl (by decide) [] 200 ⟨[.agg [.fl (.v 10), .fl (.v 11), .fl (.v 12), .fl (.v 13), .fl (.v 14), .fl (.v 15), .fl (.v 16), .fl (.v 17), .fl (.v 18), .fl (.v 19)]], [], 20, []⟩ (by kernel_rfl) rfl (by kernel_rfl) rfl (by kernel_rfl) (by kernel_rfl) (by kernel_rfl) (by kernel_rfl)
def oe6 : List (Nat × Ct) := (5, ctAskW) :: oe5
theorem oe6_ok : AllOk Tryz.prog oe6 := ⟨ctAskW_ok, oe5_ok⟩
def ctAwake08 : Ct := ctTrue
theorem ctAwake08_ok : CtOk Tryz.prog 12 ctAwake08 := ctTrue_ok oe6_ok (dr_ok oe6_ok) Tryz.func12 rfl (by decide) 200 _ rfl (by kernel_rfl)
def oe7 : List (Nat × Ct) := (12, ctAwake08) :: oe6
theorem oe7_ok : AllOk Tryz.prog oe7 := ⟨ctAwake08_ok, oe6_ok⟩
set_option maxRecDepth 100000 in
set_option maxHeartbeats 4000000 in
theorem orentells_e (a0 a1 a2 a3 a4 a5 a6 a7 a8 a9 : Nat) (u0 u1 u2 u3 u4 u5 u6 u7 u8 u9 : Int) (w : World) (w0 : Dy.W a0) (w1 : Dy.W a1) (w2 : Dy.W a2) (w3 : Dy.W a3) (w4 : Dy.W a4) (w5 : Dy.W a5) (w6 : Dy.W a6) (w7 : Dy.W a7) (w8 : Dy.W a8) (w9 : Dy.W a9) {t0 : Int} {t1 : Nat} {t2 : Nat} {t3 : Nat} {t4 : Nat} {t5 : Nat} {t6 : Nat} {t7 : Nat} {t8 : Nat} {t9 : Nat} {t10 : Nat} {t11 : Nat} {t12 : Nat} {t13 : Nat} {t14 : Nat} {t15 : Int} {t16 : Nat} {t17 : Nat} {t18 : Int} {t19 : Nat} {t20 : Nat} {t21 : Int} (h0 : (u0.tmod 2) = t0) (h1 : (t0 == 0) = true) (h2 : (spanF (0) (4607182418800017408) (u0) (u1)) = (t1, t2)) (h3 : (spanF (0) (4607182418800017408) (u2) (u3)) = (t3, t4)) (h4 : (spanF (0) (4607182418800017408) (u4) (u5)) = (t5, t6)) (h5 : (spanF (0) (4607182418800017408) (u6) (u7)) = (t7, t8)) (h6 : (spanF (13830554455654793216) (4607182418800017408) (u8) (u9)) = (t9, t10)) (h7 : nSpan [.f 0, .f 4607182418800017408, .i u0, .i u1] = true) (h8 : nSpan [.f 0, .f 4607182418800017408, .i u2, .i u3] = true) (h9 : nSpan [.f 0, .f 4607182418800017408, .i u4, .i u5] = true) (h10 : nSpan [.f 0, .f 4607182418800017408, .i u6, .i u7] = true) (h11 : nSpan [.f 13830554455654793216, .f 4607182418800017408, .i u8, .i u9] = true) (h12 : ((oPair (t3, t4))) = (((t11, t12), (t13, t14)), t15)) (h13 : ((oSlope (t5, t6) (t7, t8) (t9, t10))) = ((t16, t17), t18)) (h14 : ((oVal (t1, t2) (t3, t4) (t5, t6) (t7, t8) (t9, t10))) = ((t19, t20), t21)) (h15 : ((Dy.feq t11 t11 && (Dy.feq t12 t12 && true))) = true) (h16 : ((Dy.feq t13 t13 && (Dy.feq t14 t14 && true))) = true) (h17 : (t15 == t15) = true) (h18 : ((Dy.feq t16 t16 && (Dy.feq t17 t17 && true))) = true) (h19 : (t18 == t18) = true) (h20 : ((Dy.feq t19 t19 && (Dy.feq t20 t20 && true))) = true) (h21 : (t21 == t21) = true) : Calls Tryz.prog 3 #[.agg #[.float .f64 a0, .float .f64 a1, .float .f64 a2, .float .f64 a3, .float .f64 a4, .float .f64 a5, .float .f64 a6, .float .f64 a7, .float .f64 a8, .float .f64 a9], .agg #[.int .u32 u0, .int .u32 u1, .int .u32 u2, .int .u32 u3, .int .u32 u4, .int .u32 u5, .int .u32 u6, .int .u32 u7, .int .u32 u8, .int .u32 u9]] w fun e w' => e = .returned (.bool true) ∧ Below w.heap.size w w' := by
 refine law_calls (vs := [.agg #[.float .f64 a0, .float .f64 a1, .float .f64 a2, .float .f64 a3, .float .f64 a4, .float .f64 a5, .float .f64 a6, .float .f64 a7, .float .f64 a8, .float .f64 a9], .agg #[.int .u32 u0, .int .u32 u1, .int .u32 u2, .int .u32 u3, .int .u32 u4, .int .u32 u5, .int .u32 u6, .int .u32 u7, .int .u32 u8, .int .u32 u9]]) (us := [.f a0, .f a1, .f a2, .f a3, .f a4, .f a5, .f a6, .f a7, .f a8, .f a9, .i u0, .i u1, .i u2, .i u3, .i u4, .i u5, .i u6, .i u7, .i u8, .i u9]) (args := [.agg [vf 0, vf 1, vf 2, vf 3, vf 4, vf 5, vf 6, vf 7, vf 8, vf 9], .agg [vi .u32 10, vi .u32 11, vi .u32 12, vi .u32 13, vi .u32 14, vi .u32 15, vi .u32 16, vi .u32 17, vi .u32 18, vi .u32 19]]) oe7_ok (dr_ok oe7_ok) Tryz.func3 [] 200 20 rfl [true, true, true, true, true, true, true, true] (t := .bind ⟨fun us _ => iB (fun a b => a.tmod b) us, 1, [(.v 10), (.l (.i 2))]⟩ (.need ⟨iN, [(.v 10), (.l (.i 2))]⟩ (.bind ⟨fun us _ => jB (fun a b => a == b) us, 1, [(.v 20), (.l (.i 0))]⟩ (.need ⟨pT, [(.v 21)]⟩ (.bind ⟨fun us i => ivU (spanF (gF us 0) (gF us 1) (gI us 2) (gI us 3)) i, 2, [(.l (.f 0)), (.l (.f 4607182418800017408)), (.v 10), (.v 11)]⟩ (.bind ⟨fun us i => ivU (spanF (gF us 0) (gF us 1) (gI us 2) (gI us 3)) i, 2, [(.l (.f 0)), (.l (.f 4607182418800017408)), (.v 12), (.v 13)]⟩ (.bind ⟨fun us i => ivU (spanF (gF us 0) (gF us 1) (gI us 2) (gI us 3)) i, 2, [(.l (.f 0)), (.l (.f 4607182418800017408)), (.v 14), (.v 15)]⟩ (.bind ⟨fun us i => ivU (spanF (gF us 0) (gF us 1) (gI us 2) (gI us 3)) i, 2, [(.l (.f 0)), (.l (.f 4607182418800017408)), (.v 16), (.v 17)]⟩ (.bind ⟨fun us i => ivU (spanF (gF us 0) (gF us 1) (gI us 2) (gI us 3)) i, 2, [(.l (.f 13830554455654793216)), (.l (.f 4607182418800017408)), (.v 18), (.v 19)]⟩ (.need ⟨nSpan, [(.l (.f 0)), (.l (.f 4607182418800017408)), (.v 10), (.v 11)]⟩ (.need ⟨nSpan, [(.l (.f 0)), (.l (.f 4607182418800017408)), (.v 12), (.v 13)]⟩ (.need ⟨nSpan, [(.l (.f 0)), (.l (.f 4607182418800017408)), (.v 14), (.v 15)]⟩ (.need ⟨nSpan, [(.l (.f 0)), (.l (.f 4607182418800017408)), (.v 16), (.v 17)]⟩ (.need ⟨nSpan, [(.l (.f 13830554455654793216)), (.l (.f 4607182418800017408)), (.v 18), (.v 19)]⟩ (.bind ⟨fun us i => pairU ((oPair (gF us 0, gF us 1))) i, 5, [(.v 24), (.v 25)]⟩ (.bind ⟨fun us i => pairU (oPair (gF us 0, gF us 1)) i, 5, [(.v 24), (.v 25)]⟩ (.bind ⟨fun us i => calR ((oSlope (gF us 0, gF us 1) (gF us 2, gF us 3) (gF us 4, gF us 5))) i, 3, [(.v 26), (.v 27), (.v 28), (.v 29), (.v 30), (.v 31)]⟩ (.bind ⟨fun us i => calR (oSlope (gF us 0, gF us 1) (gF us 2, gF us 3) (gF us 4, gF us 5)) i, 3, [(.v 26), (.v 27), (.v 28), (.v 29), (.v 30), (.v 31)]⟩ (.bind ⟨fun us i => calR ((oVal (gF us 0, gF us 1) (gF us 2, gF us 3) (gF us 4, gF us 5) (gF us 6, gF us 7) (gF us 8, gF us 9))) i, 3, [(.v 22), (.v 23), (.v 24), (.v 25), (.v 26), (.v 27), (.v 28), (.v 29), (.v 30), (.v 31)]⟩ (.bind ⟨fun us i => calR (oVal (gF us 0, gF us 1) (gF us 2, gF us 3) (gF us 4, gF us 5) (gF us 6, gF us 7) (gF us 8, gF us 9)) i, 3, [(.v 22), (.v 23), (.v 24), (.v 25), (.v 26), (.v 27), (.v 28), (.v 29), (.v 30), (.v 31)]⟩ (.bind ⟨fun us _ => eqB [Kd.f, Kd.f] us, 1, [(.v 32), (.v 37), (.v 33), (.v 38)]⟩ (.need ⟨pT, [(.v 54)]⟩ (.bind ⟨fun us _ => eqB [Kd.f, Kd.f] us, 1, [(.v 34), (.v 39), (.v 35), (.v 40)]⟩ (.need ⟨pT, [(.v 55)]⟩ (.bind ⟨fun us _ => jB (fun a b => a == b) us, 1, [(.v 36), (.v 41)]⟩ (.need ⟨pT, [(.v 56)]⟩ (.bind ⟨fun us _ => eqB [Kd.f, Kd.f] us, 1, [(.v 42), (.v 45), (.v 43), (.v 46)]⟩ (.need ⟨pT, [(.v 57)]⟩ (.bind ⟨fun us _ => jB (fun a b => a == b) us, 1, [(.v 44), (.v 47)]⟩ (.need ⟨pT, [(.v 58)]⟩ (.bind ⟨fun us _ => eqB [Kd.f, Kd.f] us, 1, [(.v 48), (.v 51), (.v 49), (.v 52)]⟩ (.need ⟨pT, [(.v 59)]⟩ (.bind ⟨fun us _ => jB (fun a b => a == b) us, 1, [(.v 50), (.v 53)]⟩ (.need ⟨pT, [(.v 60)]⟩ (.done .ret ⟨[.bo (.l (.b true))], [], 61, []⟩))))))))))))))))))))))))))))))))))) (by kernel_rfl) ?_ (denL_cons.2 ⟨_, _, (agg_mk (denL_cons.2 ⟨_, _, (fl_den rfl w0), (denL_cons.2 ⟨_, _, (fl_den rfl w1), (denL_cons.2 ⟨_, _, (fl_den rfl w2), (denL_cons.2 ⟨_, _, (fl_den rfl w3), (denL_cons.2 ⟨_, _, (fl_den rfl w4), (denL_cons.2 ⟨_, _, (fl_den rfl w5), (denL_cons.2 ⟨_, _, (fl_den rfl w6), (denL_cons.2 ⟨_, _, (fl_den rfl w7), (denL_cons.2 ⟨_, _, (fl_den rfl w8), (denL_cons.2 ⟨_, _, (fl_den rfl w9), rfl, rfl⟩), rfl⟩), rfl⟩), rfl⟩), rfl⟩), rfl⟩), rfl⟩), rfl⟩), rfl⟩), rfl⟩)), (denL_cons.2 ⟨_, _, (agg_mk (denL_cons.2 ⟨_, _, (it_den rfl), (denL_cons.2 ⟨_, _, (it_den rfl), (denL_cons.2 ⟨_, _, (it_den rfl), (denL_cons.2 ⟨_, _, (it_den rfl), (denL_cons.2 ⟨_, _, (it_den rfl), (denL_cons.2 ⟨_, _, (it_den rfl), (denL_cons.2 ⟨_, _, (it_den rfl), (denL_cons.2 ⟨_, _, (it_den rfl), (denL_cons.2 ⟨_, _, (it_den rfl), (denL_cons.2 ⟨_, _, (it_den rfl), rfl, rfl⟩), rfl⟩), rfl⟩), rfl⟩), rfl⟩), rfl⟩), rfl⟩), rfl⟩), rfl⟩), rfl⟩)), rfl, rfl⟩), rfl⟩)
 refine T.HH.h ?_
 refine T.hbind (us := [.i u0, .i 2]) (xs := [.i t0]) rfl (uJ h0) rfl ?_
 refine T.hneed (us := [.i u0, .i 2]) rfl (rfl) ?_
 refine T.hbind (us := [.i t0, .i 0]) (xs := [.b true]) rfl (uB h1) rfl ?_
 refine T.hneed (us := [.b true]) rfl (rfl) ?_
 refine T.hbind (us := [.f 0, .f 4607182418800017408, .i u0, .i u1]) (xs := [.f t1, .f t2]) rfl (uI h2) rfl ?_
 refine T.hbind (us := [.f 0, .f 4607182418800017408, .i u2, .i u3]) (xs := [.f t3, .f t4]) rfl (uI h3) rfl ?_
 refine T.hbind (us := [.f 0, .f 4607182418800017408, .i u4, .i u5]) (xs := [.f t5, .f t6]) rfl (uI h4) rfl ?_
 refine T.hbind (us := [.f 0, .f 4607182418800017408, .i u6, .i u7]) (xs := [.f t7, .f t8]) (ρ' := [.f a0, .f a1, .f a2, .f a3, .f a4, .f a5, .f a6, .f a7, .f a8, .f a9, .i u0, .i u1, .i u2, .i u3, .i u4, .i u5, .i u6, .i u7, .i u8, .i u9, .i t0, .b true, .f t1, .f t2, .f t3, .f t4, .f t5, .f t6, .f t7, .f t8]) rfl (uI h5) rfl ?_
 refine T.hbind (us := [.f 13830554455654793216, .f 4607182418800017408, .i u8, .i u9]) (xs := [.f t9, .f t10]) rfl (uI h6) rfl ?_
 refine T.hneed (us := [.f 0, .f 4607182418800017408, .i u0, .i u1]) rfl (h7) ?_
 refine T.hneed (us := [.f 0, .f 4607182418800017408, .i u2, .i u3]) rfl (h8) ?_
 refine T.hneed (us := [.f 0, .f 4607182418800017408, .i u4, .i u5]) rfl (h9) ?_
 refine T.hneed (us := [.f 0, .f 4607182418800017408, .i u6, .i u7]) rfl (h10) ?_
 refine T.hneed (us := [.f 13830554455654793216, .f 4607182418800017408, .i u8, .i u9]) rfl (h11) ?_
 refine T.hbind (us := [.f t3, .f t4]) (xs := [.f t11, .f t12, .f t13, .f t14, .i t15]) rfl (congrArg (fun r => [pairU r 0, pairU r 1, pairU r 2, pairU r 3, pairU r 4]) h12) rfl ?_
 refine T.hbind (us := [.f t3, .f t4]) (xs := [.f t11, .f t12, .f t13, .f t14, .i t15]) rfl (congrArg (fun r => [pairU r 0, pairU r 1, pairU r 2, pairU r 3, pairU r 4]) h12) rfl ?_
 refine T.hbind (us := [.f t5, .f t6, .f t7, .f t8, .f t9, .f t10]) (xs := [.f t16, .f t17, .i t18]) rfl (uC h13) rfl ?_
 refine T.hbind (us := [.f t5, .f t6, .f t7, .f t8, .f t9, .f t10]) (xs := [.f t16, .f t17, .i t18]) rfl (uC h13) rfl ?_
 refine T.hbind (us := [.f t1, .f t2, .f t3, .f t4, .f t5, .f t6, .f t7, .f t8, .f t9, .f t10]) (xs := [.f t19, .f t20, .i t21]) rfl (uC h14) rfl ?_
 refine T.hbind (us := [.f t1, .f t2, .f t3, .f t4, .f t5, .f t6, .f t7, .f t8, .f t9, .f t10]) (xs := [.f t19, .f t20, .i t21]) rfl (uC h14) rfl ?_
 refine T.hbind (us := [.f t11, .f t11, .f t12, .f t12]) (xs := [.b true]) (ρ' := [.f a0, .f a1, .f a2, .f a3, .f a4, .f a5, .f a6, .f a7, .f a8, .f a9, .i u0, .i u1, .i u2, .i u3, .i u4, .i u5, .i u6, .i u7, .i u8, .i u9, .i t0, .b true, .f t1, .f t2, .f t3, .f t4, .f t5, .f t6, .f t7, .f t8, .f t9, .f t10, .f t11, .f t12, .f t13, .f t14, .i t15, .f t11, .f t12, .f t13, .f t14, .i t15, .f t16, .f t17, .i t18, .f t16, .f t17, .i t18, .f t19, .f t20, .i t21, .f t19, .f t20, .i t21, .b true]) rfl (uB h15) rfl ?_
 refine T.hneed (us := [.b true]) rfl (rfl) ?_
 refine T.hbind (us := [.f t13, .f t13, .f t14, .f t14]) (xs := [.b true]) rfl (uB h16) rfl ?_
 refine T.hneed (us := [.b true]) rfl (rfl) ?_
 refine T.hbind (us := [.i t15, .i t15]) (xs := [.b true]) rfl (uB h17) rfl ?_
 refine T.hneed (us := [.b true]) rfl (rfl) ?_
 refine T.hbind (us := [.f t16, .f t16, .f t17, .f t17]) (xs := [.b true]) rfl (uB h18) rfl ?_
 refine T.hneed (us := [.b true]) rfl (rfl) ?_
 refine T.hbind (us := [.i t18, .i t18]) (xs := [.b true]) rfl (uB h19) rfl ?_
 refine T.hneed (us := [.b true]) rfl (rfl) ?_
 refine T.hbind (us := [.f t19, .f t19, .f t20, .f t20]) (xs := [.b true]) rfl (uB h20) rfl ?_
 refine T.hneed (us := [.b true]) rfl (rfl) ?_
 refine T.hbind (us := [.i t21, .i t21]) (xs := [.b true]) rfl (uB h21) rfl ?_
 refine T.hneed (us := [.b true]) rfl (rfl) ?_
 exact T.hdone rfl
set_option maxRecDepth 100000 in
set_option maxHeartbeats 4000000 in
theorem orentells_o (a0 a1 a2 a3 a4 a5 a6 a7 a8 a9 : Nat) (u0 u1 u2 u3 u4 u5 u6 u7 u8 u9 : Int) (w : World) (w0 : Dy.W a0) (w1 : Dy.W a1) (w2 : Dy.W a2) (w3 : Dy.W a3) (w4 : Dy.W a4) (w5 : Dy.W a5) (w6 : Dy.W a6) (w7 : Dy.W a7) (w8 : Dy.W a8) (w9 : Dy.W a9) {t0 : Int} {t1 : Nat} {t2 : Nat} {t3 : Nat} {t4 : Nat} {t5 : Int} {t6 : Nat} {t7 : Nat} {t8 : Int} {t9 : Nat} {t10 : Nat} {t11 : Int} (h0 : (u0.tmod 2) = t0) (h1 : (t0 == 0) = false) (h2 : ((oPair (a2, a3))) = (((t1, t2), (t3, t4)), t5)) (h3 : ((oSlope (a4, a5) (a6, a7) (a8, a9))) = ((t6, t7), t8)) (h4 : ((oVal (a0, a1) (a2, a3) (a4, a5) (a6, a7) (a8, a9))) = ((t9, t10), t11)) (h5 : ((Dy.feq t1 t1 && (Dy.feq t2 t2 && true))) = true) (h6 : ((Dy.feq t3 t3 && (Dy.feq t4 t4 && true))) = true) (h7 : (t5 == t5) = true) (h8 : ((Dy.feq t6 t6 && (Dy.feq t7 t7 && true))) = true) (h9 : (t8 == t8) = true) (h10 : ((Dy.feq t9 t9 && (Dy.feq t10 t10 && true))) = true) (h11 : (t11 == t11) = true) : Calls Tryz.prog 3 #[.agg #[.float .f64 a0, .float .f64 a1, .float .f64 a2, .float .f64 a3, .float .f64 a4, .float .f64 a5, .float .f64 a6, .float .f64 a7, .float .f64 a8, .float .f64 a9], .agg #[.int .u32 u0, .int .u32 u1, .int .u32 u2, .int .u32 u3, .int .u32 u4, .int .u32 u5, .int .u32 u6, .int .u32 u7, .int .u32 u8, .int .u32 u9]] w fun e w' => e = .returned (.bool true) ∧ Below w.heap.size w w' := by
 refine law_calls (vs := [.agg #[.float .f64 a0, .float .f64 a1, .float .f64 a2, .float .f64 a3, .float .f64 a4, .float .f64 a5, .float .f64 a6, .float .f64 a7, .float .f64 a8, .float .f64 a9], .agg #[.int .u32 u0, .int .u32 u1, .int .u32 u2, .int .u32 u3, .int .u32 u4, .int .u32 u5, .int .u32 u6, .int .u32 u7, .int .u32 u8, .int .u32 u9]]) (us := [.f a0, .f a1, .f a2, .f a3, .f a4, .f a5, .f a6, .f a7, .f a8, .f a9, .i u0, .i u1, .i u2, .i u3, .i u4, .i u5, .i u6, .i u7, .i u8, .i u9]) (args := [.agg [vf 0, vf 1, vf 2, vf 3, vf 4, vf 5, vf 6, vf 7, vf 8, vf 9], .agg [vi .u32 10, vi .u32 11, vi .u32 12, vi .u32 13, vi .u32 14, vi .u32 15, vi .u32 16, vi .u32 17, vi .u32 18, vi .u32 19]]) oe7_ok (dr_ok oe7_ok) Tryz.func3 [] 200 20 rfl [false, true, true, true, true, true, true, true] (t := .bind ⟨fun us _ => iB (fun a b => a.tmod b) us, 1, [(.v 10), (.l (.i 2))]⟩ (.need ⟨iN, [(.v 10), (.l (.i 2))]⟩ (.bind ⟨fun us _ => jB (fun a b => a == b) us, 1, [(.v 20), (.l (.i 0))]⟩ (.need ⟨pF, [(.v 21)]⟩ (.bind ⟨fun us i => pairU ((oPair (gF us 0, gF us 1))) i, 5, [(.v 2), (.v 3)]⟩ (.bind ⟨fun us i => pairU (oPair (gF us 0, gF us 1)) i, 5, [(.v 2), (.v 3)]⟩ (.bind ⟨fun us i => calR ((oSlope (gF us 0, gF us 1) (gF us 2, gF us 3) (gF us 4, gF us 5))) i, 3, [(.v 4), (.v 5), (.v 6), (.v 7), (.v 8), (.v 9)]⟩ (.bind ⟨fun us i => calR (oSlope (gF us 0, gF us 1) (gF us 2, gF us 3) (gF us 4, gF us 5)) i, 3, [(.v 4), (.v 5), (.v 6), (.v 7), (.v 8), (.v 9)]⟩ (.bind ⟨fun us i => calR ((oVal (gF us 0, gF us 1) (gF us 2, gF us 3) (gF us 4, gF us 5) (gF us 6, gF us 7) (gF us 8, gF us 9))) i, 3, [(.v 0), (.v 1), (.v 2), (.v 3), (.v 4), (.v 5), (.v 6), (.v 7), (.v 8), (.v 9)]⟩ (.bind ⟨fun us i => calR (oVal (gF us 0, gF us 1) (gF us 2, gF us 3) (gF us 4, gF us 5) (gF us 6, gF us 7) (gF us 8, gF us 9)) i, 3, [(.v 0), (.v 1), (.v 2), (.v 3), (.v 4), (.v 5), (.v 6), (.v 7), (.v 8), (.v 9)]⟩ (.bind ⟨fun us _ => eqB [Kd.f, Kd.f] us, 1, [(.v 22), (.v 27), (.v 23), (.v 28)]⟩ (.need ⟨pT, [(.v 44)]⟩ (.bind ⟨fun us _ => eqB [Kd.f, Kd.f] us, 1, [(.v 24), (.v 29), (.v 25), (.v 30)]⟩ (.need ⟨pT, [(.v 45)]⟩ (.bind ⟨fun us _ => jB (fun a b => a == b) us, 1, [(.v 26), (.v 31)]⟩ (.need ⟨pT, [(.v 46)]⟩ (.bind ⟨fun us _ => eqB [Kd.f, Kd.f] us, 1, [(.v 32), (.v 35), (.v 33), (.v 36)]⟩ (.need ⟨pT, [(.v 47)]⟩ (.bind ⟨fun us _ => jB (fun a b => a == b) us, 1, [(.v 34), (.v 37)]⟩ (.need ⟨pT, [(.v 48)]⟩ (.bind ⟨fun us _ => eqB [Kd.f, Kd.f] us, 1, [(.v 38), (.v 41), (.v 39), (.v 42)]⟩ (.need ⟨pT, [(.v 49)]⟩ (.bind ⟨fun us _ => jB (fun a b => a == b) us, 1, [(.v 40), (.v 43)]⟩ (.need ⟨pT, [(.v 50)]⟩ (.done .ret ⟨[.bo (.l (.b true))], [], 51, []⟩))))))))))))))))))))))))) (by kernel_rfl) ?_ (denL_cons.2 ⟨_, _, (agg_mk (denL_cons.2 ⟨_, _, (fl_den rfl w0), (denL_cons.2 ⟨_, _, (fl_den rfl w1), (denL_cons.2 ⟨_, _, (fl_den rfl w2), (denL_cons.2 ⟨_, _, (fl_den rfl w3), (denL_cons.2 ⟨_, _, (fl_den rfl w4), (denL_cons.2 ⟨_, _, (fl_den rfl w5), (denL_cons.2 ⟨_, _, (fl_den rfl w6), (denL_cons.2 ⟨_, _, (fl_den rfl w7), (denL_cons.2 ⟨_, _, (fl_den rfl w8), (denL_cons.2 ⟨_, _, (fl_den rfl w9), rfl, rfl⟩), rfl⟩), rfl⟩), rfl⟩), rfl⟩), rfl⟩), rfl⟩), rfl⟩), rfl⟩), rfl⟩)), (denL_cons.2 ⟨_, _, (agg_mk (denL_cons.2 ⟨_, _, (it_den rfl), (denL_cons.2 ⟨_, _, (it_den rfl), (denL_cons.2 ⟨_, _, (it_den rfl), (denL_cons.2 ⟨_, _, (it_den rfl), (denL_cons.2 ⟨_, _, (it_den rfl), (denL_cons.2 ⟨_, _, (it_den rfl), (denL_cons.2 ⟨_, _, (it_den rfl), (denL_cons.2 ⟨_, _, (it_den rfl), (denL_cons.2 ⟨_, _, (it_den rfl), (denL_cons.2 ⟨_, _, (it_den rfl), rfl, rfl⟩), rfl⟩), rfl⟩), rfl⟩), rfl⟩), rfl⟩), rfl⟩), rfl⟩), rfl⟩), rfl⟩)), rfl, rfl⟩), rfl⟩)
 refine T.HH.h ?_
 refine T.hbind (us := [.i u0, .i 2]) (xs := [.i t0]) rfl (uJ h0) rfl ?_
 refine T.hneed (us := [.i u0, .i 2]) rfl (rfl) ?_
 refine T.hbind (us := [.i t0, .i 0]) (xs := [.b false]) (ρ' := [.f a0, .f a1, .f a2, .f a3, .f a4, .f a5, .f a6, .f a7, .f a8, .f a9, .i u0, .i u1, .i u2, .i u3, .i u4, .i u5, .i u6, .i u7, .i u8, .i u9, .i t0, .b false]) rfl (uB h1) rfl ?_
 refine T.hneed (us := [.b false]) rfl (rfl) ?_
 refine T.hbind (us := [.f a2, .f a3]) (xs := [.f t1, .f t2, .f t3, .f t4, .i t5]) rfl (congrArg (fun r => [pairU r 0, pairU r 1, pairU r 2, pairU r 3, pairU r 4]) h2) rfl ?_
 refine T.hbind (us := [.f a2, .f a3]) (xs := [.f t1, .f t2, .f t3, .f t4, .i t5]) rfl (congrArg (fun r => [pairU r 0, pairU r 1, pairU r 2, pairU r 3, pairU r 4]) h2) rfl ?_
 refine T.hbind (us := [.f a4, .f a5, .f a6, .f a7, .f a8, .f a9]) (xs := [.f t6, .f t7, .i t8]) rfl (uC h3) rfl ?_
 refine T.hbind (us := [.f a4, .f a5, .f a6, .f a7, .f a8, .f a9]) (xs := [.f t6, .f t7, .i t8]) rfl (uC h3) rfl ?_
 refine T.hbind (us := [.f a0, .f a1, .f a2, .f a3, .f a4, .f a5, .f a6, .f a7, .f a8, .f a9]) (xs := [.f t9, .f t10, .i t11]) rfl (uC h4) rfl ?_
 refine T.hbind (us := [.f a0, .f a1, .f a2, .f a3, .f a4, .f a5, .f a6, .f a7, .f a8, .f a9]) (xs := [.f t9, .f t10, .i t11]) rfl (uC h4) rfl ?_
 refine T.hbind (us := [.f t1, .f t1, .f t2, .f t2]) (xs := [.b true]) rfl (uB h5) rfl ?_
 refine T.hneed (us := [.b true]) rfl (rfl) ?_
 refine T.hbind (us := [.f t3, .f t3, .f t4, .f t4]) (xs := [.b true]) (ρ' := [.f a0, .f a1, .f a2, .f a3, .f a4, .f a5, .f a6, .f a7, .f a8, .f a9, .i u0, .i u1, .i u2, .i u3, .i u4, .i u5, .i u6, .i u7, .i u8, .i u9, .i t0, .b false, .f t1, .f t2, .f t3, .f t4, .i t5, .f t1, .f t2, .f t3, .f t4, .i t5, .f t6, .f t7, .i t8, .f t6, .f t7, .i t8, .f t9, .f t10, .i t11, .f t9, .f t10, .i t11, .b true, .b true]) rfl (uB h6) rfl ?_
 refine T.hneed (us := [.b true]) rfl (rfl) ?_
 refine T.hbind (us := [.i t5, .i t5]) (xs := [.b true]) rfl (uB h7) rfl ?_
 refine T.hneed (us := [.b true]) rfl (rfl) ?_
 refine T.hbind (us := [.f t6, .f t6, .f t7, .f t7]) (xs := [.b true]) rfl (uB h8) rfl ?_
 refine T.hneed (us := [.b true]) rfl (rfl) ?_
 refine T.hbind (us := [.i t8, .i t8]) (xs := [.b true]) rfl (uB h9) rfl ?_
 refine T.hneed (us := [.b true]) rfl (rfl) ?_
 refine T.hbind (us := [.f t9, .f t9, .f t10, .f t10]) (xs := [.b true]) rfl (uB h10) rfl ?_
 refine T.hneed (us := [.b true]) rfl (rfl) ?_
 refine T.hbind (us := [.i t11, .i t11]) (xs := [.b true]) rfl (uB h11) rfl ?_
 refine T.hneed (us := [.b true]) rfl (rfl) ?_
 exact T.hdone rfl
end Go.Proofs.YtiphdhpacklboaaGreat
