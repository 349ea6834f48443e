/- The law FresnelTells walked, its two ways. -/
import Derived.Test.YtiphdhpacklboaaGreatUr
namespace Go.Proofs.YtiphdhpacklboaaGreat
open Go Go.RowKit
set_option linter.unusedSimpArgs false
set_option linter.unusedVariables false
def us0 : List (Nat × Ct) := uR0
theorem us0_ok : AllOk Tryz.prog us0 := uR0_ok
def ctP06 : Ct := ⟨1, [], [vf 0], { binds := [⟨fun us _ => fB Ieee.double.add us, 1, [(.v 0), (.l (.f 0))]⟩, ⟨fun us _ => fB Ieee.double.add us, 1, [(.v 0), (.l (.f 0))]⟩], needs := [⟨fN Ieee.double.add, [(.v 0), (.l (.f 0))]⟩, ⟨fN Ieee.double.add, [(.v 0), (.l (.f 0))]⟩], val := .agg [.fl (.v 1), .fl (.v 2)], upd := [] }⟩
theorem ctP06_ok : CtOk Tryz.prog 51 ctP06 := CtOk.flat us0_ok (dr_ok us0_ok) Tryz.func51 rfl (by decide) [] 200 ⟨[.agg [.fl (.v 1), .fl (.v 2)]], [], 3, []⟩ (by kernel_rfl) rfl (by kernel_rfl) rfl (by kernel_rfl) (by kernel_rfl) (by kernel_rfl) (by kernel_rfl)
def us1 : List (Nat × Ct) := (51, ctP06) :: us0
theorem us1_ok : AllOk Tryz.prog us1 := ⟨ctP06_ok, us0_ok⟩
def ctFrac : Ct := ⟨1, [], [vi .u32 0], { binds := [⟨fun us _ => nF us, 1, [(.v 0)]⟩, ⟨fun us _ => fB Ieee.double.div us, 1, [(.v 1), (.l (.f 4751297606873776128))]⟩], needs := [⟨nN, [(.v 0)]⟩, ⟨fN Ieee.double.div, [(.v 1), (.l (.f 4751297606873776128))]⟩], val := .fl (.v 2), upd := [] }⟩
theorem ctFrac_ok : CtOk Tryz.prog 68 ctFrac := CtOk.flat us1_ok (dr_ok us1_ok) Tryz.func68 rfl (by decide) [] 200 ⟨[.fl (.v 2)], [], 3, []⟩ (by kernel_rfl) rfl (by kernel_rfl) rfl (by kernel_rfl) (by kernel_rfl) (by kernel_rfl) (by kernel_rfl)
def us2 : List (Nat × Ct) := (68, ctFrac) :: us1
theorem us2_ok : AllOk Tryz.prog us2 := ⟨ctFrac_ok, us1_ok⟩
def ctBtw : Ct := ⟨3, [], [vf 0, vf 1, vi .u32 2], { binds := [⟨fun us i => fRes (btwF (gF us 0) (gF us 1) (gI us 2)) i, 1, upto 0 3⟩], needs := [⟨nBtw, [.v 0, .v 1, .v 2]⟩], val := vf 3, upd := [] }⟩
set_option maxRecDepth 100000 in
set_option maxHeartbeats 8000000 in
theorem ctBtw_ok : CtOk Tryz.prog 36 ctBtw := by
 refine CtOk.of_eval2 us2_ok (dr_ok us2_ok) Tryz.func36 rfl (by decide) [] 200 (by kernel_rfl) rfl (.bind ⟨fun us _ => fB Ieee.double.sub us, 1, [(.v 1), (.v 0)]⟩ (.need ⟨fN Ieee.double.sub, [(.v 1), (.v 0)]⟩ (.bind ⟨fun us _ => nF us, 1, [(.v 2)]⟩ (.bind ⟨fun us _ => fB Ieee.double.div us, 1, [(.v 4), (.l (.f 4751297606873776128))]⟩ (.need ⟨nN, [(.v 2)]⟩ (.need ⟨fN Ieee.double.div, [(.v 4), (.l (.f 4751297606873776128))]⟩ (.bind ⟨fun us _ => fB Ieee.double.mul us, 1, [(.v 3), (.v 5)]⟩ (.need ⟨fN Ieee.double.mul, [(.v 3), (.v 5)]⟩ (.bind ⟨fun us _ => fB Ieee.double.add us, 1, [(.v 0), (.v 6)]⟩ (.need ⟨fN Ieee.double.add, [(.v 0), (.v 6)]⟩ (.bind ⟨fun us _ => cB Dy.flt us, 1, [(.v 7), (.v 0)]⟩ (.ite (.v 8) (.done .ret ⟨[.fl (.v 0)], [], 9, []⟩) (.bind ⟨fun us _ => cB Dy.fgt us, 1, [(.v 7), (.v 1)]⟩ (.ite (.v 9) (.done .ret ⟨[.fl (.v 1)], [], 10, []⟩) (.done .ret ⟨[.fl (.v 7)], [], 10, []⟩))))))))))))))) (by kernel_rfl) (by kernel_rfl) (by kernel_rfl) (fun us hl hF hB hN => ?_)
 match us, hl with
 | [u0, u1, u2], _ =>
  simp [FactsB, FactsL, Facts, ctBtw] at hF hB
  simp [NeedsAt, runB, evs, E.ev, upto, resl, List.range, List.range.loop, ctBtw] at hN
  obtain ⟨⟨a1, rfl, w1⟩, ⟨a2, rfl, w2⟩, ⟨u, rfl⟩⟩ := hF
  simp [nBtw, btwN, fracN, gF, gI, U.F, U.I] at hN
  obtain ⟨⟨⟨⟨n1, n2⟩, n3⟩, n4⟩, n5⟩ := hN
  refine T.HH.h ?_
  obtain ⟨t0, e1⟩ : ∃ t0, ((Ieee.double.sub a2 a1).getD 0) = t0 := ⟨_, rfl⟩
  refine T.hbind (us := [.f a2, .f a1]) (xs := [.f t0]) rfl (congrArg (fun r => [U.f r]) e1) rfl ?_
  refine T.hneed (us := [.f a2, .f a1]) rfl (by subst e1; exact n3) ?_
  obtain ⟨t2, e3⟩ : ∃ t2, (FloatKind.f64.nearest u) = t2 := ⟨_, rfl⟩
  refine T.hbind (us := [.i u]) (xs := [.f t2]) rfl (congrArg (fun r => [U.f r]) e3) rfl ?_
  obtain ⟨t4, e5⟩ : ∃ t4, ((Ieee.double.div t2 4751297606873776128).getD 0) = t4 := ⟨_, rfl⟩
  refine T.hbind (us := [.f t2, .f 4751297606873776128]) (xs := [.f t4]) rfl (congrArg (fun r => [U.f r]) e5) rfl ?_
  refine T.hneed (us := [.i u]) rfl (decide_eq_true n1) ?_
  refine T.hneed (us := [.f t2, .f 4751297606873776128]) rfl (by subst e1; subst e3; subst e5; exact n2) ?_
  obtain ⟨t6, e7⟩ : ∃ t6, ((Ieee.double.mul t0 t4).getD 0) = t6 := ⟨_, rfl⟩
  refine T.hbind (us := [.f t0, .f t4]) (xs := [.f t6]) (ρ' := [.f a1, .f a2, .i u, .f t0, .f t2, .f t4, .f t6]) rfl (congrArg (fun r => [U.f r]) e7) rfl ?_
  refine T.hneed (us := [.f t0, .f t4]) rfl (by subst e1; subst e3; subst e5; subst e7; exact n4) ?_
  obtain ⟨t8, e9⟩ : ∃ t8, ((Ieee.double.add a1 t6).getD 0) = t8 := ⟨_, rfl⟩
  refine T.hbind (us := [.f a1, .f t6]) (xs := [.f t8]) rfl (congrArg (fun r => [U.f r]) e9) rfl ?_
  refine T.hneed (us := [.f a1, .f t6]) rfl (by subst e1; subst e3; subst e5; subst e7; subst e9; exact n5) ?_
  obtain ⟨t10, e11⟩ : ∃ t10, (Dy.flt t8 a1) = t10 := ⟨_, rfl⟩
  refine T.hbind (us := [.f t8, .f a1]) (xs := [.b t10]) rfl (congrArg (fun r => [U.b r]) e11) rfl ?_
  refine T.hite (x := t10) ?_ ?_ ?_
  ·rfl
  ·intro c13
   refine T.hdone ?_
   have e00 : btwF (a1) (a2) (u) = a1 := by simp only [btwF, btwT, fracF, e1, e3, e5, e7, e9, e11, c13] <;> simp_all
   exact ⟨(congrArg (fun r => some (fRes r 0)) e00.symm), trivial, rfl⟩
  ·intro c13
   obtain ⟨t13, e14⟩ : ∃ t13, (Dy.fgt t8 a2) = t13 := ⟨_, rfl⟩
   refine T.hbind (us := [.f t8, .f a2]) (xs := [.b t13]) rfl (congrArg (fun r => [U.b r]) e14) rfl ?_
   refine T.hite (x := t13) ?_ ?_ ?_
   ·rfl
   ·intro c16
    refine T.hdone ?_
    have e00 : btwF (a1) (a2) (u) = a2 := by simp only [btwF, btwT, fracF, e1, e3, e5, e7, e9, e11, c13, e14, c16] <;> simp_all
    exact ⟨(congrArg (fun r => some (fRes r 0)) e00.symm), trivial, rfl⟩
   ·intro c16
    refine T.hdone ?_
    have e00 : btwF (a1) (a2) (u) = t8 := by simp only [btwF, btwT, fracF, e1, e3, e5, e7, e9, e11, c13, e14, c16] <;> simp_all
    exact ⟨(congrArg (fun r => some (fRes r 0)) e00.symm), trivial, rfl⟩
def us3 : List (Nat × Ct) := (36, ctBtw) :: us2
theorem us3_ok : AllOk Tryz.prog us3 := ⟨ctBtw_ok, us2_ok⟩
def ctSpan : Ct := ⟨4, [], [vf 0, vf 1, vi .u32 2, vi .u32 3], { binds := [⟨fun us i => ivU (spanF (gF us 0) (gF us 1) (gI us 2) (gI us 3)) i, 2, upto 0 4⟩], needs := [⟨nSpan, [.v 0, .v 1, .v 2, .v 3]⟩], val := vp 4 5, upd := [] }⟩
set_option maxRecDepth 100000 in
set_option maxHeartbeats 8000000 in
theorem ctSpan_ok : CtOk Tryz.prog 13 ctSpan := by
 refine CtOk.of_eval2 us3_ok (dr_ok us3_ok) Tryz.func13 rfl (by decide) [] 200 (by kernel_rfl) rfl (.bind ⟨fun us i => fRes (btwF (gF us 0) (gF us 1) (gI us 2)) i, 1, [(.v 0), (.v 1), (.v 2)]⟩ (.need ⟨nBtw, [(.v 0), (.v 1), (.v 2)]⟩ (.bind ⟨fun us i => fRes (btwF (gF us 0) (gF us 1) (gI us 2)) i, 1, [(.v 0), (.v 1), (.v 3)]⟩ (.need ⟨nBtw, [(.v 0), (.v 1), (.v 3)]⟩ (.bind ⟨fun us _ => cB Dy.fgt us, 1, [(.v 4), (.v 5)]⟩ (.ite (.v 6) (.done .ret ⟨[.agg [.fl (.v 5), .fl (.v 4)]], [], 7, []⟩) (.done .ret ⟨[.agg [.fl (.v 4), .fl (.v 5)]], [], 7, []⟩))))))) (by kernel_rfl) (by kernel_rfl) (by kernel_rfl) (fun us hl hF hB hN => ?_)
 match us, hl with
 | [u0, u1, u2, u3], _ =>
  simp [FactsB, FactsL, Facts, ctSpan] at hF hB
  simp [NeedsAt, runB, evs, E.ev, upto, resl, List.range, List.range.loop, ctSpan] at hN
  obtain ⟨⟨a1, rfl, w1⟩, ⟨a2, rfl, w2⟩, ⟨u, rfl⟩, ⟨v, rfl⟩⟩ := hF
  simp [nSpan, gF, gI, U.F, U.I] at hN
  refine T.HH.h ?_
  obtain ⟨t0, e1⟩ : ∃ t0, ((btwF (a1) (a2) (u))) = t0 := ⟨_, rfl⟩
  refine T.hbind (us := [.f a1, .f a2, .i u]) (xs := [.f t0]) (ρ' := [.f a1, .f a2, .i u, .i v, .f t0]) rfl (congrArg (fun r => [U.f r]) e1) rfl ?_
  refine T.hneed (us := [.f a1, .f a2, .i u]) rfl (hN.1) ?_
  obtain ⟨t2, e3⟩ : ∃ t2, ((btwF (a1) (a2) (v))) = t2 := ⟨_, rfl⟩
  refine T.hbind (us := [.f a1, .f a2, .i v]) (xs := [.f t2]) rfl (congrArg (fun r => [U.f r]) e3) rfl ?_
  refine T.hneed (us := [.f a1, .f a2, .i v]) rfl (hN.2) ?_
  obtain ⟨t4, e5⟩ : ∃ t4, (Dy.fgt t0 t2) = t4 := ⟨_, rfl⟩
  refine T.hbind (us := [.f t0, .f t2]) (xs := [.b t4]) rfl (congrArg (fun r => [U.b r]) e5) rfl ?_
  refine T.hite (x := t4) ?_ ?_ ?_
  ·rfl
  ·intro c7
   refine T.hdone ?_
   have e00 : spanF (a1) (a2) (u) (v) = (t2, t0) := by simp only [spanF, e1, e3, e5, c7] <;> simp_all
   exact ⟨⟨(congrArg (fun r => some (ivU r 0)) e00.symm), (congrArg (fun r => some (ivU r 1)) e00.symm), trivial⟩, trivial, rfl⟩
  ·intro c7
   refine T.hdone ?_
   have e00 : spanF (a1) (a2) (u) (v) = (t0, t2) := by simp only [spanF, e1, e3, e5, c7] <;> simp_all
   exact ⟨⟨(congrArg (fun r => some (ivU r 0)) e00.symm), (congrArg (fun r => some (ivU r 1)) e00.symm), trivial⟩, trivial, rfl⟩
def us4 : List (Nat × Ct) := (13, ctSpan) :: us3
theorem us4_ok : AllOk Tryz.prog us4 := ⟨ctSpan_ok, us3_ok⟩
def ctAwake06 : Ct := ctTrue
theorem ctAwake06_ok : CtOk Tryz.prog 18 ctAwake06 := ctTrue_ok us4_ok (dr_ok us4_ok) Tryz.func18 rfl (by decide) 200 _ rfl (by kernel_rfl)
def us5 : List (Nat × Ct) := (18, ctAwake06) :: us4
theorem us5_ok : AllOk Tryz.prog us5 := ⟨ctAwake06_ok, us4_ok⟩
set_option maxRecDepth 100000 in
set_option maxHeartbeats 4000000 in
theorem fretells_e (a0 a1 b0 b1 m0 m1 k0 k1 : Nat) (u0 u1 u2 u3 u4 u5 : Int) (w : World) (w0 : Dy.W a0) (w1 : Dy.W a1) (w2 : Dy.W b0) (w3 : Dy.W b1) (w4 : Dy.W m0) (w5 : Dy.W m1) (w6 : Dy.W k0) (w7 : Dy.W k1) {t0 : Int} {t1 : Nat} {t2 : Nat} {t3 : Nat} {t4 : Nat} {t5 : Nat} {t6 : Nat} {t7 : Nat} {t8 : Nat} {t9 : Nat} {t10 : Nat} {t11 : Int} {t12 : Nat} {t13 : Nat} {t14 : Int} (h0 : (u0.tmod 2) = t0) (h1 : (t0 == 0) = true) (h2 : (spanF (0) (4607182418800017408) (u0) (u1)) = (t1, t2)) (h3 : nSpan [.f 0, .f 4607182418800017408, .i u0, .i u1] = true) (h4 : (spanF (4607463893776728064) (4616189618054758400) (u2) (u3)) = (t3, t4)) (h5 : nSpan [.f 4607463893776728064, .f 4616189618054758400, .i u2, .i u3] = true) (h6 : (spanF (4589168020290535424) (4625196817309499392) (u3) (u4)) = (t5, t6)) (h7 : nSpan [.f 4589168020290535424, .f 4625196817309499392, .i u3, .i u4] = true) (h8 : (spanF (4589168020290535424) (4625196817309499392) (u2) (u5)) = (t7, t8)) (h9 : nSpan [.f 4589168020290535424, .f 4625196817309499392, .i u2, .i u5] = true) (h10 : (dielG (t1, t2) (t3, t4)) = ((t9, t10), t11)) (h11 : (condG (t1, t2) (t5, t6) (t7, t8)) = ((t12, t13), t14)) (h12 : ((Dy.feq t9 t9 && (Dy.feq t10 t10 && true))) = true) (h13 : (t11 == t11) = true) (h14 : ((Dy.feq t12 t12 && (Dy.feq t13 t13 && true))) = true) (h15 : (t14 == t14) = true) : Calls Tryz.prog 4 #[.agg #[.float .f64 a0, .float .f64 a1], .agg #[.float .f64 b0, .float .f64 b1], .agg #[.float .f64 m0, .float .f64 m1], .agg #[.float .f64 k0, .float .f64 k1], .agg #[.int .u32 u0, .int .u32 u1, .int .u32 u2, .int .u32 u3, .int .u32 u4, .int .u32 u5]] w fun e w' => e = .returned (.bool true) ∧ Below w.heap.size w w' := by
 refine law_calls (vs := [.agg #[.float .f64 a0, .float .f64 a1], .agg #[.float .f64 b0, .float .f64 b1], .agg #[.float .f64 m0, .float .f64 m1], .agg #[.float .f64 k0, .float .f64 k1], .agg #[.int .u32 u0, .int .u32 u1, .int .u32 u2, .int .u32 u3, .int .u32 u4, .int .u32 u5]]) (us := [.f a0, .f a1, .f b0, .f b1, .f m0, .f m1, .f k0, .f k1, .i u0, .i u1, .i u2, .i u3, .i u4, .i u5]) (args := [vp 0 1, vp 2 3, vp 4 5, vp 6 7, .agg [vi .u32 8, vi .u32 9, vi .u32 10, vi .u32 11, vi .u32 12, vi .u32 13]]) us5_ok (dr_ok us5_ok) Tryz.func4 [] 200 14 rfl [true, true, true, true, true] (t := .bind ⟨fun us _ => iB (fun a b => a.tmod b) us, 1, [(.v 8), (.l (.i 2))]⟩ (.need ⟨iN, [(.v 8), (.l (.i 2))]⟩ (.bind ⟨fun us _ => jB (fun a b => a == b) us, 1, [(.v 14), (.l (.i 0))]⟩ (.need ⟨pT, [(.v 15)]⟩ (.bind ⟨fun us i => ivU (spanF (gF us 0) (gF us 1) (gI us 2) (gI us 3)) i, 2, [(.l (.f 0)), (.l (.f 4607182418800017408)), (.v 8), (.v 9)]⟩ (.need ⟨nSpan, [(.l (.f 0)), (.l (.f 4607182418800017408)), (.v 8), (.v 9)]⟩ (.bind ⟨fun us i => ivU (spanF (gF us 0) (gF us 1) (gI us 2) (gI us 3)) i, 2, [(.l (.f 4607463893776728064)), (.l (.f 4616189618054758400)), (.v 10), (.v 11)]⟩ (.need ⟨nSpan, [(.l (.f 4607463893776728064)), (.l (.f 4616189618054758400)), (.v 10), (.v 11)]⟩ (.bind ⟨fun us i => ivU (spanF (gF us 0) (gF us 1) (gI us 2) (gI us 3)) i, 2, [(.l (.f 4589168020290535424)), (.l (.f 4625196817309499392)), (.v 11), (.v 12)]⟩ (.need ⟨nSpan, [(.l (.f 4589168020290535424)), (.l (.f 4625196817309499392)), (.v 11), (.v 12)]⟩ (.bind ⟨fun us i => ivU (spanF (gF us 0) (gF us 1) (gI us 2) (gI us 3)) i, 2, [(.l (.f 4589168020290535424)), (.l (.f 4625196817309499392)), (.v 10), (.v 13)]⟩ (.need ⟨nSpan, [(.l (.f 4589168020290535424)), (.l (.f 4625196817309499392)), (.v 10), (.v 13)]⟩ (.bind ⟨fun us i => calR (dielG (gF us 0, gF us 1) (gF us 2, gF us 3)) i, 3, [(.v 16), (.v 17), (.v 18), (.v 19)]⟩ (.bind ⟨fun us i => calR (dielG (gF us 0, gF us 1) (gF us 2, gF us 3)) i, 3, [(.v 16), (.v 17), (.v 18), (.v 19)]⟩ (.bind ⟨fun us i => calR (condG (gF us 0, gF us 1) (gF us 2, gF us 3) (gF us 4, gF us 5)) i, 3, [(.v 16), (.v 17), (.v 20), (.v 21), (.v 22), (.v 23)]⟩ (.bind ⟨fun us i => calR (condG (gF us 0, gF us 1) (gF us 2, gF us 3) (gF us 4, gF us 5)) i, 3, [(.v 16), (.v 17), (.v 20), (.v 21), (.v 22), (.v 23)]⟩ (.bind ⟨fun us _ => eqB [Kd.f, Kd.f] us, 1, [(.v 24), (.v 27), (.v 25), (.v 28)]⟩ (.need ⟨pT, [(.v 36)]⟩ (.bind ⟨fun us _ => jB (fun a b => a == b) us, 1, [(.v 26), (.v 29)]⟩ (.need ⟨pT, [(.v 37)]⟩ (.bind ⟨fun us _ => eqB [Kd.f, Kd.f] us, 1, [(.v 30), (.v 33), (.v 31), (.v 34)]⟩ (.need ⟨pT, [(.v 38)]⟩ (.bind ⟨fun us _ => jB (fun a b => a == b) us, 1, [(.v 32), (.v 35)]⟩ (.need ⟨pT, [(.v 39)]⟩ (.done .ret ⟨[.bo (.l (.b true))], [], 40, []⟩))))))))))))))))))))))))) (by kernel_rfl) ?_ (denL_cons.2 ⟨_, _, (agg_mk (denL_cons.2 ⟨_, _, (fl_den rfl w0), (denL_cons.2 ⟨_, _, (fl_den rfl w1), rfl, rfl⟩), rfl⟩)), (denL_cons.2 ⟨_, _, (agg_mk (denL_cons.2 ⟨_, _, (fl_den rfl w2), (denL_cons.2 ⟨_, _, (fl_den rfl w3), rfl, rfl⟩), rfl⟩)), (denL_cons.2 ⟨_, _, (agg_mk (denL_cons.2 ⟨_, _, (fl_den rfl w4), (denL_cons.2 ⟨_, _, (fl_den rfl w5), rfl, rfl⟩), rfl⟩)), (denL_cons.2 ⟨_, _, (agg_mk (denL_cons.2 ⟨_, _, (fl_den rfl w6), (denL_cons.2 ⟨_, _, (fl_den rfl w7), rfl, rfl⟩), rfl⟩)), (denL_cons.2 ⟨_, _, (agg_mk (denL_cons.2 ⟨_, _, (it_den rfl), (denL_cons.2 ⟨_, _, (it_den rfl), (denL_cons.2 ⟨_, _, (it_den rfl), (denL_cons.2 ⟨_, _, (it_den rfl), (denL_cons.2 ⟨_, _, (it_den rfl), (denL_cons.2 ⟨_, _, (it_den rfl), rfl, rfl⟩), rfl⟩), rfl⟩), rfl⟩), rfl⟩), rfl⟩)), rfl, rfl⟩), rfl⟩), rfl⟩), rfl⟩), rfl⟩)
 refine T.HH.h ?_
 refine T.hbind (us := [.i u0, .i 2]) (xs := [.i t0]) rfl (congrArg (fun r => [U.i r]) h0) rfl ?_
 refine T.hneed (us := [.i u0, .i 2]) rfl (rfl) ?_
 refine T.hbind (us := [.i t0, .i 0]) (xs := [.b true]) (ρ' := [.f a0, .f a1, .f b0, .f b1, .f m0, .f m1, .f k0, .f k1, .i u0, .i u1, .i u2, .i u3, .i u4, .i u5, .i t0, .b true]) rfl (congrArg (fun r => [U.b r]) h1) rfl ?_
 refine T.hneed (us := [.b true]) rfl (rfl) ?_
 refine T.hbind (us := [.f 0, .f 4607182418800017408, .i u0, .i u1]) (xs := [.f t1, .f t2]) rfl (congrArg (fun r => [ivU r 0, ivU r 1]) h2) rfl ?_
 refine T.hneed (us := [.f 0, .f 4607182418800017408, .i u0, .i u1]) rfl (h3) ?_
 refine T.hbind (us := [.f 4607463893776728064, .f 4616189618054758400, .i u2, .i u3]) (xs := [.f t3, .f t4]) rfl (congrArg (fun r => [ivU r 0, ivU r 1]) h4) rfl ?_
 refine T.hneed (us := [.f 4607463893776728064, .f 4616189618054758400, .i u2, .i u3]) rfl (h5) ?_
 refine T.hbind (us := [.f 4589168020290535424, .f 4625196817309499392, .i u3, .i u4]) (xs := [.f t5, .f t6]) rfl (congrArg (fun r => [ivU r 0, ivU r 1]) h6) rfl ?_
 refine T.hneed (us := [.f 4589168020290535424, .f 4625196817309499392, .i u3, .i u4]) rfl (h7) ?_
 refine T.hbind (us := [.f 4589168020290535424, .f 4625196817309499392, .i u2, .i u5]) (xs := [.f t7, .f t8]) (ρ' := [.f a0, .f a1, .f b0, .f b1, .f m0, .f m1, .f k0, .f k1, .i u0, .i u1, .i u2, .i u3, .i u4, .i u5, .i t0, .b true, .f t1, .f t2, .f t3, .f t4, .f t5, .f t6, .f t7, .f t8]) rfl (congrArg (fun r => [ivU r 0, ivU r 1]) h8) rfl ?_
 refine T.hneed (us := [.f 4589168020290535424, .f 4625196817309499392, .i u2, .i u5]) rfl (h9) ?_
 refine T.hbind (us := [.f t1, .f t2, .f t3, .f t4]) (xs := [.f t9, .f t10, .i t11]) rfl (congrArg (fun r => [calR r 0, calR r 1, calR r 2]) h10) rfl ?_
 refine T.hbind (us := [.f t1, .f t2, .f t3, .f t4]) (xs := [.f t9, .f t10, .i t11]) rfl (congrArg (fun r => [calR r 0, calR r 1, calR r 2]) h10) rfl ?_
 refine T.hbind (us := [.f t1, .f t2, .f t5, .f t6, .f t7, .f t8]) (xs := [.f t12, .f t13, .i t14]) rfl (congrArg (fun r => [calR r 0, calR r 1, calR r 2]) h11) rfl ?_
 refine T.hbind (us := [.f t1, .f t2, .f t5, .f t6, .f t7, .f t8]) (xs := [.f t12, .f t13, .i t14]) (ρ' := [.f a0, .f a1, .f b0, .f b1, .f m0, .f m1, .f k0, .f k1, .i u0, .i u1, .i u2, .i u3, .i u4, .i u5, .i t0, .b true, .f t1, .f t2, .f t3, .f t4, .f t5, .f t6, .f t7, .f t8, .f t9, .f t10, .i t11, .f t9, .f t10, .i t11, .f t12, .f t13, .i t14, .f t12, .f t13, .i t14]) rfl (congrArg (fun r => [calR r 0, calR r 1, calR r 2]) h11) rfl ?_
 refine T.hbind (us := [.f t9, .f t9, .f t10, .f t10]) (xs := [.b true]) rfl (congrArg (fun r => [U.b r]) h12) rfl ?_
 refine T.hneed (us := [.b true]) rfl (rfl) ?_
 refine T.hbind (us := [.i t11, .i t11]) (xs := [.b true]) rfl (congrArg (fun r => [U.b r]) h13) rfl ?_
 refine T.hneed (us := [.b true]) rfl (rfl) ?_
 refine T.hbind (us := [.f t12, .f t12, .f t13, .f t13]) (xs := [.b true]) rfl (congrArg (fun r => [U.b r]) h14) rfl ?_
 refine T.hneed (us := [.b true]) rfl (rfl) ?_
 refine T.hbind (us := [.i t14, .i t14]) (xs := [.b true]) (ρ' := [.f a0, .f a1, .f b0, .f b1, .f m0, .f m1, .f k0, .f k1, .i u0, .i u1, .i u2, .i u3, .i u4, .i u5, .i t0, .b true, .f t1, .f t2, .f t3, .f t4, .f t5, .f t6, .f t7, .f t8, .f t9, .f t10, .i t11, .f t9, .f t10, .i t11, .f t12, .f t13, .i t14, .f t12, .f t13, .i t14, .b true, .b true, .b true, .b true]) rfl (congrArg (fun r => [U.b r]) h15) rfl ?_
 refine T.hneed (us := [.b true]) rfl (rfl) ?_
 exact T.hdone rfl
set_option maxRecDepth 100000 in
set_option maxHeartbeats 4000000 in
theorem fretells_o (a0 a1 b0 b1 m0 m1 k0 k1 : Nat) (u0 u1 u2 u3 u4 u5 : Int) (w : World) (w0 : Dy.W a0) (w1 : Dy.W a1) (w2 : Dy.W b0) (w3 : Dy.W b1) (w4 : Dy.W m0) (w5 : Dy.W m1) (w6 : Dy.W k0) (w7 : Dy.W k1) {t0 : Int} {t1 : Nat} {t2 : Nat} {t3 : Int} {t4 : Nat} {t5 : Nat} {t6 : Int} (h0 : (u0.tmod 2) = t0) (h1 : (t0 == 0) = false) (h2 : (dielG (a0, a1) (b0, b1)) = ((t1, t2), t3)) (h3 : (condG (a0, a1) (m0, m1) (k0, k1)) = ((t4, t5), t6)) (h4 : ((Dy.feq t1 t1 && (Dy.feq t2 t2 && true))) = true) (h5 : (t3 == t3) = true) (h6 : ((Dy.feq t4 t4 && (Dy.feq t5 t5 && true))) = true) (h7 : (t6 == t6) = true) : Calls Tryz.prog 4 #[.agg #[.float .f64 a0, .float .f64 a1], .agg #[.float .f64 b0, .float .f64 b1], .agg #[.float .f64 m0, .float .f64 m1], .agg #[.float .f64 k0, .float .f64 k1], .agg #[.int .u32 u0, .int .u32 u1, .int .u32 u2, .int .u32 u3, .int .u32 u4, .int .u32 u5]] w fun e w' => e = .returned (.bool true) ∧ Below w.heap.size w w' := by
 refine law_calls (vs := [.agg #[.float .f64 a0, .float .f64 a1], .agg #[.float .f64 b0, .float .f64 b1], .agg #[.float .f64 m0, .float .f64 m1], .agg #[.float .f64 k0, .float .f64 k1], .agg #[.int .u32 u0, .int .u32 u1, .int .u32 u2, .int .u32 u3, .int .u32 u4, .int .u32 u5]]) (us := [.f a0, .f a1, .f b0, .f b1, .f m0, .f m1, .f k0, .f k1, .i u0, .i u1, .i u2, .i u3, .i u4, .i u5]) (args := [vp 0 1, vp 2 3, vp 4 5, vp 6 7, .agg [vi .u32 8, vi .u32 9, vi .u32 10, vi .u32 11, vi .u32 12, vi .u32 13]]) us5_ok (dr_ok us5_ok) Tryz.func4 [] 200 14 rfl [false, true, true, true, true] (t := .bind ⟨fun us _ => iB (fun a b => a.tmod b) us, 1, [(.v 8), (.l (.i 2))]⟩ (.need ⟨iN, [(.v 8), (.l (.i 2))]⟩ (.bind ⟨fun us _ => jB (fun a b => a == b) us, 1, [(.v 14), (.l (.i 0))]⟩ (.need ⟨pF, [(.v 15)]⟩ (.bind ⟨fun us i => calR (dielG (gF us 0, gF us 1) (gF us 2, gF us 3)) i, 3, [(.v 0), (.v 1), (.v 2), (.v 3)]⟩ (.bind ⟨fun us i => calR (dielG (gF us 0, gF us 1) (gF us 2, gF us 3)) i, 3, [(.v 0), (.v 1), (.v 2), (.v 3)]⟩ (.bind ⟨fun us i => calR (condG (gF us 0, gF us 1) (gF us 2, gF us 3) (gF us 4, gF us 5)) i, 3, [(.v 0), (.v 1), (.v 4), (.v 5), (.v 6), (.v 7)]⟩ (.bind ⟨fun us i => calR (condG (gF us 0, gF us 1) (gF us 2, gF us 3) (gF us 4, gF us 5)) i, 3, [(.v 0), (.v 1), (.v 4), (.v 5), (.v 6), (.v 7)]⟩ (.bind ⟨fun us _ => eqB [Kd.f, Kd.f] us, 1, [(.v 16), (.v 19), (.v 17), (.v 20)]⟩ (.need ⟨pT, [(.v 28)]⟩ (.bind ⟨fun us _ => jB (fun a b => a == b) us, 1, [(.v 18), (.v 21)]⟩ (.need ⟨pT, [(.v 29)]⟩ (.bind ⟨fun us _ => eqB [Kd.f, Kd.f] us, 1, [(.v 22), (.v 25), (.v 23), (.v 26)]⟩ (.need ⟨pT, [(.v 30)]⟩ (.bind ⟨fun us _ => jB (fun a b => a == b) us, 1, [(.v 24), (.v 27)]⟩ (.need ⟨pT, [(.v 31)]⟩ (.done .ret ⟨[.bo (.l (.b true))], [], 32, []⟩))))))))))))))))) (by kernel_rfl) ?_ (denL_cons.2 ⟨_, _, (agg_mk (denL_cons.2 ⟨_, _, (fl_den rfl w0), (denL_cons.2 ⟨_, _, (fl_den rfl w1), rfl, rfl⟩), rfl⟩)), (denL_cons.2 ⟨_, _, (agg_mk (denL_cons.2 ⟨_, _, (fl_den rfl w2), (denL_cons.2 ⟨_, _, (fl_den rfl w3), rfl, rfl⟩), rfl⟩)), (denL_cons.2 ⟨_, _, (agg_mk (denL_cons.2 ⟨_, _, (fl_den rfl w4), (denL_cons.2 ⟨_, _, (fl_den rfl w5), rfl, rfl⟩), rfl⟩)), (denL_cons.2 ⟨_, _, (agg_mk (denL_cons.2 ⟨_, _, (fl_den rfl w6), (denL_cons.2 ⟨_, _, (fl_den rfl w7), rfl, rfl⟩), rfl⟩)), (denL_cons.2 ⟨_, _, (agg_mk (denL_cons.2 ⟨_, _, (it_den rfl), (denL_cons.2 ⟨_, _, (it_den rfl), (denL_cons.2 ⟨_, _, (it_den rfl), (denL_cons.2 ⟨_, _, (it_den rfl), (denL_cons.2 ⟨_, _, (it_den rfl), (denL_cons.2 ⟨_, _, (it_den rfl), rfl, rfl⟩), rfl⟩), rfl⟩), rfl⟩), rfl⟩), rfl⟩)), rfl, rfl⟩), rfl⟩), rfl⟩), rfl⟩), rfl⟩)
 refine T.HH.h ?_
 refine T.hbind (us := [.i u0, .i 2]) (xs := [.i t0]) rfl (congrArg (fun r => [U.i r]) h0) rfl ?_
 refine T.hneed (us := [.i u0, .i 2]) rfl (rfl) ?_
 refine T.hbind (us := [.i t0, .i 0]) (xs := [.b false]) rfl (congrArg (fun r => [U.b r]) h1) rfl ?_
 refine T.hneed (us := [.b false]) rfl (rfl) ?_
 refine T.hbind (us := [.f a0, .f a1, .f b0, .f b1]) (xs := [.f t1, .f t2, .i t3]) rfl (congrArg (fun r => [calR r 0, calR r 1, calR r 2]) h2) rfl ?_
 refine T.hbind (us := [.f a0, .f a1, .f b0, .f b1]) (xs := [.f t1, .f t2, .i t3]) (ρ' := [.f a0, .f a1, .f b0, .f b1, .f m0, .f m1, .f k0, .f k1, .i u0, .i u1, .i u2, .i u3, .i u4, .i u5, .i t0, .b false, .f t1, .f t2, .i t3, .f t1, .f t2, .i t3]) rfl (congrArg (fun r => [calR r 0, calR r 1, calR r 2]) h2) rfl ?_
 refine T.hbind (us := [.f a0, .f a1, .f m0, .f m1, .f k0, .f k1]) (xs := [.f t4, .f t5, .i t6]) rfl (congrArg (fun r => [calR r 0, calR r 1, calR r 2]) h3) rfl ?_
 refine T.hbind (us := [.f a0, .f a1, .f m0, .f m1, .f k0, .f k1]) (xs := [.f t4, .f t5, .i t6]) rfl (congrArg (fun r => [calR r 0, calR r 1, calR r 2]) h3) rfl ?_
 refine T.hbind (us := [.f t1, .f t1, .f t2, .f t2]) (xs := [.b true]) rfl (congrArg (fun r => [U.b r]) h4) rfl ?_
 refine T.hneed (us := [.b true]) rfl (rfl) ?_
 refine T.hbind (us := [.i t3, .i t3]) (xs := [.b true]) (ρ' := [.f a0, .f a1, .f b0, .f b1, .f m0, .f m1, .f k0, .f k1, .i u0, .i u1, .i u2, .i u3, .i u4, .i u5, .i t0, .b false, .f t1, .f t2, .i t3, .f t1, .f t2, .i t3, .f t4, .f t5, .i t6, .f t4, .f t5, .i t6, .b true, .b true]) rfl (congrArg (fun r => [U.b r]) h5) rfl ?_
 refine T.hneed (us := [.b true]) rfl (rfl) ?_
 refine T.hbind (us := [.f t4, .f t4, .f t5, .f t5]) (xs := [.b true]) rfl (congrArg (fun r => [U.b r]) h6) rfl ?_
 refine T.hneed (us := [.b true]) rfl (rfl) ?_
 refine T.hbind (us := [.i t6, .i t6]) (xs := [.b true]) rfl (congrArg (fun r => [U.b r]) h7) rfl ?_
 refine T.hneed (us := [.b true]) rfl (rfl) ?_
 exact T.hdone rfl
end Go.Proofs.YtiphdhpacklboaaGreat
