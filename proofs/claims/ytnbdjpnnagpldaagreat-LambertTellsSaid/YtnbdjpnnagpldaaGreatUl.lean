/- The law LambertTells walked, its two ways. -/
import Derived.Test.YtnbdjpnnagpldaaGreatUk
namespace Go.Proofs.YtnbdjpnnagpldaaGreat
open Go Go.RowKit
set_option linter.unusedSimpArgs false
set_option linter.unusedVariables false

def ul0 : List (Nat × Ct) := uh7
theorem ul0_ok : AllOk Tryz.prog ul0 := uh7_ok
def ctLamV : Ct := ctP 2 [vp 0 1] (fun us i => calR (lamV (gF us 0, gF us 1)) i) 3 (.tup [vp 2 3, vi .i64 4]) []
theorem ctLamV_ok : CtOk Tryz.prog 7 ctLamV := by
  refine ctP_ok (en Tryz.func7 rfl (by decide)) rfl rfl (fun us w vs hl hv hn => ?_) rfl
  match us, hl with
  | [u0, u1], _ =>
    obtain ⟨x0, y0, hx0, hy0, rfl⟩ := denL_cons.1 hv
    obtain ⟨xs0, h0a, rfl⟩ := den_agg hx0
    obtain ⟨p0, q0, h0b, h0c, rfl⟩ := denL_cons.1 h0a
    obtain ⟨r0, s0, h0d, h0e, rfl⟩ := denL_cons.1 h0c
    rw [denL_nil.1 h0e]
    obtain ⟨a0, e0, w0, rfl⟩ := den_fl h0b
    obtain ⟨a1, e1, w1, rfl⟩ := den_fl h0d
    rw [denL_nil.1 hy0]
    simp [E.ev] at e0 e1
    subst e0 e1
    exact ⟨.tuple #[iv (lamV (a0, a1)).1, .int .i64 (lamV (a0, a1)).2], ive_den (fun i => rfl) (lamV_W ⟨w0, w1⟩), lamValue_any (a0, a1) w ⟨w0, w1⟩⟩

def ul1 : List (Nat × Ct) := (7, ctLamV) :: ul0
theorem ul1_ok : AllOk Tryz.prog ul1 := ⟨ctLamV_ok, ul0_ok⟩

def ctLamD : Ct := ctP 2 [vp 0 1] (fun us i => calR (lamV (gF us 0, gF us 1)) i) 3 (.tup [vp 2 3, vi .i64 4]) []
theorem ctLamD_ok : CtOk Tryz.prog 9 ctLamD := by
  refine ctP_ok (en Tryz.func9 rfl (by decide)) rfl rfl (fun us w vs hl hv hn => ?_) rfl
  match us, hl with
  | [u0, u1], _ =>
    obtain ⟨x0, y0, hx0, hy0, rfl⟩ := denL_cons.1 hv
    obtain ⟨xs0, h0a, rfl⟩ := den_agg hx0
    obtain ⟨p0, q0, h0b, h0c, rfl⟩ := denL_cons.1 h0a
    obtain ⟨r0, s0, h0d, h0e, rfl⟩ := denL_cons.1 h0c
    rw [denL_nil.1 h0e]
    obtain ⟨a0, e0, w0, rfl⟩ := den_fl h0b
    obtain ⟨a1, e1, w1, rfl⟩ := den_fl h0d
    rw [denL_nil.1 hy0]
    simp [E.ev] at e0 e1
    subst e0 e1
    exact ⟨.tuple #[iv (lamV (a0, a1)).1, .int .i64 (lamV (a0, a1)).2], ive_den (fun i => rfl) (lamV_W ⟨w0, w1⟩), lamDens_any (a0, a1) w ⟨w0, w1⟩⟩

def ul2 : List (Nat × Ct) := (9, ctLamD) :: ul1
theorem ul2_ok : AllOk Tryz.prog ul2 := ⟨ctLamD_ok, ul1_ok⟩

def ctLamC : Ct := ctP 4 [vp 0 1, vp 2 3] (fun us i => calR (lamC (gF us 0, gF us 1) (gF us 2, gF us 3)) i) 3 (.tup [vp 4 5, vi .i64 6]) []
theorem ctLamC_ok : CtOk Tryz.prog 10 ctLamC := by
  refine ctP_ok (en Tryz.func10 rfl (by decide)) rfl rfl (fun us w vs hl hv hn => ?_) rfl
  match us, hl with
  | [u0, u1, u2, u3], _ =>
    obtain ⟨x0, y0, hx0, hy0, rfl⟩ := denL_cons.1 hv
    obtain ⟨xs0, h0a, rfl⟩ := den_agg hx0
    obtain ⟨p0, q0, h0b, h0c, rfl⟩ := denL_cons.1 h0a
    obtain ⟨r0, s0, h0d, h0e, rfl⟩ := denL_cons.1 h0c
    rw [denL_nil.1 h0e]
    obtain ⟨a0, e0, w0, rfl⟩ := den_fl h0b
    obtain ⟨a1, e1, w1, rfl⟩ := den_fl h0d
    obtain ⟨x1, y1, hx1, hy1, rfl⟩ := denL_cons.1 hy0
    obtain ⟨xs1, h1a, rfl⟩ := den_agg hx1
    obtain ⟨p1, q1, h1b, h1c, rfl⟩ := denL_cons.1 h1a
    obtain ⟨r1, s1, h1d, h1e, rfl⟩ := denL_cons.1 h1c
    rw [denL_nil.1 h1e]
    obtain ⟨a2, e2, w2, rfl⟩ := den_fl h1b
    obtain ⟨a3, e3, w3, rfl⟩ := den_fl h1d
    rw [denL_nil.1 hy1]
    simp [E.ev] at e0 e1 e2 e3
    subst e0 e1 e2 e3
    exact ⟨.tuple #[iv (lamC (a0, a1) (a2, a3)).1, .int .i64 (lamC (a0, a1) (a2, a3)).2], ive_den (fun i => rfl) (lamC_W ⟨w0, w1⟩ ⟨w2, w3⟩), lamCap_any (a0, a1) (a2, a3) w ⟨w0, w1⟩ ⟨w2, w3⟩⟩

def ul3 : List (Nat × Ct) := (10, ctLamC) :: ul2
theorem ul3_ok : AllOk Tryz.prog ul3 := ⟨ctLamC_ok, ul2_ok⟩

def ctRefV : Ct := ctP 2 [vp 0 1] (fun us i => calR (lamV (gF us 0, gF us 1)) i) 3 (.tup [vp 2 3, vi .i64 4]) []
theorem ctRefV_ok : CtOk Tryz.prog 8 ctRefV := by
  refine ctP_ok (en Tryz.func8 rfl (by decide)) rfl rfl (fun us w vs hl hv hn => ?_) rfl
  match us, hl with
  | [u0, u1], _ =>
    obtain ⟨x0, y0, hx0, hy0, rfl⟩ := denL_cons.1 hv
    obtain ⟨xs0, h0a, rfl⟩ := den_agg hx0
    obtain ⟨p0, q0, h0b, h0c, rfl⟩ := denL_cons.1 h0a
    obtain ⟨r0, s0, h0d, h0e, rfl⟩ := denL_cons.1 h0c
    rw [denL_nil.1 h0e]
    obtain ⟨a0, e0, w0, rfl⟩ := den_fl h0b
    obtain ⟨a1, e1, w1, rfl⟩ := den_fl h0d
    rw [denL_nil.1 hy0]
    simp [E.ev] at e0 e1
    subst e0 e1
    exact ⟨.tuple #[iv (lamV (a0, a1)).1, .int .i64 (lamV (a0, a1)).2], ive_den (fun i => rfl) (lamV_W ⟨w0, w1⟩), rval_any a0 a1 w w0 w1⟩

def ul4 : List (Nat × Ct) := (8, ctRefV) :: ul3
theorem ul4_ok : AllOk Tryz.prog ul4 := ⟨ctRefV_ok, ul3_ok⟩

def ctRefC : Ct := ctP 4 [vp 0 1, vp 2 3] (fun us i => calR (lamC (gF us 0, gF us 1) (gF us 2, gF us 3)) i) 3 (.tup [vp 4 5, vi .i64 6]) []
theorem ctRefC_ok : CtOk Tryz.prog 11 ctRefC := by
  refine ctP_ok (en Tryz.func11 rfl (by decide)) rfl rfl (fun us w vs hl hv hn => ?_) rfl
  match us, hl with
  | [u0, u1, u2, u3], _ =>
    obtain ⟨x0, y0, hx0, hy0, rfl⟩ := denL_cons.1 hv
    obtain ⟨xs0, h0a, rfl⟩ := den_agg hx0
    obtain ⟨p0, q0, h0b, h0c, rfl⟩ := denL_cons.1 h0a
    obtain ⟨r0, s0, h0d, h0e, rfl⟩ := denL_cons.1 h0c
    rw [denL_nil.1 h0e]
    obtain ⟨a0, e0, w0, rfl⟩ := den_fl h0b
    obtain ⟨a1, e1, w1, rfl⟩ := den_fl h0d
    obtain ⟨x1, y1, hx1, hy1, rfl⟩ := denL_cons.1 hy0
    obtain ⟨xs1, h1a, rfl⟩ := den_agg hx1
    obtain ⟨p1, q1, h1b, h1c, rfl⟩ := denL_cons.1 h1a
    obtain ⟨r1, s1, h1d, h1e, rfl⟩ := denL_cons.1 h1c
    rw [denL_nil.1 h1e]
    obtain ⟨a2, e2, w2, rfl⟩ := den_fl h1b
    obtain ⟨a3, e3, w3, rfl⟩ := den_fl h1d
    rw [denL_nil.1 hy1]
    simp [E.ev] at e0 e1 e2 e3
    subst e0 e1 e2 e3
    exact ⟨.tuple #[iv (lamC (a0, a1) (a2, a3)).1, .int .i64 (lamC (a0, a1) (a2, a3)).2], ive_den (fun i => rfl) (lamC_W ⟨w0, w1⟩ ⟨w2, w3⟩), rcap_any a0 a1 a2 a3 w w0 w1 w2 w3⟩

def ul5 : List (Nat × Ct) := (11, ctRefC) :: ul4
theorem ul5_ok : AllOk Tryz.prog ul5 := ⟨ctRefC_ok, ul4_ok⟩

def ctP07 : Ct := ⟨1, [], [vf 0], { binds := [⟨fun us _ => fB Ieee.double.add us, 1, [(.v 0), (.l (.f 0))]⟩, ⟨fun us _ => fB Ieee.double.add us, 1, [(.v 0), (.l (.f 0))]⟩], needs := [⟨fN Ieee.double.add, [(.v 0), (.l (.f 0))]⟩, ⟨fN Ieee.double.add, [(.v 0), (.l (.f 0))]⟩], val := .agg [.fl (.v 1), .fl (.v 2)], upd := [] }⟩
theorem ctP07_ok : CtOk Tryz.prog 44 ctP07 := CtOk.flat ul5_ok (dr_ok ul5_ok) Tryz.func44 rfl (by decide) [] 200 ⟨[.agg [.fl (.v 1), .fl (.v 2)]], [], 3, []⟩ (by kernel_rfl) rfl (by kernel_rfl) rfl (by kernel_rfl) (by kernel_rfl) (by kernel_rfl) (by kernel_rfl)

def ul6 : List (Nat × Ct) := (44, ctP07) :: ul5
theorem ul6_ok : AllOk Tryz.prog ul6 := ⟨ctP07_ok, ul5_ok⟩

def ctFrac : Ct := ⟨1, [], [vi .u32 0], { binds := [⟨fun us _ => nF us, 1, [(.v 0)]⟩, ⟨fun us _ => fB Ieee.double.div us, 1, [(.v 1), (.l (.f 4751297606873776128))]⟩], needs := [⟨nN, [(.v 0)]⟩, ⟨fN Ieee.double.div, [(.v 1), (.l (.f 4751297606873776128))]⟩], val := .fl (.v 2), upd := [] }⟩
theorem ctFrac_ok : CtOk Tryz.prog 64 ctFrac := CtOk.flat ul6_ok (dr_ok ul6_ok) Tryz.func64 rfl (by decide) [] 200 ⟨[.fl (.v 2)], [], 3, []⟩ (by kernel_rfl) rfl (by kernel_rfl) rfl (by kernel_rfl) (by kernel_rfl) (by kernel_rfl) (by kernel_rfl)

def ul7 : List (Nat × Ct) := (64, ctFrac) :: ul6
theorem ul7_ok : AllOk Tryz.prog ul7 := ⟨ctFrac_ok, ul6_ok⟩

def ctBtw : Ct := ⟨3, [], [vf 0, vf 1, vi .u32 2], { binds := [⟨fun us i => fRes (btwF (gF us 0) (gF us 1) (gI us 2)) i, 1, upto 0 3⟩], needs := [⟨nBtw, [.v 0, .v 1, .v 2]⟩], val := vf 3, upd := [] }⟩
set_option maxRecDepth 100000 in
set_option maxHeartbeats 8000000 in
theorem ctBtw_ok : CtOk Tryz.prog 26 ctBtw := by
  refine CtOk.of_eval2 ul7_ok (dr_ok ul7_ok) Tryz.func26 rfl (by decide) [] 200 (by kernel_rfl) rfl (.bind ⟨fun us _ => fB Ieee.double.sub us, 1, [(.v 1), (.v 0)]⟩ (.need ⟨fN Ieee.double.sub, [(.v 1), (.v 0)]⟩ (.bind ⟨fun us _ => nF us, 1, [(.v 2)]⟩ (.bind ⟨fun us _ => fB Ieee.double.div us, 1, [(.v 4), (.l (.f 4751297606873776128))]⟩ (.need ⟨nN, [(.v 2)]⟩ (.need ⟨fN Ieee.double.div, [(.v 4), (.l (.f 4751297606873776128))]⟩ (.bind ⟨fun us _ => fB Ieee.double.mul us, 1, [(.v 3), (.v 5)]⟩ (.need ⟨fN Ieee.double.mul, [(.v 3), (.v 5)]⟩ (.bind ⟨fun us _ => fB Ieee.double.add us, 1, [(.v 0), (.v 6)]⟩ (.need ⟨fN Ieee.double.add, [(.v 0), (.v 6)]⟩ (.bind ⟨fun us _ => cB Dy.flt us, 1, [(.v 7), (.v 0)]⟩ (.ite (.v 8) (.done .ret ⟨[.fl (.v 0)], [], 9, []⟩) (.bind ⟨fun us _ => cB Dy.fgt us, 1, [(.v 7), (.v 1)]⟩ (.ite (.v 9) (.done .ret ⟨[.fl (.v 1)], [], 10, []⟩) (.done .ret ⟨[.fl (.v 7)], [], 10, []⟩))))))))))))))) (by kernel_rfl) (by kernel_rfl) (by kernel_rfl) (fun us hl hF hB hN => ?_)
  match us, hl with
  | [u0, u1, u2], _ =>
    simp [FactsB, FactsL, Facts, ctBtw] at hF hB
    simp [NeedsAt, runB, evs, E.ev, upto, resl, List.range, List.range.loop, ctBtw] at hN
    obtain ⟨⟨a1, rfl, w1⟩, ⟨a2, rfl, w2⟩, ⟨u, rfl⟩⟩ := hF
    simp [nBtw, btwN, fracN, gF, gI, U.F, U.I] at hN
    obtain ⟨⟨⟨⟨n1, n2⟩, n3⟩, n4⟩, n5⟩ := hN
    refine T.HH.h ?_
    obtain ⟨t0, e1⟩ : ∃ t0, ((Ieee.double.sub a2 a1).getD 0) = t0 := ⟨_, rfl⟩
    refine T.hbind (us := [.f a2, .f a1]) (xs := [.f t0]) (ρ' := [.f a1, .f a2, .i u, .f t0]) rfl (congrArg (fun r => [U.f r]) e1) rfl ?_
    refine T.hneed (us := [.f a2, .f a1]) rfl (by subst e1; exact n3) ?_
    obtain ⟨t2, e3⟩ : ∃ t2, (FloatKind.f64.nearest u) = t2 := ⟨_, rfl⟩
    refine T.hbind (us := [.i u]) (xs := [.f t2]) (ρ' := [.f a1, .f a2, .i u, .f t0, .f t2]) rfl (congrArg (fun r => [U.f r]) e3) rfl ?_
    obtain ⟨t4, e5⟩ : ∃ t4, ((Ieee.double.div t2 4751297606873776128).getD 0) = t4 := ⟨_, rfl⟩
    refine T.hbind (us := [.f t2, .f 4751297606873776128]) (xs := [.f t4]) (ρ' := [.f a1, .f a2, .i u, .f t0, .f t2, .f t4]) rfl (congrArg (fun r => [U.f r]) e5) rfl ?_
    refine T.hneed (us := [.i u]) rfl (decide_eq_true n1) ?_
    refine T.hneed (us := [.f t2, .f 4751297606873776128]) rfl (by subst e1; subst e3; subst e5; exact n2) ?_
    obtain ⟨t6, e7⟩ : ∃ t6, ((Ieee.double.mul t0 t4).getD 0) = t6 := ⟨_, rfl⟩
    refine T.hbind (us := [.f t0, .f t4]) (xs := [.f t6]) (ρ' := [.f a1, .f a2, .i u, .f t0, .f t2, .f t4, .f t6]) rfl (congrArg (fun r => [U.f r]) e7) rfl ?_
    refine T.hneed (us := [.f t0, .f t4]) rfl (by subst e1; subst e3; subst e5; subst e7; exact n4) ?_
    obtain ⟨t8, e9⟩ : ∃ t8, ((Ieee.double.add a1 t6).getD 0) = t8 := ⟨_, rfl⟩
    refine T.hbind (us := [.f a1, .f t6]) (xs := [.f t8]) (ρ' := [.f a1, .f a2, .i u, .f t0, .f t2, .f t4, .f t6, .f t8]) rfl (congrArg (fun r => [U.f r]) e9) rfl ?_
    refine T.hneed (us := [.f a1, .f t6]) rfl (by subst e1; subst e3; subst e5; subst e7; subst e9; exact n5) ?_
    obtain ⟨t10, e11⟩ : ∃ t10, (Dy.flt t8 a1) = t10 := ⟨_, rfl⟩
    refine T.hbind (us := [.f t8, .f a1]) (xs := [.b t10]) (ρ' := [.f a1, .f a2, .i u, .f t0, .f t2, .f t4, .f t6, .f t8, .b t10]) rfl (congrArg (fun r => [U.b r]) e11) rfl ?_
    refine T.hite (x := t10) ?_ ?_ ?_
    · rfl
    · intro c13
      refine T.hdone ?_
      have e00 : btwF (a1) (a2) (u) = a1 := by simp only [btwF, btwT, fracF, e1, e3, e5, e7, e9, e11, c13] <;> simp_all
      exact ⟨(congrArg (fun r => some (fRes r 0)) e00.symm), trivial, rfl⟩
    · intro c13
      obtain ⟨t13, e14⟩ : ∃ t13, (Dy.fgt t8 a2) = t13 := ⟨_, rfl⟩
      refine T.hbind (us := [.f t8, .f a2]) (xs := [.b t13]) (ρ' := [.f a1, .f a2, .i u, .f t0, .f t2, .f t4, .f t6, .f t8, .b t10, .b t13]) rfl (congrArg (fun r => [U.b r]) e14) rfl ?_
      refine T.hite (x := t13) ?_ ?_ ?_
      · rfl
      · intro c16
        refine T.hdone ?_
        have e00 : btwF (a1) (a2) (u) = a2 := by simp only [btwF, btwT, fracF, e1, e3, e5, e7, e9, e11, c13, e14, c16] <;> simp_all
        exact ⟨(congrArg (fun r => some (fRes r 0)) e00.symm), trivial, rfl⟩
      · intro c16
        refine T.hdone ?_
        have e00 : btwF (a1) (a2) (u) = t8 := by simp only [btwF, btwT, fracF, e1, e3, e5, e7, e9, e11, c13, e14, c16] <;> simp_all
        exact ⟨(congrArg (fun r => some (fRes r 0)) e00.symm), trivial, rfl⟩

def ul8 : List (Nat × Ct) := (26, ctBtw) :: ul7
theorem ul8_ok : AllOk Tryz.prog ul8 := ⟨ctBtw_ok, ul7_ok⟩

def ctSpan : Ct := ⟨4, [], [vf 0, vf 1, vi .u32 2, vi .u32 3], { binds := [⟨fun us i => ivU (spanF (gF us 0) (gF us 1) (gI us 2) (gI us 3)) i, 2, upto 0 4⟩], needs := [⟨nSpan, [.v 0, .v 1, .v 2, .v 3]⟩], val := vp 4 5, upd := [] }⟩
set_option maxRecDepth 100000 in
set_option maxHeartbeats 8000000 in
theorem ctSpan_ok : CtOk Tryz.prog 6 ctSpan := by
  refine CtOk.of_eval2 ul8_ok (dr_ok ul8_ok) Tryz.func6 rfl (by decide) [] 200 (by kernel_rfl) rfl (.bind ⟨fun us i => fRes (btwF (gF us 0) (gF us 1) (gI us 2)) i, 1, [(.v 0), (.v 1), (.v 2)]⟩ (.need ⟨nBtw, [(.v 0), (.v 1), (.v 2)]⟩ (.bind ⟨fun us i => fRes (btwF (gF us 0) (gF us 1) (gI us 2)) i, 1, [(.v 0), (.v 1), (.v 3)]⟩ (.need ⟨nBtw, [(.v 0), (.v 1), (.v 3)]⟩ (.bind ⟨fun us _ => cB Dy.fgt us, 1, [(.v 4), (.v 5)]⟩ (.ite (.v 6) (.done .ret ⟨[.agg [.fl (.v 5), .fl (.v 4)]], [], 7, []⟩) (.done .ret ⟨[.agg [.fl (.v 4), .fl (.v 5)]], [], 7, []⟩))))))) (by kernel_rfl) (by kernel_rfl) (by kernel_rfl) (fun us hl hF hB hN => ?_)
  match us, hl with
  | [u0, u1, u2, u3], _ =>
    simp [FactsB, FactsL, Facts, ctSpan] at hF hB
    simp [NeedsAt, runB, evs, E.ev, upto, resl, List.range, List.range.loop, ctSpan] at hN
    obtain ⟨⟨a1, rfl, w1⟩, ⟨a2, rfl, w2⟩, ⟨u, rfl⟩, ⟨v, rfl⟩⟩ := hF
    simp [nSpan, gF, gI, U.F, U.I] at hN
    refine T.HH.h ?_
    obtain ⟨t0, e1⟩ : ∃ t0, ((btwF (a1) (a2) (u))) = t0 := ⟨_, rfl⟩
    refine T.hbind (us := [.f a1, .f a2, .i u]) (xs := [.f t0]) (ρ' := [.f a1, .f a2, .i u, .i v, .f t0]) rfl (congrArg (fun r => [U.f r]) e1) rfl ?_
    refine T.hneed (us := [.f a1, .f a2, .i u]) rfl (hN.1) ?_
    obtain ⟨t2, e3⟩ : ∃ t2, ((btwF (a1) (a2) (v))) = t2 := ⟨_, rfl⟩
    refine T.hbind (us := [.f a1, .f a2, .i v]) (xs := [.f t2]) (ρ' := [.f a1, .f a2, .i u, .i v, .f t0, .f t2]) rfl (congrArg (fun r => [U.f r]) e3) rfl ?_
    refine T.hneed (us := [.f a1, .f a2, .i v]) rfl (hN.2) ?_
    obtain ⟨t4, e5⟩ : ∃ t4, (Dy.fgt t0 t2) = t4 := ⟨_, rfl⟩
    refine T.hbind (us := [.f t0, .f t2]) (xs := [.b t4]) (ρ' := [.f a1, .f a2, .i u, .i v, .f t0, .f t2, .b t4]) rfl (congrArg (fun r => [U.b r]) e5) rfl ?_
    refine T.hite (x := t4) ?_ ?_ ?_
    · rfl
    · intro c7
      refine T.hdone ?_
      have e00 : spanF (a1) (a2) (u) (v) = (t2, t0) := by simp only [spanF, e1, e3, e5, c7] <;> simp_all
      exact ⟨⟨(congrArg (fun r => some (ivU r 0)) e00.symm), (congrArg (fun r => some (ivU r 1)) e00.symm), trivial⟩, trivial, rfl⟩
    · intro c7
      refine T.hdone ?_
      have e00 : spanF (a1) (a2) (u) (v) = (t0, t2) := by simp only [spanF, e1, e3, e5, c7] <;> simp_all
      exact ⟨⟨(congrArg (fun r => some (ivU r 0)) e00.symm), (congrArg (fun r => some (ivU r 1)) e00.symm), trivial⟩, trivial, rfl⟩

def ul9 : List (Nat × Ct) := (6, ctSpan) :: ul8
theorem ul9_ok : AllOk Tryz.prog ul9 := ⟨ctSpan_ok, ul8_ok⟩

def ctAwake07 : Ct := ctTrue
theorem ctAwake07_ok : CtOk Tryz.prog 12 ctAwake07 := ctTrue_ok ul9_ok (dr_ok ul9_ok) Tryz.func12 rfl (by decide) 200 _ rfl (by kernel_rfl)

def ul10 : List (Nat × Ct) := (12, ctAwake07) :: ul9
theorem ul10_ok : AllOk Tryz.prog ul10 := ⟨ctAwake07_ok, ul9_ok⟩

set_option maxRecDepth 100000 in
set_option maxHeartbeats 4000000 in
theorem lamtells_e (a0 a1 b0 b1 : Nat) (u0 u1 u2 u3 : Int) (w : World) (w0 : Dy.W a0) (w1 : Dy.W a1) (w2 : Dy.W b0) (w3 : Dy.W b1) {t0 : Int} {t1 : Nat} {t2 : Nat} {t3 : Nat} {t4 : Nat} {t5 : Nat} {t6 : Nat} {t7 : Int} {t8 : Nat} {t9 : Nat} {t10 : Int} {t11 : Nat} {t12 : Nat} {t13 : Int} (h0 : (u0.tmod 2) = t0) (h1 : (t0 == 0) = true) (h2 : (spanF (0) (4607182418800017408) (u0) (u1)) = (t1, t2)) (h3 : nSpan [.f 0, .f 4607182418800017408, .i u0, .i u1] = true) (h4 : (spanF (0) (4607182418800017408) (u2) (u3)) = (t3, t4)) (h5 : nSpan [.f 0, .f 4607182418800017408, .i u2, .i u3] = true) (h6 : (lamV (t1, t2)) = ((t5, t6), t7)) (h7 : (lamV (t3, t4)) = ((t8, t9), t10)) (h8 : (lamC (t1, t2) (t3, t4)) = ((t11, t12), t13)) (h9 : ((Dy.feq t5 t5 && (Dy.feq t6 t6 && true))) = true) (h10 : (t7 == t7) = true) (h11 : ((Dy.feq t8 t8 && (Dy.feq t9 t9 && true))) = true) (h12 : (t10 == t10) = true) (h13 : ((Dy.feq t11 t11 && (Dy.feq t12 t12 && true))) = true) (h14 : (t13 == t13) = true) : Calls Tryz.prog 3 #[.agg #[.float .f64 a0, .float .f64 a1], .agg #[.float .f64 b0, .float .f64 b1], .agg #[.int .u32 u0, .int .u32 u1, .int .u32 u2, .int .u32 u3]] w fun e w' => e = .returned (.bool true) ∧ Below w.heap.size w w' := by
  refine law_calls (vs := [.agg #[.float .f64 a0, .float .f64 a1], .agg #[.float .f64 b0, .float .f64 b1], .agg #[.int .u32 u0, .int .u32 u1, .int .u32 u2, .int .u32 u3]]) (us := [.f a0, .f a1, .f b0, .f b1, .i u0, .i u1, .i u2, .i u3]) (args := [vp 0 1, vp 2 3, .agg [vi .u32 4, vi .u32 5, vi .u32 6, vi .u32 7]]) ul10_ok (dr_ok ul10_ok) Tryz.func3 [] 200 8 rfl [true, true, true, true, true, true, true] (t := .bind ⟨fun us _ => iB (fun a b => a.tmod b) us, 1, [(.v 4), (.l (.i 2))]⟩ (.need ⟨iN, [(.v 4), (.l (.i 2))]⟩ (.bind ⟨fun us _ => jB (fun a b => a == b) us, 1, [(.v 8), (.l (.i 0))]⟩ (.need ⟨pT, [(.v 9)]⟩ (.bind ⟨fun us i => ivU (spanF (gF us 0) (gF us 1) (gI us 2) (gI us 3)) i, 2, [(.l (.f 0)), (.l (.f 4607182418800017408)), (.v 4), (.v 5)]⟩ (.need ⟨nSpan, [(.l (.f 0)), (.l (.f 4607182418800017408)), (.v 4), (.v 5)]⟩ (.bind ⟨fun us i => ivU (spanF (gF us 0) (gF us 1) (gI us 2) (gI us 3)) i, 2, [(.l (.f 0)), (.l (.f 4607182418800017408)), (.v 6), (.v 7)]⟩ (.need ⟨nSpan, [(.l (.f 0)), (.l (.f 4607182418800017408)), (.v 6), (.v 7)]⟩ (.bind ⟨fun us i => calR (lamV (gF us 0, gF us 1)) i, 3, [(.v 10), (.v 11)]⟩ (.bind ⟨fun us i => calR (lamV (gF us 0, gF us 1)) i, 3, [(.v 10), (.v 11)]⟩ (.bind ⟨fun us i => calR (lamV (gF us 0, gF us 1)) i, 3, [(.v 12), (.v 13)]⟩ (.bind ⟨fun us i => calR (lamV (gF us 0, gF us 1)) i, 3, [(.v 12), (.v 13)]⟩ (.bind ⟨fun us i => calR (lamC (gF us 0, gF us 1) (gF us 2, gF us 3)) i, 3, [(.v 10), (.v 11), (.v 12), (.v 13)]⟩ (.bind ⟨fun us i => calR (lamC (gF us 0, gF us 1) (gF us 2, gF us 3)) i, 3, [(.v 10), (.v 11), (.v 12), (.v 13)]⟩ (.bind ⟨fun us _ => eqB [Kd.f, Kd.f] us, 1, [(.v 14), (.v 17), (.v 15), (.v 18)]⟩ (.need ⟨pT, [(.v 32)]⟩ (.bind ⟨fun us _ => jB (fun a b => a == b) us, 1, [(.v 16), (.v 19)]⟩ (.need ⟨pT, [(.v 33)]⟩ (.bind ⟨fun us _ => eqB [Kd.f, Kd.f] us, 1, [(.v 20), (.v 23), (.v 21), (.v 24)]⟩ (.need ⟨pT, [(.v 34)]⟩ (.bind ⟨fun us _ => jB (fun a b => a == b) us, 1, [(.v 22), (.v 25)]⟩ (.need ⟨pT, [(.v 35)]⟩ (.bind ⟨fun us _ => eqB [Kd.f, Kd.f] us, 1, [(.v 26), (.v 29), (.v 27), (.v 30)]⟩ (.need ⟨pT, [(.v 36)]⟩ (.bind ⟨fun us _ => jB (fun a b => a == b) us, 1, [(.v 28), (.v 31)]⟩ (.need ⟨pT, [(.v 37)]⟩ (.done .ret ⟨[.bo (.l (.b true))], [], 38, []⟩))))))))))))))))))))))))))) (by kernel_rfl) ?_ (denL_cons.2 ⟨_, _, (agg_mk (denL_cons.2 ⟨_, _, (fl_den rfl w0), (denL_cons.2 ⟨_, _, (fl_den rfl w1), rfl, rfl⟩), rfl⟩)), (denL_cons.2 ⟨_, _, (agg_mk (denL_cons.2 ⟨_, _, (fl_den rfl w2), (denL_cons.2 ⟨_, _, (fl_den rfl w3), rfl, rfl⟩), rfl⟩)), (denL_cons.2 ⟨_, _, (agg_mk (denL_cons.2 ⟨_, _, (it_den rfl), (denL_cons.2 ⟨_, _, (it_den rfl), (denL_cons.2 ⟨_, _, (it_den rfl), (denL_cons.2 ⟨_, _, (it_den rfl), rfl, rfl⟩), rfl⟩), rfl⟩), rfl⟩)), rfl, rfl⟩), rfl⟩), rfl⟩)
  refine T.HH.h ?_
  refine T.hbind (us := [.i u0, .i 2]) (xs := [.i t0]) (ρ' := [.f a0, .f a1, .f b0, .f b1, .i u0, .i u1, .i u2, .i u3, .i t0]) rfl (congrArg (fun r => [U.i r]) h0) rfl ?_
  refine T.hneed (us := [.i u0, .i 2]) rfl (rfl) ?_
  refine T.hbind (us := [.i t0, .i 0]) (xs := [.b true]) (ρ' := [.f a0, .f a1, .f b0, .f b1, .i u0, .i u1, .i u2, .i u3, .i t0, .b true]) rfl (congrArg (fun r => [U.b r]) h1) rfl ?_
  refine T.hneed (us := [.b true]) rfl (rfl) ?_
  refine T.hbind (us := [.f 0, .f 4607182418800017408, .i u0, .i u1]) (xs := [.f t1, .f t2]) (ρ' := [.f a0, .f a1, .f b0, .f b1, .i u0, .i u1, .i u2, .i u3, .i t0, .b true, .f t1, .f t2]) rfl (congrArg (fun r => [ivU r 0, ivU r 1]) h2) rfl ?_
  refine T.hneed (us := [.f 0, .f 4607182418800017408, .i u0, .i u1]) rfl (h3) ?_
  refine T.hbind (us := [.f 0, .f 4607182418800017408, .i u2, .i u3]) (xs := [.f t3, .f t4]) (ρ' := [.f a0, .f a1, .f b0, .f b1, .i u0, .i u1, .i u2, .i u3, .i t0, .b true, .f t1, .f t2, .f t3, .f t4]) rfl (congrArg (fun r => [ivU r 0, ivU r 1]) h4) rfl ?_
  refine T.hneed (us := [.f 0, .f 4607182418800017408, .i u2, .i u3]) rfl (h5) ?_
  refine T.hbind (us := [.f t1, .f t2]) (xs := [.f t5, .f t6, .i t7]) (ρ' := [.f a0, .f a1, .f b0, .f b1, .i u0, .i u1, .i u2, .i u3, .i t0, .b true, .f t1, .f t2, .f t3, .f t4, .f t5, .f t6, .i t7]) rfl (congrArg (fun r => [calR r 0, calR r 1, calR r 2]) h6) rfl ?_
  refine T.hbind (us := [.f t1, .f t2]) (xs := [.f t5, .f t6, .i t7]) (ρ' := [.f a0, .f a1, .f b0, .f b1, .i u0, .i u1, .i u2, .i u3, .i t0, .b true, .f t1, .f t2, .f t3, .f t4, .f t5, .f t6, .i t7, .f t5, .f t6, .i t7]) rfl (congrArg (fun r => [calR r 0, calR r 1, calR r 2]) h6) rfl ?_
  refine T.hbind (us := [.f t3, .f t4]) (xs := [.f t8, .f t9, .i t10]) (ρ' := [.f a0, .f a1, .f b0, .f b1, .i u0, .i u1, .i u2, .i u3, .i t0, .b true, .f t1, .f t2, .f t3, .f t4, .f t5, .f t6, .i t7, .f t5, .f t6, .i t7, .f t8, .f t9, .i t10]) rfl (congrArg (fun r => [calR r 0, calR r 1, calR r 2]) h7) rfl ?_
  refine T.hbind (us := [.f t3, .f t4]) (xs := [.f t8, .f t9, .i t10]) (ρ' := [.f a0, .f a1, .f b0, .f b1, .i u0, .i u1, .i u2, .i u3, .i t0, .b true, .f t1, .f t2, .f t3, .f t4, .f t5, .f t6, .i t7, .f t5, .f t6, .i t7, .f t8, .f t9, .i t10, .f t8, .f t9, .i t10]) rfl (congrArg (fun r => [calR r 0, calR r 1, calR r 2]) h7) rfl ?_
  refine T.hbind (us := [.f t1, .f t2, .f t3, .f t4]) (xs := [.f t11, .f t12, .i t13]) (ρ' := [.f a0, .f a1, .f b0, .f b1, .i u0, .i u1, .i u2, .i u3, .i t0, .b true, .f t1, .f t2, .f t3, .f t4, .f t5, .f t6, .i t7, .f t5, .f t6, .i t7, .f t8, .f t9, .i t10, .f t8, .f t9, .i t10, .f t11, .f t12, .i t13]) rfl (congrArg (fun r => [calR r 0, calR r 1, calR r 2]) h8) rfl ?_
  refine T.hbind (us := [.f t1, .f t2, .f t3, .f t4]) (xs := [.f t11, .f t12, .i t13]) (ρ' := [.f a0, .f a1, .f b0, .f b1, .i u0, .i u1, .i u2, .i u3, .i t0, .b true, .f t1, .f t2, .f t3, .f t4, .f t5, .f t6, .i t7, .f t5, .f t6, .i t7, .f t8, .f t9, .i t10, .f t8, .f t9, .i t10, .f t11, .f t12, .i t13, .f t11, .f t12, .i t13]) rfl (congrArg (fun r => [calR r 0, calR r 1, calR r 2]) h8) rfl ?_
  refine T.hbind (us := [.f t5, .f t5, .f t6, .f t6]) (xs := [.b true]) (ρ' := [.f a0, .f a1, .f b0, .f b1, .i u0, .i u1, .i u2, .i u3, .i t0, .b true, .f t1, .f t2, .f t3, .f t4, .f t5, .f t6, .i t7, .f t5, .f t6, .i t7, .f t8, .f t9, .i t10, .f t8, .f t9, .i t10, .f t11, .f t12, .i t13, .f t11, .f t12, .i t13, .b true]) rfl (congrArg (fun r => [U.b r]) h9) rfl ?_
  refine T.hneed (us := [.b true]) rfl (rfl) ?_
  refine T.hbind (us := [.i t7, .i t7]) (xs := [.b true]) (ρ' := [.f a0, .f a1, .f b0, .f b1, .i u0, .i u1, .i u2, .i u3, .i t0, .b true, .f t1, .f t2, .f t3, .f t4, .f t5, .f t6, .i t7, .f t5, .f t6, .i t7, .f t8, .f t9, .i t10, .f t8, .f t9, .i t10, .f t11, .f t12, .i t13, .f t11, .f t12, .i t13, .b true, .b true]) rfl (congrArg (fun r => [U.b r]) h10) rfl ?_
  refine T.hneed (us := [.b true]) rfl (rfl) ?_
  refine T.hbind (us := [.f t8, .f t8, .f t9, .f t9]) (xs := [.b true]) (ρ' := [.f a0, .f a1, .f b0, .f b1, .i u0, .i u1, .i u2, .i u3, .i t0, .b true, .f t1, .f t2, .f t3, .f t4, .f t5, .f t6, .i t7, .f t5, .f t6, .i t7, .f t8, .f t9, .i t10, .f t8, .f t9, .i t10, .f t11, .f t12, .i t13, .f t11, .f t12, .i t13, .b true, .b true, .b true]) rfl (congrArg (fun r => [U.b r]) h11) rfl ?_
  refine T.hneed (us := [.b true]) rfl (rfl) ?_
  refine T.hbind (us := [.i t10, .i t10]) (xs := [.b true]) (ρ' := [.f a0, .f a1, .f b0, .f b1, .i u0, .i u1, .i u2, .i u3, .i t0, .b true, .f t1, .f t2, .f t3, .f t4, .f t5, .f t6, .i t7, .f t5, .f t6, .i t7, .f t8, .f t9, .i t10, .f t8, .f t9, .i t10, .f t11, .f t12, .i t13, .f t11, .f t12, .i t13, .b true, .b true, .b true, .b true]) rfl (congrArg (fun r => [U.b r]) h12) rfl ?_
  refine T.hneed (us := [.b true]) rfl (rfl) ?_
  refine T.hbind (us := [.f t11, .f t11, .f t12, .f t12]) (xs := [.b true]) (ρ' := [.f a0, .f a1, .f b0, .f b1, .i u0, .i u1, .i u2, .i u3, .i t0, .b true, .f t1, .f t2, .f t3, .f t4, .f t5, .f t6, .i t7, .f t5, .f t6, .i t7, .f t8, .f t9, .i t10, .f t8, .f t9, .i t10, .f t11, .f t12, .i t13, .f t11, .f t12, .i t13, .b true, .b true, .b true, .b true, .b true]) rfl (congrArg (fun r => [U.b r]) h13) rfl ?_
  refine T.hneed (us := [.b true]) rfl (rfl) ?_
  refine T.hbind (us := [.i t13, .i t13]) (xs := [.b true]) (ρ' := [.f a0, .f a1, .f b0, .f b1, .i u0, .i u1, .i u2, .i u3, .i t0, .b true, .f t1, .f t2, .f t3, .f t4, .f t5, .f t6, .i t7, .f t5, .f t6, .i t7, .f t8, .f t9, .i t10, .f t8, .f t9, .i t10, .f t11, .f t12, .i t13, .f t11, .f t12, .i t13, .b true, .b true, .b true, .b true, .b true, .b true]) rfl (congrArg (fun r => [U.b r]) h14) rfl ?_
  refine T.hneed (us := [.b true]) rfl (rfl) ?_
  exact T.hdone rfl

set_option maxRecDepth 100000 in
set_option maxHeartbeats 4000000 in
theorem lamtells_o (a0 a1 b0 b1 : Nat) (u0 u1 u2 u3 : Int) (w : World) (w0 : Dy.W a0) (w1 : Dy.W a1) (w2 : Dy.W b0) (w3 : Dy.W b1) {t0 : Int} {t1 : Nat} {t2 : Nat} {t3 : Int} {t4 : Nat} {t5 : Nat} {t6 : Int} {t7 : Nat} {t8 : Nat} {t9 : Int} (h0 : (u0.tmod 2) = t0) (h1 : (t0 == 0) = false) (h2 : (lamV (a0, a1)) = ((t1, t2), t3)) (h3 : (lamV (b0, b1)) = ((t4, t5), t6)) (h4 : (lamC (a0, a1) (b0, b1)) = ((t7, t8), t9)) (h5 : ((Dy.feq t1 t1 && (Dy.feq t2 t2 && true))) = true) (h6 : (t3 == t3) = true) (h7 : ((Dy.feq t4 t4 && (Dy.feq t5 t5 && true))) = true) (h8 : (t6 == t6) = true) (h9 : ((Dy.feq t7 t7 && (Dy.feq t8 t8 && true))) = true) (h10 : (t9 == t9) = true) : Calls Tryz.prog 3 #[.agg #[.float .f64 a0, .float .f64 a1], .agg #[.float .f64 b0, .float .f64 b1], .agg #[.int .u32 u0, .int .u32 u1, .int .u32 u2, .int .u32 u3]] w fun e w' => e = .returned (.bool true) ∧ Below w.heap.size w w' := by
  refine law_calls (vs := [.agg #[.float .f64 a0, .float .f64 a1], .agg #[.float .f64 b0, .float .f64 b1], .agg #[.int .u32 u0, .int .u32 u1, .int .u32 u2, .int .u32 u3]]) (us := [.f a0, .f a1, .f b0, .f b1, .i u0, .i u1, .i u2, .i u3]) (args := [vp 0 1, vp 2 3, .agg [vi .u32 4, vi .u32 5, vi .u32 6, vi .u32 7]]) ul10_ok (dr_ok ul10_ok) Tryz.func3 [] 200 8 rfl [false, true, true, true, true, true, true] (t := .bind ⟨fun us _ => iB (fun a b => a.tmod b) us, 1, [(.v 4), (.l (.i 2))]⟩ (.need ⟨iN, [(.v 4), (.l (.i 2))]⟩ (.bind ⟨fun us _ => jB (fun a b => a == b) us, 1, [(.v 8), (.l (.i 0))]⟩ (.need ⟨pF, [(.v 9)]⟩ (.bind ⟨fun us i => calR (lamV (gF us 0, gF us 1)) i, 3, [(.v 0), (.v 1)]⟩ (.bind ⟨fun us i => calR (lamV (gF us 0, gF us 1)) i, 3, [(.v 0), (.v 1)]⟩ (.bind ⟨fun us i => calR (lamV (gF us 0, gF us 1)) i, 3, [(.v 2), (.v 3)]⟩ (.bind ⟨fun us i => calR (lamV (gF us 0, gF us 1)) i, 3, [(.v 2), (.v 3)]⟩ (.bind ⟨fun us i => calR (lamC (gF us 0, gF us 1) (gF us 2, gF us 3)) i, 3, [(.v 0), (.v 1), (.v 2), (.v 3)]⟩ (.bind ⟨fun us i => calR (lamC (gF us 0, gF us 1) (gF us 2, gF us 3)) i, 3, [(.v 0), (.v 1), (.v 2), (.v 3)]⟩ (.bind ⟨fun us _ => eqB [Kd.f, Kd.f] us, 1, [(.v 10), (.v 13), (.v 11), (.v 14)]⟩ (.need ⟨pT, [(.v 28)]⟩ (.bind ⟨fun us _ => jB (fun a b => a == b) us, 1, [(.v 12), (.v 15)]⟩ (.need ⟨pT, [(.v 29)]⟩ (.bind ⟨fun us _ => eqB [Kd.f, Kd.f] us, 1, [(.v 16), (.v 19), (.v 17), (.v 20)]⟩ (.need ⟨pT, [(.v 30)]⟩ (.bind ⟨fun us _ => jB (fun a b => a == b) us, 1, [(.v 18), (.v 21)]⟩ (.need ⟨pT, [(.v 31)]⟩ (.bind ⟨fun us _ => eqB [Kd.f, Kd.f] us, 1, [(.v 22), (.v 25), (.v 23), (.v 26)]⟩ (.need ⟨pT, [(.v 32)]⟩ (.bind ⟨fun us _ => jB (fun a b => a == b) us, 1, [(.v 24), (.v 27)]⟩ (.need ⟨pT, [(.v 33)]⟩ (.done .ret ⟨[.bo (.l (.b true))], [], 34, []⟩))))))))))))))))))))))) (by kernel_rfl) ?_ (denL_cons.2 ⟨_, _, (agg_mk (denL_cons.2 ⟨_, _, (fl_den rfl w0), (denL_cons.2 ⟨_, _, (fl_den rfl w1), rfl, rfl⟩), rfl⟩)), (denL_cons.2 ⟨_, _, (agg_mk (denL_cons.2 ⟨_, _, (fl_den rfl w2), (denL_cons.2 ⟨_, _, (fl_den rfl w3), rfl, rfl⟩), rfl⟩)), (denL_cons.2 ⟨_, _, (agg_mk (denL_cons.2 ⟨_, _, (it_den rfl), (denL_cons.2 ⟨_, _, (it_den rfl), (denL_cons.2 ⟨_, _, (it_den rfl), (denL_cons.2 ⟨_, _, (it_den rfl), rfl, rfl⟩), rfl⟩), rfl⟩), rfl⟩)), rfl, rfl⟩), rfl⟩), rfl⟩)
  refine T.HH.h ?_
  refine T.hbind (us := [.i u0, .i 2]) (xs := [.i t0]) (ρ' := [.f a0, .f a1, .f b0, .f b1, .i u0, .i u1, .i u2, .i u3, .i t0]) rfl (congrArg (fun r => [U.i r]) h0) rfl ?_
  refine T.hneed (us := [.i u0, .i 2]) rfl (rfl) ?_
  refine T.hbind (us := [.i t0, .i 0]) (xs := [.b false]) (ρ' := [.f a0, .f a1, .f b0, .f b1, .i u0, .i u1, .i u2, .i u3, .i t0, .b false]) rfl (congrArg (fun r => [U.b r]) h1) rfl ?_
  refine T.hneed (us := [.b false]) rfl (rfl) ?_
  refine T.hbind (us := [.f a0, .f a1]) (xs := [.f t1, .f t2, .i t3]) (ρ' := [.f a0, .f a1, .f b0, .f b1, .i u0, .i u1, .i u2, .i u3, .i t0, .b false, .f t1, .f t2, .i t3]) rfl (congrArg (fun r => [calR r 0, calR r 1, calR r 2]) h2) rfl ?_
  refine T.hbind (us := [.f a0, .f a1]) (xs := [.f t1, .f t2, .i t3]) (ρ' := [.f a0, .f a1, .f b0, .f b1, .i u0, .i u1, .i u2, .i u3, .i t0, .b false, .f t1, .f t2, .i t3, .f t1, .f t2, .i t3]) rfl (congrArg (fun r => [calR r 0, calR r 1, calR r 2]) h2) rfl ?_
  refine T.hbind (us := [.f b0, .f b1]) (xs := [.f t4, .f t5, .i t6]) (ρ' := [.f a0, .f a1, .f b0, .f b1, .i u0, .i u1, .i u2, .i u3, .i t0, .b false, .f t1, .f t2, .i t3, .f t1, .f t2, .i t3, .f t4, .f t5, .i t6]) rfl (congrArg (fun r => [calR r 0, calR r 1, calR r 2]) h3) rfl ?_
  refine T.hbind (us := [.f b0, .f b1]) (xs := [.f t4, .f t5, .i t6]) (ρ' := [.f a0, .f a1, .f b0, .f b1, .i u0, .i u1, .i u2, .i u3, .i t0, .b false, .f t1, .f t2, .i t3, .f t1, .f t2, .i t3, .f t4, .f t5, .i t6, .f t4, .f t5, .i t6]) rfl (congrArg (fun r => [calR r 0, calR r 1, calR r 2]) h3) rfl ?_
  refine T.hbind (us := [.f a0, .f a1, .f b0, .f b1]) (xs := [.f t7, .f t8, .i t9]) (ρ' := [.f a0, .f a1, .f b0, .f b1, .i u0, .i u1, .i u2, .i u3, .i t0, .b false, .f t1, .f t2, .i t3, .f t1, .f t2, .i t3, .f t4, .f t5, .i t6, .f t4, .f t5, .i t6, .f t7, .f t8, .i t9]) rfl (congrArg (fun r => [calR r 0, calR r 1, calR r 2]) h4) rfl ?_
  refine T.hbind (us := [.f a0, .f a1, .f b0, .f b1]) (xs := [.f t7, .f t8, .i t9]) (ρ' := [.f a0, .f a1, .f b0, .f b1, .i u0, .i u1, .i u2, .i u3, .i t0, .b false, .f t1, .f t2, .i t3, .f t1, .f t2, .i t3, .f t4, .f t5, .i t6, .f t4, .f t5, .i t6, .f t7, .f t8, .i t9, .f t7, .f t8, .i t9]) rfl (congrArg (fun r => [calR r 0, calR r 1, calR r 2]) h4) rfl ?_
  refine T.hbind (us := [.f t1, .f t1, .f t2, .f t2]) (xs := [.b true]) (ρ' := [.f a0, .f a1, .f b0, .f b1, .i u0, .i u1, .i u2, .i u3, .i t0, .b false, .f t1, .f t2, .i t3, .f t1, .f t2, .i t3, .f t4, .f t5, .i t6, .f t4, .f t5, .i t6, .f t7, .f t8, .i t9, .f t7, .f t8, .i t9, .b true]) rfl (congrArg (fun r => [U.b r]) h5) rfl ?_
  refine T.hneed (us := [.b true]) rfl (rfl) ?_
  refine T.hbind (us := [.i t3, .i t3]) (xs := [.b true]) (ρ' := [.f a0, .f a1, .f b0, .f b1, .i u0, .i u1, .i u2, .i u3, .i t0, .b false, .f t1, .f t2, .i t3, .f t1, .f t2, .i t3, .f t4, .f t5, .i t6, .f t4, .f t5, .i t6, .f t7, .f t8, .i t9, .f t7, .f t8, .i t9, .b true, .b true]) rfl (congrArg (fun r => [U.b r]) h6) rfl ?_
  refine T.hneed (us := [.b true]) rfl (rfl) ?_
  refine T.hbind (us := [.f t4, .f t4, .f t5, .f t5]) (xs := [.b true]) (ρ' := [.f a0, .f a1, .f b0, .f b1, .i u0, .i u1, .i u2, .i u3, .i t0, .b false, .f t1, .f t2, .i t3, .f t1, .f t2, .i t3, .f t4, .f t5, .i t6, .f t4, .f t5, .i t6, .f t7, .f t8, .i t9, .f t7, .f t8, .i t9, .b true, .b true, .b true]) rfl (congrArg (fun r => [U.b r]) h7) rfl ?_
  refine T.hneed (us := [.b true]) rfl (rfl) ?_
  refine T.hbind (us := [.i t6, .i t6]) (xs := [.b true]) (ρ' := [.f a0, .f a1, .f b0, .f b1, .i u0, .i u1, .i u2, .i u3, .i t0, .b false, .f t1, .f t2, .i t3, .f t1, .f t2, .i t3, .f t4, .f t5, .i t6, .f t4, .f t5, .i t6, .f t7, .f t8, .i t9, .f t7, .f t8, .i t9, .b true, .b true, .b true, .b true]) rfl (congrArg (fun r => [U.b r]) h8) rfl ?_
  refine T.hneed (us := [.b true]) rfl (rfl) ?_
  refine T.hbind (us := [.f t7, .f t7, .f t8, .f t8]) (xs := [.b true]) (ρ' := [.f a0, .f a1, .f b0, .f b1, .i u0, .i u1, .i u2, .i u3, .i t0, .b false, .f t1, .f t2, .i t3, .f t1, .f t2, .i t3, .f t4, .f t5, .i t6, .f t4, .f t5, .i t6, .f t7, .f t8, .i t9, .f t7, .f t8, .i t9, .b true, .b true, .b true, .b true, .b true]) rfl (congrArg (fun r => [U.b r]) h9) rfl ?_
  refine T.hneed (us := [.b true]) rfl (rfl) ?_
  refine T.hbind (us := [.i t9, .i t9]) (xs := [.b true]) (ρ' := [.f a0, .f a1, .f b0, .f b1, .i u0, .i u1, .i u2, .i u3, .i t0, .b false, .f t1, .f t2, .i t3, .f t1, .f t2, .i t3, .f t4, .f t5, .i t6, .f t4, .f t5, .i t6, .f t7, .f t8, .i t9, .f t7, .f t8, .i t9, .b true, .b true, .b true, .b true, .b true, .b true]) rfl (congrArg (fun r => [U.b r]) h10) rfl ?_
  refine T.hneed (us := [.b true]) rfl (rfl) ?_
  exact T.hdone rfl

end Go.Proofs.YtnbdjpnnagpldaaGreat
