/- A reckoning of programs by symbols: IsInf, Inf, Copysign, burnishref01.plain, Right; ways of Nextafter. -/
import Derived.Test.YtkhplflbcgjkcaaGreatAh
namespace Go.Proofs.YtkhplflbcgjkcaaGreat
open Go Go.RowKit
set_option linter.unusedSimpArgs false
set_option linter.unusedVariables false
def plainT (b : Nat) : Nat := if Dy.feq b 0 = true then 0 else b
def rrT (b : Nat) : Bool := !Dy.nan b && (!infT b 0 && (Dy.fne b 0 || !Dy.sgn b))
def ta0 : List (Nat × Ct) := tR0
theorem ta0_ok : AllOk Tryz.prog ta0 := tR0_ok
def ctPlainT : Ct := ⟨1, [], [vf 0], { binds := [⟨fun us i => fRes (plainT (gF us 0)) i, 1, upto 0 1⟩], needs := [], val := vf 1, upd := [] }⟩
set_option maxRecDepth 100000 in
set_option maxHeartbeats 8000000 in
theorem ctPlainT_ok : CtOk Tryz.prog 120 ctPlainT := by
 refine CtOk.of_eval2 ta0_ok (dr_ok ta0_ok) Tryz.func120 rfl (by decide) [] 200 (by kernel_rfl) rfl (.bind ⟨fun us _ => cB Dy.feq us, 1, [(.v 0), (.l (.f 0))]⟩ (.ite (.v 1) (.done .ret ⟨[.fl (.l (.f 0))], [], 2, []⟩) (.done .ret ⟨[.fl (.v 0)], [], 2, []⟩))) (by kernel_rfl) (by kernel_rfl) (by kernel_rfl) (fun us hl hF hB hN => ?_)
 match us, hl with
 | [u0], _ =>
  simp [FactsB, FactsL, Facts, ctPlainT] at hF hB
  simp [NeedsAt, runB, evs, E.ev, upto, resl, List.range, List.range.loop, ctPlainT] at hN
  obtain ⟨x1, rfl, wx1⟩ := hF
  refine T.HH.h ?_
  obtain ⟨t0, e1⟩ : ∃ t0, (Dy.feq x1 0) = t0 := ⟨_, rfl⟩
  refine T.hbind rfl (congrArg (fun r => [U.b r]) e1) rfl ?_
  refine T.hite (x := t0) ?_ ?_ ?_
  ·rfl
  ·intro c3
   refine T.hdone ?_
   have e00 : plainT (x1) = 0 := by simp only [plainT, e1, c3] <;> simp_all
   exact ⟨(congrArg (fun r => some (fRes r 0)) e00.symm), trivial, rfl⟩
  ·intro c3
   refine T.hdone ?_
   have e00 : plainT (x1) = x1 := by simp only [plainT, e1, c3] <;> simp_all
   exact ⟨(congrArg (fun r => some (fRes r 0)) e00.symm), trivial, rfl⟩
def ta1 : List (Nat × Ct) := (120, ctPlainT) :: ta0
theorem ta1_ok : AllOk Tryz.prog ta1 := ⟨ctPlainT_ok, ta0_ok⟩
def ctRightT : Ct := ⟨1, [], [vf 0], { binds := [⟨fun us i => bRes (rrT (gF us 0)) i, 1, upto 0 1⟩], needs := [], val := vb 1, upd := [] }⟩
set_option maxRecDepth 100000 in
set_option maxHeartbeats 8000000 in
theorem ctRightT_ok : CtOk Tryz.prog 59 ctRightT := by
 refine CtOk.of_eval2 ta1_ok (dr_ok ta1_ok) Tryz.func59 rfl (by decide) [] 200 (by kernel_rfl) rfl (.bind ⟨fun us _ => .b (Dy.nan (gF us 0)), 1, [(.v 0)]⟩ (.bind ⟨fun us _ => nB us, 1, [(.v 1)]⟩ (.ite (.v 2) (.bind ⟨fun us i => bRes (infT (gF us 0) (gI us 1)) i, 1, [(.v 0), (.l (.i 0))]⟩ (.bind ⟨fun us _ => nB us, 1, [(.v 3)]⟩ (.ite (.v 4) (.bind ⟨fun us _ => cB Dy.fne us, 1, [(.v 0), (.l (.f 0))]⟩ (.ite (.v 5) (.done .ret ⟨[.bo (.l (.b true))], [], 6, []⟩) (.bind ⟨fun us _ => .b (Dy.sgn (gF us 0)), 1, [(.v 0)]⟩ (.bind ⟨fun us _ => nB us, 1, [(.v 6)]⟩ (.done .ret ⟨[.bo (.v 7)], [], 8, []⟩))))) (.done .ret ⟨[.bo (.l (.b false))], [], 5, []⟩)))) (.done .ret ⟨[.bo (.l (.b false))], [], 3, []⟩)))) (by kernel_rfl) (by kernel_rfl) (by kernel_rfl) (fun us hl hF hB hN => ?_)
 match us, hl with
 | [u0], _ =>
  simp [FactsB, FactsL, Facts, ctRightT] at hF hB
  simp [NeedsAt, runB, evs, E.ev, upto, resl, List.range, List.range.loop, ctRightT] at hN
  obtain ⟨x1, rfl, wx1⟩ := hF
  refine T.HH.h ?_
  obtain ⟨t0, e1⟩ : ∃ t0, ((Dy.nan (x1))) = t0 := ⟨_, rfl⟩
  refine T.hbind rfl (congrArg (fun r => [U.b r]) e1) rfl ?_
  obtain ⟨t2, e3⟩ : ∃ t2, (!t0) = t2 := ⟨_, rfl⟩
  refine T.hbind rfl (congrArg (fun r => [U.b r]) e3) rfl ?_
  refine T.hite (x := t2) ?_ ?_ ?_
  ·rfl
  ·intro c5
   obtain ⟨t5, e6⟩ : ∃ t5, ((infT (x1) (0))) = t5 := ⟨_, rfl⟩
   refine T.hbind rfl (congrArg (fun r => [U.b r]) e6) rfl ?_
   obtain ⟨t7, e8⟩ : ∃ t7, (!t5) = t7 := ⟨_, rfl⟩
   refine T.hbind rfl (congrArg (fun r => [U.b r]) e8) rfl ?_
   refine T.hite (x := t7) ?_ ?_ ?_
   ·rfl
   ·intro c10
    obtain ⟨t10, e11⟩ : ∃ t10, (Dy.fne x1 0) = t10 := ⟨_, rfl⟩
    refine T.hbind rfl (congrArg (fun r => [U.b r]) e11) rfl ?_
    refine T.hite (x := t10) ?_ ?_ ?_
    ·rfl
    ·intro c13
     refine T.hdone ?_
     have e00 : rrT (x1) = true := by simp only [rrT, e1, e3, c5, e6, e8, c10, e11, c13] <;> simp_all
     exact ⟨(congrArg (fun r => some (bRes r 0)) e00.symm), trivial, rfl⟩
    ·intro c13
     obtain ⟨t13, e14⟩ : ∃ t13, ((Dy.sgn (x1))) = t13 := ⟨_, rfl⟩
     refine T.hbind rfl (congrArg (fun r => [U.b r]) e14) rfl ?_
     obtain ⟨t15, e16⟩ : ∃ t15, (!t13) = t15 := ⟨_, rfl⟩
     refine T.hbind (ρ' := [.f x1, .b t0, .b t2, .b t5, .b t7, .b t10, .b t13, .b t15]) rfl (congrArg (fun r => [U.b r]) e16) rfl ?_
     refine T.hdone ?_
     have e00 : rrT (x1) = t15 := by simp only [rrT, e1, e3, c5, e6, e8, c10, e11, c13, e14, e16] <;> simp_all
     exact ⟨(congrArg (fun r => some (bRes r 0)) e00.symm), trivial, rfl⟩
   ·intro c10
    refine T.hdone ?_
    have e00 : rrT (x1) = false := by simp only [rrT, e1, e3, c5, e6, e8, c10] <;> simp_all
    exact ⟨(congrArg (fun r => some (bRes r 0)) e00.symm), trivial, rfl⟩
  ·intro c5
   refine T.hdone ?_
   have e00 : rrT (x1) = false := by simp only [rrT, e1, e3, c5] <;> simp_all
   exact ⟨(congrArg (fun r => some (bRes r 0)) e00.symm), trivial, rfl⟩
def ta2 : List (Nat × Ct) := (59, ctRightT) :: ta1
theorem ta2_ok : AllOk Tryz.prog ta2 := ⟨ctRightT_ok, ta1_ok⟩
set_option maxRecDepth 100000 in
set_option maxHeartbeats 4000000 in
theorem nxt_1 (b y : Nat) (w : World) (hb : Dy.W b) (hy : Dy.W y) {t0 : Nat} {t1 : Int} {t2 : Int} {t3 : Int} {t4 : Int} {t5 : Int} {t6 : Nat} (h0 : ((Dy.nan (b))) = false) (h1 : ((Dy.nan (y))) = false) (h2 : (Dy.feq b y) = false) (h3 : (Dy.feq b 0) = true) (h4 : (((1 : Int)).toNat) = t0) (h5 : nFrom [.i 1] = true) (h6 : ((t0 : Nat)) = t1) (h7 : (IntKind.u64.wrap ((BitVec.ofInt IntKind.u64.bits t1 &&& ~~~(BitVec.ofInt IntKind.u64.bits 9223372036854775808)).toNat : Nat)) = t2) (h8 : ((y : Nat)) = t3) (h9 : (IntKind.u64.wrap ((BitVec.ofInt IntKind.u64.bits t3 &&& BitVec.ofInt IntKind.u64.bits 9223372036854775808).toNat : Nat)) = t4) (h10 : (IntKind.u64.wrap ((BitVec.ofInt IntKind.u64.bits t2 ||| BitVec.ofInt IntKind.u64.bits t4).toNat : Nat)) = t5) (h11 : ((t5).toNat) = t6) (h12 : nFrom [.i t5] = true) (r0 : Dy.W t6) : Calls Tryz.prog 86 #[.float .f64 b, .float .f64 y] w fun e w' => e = .returned (.float .f64 t6) ∧ Below w.heap.size w w' := by
 refine flo_calls (vs := [.float .f64 b, .float .f64 y]) (us := [.f b, .f y]) (args := [vf 0, vf 1]) ta2_ok (dr_ok ta2_ok) Tryz.func86 [] 200 2 rfl [false, false, false, true] (t := .bind ⟨fun us _ => .b (Dy.nan (gF us 0)), 1, [(.v 0)]⟩ (.need ⟨pF, [(.v 2)]⟩ (.bind ⟨fun us _ => .b (Dy.nan (gF us 0)), 1, [(.v 1)]⟩ (.need ⟨pF, [(.v 3)]⟩ (.bind ⟨fun us _ => cB Dy.feq us, 1, [(.v 0), (.v 1)]⟩ (.need ⟨pF, [(.v 4)]⟩ (.bind ⟨fun us _ => cB Dy.feq us, 1, [(.v 0), (.l (.f 0))]⟩ (.need ⟨pT, [(.v 5)]⟩ (.bind ⟨fun us _ => .f (gI us 0).toNat, 1, [(.l (.i 1))]⟩ (.need ⟨nFrom, [(.l (.i 1))]⟩ (.bind ⟨fun us _ => .i (gF us 0 : Nat), 1, [(.v 6)]⟩ (.bind ⟨fun us _ => iB (fun a b => IntKind.u64.wrap ((BitVec.ofInt IntKind.u64.bits a &&& ~~~(BitVec.ofInt IntKind.u64.bits b)).toNat : Nat)) us, 1, [(.v 7), (.l (.i 9223372036854775808))]⟩ (.bind ⟨fun us _ => .i (gF us 0 : Nat), 1, [(.v 1)]⟩ (.bind ⟨fun us _ => iB (fun a b => IntKind.u64.wrap ((BitVec.ofInt IntKind.u64.bits a &&& BitVec.ofInt IntKind.u64.bits b).toNat : Nat)) us, 1, [(.v 9), (.l (.i 9223372036854775808))]⟩ (.bind ⟨fun us _ => iB (fun a b => IntKind.u64.wrap ((BitVec.ofInt IntKind.u64.bits a ||| BitVec.ofInt IntKind.u64.bits b).toNat : Nat)) us, 1, [(.v 8), (.v 10)]⟩ (.bind ⟨fun us _ => .f (gI us 0).toNat, 1, [(.v 11)]⟩ (.need ⟨nFrom, [(.v 11)]⟩ (.done .ret ⟨[.fl (.v 12)], [], 13, []⟩)))))))))))))))))) (by kernel_rfl) ?_ (denL_cons.2 ⟨_, _, (fl_den rfl hb), (denL_cons.2 ⟨_, _, (fl_den rfl hy), rfl, rfl⟩), rfl⟩)
 refine T.HH.h ?_
 refine T.hbind rfl (congrArg (fun r => [U.b r]) h0) rfl ?_
 refine T.hneed rfl (rfl) ?_
 refine T.hbind rfl (congrArg (fun r => [U.b r]) h1) rfl ?_
 refine T.hneed rfl (rfl) ?_
 refine T.hbind rfl (congrArg (fun r => [U.b r]) h2) rfl ?_
 refine T.hneed rfl (rfl) ?_
 refine T.hbind rfl (congrArg (fun r => [U.b r]) h3) rfl ?_
 refine T.hneed rfl (rfl) ?_
 refine T.hbind rfl (congrArg (fun r => [U.f r]) h4) rfl ?_
 refine T.hneed rfl (h5) ?_
 refine T.hbind rfl (congrArg (fun r => [U.i r]) h6) rfl ?_
 refine T.hbind rfl (congrArg (fun r => [U.i r]) h7) rfl ?_
 refine T.hbind (ρ' := [.f b, .f y, .b false, .b false, .b false, .b true, .f t0, .i t1, .i t2, .i t3]) rfl (congrArg (fun r => [U.i r]) h8) rfl ?_
 refine T.hbind rfl (congrArg (fun r => [U.i r]) h9) rfl ?_
 refine T.hbind rfl (congrArg (fun r => [U.i r]) h10) rfl ?_
 refine T.hbind rfl (congrArg (fun r => [U.f r]) h11) rfl ?_
 refine T.hneed rfl (h12) ?_
 exact T.hdone ⟨rfl, r0⟩
set_option maxRecDepth 100000 in
set_option maxHeartbeats 4000000 in
theorem nxt_2 (b y : Nat) (w : World) (hb : Dy.W b) (hy : Dy.W y) {t0 : Int} {t1 : Int} {t2 : Nat} (h0 : ((Dy.nan (b))) = false) (h1 : ((Dy.nan (y))) = false) (h2 : (Dy.feq b y) = false) (h3 : (Dy.feq b 0) = false) (h4 : (Dy.fgt y b) = true) (h5 : (Dy.fgt b 0) = true) (h6 : ((b : Nat)) = t0) (h7 : (IntKind.u64.wrap (t0 + 1)) = t1) (h8 : ((t1).toNat) = t2) (h9 : nFrom [.i t1] = true) (r0 : Dy.W t2) : Calls Tryz.prog 86 #[.float .f64 b, .float .f64 y] w fun e w' => e = .returned (.float .f64 t2) ∧ Below w.heap.size w w' := by
 refine flo_calls (vs := [.float .f64 b, .float .f64 y]) (us := [.f b, .f y]) (args := [vf 0, vf 1]) ta2_ok (dr_ok ta2_ok) Tryz.func86 [] 200 2 rfl [false, false, false, false, true] (t := .bind ⟨fun us _ => .b (Dy.nan (gF us 0)), 1, [(.v 0)]⟩ (.need ⟨pF, [(.v 2)]⟩ (.bind ⟨fun us _ => .b (Dy.nan (gF us 0)), 1, [(.v 1)]⟩ (.need ⟨pF, [(.v 3)]⟩ (.bind ⟨fun us _ => cB Dy.feq us, 1, [(.v 0), (.v 1)]⟩ (.need ⟨pF, [(.v 4)]⟩ (.bind ⟨fun us _ => cB Dy.feq us, 1, [(.v 0), (.l (.f 0))]⟩ (.need ⟨pF, [(.v 5)]⟩ (.bind ⟨fun us _ => cB Dy.fgt us, 1, [(.v 1), (.v 0)]⟩ (.bind ⟨fun us _ => cB Dy.fgt us, 1, [(.v 0), (.l (.f 0))]⟩ (.bind ⟨fun us _ => bB (fun x y => x == y) us, 1, [(.v 6), (.v 7)]⟩ (.need ⟨pT, [(.v 8)]⟩ (.bind ⟨fun us _ => .i (gF us 0 : Nat), 1, [(.v 0)]⟩ (.bind ⟨fun us _ => iB (fun a b => IntKind.u64.wrap (a + b)) us, 1, [(.v 9), (.l (.i 1))]⟩ (.bind ⟨fun us _ => .f (gI us 0).toNat, 1, [(.v 10)]⟩ (.need ⟨nFrom, [(.v 10)]⟩ (.done .ret ⟨[.fl (.v 11)], [], 12, []⟩))))))))))))))))) (by kernel_rfl) ?_ (denL_cons.2 ⟨_, _, (fl_den rfl hb), (denL_cons.2 ⟨_, _, (fl_den rfl hy), rfl, rfl⟩), rfl⟩)
 refine T.HH.h ?_
 refine T.hbind rfl (congrArg (fun r => [U.b r]) h0) rfl ?_
 refine T.hneed rfl (rfl) ?_
 refine T.hbind rfl (congrArg (fun r => [U.b r]) h1) rfl ?_
 refine T.hneed rfl (rfl) ?_
 refine T.hbind rfl (congrArg (fun r => [U.b r]) h2) rfl ?_
 refine T.hneed rfl (rfl) ?_
 refine T.hbind rfl (congrArg (fun r => [U.b r]) h3) rfl ?_
 refine T.hneed rfl (rfl) ?_
 refine T.hbind (ρ' := [.f b, .f y, .b false, .b false, .b false, .b false, .b true]) rfl (congrArg (fun r => [U.b r]) h4) rfl ?_
 refine T.hbind rfl (congrArg (fun r => [U.b r]) h5) rfl ?_
 refine T.hbind (xs := [.b true]) rfl (rfl) rfl ?_
 refine T.hneed rfl (rfl) ?_
 refine T.hbind rfl (congrArg (fun r => [U.i r]) h6) rfl ?_
 refine T.hbind rfl (congrArg (fun r => [U.i r]) h7) rfl ?_
 refine T.hbind rfl (congrArg (fun r => [U.f r]) h8) rfl ?_
 refine T.hneed rfl (h9) ?_
 exact T.hdone ⟨rfl, r0⟩
set_option maxRecDepth 100000 in
set_option maxHeartbeats 4000000 in
theorem nxt_3 (b y : Nat) (w : World) (hb : Dy.W b) (hy : Dy.W y) {t0 : Int} {t1 : Int} {t2 : Nat} (h0 : ((Dy.nan (b))) = false) (h1 : ((Dy.nan (y))) = false) (h2 : (Dy.feq b y) = false) (h3 : (Dy.feq b 0) = false) (h4 : (Dy.fgt y b) = false) (h5 : (Dy.fgt b 0) = true) (h6 : ((b : Nat)) = t0) (h7 : (IntKind.u64.wrap (t0 - 1)) = t1) (h8 : ((t1).toNat) = t2) (h9 : nFrom [.i t1] = true) (r0 : Dy.W t2) : Calls Tryz.prog 86 #[.float .f64 b, .float .f64 y] w fun e w' => e = .returned (.float .f64 t2) ∧ Below w.heap.size w w' := by
 refine flo_calls (vs := [.float .f64 b, .float .f64 y]) (us := [.f b, .f y]) (args := [vf 0, vf 1]) ta2_ok (dr_ok ta2_ok) Tryz.func86 [] 200 2 rfl [false, false, false, false, false] (t := .bind ⟨fun us _ => .b (Dy.nan (gF us 0)), 1, [(.v 0)]⟩ (.need ⟨pF, [(.v 2)]⟩ (.bind ⟨fun us _ => .b (Dy.nan (gF us 0)), 1, [(.v 1)]⟩ (.need ⟨pF, [(.v 3)]⟩ (.bind ⟨fun us _ => cB Dy.feq us, 1, [(.v 0), (.v 1)]⟩ (.need ⟨pF, [(.v 4)]⟩ (.bind ⟨fun us _ => cB Dy.feq us, 1, [(.v 0), (.l (.f 0))]⟩ (.need ⟨pF, [(.v 5)]⟩ (.bind ⟨fun us _ => cB Dy.fgt us, 1, [(.v 1), (.v 0)]⟩ (.bind ⟨fun us _ => cB Dy.fgt us, 1, [(.v 0), (.l (.f 0))]⟩ (.bind ⟨fun us _ => bB (fun x y => x == y) us, 1, [(.v 6), (.v 7)]⟩ (.need ⟨pF, [(.v 8)]⟩ (.bind ⟨fun us _ => .i (gF us 0 : Nat), 1, [(.v 0)]⟩ (.bind ⟨fun us _ => iB (fun a b => IntKind.u64.wrap (a - b)) us, 1, [(.v 9), (.l (.i 1))]⟩ (.bind ⟨fun us _ => .f (gI us 0).toNat, 1, [(.v 10)]⟩ (.need ⟨nFrom, [(.v 10)]⟩ (.done .ret ⟨[.fl (.v 11)], [], 12, []⟩))))))))))))))))) (by kernel_rfl) ?_ (denL_cons.2 ⟨_, _, (fl_den rfl hb), (denL_cons.2 ⟨_, _, (fl_den rfl hy), rfl, rfl⟩), rfl⟩)
 refine T.HH.h ?_
 refine T.hbind rfl (congrArg (fun r => [U.b r]) h0) rfl ?_
 refine T.hneed rfl (rfl) ?_
 refine T.hbind rfl (congrArg (fun r => [U.b r]) h1) rfl ?_
 refine T.hneed rfl (rfl) ?_
 refine T.hbind (ρ' := [.f b, .f y, .b false, .b false, .b false]) rfl (congrArg (fun r => [U.b r]) h2) rfl ?_
 refine T.hneed rfl (rfl) ?_
 refine T.hbind rfl (congrArg (fun r => [U.b r]) h3) rfl ?_
 refine T.hneed rfl (rfl) ?_
 refine T.hbind rfl (congrArg (fun r => [U.b r]) h4) rfl ?_
 refine T.hbind rfl (congrArg (fun r => [U.b r]) h5) rfl ?_
 refine T.hbind (xs := [.b false]) rfl (rfl) rfl ?_
 refine T.hneed rfl (rfl) ?_
 refine T.hbind rfl (congrArg (fun r => [U.i r]) h6) rfl ?_
 refine T.hbind rfl (congrArg (fun r => [U.i r]) h7) rfl ?_
 refine T.hbind rfl (congrArg (fun r => [U.f r]) h8) rfl ?_
 refine T.hneed rfl (h9) ?_
 exact T.hdone ⟨rfl, r0⟩
set_option maxRecDepth 100000 in
set_option maxHeartbeats 4000000 in
theorem nxt_4 (b y : Nat) (w : World) (hb : Dy.W b) (hy : Dy.W y) {t0 : Int} {t1 : Int} {t2 : Nat} (h0 : ((Dy.nan (b))) = false) (h1 : ((Dy.nan (y))) = false) (h2 : (Dy.feq b y) = false) (h3 : (Dy.feq b 0) = false) (h4 : (Dy.fgt y b) = false) (h5 : (Dy.fgt b 0) = false) (h6 : ((b : Nat)) = t0) (h7 : (IntKind.u64.wrap (t0 + 1)) = t1) (h8 : ((t1).toNat) = t2) (h9 : nFrom [.i t1] = true) (r0 : Dy.W t2) : Calls Tryz.prog 86 #[.float .f64 b, .float .f64 y] w fun e w' => e = .returned (.float .f64 t2) ∧ Below w.heap.size w w' := by
 refine flo_calls (vs := [.float .f64 b, .float .f64 y]) (us := [.f b, .f y]) (args := [vf 0, vf 1]) ta2_ok (dr_ok ta2_ok) Tryz.func86 [] 200 2 rfl [false, false, false, false, true] (t := .bind ⟨fun us _ => .b (Dy.nan (gF us 0)), 1, [(.v 0)]⟩ (.need ⟨pF, [(.v 2)]⟩ (.bind ⟨fun us _ => .b (Dy.nan (gF us 0)), 1, [(.v 1)]⟩ (.need ⟨pF, [(.v 3)]⟩ (.bind ⟨fun us _ => cB Dy.feq us, 1, [(.v 0), (.v 1)]⟩ (.need ⟨pF, [(.v 4)]⟩ (.bind ⟨fun us _ => cB Dy.feq us, 1, [(.v 0), (.l (.f 0))]⟩ (.need ⟨pF, [(.v 5)]⟩ (.bind ⟨fun us _ => cB Dy.fgt us, 1, [(.v 1), (.v 0)]⟩ (.bind ⟨fun us _ => cB Dy.fgt us, 1, [(.v 0), (.l (.f 0))]⟩ (.bind ⟨fun us _ => bB (fun x y => x == y) us, 1, [(.v 6), (.v 7)]⟩ (.need ⟨pT, [(.v 8)]⟩ (.bind ⟨fun us _ => .i (gF us 0 : Nat), 1, [(.v 0)]⟩ (.bind ⟨fun us _ => iB (fun a b => IntKind.u64.wrap (a + b)) us, 1, [(.v 9), (.l (.i 1))]⟩ (.bind ⟨fun us _ => .f (gI us 0).toNat, 1, [(.v 10)]⟩ (.need ⟨nFrom, [(.v 10)]⟩ (.done .ret ⟨[.fl (.v 11)], [], 12, []⟩))))))))))))))))) (by kernel_rfl) ?_ (denL_cons.2 ⟨_, _, (fl_den rfl hb), (denL_cons.2 ⟨_, _, (fl_den rfl hy), rfl, rfl⟩), rfl⟩)
 refine T.HH.h ?_
 refine T.hbind (ρ' := [.f b, .f y, .b false]) rfl (congrArg (fun r => [U.b r]) h0) rfl ?_
 refine T.hneed rfl (rfl) ?_
 refine T.hbind rfl (congrArg (fun r => [U.b r]) h1) rfl ?_
 refine T.hneed rfl (rfl) ?_
 refine T.hbind rfl (congrArg (fun r => [U.b r]) h2) rfl ?_
 refine T.hneed rfl (rfl) ?_
 refine T.hbind rfl (congrArg (fun r => [U.b r]) h3) rfl ?_
 refine T.hneed rfl (rfl) ?_
 refine T.hbind rfl (congrArg (fun r => [U.b r]) h4) rfl ?_
 refine T.hbind rfl (congrArg (fun r => [U.b r]) h5) rfl ?_
 refine T.hbind (xs := [.b true]) rfl (rfl) rfl ?_
 refine T.hneed rfl (rfl) ?_
 refine T.hbind rfl (congrArg (fun r => [U.i r]) h6) rfl ?_
 refine T.hbind (ρ' := [.f b, .f y, .b false, .b false, .b false, .b false, .b false, .b false, .b true, .i t0, .i t1]) rfl (congrArg (fun r => [U.i r]) h7) rfl ?_
 refine T.hbind rfl (congrArg (fun r => [U.f r]) h8) rfl ?_
 refine T.hneed rfl (h9) ?_
 exact T.hdone ⟨rfl, r0⟩
set_option maxRecDepth 100000 in
set_option maxHeartbeats 4000000 in
theorem nxt_5 (b y : Nat) (w : World) (hb : Dy.W b) (hy : Dy.W y) {t0 : Int} {t1 : Int} {t2 : Nat} (h0 : ((Dy.nan (b))) = false) (h1 : ((Dy.nan (y))) = false) (h2 : (Dy.feq b y) = false) (h3 : (Dy.feq b 0) = false) (h4 : (Dy.fgt y b) = true) (h5 : (Dy.fgt b 0) = false) (h6 : ((b : Nat)) = t0) (h7 : (IntKind.u64.wrap (t0 - 1)) = t1) (h8 : ((t1).toNat) = t2) (h9 : nFrom [.i t1] = true) (r0 : Dy.W t2) : Calls Tryz.prog 86 #[.float .f64 b, .float .f64 y] w fun e w' => e = .returned (.float .f64 t2) ∧ Below w.heap.size w w' := by
 refine flo_calls (vs := [.float .f64 b, .float .f64 y]) (us := [.f b, .f y]) (args := [vf 0, vf 1]) ta2_ok (dr_ok ta2_ok) Tryz.func86 [] 200 2 rfl [false, false, false, false, false] (t := .bind ⟨fun us _ => .b (Dy.nan (gF us 0)), 1, [(.v 0)]⟩ (.need ⟨pF, [(.v 2)]⟩ (.bind ⟨fun us _ => .b (Dy.nan (gF us 0)), 1, [(.v 1)]⟩ (.need ⟨pF, [(.v 3)]⟩ (.bind ⟨fun us _ => cB Dy.feq us, 1, [(.v 0), (.v 1)]⟩ (.need ⟨pF, [(.v 4)]⟩ (.bind ⟨fun us _ => cB Dy.feq us, 1, [(.v 0), (.l (.f 0))]⟩ (.need ⟨pF, [(.v 5)]⟩ (.bind ⟨fun us _ => cB Dy.fgt us, 1, [(.v 1), (.v 0)]⟩ (.bind ⟨fun us _ => cB Dy.fgt us, 1, [(.v 0), (.l (.f 0))]⟩ (.bind ⟨fun us _ => bB (fun x y => x == y) us, 1, [(.v 6), (.v 7)]⟩ (.need ⟨pF, [(.v 8)]⟩ (.bind ⟨fun us _ => .i (gF us 0 : Nat), 1, [(.v 0)]⟩ (.bind ⟨fun us _ => iB (fun a b => IntKind.u64.wrap (a - b)) us, 1, [(.v 9), (.l (.i 1))]⟩ (.bind ⟨fun us _ => .f (gI us 0).toNat, 1, [(.v 10)]⟩ (.need ⟨nFrom, [(.v 10)]⟩ (.done .ret ⟨[.fl (.v 11)], [], 12, []⟩))))))))))))))))) (by kernel_rfl) ?_ (denL_cons.2 ⟨_, _, (fl_den rfl hb), (denL_cons.2 ⟨_, _, (fl_den rfl hy), rfl, rfl⟩), rfl⟩)
 refine T.HH.h ?_
 refine T.hbind rfl (congrArg (fun r => [U.b r]) h0) rfl ?_
 refine T.hneed rfl (rfl) ?_
 refine T.hbind rfl (congrArg (fun r => [U.b r]) h1) rfl ?_
 refine T.hneed rfl (rfl) ?_
 refine T.hbind rfl (congrArg (fun r => [U.b r]) h2) rfl ?_
 refine T.hneed rfl (rfl) ?_
 refine T.hbind rfl (congrArg (fun r => [U.b r]) h3) rfl ?_
 refine T.hneed rfl (rfl) ?_
 refine T.hbind rfl (congrArg (fun r => [U.b r]) h4) rfl ?_
 refine T.hbind rfl (congrArg (fun r => [U.b r]) h5) rfl ?_
 refine T.hbind (xs := [.b false]) (ρ' := [.f b, .f y, .b false, .b false, .b false, .b false, .b true, .b false, .b false]) rfl (rfl) rfl ?_
 refine T.hneed rfl (rfl) ?_
 refine T.hbind rfl (congrArg (fun r => [U.i r]) h6) rfl ?_
 refine T.hbind rfl (congrArg (fun r => [U.i r]) h7) rfl ?_
 refine T.hbind rfl (congrArg (fun r => [U.f r]) h8) rfl ?_
 refine T.hneed rfl (h9) ?_
 exact T.hdone ⟨rfl, r0⟩
end Go.Proofs.YtkhplflbcgjkcaaGreat
