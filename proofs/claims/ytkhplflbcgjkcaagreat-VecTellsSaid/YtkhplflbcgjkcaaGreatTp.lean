/- Walks: ways of burnishref01.Sub, Mul, Div, Sqrt. -/
import Derived.Test.YtkhplflbcgjkcaaGreatAb
namespace Go.Proofs.YtkhplflbcgjkcaaGreat
open Go Go.RowKit
set_option linter.unusedSimpArgs false
set_option linter.unusedVariables false
def tp0 : List (Nat × Ct) := tO0
theorem tp0_ok : AllOk Tryz.prog tp0 := tO0_ok
def ctFrexpM : Ct := ⟨1, [], [vf 0], { binds := [⟨fun us i => widthU (frT (gF us 0)) i, 2, [(.v 0)]⟩], needs := [⟨nNzT, [(.v 0)]⟩], val := .tup [.fl (.v 1), .it .i64 (.v 2)], upd := [] }⟩
theorem ctFrexpM_ok : CtOk Tryz.prog 163 ctFrexpM := CtOk.flat tp0_ok (dr_ok tp0_ok) Tryz.func163 rfl (by decide) [] 200 ⟨[.tup [.fl (.v 1), .it .i64 (.v 2)]], [], 3, []⟩ (by kernel_rfl) rfl (by kernel_rfl) rfl (by kernel_rfl) (by kernel_rfl) (by kernel_rfl) (by kernel_rfl)
def tp1 : List (Nat × Ct) := (163, ctFrexpM) :: tp0
theorem tp1_ok : AllOk Tryz.prog tp1 := ⟨ctFrexpM_ok, tp0_ok⟩
def ctSqrtM : Ct := ⟨1, [], [vf 0], { binds := [⟨fun us _ => .f ((rootF (gF us 0)).getD 0), 1, [(.v 0)]⟩], needs := [⟨nRoot, [(.v 0)]⟩], val := .fl (.v 1), upd := [] }⟩
theorem ctSqrtM_ok : CtOk Tryz.prog 166 ctSqrtM := CtOk.flat tp1_ok (dr_ok tp1_ok) Tryz.func166 rfl (by decide) [] 200 ⟨[.fl (.v 1)], [], 2, []⟩ (by kernel_rfl) rfl (by kernel_rfl) rfl (by kernel_rfl) (by kernel_rfl) (by kernel_rfl) (by kernel_rfl)
def tp2 : List (Nat × Ct) := (166, ctSqrtM) :: tp1
theorem tp2_ok : AllOk Tryz.prog tp2 := ⟨ctSqrtM_ok, tp1_ok⟩
set_option maxRecDepth 100000 in
set_option maxHeartbeats 4000000 in
theorem rsub_0 (a b : Nat) (up : Bool) (w : World) (ha : Dy.W a) (hb : Dy.W b) {t0 : Nat} {t1 : Nat} {t2 : Nat} {t3 : Int} (h0 : ((rrT (b))) = true) (h1 : (Op.negFloat .f64 b) = t0) (h2 : mN [.f b] = true) (h3 : ((plainT (t0))) = t1) (h4 : (Dy.dAdd a t1 up) = (t2, t3)) (r0 : Dy.W t2) : Calls Tryz.prog 61 #[.float .f64 a, .float .f64 b, .bool up] w fun e w' => e = .returned (.tuple #[.float .f64 t2, .int .i64 t3]) ∧ Below w.heap.size w w' := by
 refine cal_calls (vs := [.float .f64 a, .float .f64 b, .bool up]) (us := [.f a, .f b, .b up]) (args := [vf 0, vf 1, vb 2]) tp2_ok (dr_ok tp2_ok) Tryz.func61 [] 200 3 rfl [false] (t := .bind ⟨fun us i => bRes (rrT (gF us 0)) i, 1, [(.v 1)]⟩ (.bind ⟨fun us _ => nB us, 1, [(.v 3)]⟩ (.need ⟨pF, [(.v 4)]⟩ (.bind ⟨fun us _ => mF us, 1, [(.v 1)]⟩ (.need ⟨mN, [(.v 1)]⟩ (.bind ⟨fun us i => fRes (plainT (gF us 0)) i, 1, [(.v 5)]⟩ (.bind ⟨fOp2 Dy.dAdd, 2, [(.v 0), (.v 6), (.v 2)]⟩ (.done .ret ⟨[.tup [.fl (.v 7), .it .i64 (.v 8)]], [], 9, []⟩)))))))) (by kernel_rfl) ?_ (denL_cons.2 ⟨_, _, (fl_den rfl ha), (denL_cons.2 ⟨_, _, (fl_den rfl hb), (denL_cons.2 ⟨_, _, (bo_den rfl), rfl, rfl⟩), rfl⟩), rfl⟩)
 refine T.HH.h ?_
 refine T.hbind rfl (congrArg (fun r => [U.b r]) h0) rfl ?_
 refine T.hbind (xs := [.b false]) rfl (rfl) rfl ?_
 refine T.hneed rfl (rfl) ?_
 refine T.hbind rfl (congrArg (fun r => [U.f r]) h1) rfl ?_
 refine T.hneed rfl (h2) ?_
 refine T.hbind rfl (congrArg (fun r => [U.f r]) h3) rfl ?_
 refine T.hbind rfl (congrArg (fun r : Nat × Int => [U.f r.1, U.i r.2]) h4) rfl ?_
 exact T.hdone ⟨rfl, rfl, r0⟩
set_option maxRecDepth 100000 in
set_option maxHeartbeats 4000000 in
theorem rsub_1 (a b : Nat) (up : Bool) (w : World) (ha : Dy.W a) (hb : Dy.W b) (h0 : ((rrT (b))) = false)  : Calls Tryz.prog 61 #[.float .f64 a, .float .f64 b, .bool up] w fun e w' => e = .returned (.tuple #[.float .f64 0, .int .i64 13]) ∧ Below w.heap.size w w' := by
 refine cal_calls (vs := [.float .f64 a, .float .f64 b, .bool up]) (us := [.f a, .f b, .b up]) (args := [vf 0, vf 1, vb 2]) tp2_ok (dr_ok tp2_ok) Tryz.func61 [] 200 3 rfl [true] (t := .bind ⟨fun us i => bRes (rrT (gF us 0)) i, 1, [(.v 1)]⟩ (.bind ⟨fun us _ => nB us, 1, [(.v 3)]⟩ (.need ⟨pT, [(.v 4)]⟩ (.done .ret ⟨[.tup [.fl (.l (.f 0)), .it .i64 (.l (.i 13))]], [], 5, []⟩)))) (by kernel_rfl) ?_ (denL_cons.2 ⟨_, _, (fl_den rfl ha), (denL_cons.2 ⟨_, _, (fl_den rfl hb), (denL_cons.2 ⟨_, _, (bo_den rfl), rfl, rfl⟩), rfl⟩), rfl⟩)
 refine T.HH.h ?_
 refine T.hbind rfl (congrArg (fun r => [U.b r]) h0) rfl ?_
 refine T.hbind (xs := [.b true]) rfl (rfl) rfl ?_
 refine T.hneed rfl (rfl) ?_
 exact T.hdone ⟨rfl, rfl, (by decide)⟩
set_option maxRecDepth 100000 in
set_option maxHeartbeats 4000000 in
theorem rmul_0 (a b : Nat) (up : Bool) (w : World) (ha : Dy.W a) (hb : Dy.W b) (h0 : ((rrT (a))) = true) (h1 : ((rrT (b))) = true) (h2 : (Dy.feq a 0) = true)  : Calls Tryz.prog 135 #[.float .f64 a, .float .f64 b, .bool up] w fun e w' => e = .returned (.tuple #[.float .f64 0, .int .i64 0]) ∧ Below w.heap.size w w' := by
 refine cal_calls (vs := [.float .f64 a, .float .f64 b, .bool up]) (us := [.f a, .f b, .b up]) (args := [vf 0, vf 1, vb 2]) tp2_ok (dr_ok tp2_ok) Tryz.func135 [] 200 3 rfl [false, false, true] (t := .bind ⟨fun us i => bRes (rrT (gF us 0)) i, 1, [(.v 0)]⟩ (.bind ⟨fun us _ => nB us, 1, [(.v 3)]⟩ (.need ⟨pF, [(.v 4)]⟩ (.bind ⟨fun us i => bRes (rrT (gF us 0)) i, 1, [(.v 1)]⟩ (.bind ⟨fun us _ => nB us, 1, [(.v 5)]⟩ (.need ⟨pF, [(.v 6)]⟩ (.bind ⟨fun us _ => cB Dy.feq us, 1, [(.v 0), (.l (.f 0))]⟩ (.need ⟨pT, [(.v 7)]⟩ (.done .ret ⟨[.tup [.fl (.l (.f 0)), .it .i64 (.l (.i 0))]], [], 8, []⟩))))))))) (by kernel_rfl) ?_ (denL_cons.2 ⟨_, _, (fl_den rfl ha), (denL_cons.2 ⟨_, _, (fl_den rfl hb), (denL_cons.2 ⟨_, _, (bo_den rfl), rfl, rfl⟩), rfl⟩), rfl⟩)
 refine T.HH.h ?_
 refine T.hbind (ρ' := [.f a, .f b, .b up, .b true]) rfl (congrArg (fun r => [U.b r]) h0) rfl ?_
 refine T.hbind (xs := [.b false]) rfl (rfl) rfl ?_
 refine T.hneed rfl (rfl) ?_
 refine T.hbind rfl (congrArg (fun r => [U.b r]) h1) rfl ?_
 refine T.hbind (xs := [.b false]) rfl (rfl) rfl ?_
 refine T.hneed rfl (rfl) ?_
 refine T.hbind rfl (congrArg (fun r => [U.b r]) h2) rfl ?_
 refine T.hneed rfl (rfl) ?_
 exact T.hdone ⟨rfl, rfl, (by decide)⟩
set_option maxRecDepth 100000 in
set_option maxHeartbeats 4000000 in
theorem rmul_1 (a b : Nat) (up : Bool) (w : World) (ha : Dy.W a) (hb : Dy.W b) (h0 : ((rrT (a))) = false)  : Calls Tryz.prog 135 #[.float .f64 a, .float .f64 b, .bool up] w fun e w' => e = .returned (.tuple #[.float .f64 0, .int .i64 13]) ∧ Below w.heap.size w w' := by
 refine cal_calls (vs := [.float .f64 a, .float .f64 b, .bool up]) (us := [.f a, .f b, .b up]) (args := [vf 0, vf 1, vb 2]) tp2_ok (dr_ok tp2_ok) Tryz.func135 [] 200 3 rfl [true] (t := .bind ⟨fun us i => bRes (rrT (gF us 0)) i, 1, [(.v 0)]⟩ (.bind ⟨fun us _ => nB us, 1, [(.v 3)]⟩ (.need ⟨pT, [(.v 4)]⟩ (.done .ret ⟨[.tup [.fl (.l (.f 0)), .it .i64 (.l (.i 13))]], [], 5, []⟩)))) (by kernel_rfl) ?_ (denL_cons.2 ⟨_, _, (fl_den rfl ha), (denL_cons.2 ⟨_, _, (fl_den rfl hb), (denL_cons.2 ⟨_, _, (bo_den rfl), rfl, rfl⟩), rfl⟩), rfl⟩)
 refine T.HH.h ?_
 refine T.hbind rfl (congrArg (fun r => [U.b r]) h0) rfl ?_
 refine T.hbind (xs := [.b true]) rfl (rfl) rfl ?_
 refine T.hneed rfl (rfl) ?_
 exact T.hdone ⟨rfl, rfl, (by decide)⟩
set_option maxRecDepth 100000 in
set_option maxHeartbeats 4000000 in
theorem rmul_2 (a b : Nat) (up : Bool) (w : World) (ha : Dy.W a) (hb : Dy.W b) (h0 : ((rrT (a))) = true) (h1 : ((rrT (b))) = false)  : Calls Tryz.prog 135 #[.float .f64 a, .float .f64 b, .bool up] w fun e w' => e = .returned (.tuple #[.float .f64 0, .int .i64 13]) ∧ Below w.heap.size w w' := by
 refine cal_calls (vs := [.float .f64 a, .float .f64 b, .bool up]) (us := [.f a, .f b, .b up]) (args := [vf 0, vf 1, vb 2]) tp2_ok (dr_ok tp2_ok) Tryz.func135 [] 200 3 rfl [false, true] (t := .bind ⟨fun us i => bRes (rrT (gF us 0)) i, 1, [(.v 0)]⟩ (.bind ⟨fun us _ => nB us, 1, [(.v 3)]⟩ (.need ⟨pF, [(.v 4)]⟩ (.bind ⟨fun us i => bRes (rrT (gF us 0)) i, 1, [(.v 1)]⟩ (.bind ⟨fun us _ => nB us, 1, [(.v 5)]⟩ (.need ⟨pT, [(.v 6)]⟩ (.done .ret ⟨[.tup [.fl (.l (.f 0)), .it .i64 (.l (.i 13))]], [], 7, []⟩))))))) (by kernel_rfl) ?_ (denL_cons.2 ⟨_, _, (fl_den rfl ha), (denL_cons.2 ⟨_, _, (fl_den rfl hb), (denL_cons.2 ⟨_, _, (bo_den rfl), rfl, rfl⟩), rfl⟩), rfl⟩)
 refine T.HH.h ?_
 refine T.hbind rfl (congrArg (fun r => [U.b r]) h0) rfl ?_
 refine T.hbind (xs := [.b false]) (ρ' := [.f a, .f b, .b up, .b true, .b false]) rfl (rfl) rfl ?_
 refine T.hneed rfl (rfl) ?_
 refine T.hbind rfl (congrArg (fun r => [U.b r]) h1) rfl ?_
 refine T.hbind (xs := [.b true]) rfl (rfl) rfl ?_
 refine T.hneed rfl (rfl) ?_
 exact T.hdone ⟨rfl, rfl, (by decide)⟩
set_option maxRecDepth 100000 in
set_option maxHeartbeats 4000000 in
theorem rmul_3 (a b : Nat) (up : Bool) (w : World) (ha : Dy.W a) (hb : Dy.W b) (h0 : ((rrT (a))) = true) (h1 : ((rrT (b))) = true) (h2 : (Dy.feq a 0) = false) (h3 : (Dy.feq b 0) = true)  : Calls Tryz.prog 135 #[.float .f64 a, .float .f64 b, .bool up] w fun e w' => e = .returned (.tuple #[.float .f64 0, .int .i64 0]) ∧ Below w.heap.size w w' := by
 refine cal_calls (vs := [.float .f64 a, .float .f64 b, .bool up]) (us := [.f a, .f b, .b up]) (args := [vf 0, vf 1, vb 2]) tp2_ok (dr_ok tp2_ok) Tryz.func135 [] 200 3 rfl [false, false, false, true] (t := .bind ⟨fun us i => bRes (rrT (gF us 0)) i, 1, [(.v 0)]⟩ (.bind ⟨fun us _ => nB us, 1, [(.v 3)]⟩ (.need ⟨pF, [(.v 4)]⟩ (.bind ⟨fun us i => bRes (rrT (gF us 0)) i, 1, [(.v 1)]⟩ (.bind ⟨fun us _ => nB us, 1, [(.v 5)]⟩ (.need ⟨pF, [(.v 6)]⟩ (.bind ⟨fun us _ => cB Dy.feq us, 1, [(.v 0), (.l (.f 0))]⟩ (.need ⟨pF, [(.v 7)]⟩ (.bind ⟨fun us _ => cB Dy.feq us, 1, [(.v 1), (.l (.f 0))]⟩ (.need ⟨pT, [(.v 8)]⟩ (.done .ret ⟨[.tup [.fl (.l (.f 0)), .it .i64 (.l (.i 0))]], [], 9, []⟩))))))))))) (by kernel_rfl) ?_ (denL_cons.2 ⟨_, _, (fl_den rfl ha), (denL_cons.2 ⟨_, _, (fl_den rfl hb), (denL_cons.2 ⟨_, _, (bo_den rfl), rfl, rfl⟩), rfl⟩), rfl⟩)
 refine T.HH.h ?_
 refine T.hbind rfl (congrArg (fun r => [U.b r]) h0) rfl ?_
 refine T.hbind (xs := [.b false]) rfl (rfl) rfl ?_
 refine T.hneed rfl (rfl) ?_
 refine T.hbind rfl (congrArg (fun r => [U.b r]) h1) rfl ?_
 refine T.hbind (xs := [.b false]) rfl (rfl) rfl ?_
 refine T.hneed rfl (rfl) ?_
 refine T.hbind rfl (congrArg (fun r => [U.b r]) h2) rfl ?_
 refine T.hneed rfl (rfl) ?_
 refine T.hbind (ρ' := [.f a, .f b, .b up, .b true, .b false, .b true, .b false, .b false, .b true]) rfl (congrArg (fun r => [U.b r]) h3) rfl ?_
 refine T.hneed rfl (rfl) ?_
 exact T.hdone ⟨rfl, rfl, (by decide)⟩
set_option maxRecDepth 100000 in
set_option maxHeartbeats 4000000 in
theorem rmul_4 (a b : Nat) (up : Bool) (w : World) (ha : Dy.W a) (hb : Dy.W b) {t0 : Nat} {t1 : Int} {t2 : Nat} {t3 : Int} {t4 : Nat} {t5 : Int} {t6 : Nat} {t7 : Nat} {t8 : Nat} {t9 : Nat} {t10 : Nat} {t11 : Int} (h0 : ((rrT (a))) = true) (h1 : ((rrT (b))) = true) (h2 : (Dy.feq a 0) = false) (h3 : (Dy.feq b 0) = false) (h4 : (frT (a)) = (t0, t1)) (h5 : nNzT [.f a] = true) (h6 : (frT (b)) = (t2, t3)) (h7 : nNzT [.f b] = true) (h8 : ((Ieee.double.mul t0 t2).getD 0) = t4) (h9 : (fN Ieee.double.mul) [.f t0, .f t2] = true) (h10 : (IntKind.i64.wrap (t1 + t3)) = t5) (h11 : (nearT (t4) (t5)) = (t6, t7)) (h12 : nLdx [.i t5] = true) (h13 : (Op.negFloat .f64 t7) = t8) (h14 : mN [.f t7] = true) (h15 : (((fmaF (t0) (t2) (t8)).getD 0)) = t9) (h16 : nFma [.f t0, .f t2, .f t8] = true) (h17 : (sideF t6 t9 up) = (t10, t11)) (h18 : nSideT [.f t6] = true) (r0 : Dy.W t10) : Calls Tryz.prog 135 #[.float .f64 a, .float .f64 b, .bool up] w fun e w' => e = .returned (.tuple #[.float .f64 t10, .int .i64 t11]) ∧ Below w.heap.size w w' := by
 refine cal_calls (vs := [.float .f64 a, .float .f64 b, .bool up]) (us := [.f a, .f b, .b up]) (args := [vf 0, vf 1, vb 2]) tp2_ok (dr_ok tp2_ok) Tryz.func135 [] 200 3 rfl [false, false, false, false] (t := .bind ⟨fun us i => bRes (rrT (gF us 0)) i, 1, [(.v 0)]⟩ (.bind ⟨fun us _ => nB us, 1, [(.v 3)]⟩ (.need ⟨pF, [(.v 4)]⟩ (.bind ⟨fun us i => bRes (rrT (gF us 0)) i, 1, [(.v 1)]⟩ (.bind ⟨fun us _ => nB us, 1, [(.v 5)]⟩ (.need ⟨pF, [(.v 6)]⟩ (.bind ⟨fun us _ => cB Dy.feq us, 1, [(.v 0), (.l (.f 0))]⟩ (.need ⟨pF, [(.v 7)]⟩ (.bind ⟨fun us _ => cB Dy.feq us, 1, [(.v 1), (.l (.f 0))]⟩ (.need ⟨pF, [(.v 8)]⟩ (.bind ⟨fun us i => widthU (frT (gF us 0)) i, 2, [(.v 0)]⟩ (.need ⟨nNzT, [(.v 0)]⟩ (.bind ⟨fun us i => widthU (frT (gF us 0)) i, 2, [(.v 1)]⟩ (.need ⟨nNzT, [(.v 1)]⟩ (.bind ⟨fun us _ => fB Ieee.double.mul us, 1, [(.v 9), (.v 11)]⟩ (.need ⟨fN Ieee.double.mul, [(.v 9), (.v 11)]⟩ (.bind ⟨fun us _ => iB (fun a b => IntKind.i64.wrap (a + b)) us, 1, [(.v 10), (.v 12)]⟩ (.bind ⟨fun us i => ivU (nearT (gF us 0) (gI us 1)) i, 2, [(.v 13), (.v 14)]⟩ (.need ⟨nLdx, [(.v 14)]⟩ (.bind ⟨fun us _ => mF us, 1, [(.v 16)]⟩ (.need ⟨mN, [(.v 16)]⟩ (.bind ⟨fun us _ => .f ((fmaF (gF us 0) (gF us 1) (gF us 2)).getD 0), 1, [(.v 9), (.v 11), (.v 17)]⟩ (.need ⟨nFma, [(.v 9), (.v 11), (.v 17)]⟩ (.bind ⟨fOp2 sideF, 2, [(.v 15), (.v 18), (.v 2)]⟩ (.need ⟨nSideT, [(.v 15)]⟩ (.done .ret ⟨[.tup [.fl (.v 19), .it .i64 (.v 20)]], [], 21, []⟩)))))))))))))))))))))))))) (by kernel_rfl) ?_ (denL_cons.2 ⟨_, _, (fl_den rfl ha), (denL_cons.2 ⟨_, _, (fl_den rfl hb), (denL_cons.2 ⟨_, _, (bo_den rfl), rfl, rfl⟩), rfl⟩), rfl⟩)
 refine T.HH.h ?_
 refine T.hbind rfl (congrArg (fun r => [U.b r]) h0) rfl ?_
 refine T.hbind (xs := [.b false]) rfl (rfl) rfl ?_
 refine T.hneed rfl (rfl) ?_
 refine T.hbind rfl (congrArg (fun r => [U.b r]) h1) rfl ?_
 refine T.hbind (xs := [.b false]) rfl (rfl) rfl ?_
 refine T.hneed rfl (rfl) ?_
 refine T.hbind rfl (congrArg (fun r => [U.b r]) h2) rfl ?_
 refine T.hneed rfl (rfl) ?_
 refine T.hbind rfl (congrArg (fun r => [U.b r]) h3) rfl ?_
 refine T.hneed rfl (rfl) ?_
 refine T.hbind rfl (congrArg (fun r => [widthU r 0, widthU r 1]) h4) rfl ?_
 refine T.hneed rfl (h5) ?_
 refine T.hbind (ρ' := [.f a, .f b, .b up, .b true, .b false, .b true, .b false, .b false, .b false, .f t0, .i t1, .f t2, .i t3]) rfl (congrArg (fun r => [widthU r 0, widthU r 1]) h6) rfl ?_
 refine T.hneed rfl (h7) ?_
 refine T.hbind rfl (congrArg (fun r => [U.f r]) h8) rfl ?_
 refine T.hneed rfl (h9) ?_
 refine T.hbind rfl (congrArg (fun r => [U.i r]) h10) rfl ?_
 refine T.hbind rfl (congrArg (fun r => [ivU r 0, ivU r 1]) h11) rfl ?_
 refine T.hneed rfl (h12) ?_
 refine T.hbind rfl (congrArg (fun r => [U.f r]) h13) rfl ?_
 refine T.hneed rfl (h14) ?_
 refine T.hbind rfl (congrArg (fun r => [U.f r]) h15) rfl ?_
 refine T.hneed rfl (h16) ?_
 refine T.hbind rfl (congrArg (fun r : Nat × Int => [U.f r.1, U.i r.2]) h17) rfl ?_
 refine T.hneed rfl (h18) ?_
 exact T.hdone ⟨rfl, rfl, r0⟩
set_option maxRecDepth 100000 in
set_option maxHeartbeats 4000000 in
theorem rdiv_0 (a b : Nat) (up : Bool) (w : World) (ha : Dy.W a) (hb : Dy.W b) (h0 : ((rrT (a))) = true) (h1 : ((rrT (b))) = true) (h2 : (Dy.feq b 0) = true)  : Calls Tryz.prog 151 #[.float .f64 a, .float .f64 b, .bool up] w fun e w' => e = .returned (.tuple #[.float .f64 0, .int .i64 11]) ∧ Below w.heap.size w w' := by
 refine cal_calls (vs := [.float .f64 a, .float .f64 b, .bool up]) (us := [.f a, .f b, .b up]) (args := [vf 0, vf 1, vb 2]) tp2_ok (dr_ok tp2_ok) Tryz.func151 [] 200 3 rfl [false, false, true] (t := .bind ⟨fun us i => bRes (rrT (gF us 0)) i, 1, [(.v 0)]⟩ (.bind ⟨fun us _ => nB us, 1, [(.v 3)]⟩ (.need ⟨pF, [(.v 4)]⟩ (.bind ⟨fun us i => bRes (rrT (gF us 0)) i, 1, [(.v 1)]⟩ (.bind ⟨fun us _ => nB us, 1, [(.v 5)]⟩ (.need ⟨pF, [(.v 6)]⟩ (.bind ⟨fun us _ => cB Dy.feq us, 1, [(.v 1), (.l (.f 0))]⟩ (.need ⟨pT, [(.v 7)]⟩ (.done .ret ⟨[.tup [.fl (.l (.f 0)), .it .i64 (.l (.i 11))]], [], 8, []⟩))))))))) (by kernel_rfl) ?_ (denL_cons.2 ⟨_, _, (fl_den rfl ha), (denL_cons.2 ⟨_, _, (fl_den rfl hb), (denL_cons.2 ⟨_, _, (bo_den rfl), rfl, rfl⟩), rfl⟩), rfl⟩)
 refine T.HH.h ?_
 refine T.hbind rfl (congrArg (fun r => [U.b r]) h0) rfl ?_
 refine T.hbind (xs := [.b false]) (ρ' := [.f a, .f b, .b up, .b true, .b false]) rfl (rfl) rfl ?_
 refine T.hneed rfl (rfl) ?_
 refine T.hbind rfl (congrArg (fun r => [U.b r]) h1) rfl ?_
 refine T.hbind (xs := [.b false]) rfl (rfl) rfl ?_
 refine T.hneed rfl (rfl) ?_
 refine T.hbind rfl (congrArg (fun r => [U.b r]) h2) rfl ?_
 refine T.hneed rfl (rfl) ?_
 exact T.hdone ⟨rfl, rfl, (by decide)⟩
set_option maxRecDepth 100000 in
set_option maxHeartbeats 4000000 in
theorem rdiv_1 (a b : Nat) (up : Bool) (w : World) (ha : Dy.W a) (hb : Dy.W b) (h0 : ((rrT (a))) = false)  : Calls Tryz.prog 151 #[.float .f64 a, .float .f64 b, .bool up] w fun e w' => e = .returned (.tuple #[.float .f64 0, .int .i64 13]) ∧ Below w.heap.size w w' := by
 refine cal_calls (vs := [.float .f64 a, .float .f64 b, .bool up]) (us := [.f a, .f b, .b up]) (args := [vf 0, vf 1, vb 2]) tp2_ok (dr_ok tp2_ok) Tryz.func151 [] 200 3 rfl [true] (t := .bind ⟨fun us i => bRes (rrT (gF us 0)) i, 1, [(.v 0)]⟩ (.bind ⟨fun us _ => nB us, 1, [(.v 3)]⟩ (.need ⟨pT, [(.v 4)]⟩ (.done .ret ⟨[.tup [.fl (.l (.f 0)), .it .i64 (.l (.i 13))]], [], 5, []⟩)))) (by kernel_rfl) ?_ (denL_cons.2 ⟨_, _, (fl_den rfl ha), (denL_cons.2 ⟨_, _, (fl_den rfl hb), (denL_cons.2 ⟨_, _, (bo_den rfl), rfl, rfl⟩), rfl⟩), rfl⟩)
 refine T.HH.h ?_
 refine T.hbind rfl (congrArg (fun r => [U.b r]) h0) rfl ?_
 refine T.hbind (xs := [.b true]) rfl (rfl) rfl ?_
 refine T.hneed rfl (rfl) ?_
 exact T.hdone ⟨rfl, rfl, (by decide)⟩
set_option maxRecDepth 100000 in
set_option maxHeartbeats 4000000 in
theorem rdiv_2 (a b : Nat) (up : Bool) (w : World) (ha : Dy.W a) (hb : Dy.W b) (h0 : ((rrT (a))) = true) (h1 : ((rrT (b))) = false)  : Calls Tryz.prog 151 #[.float .f64 a, .float .f64 b, .bool up] w fun e w' => e = .returned (.tuple #[.float .f64 0, .int .i64 13]) ∧ Below w.heap.size w w' := by
 refine cal_calls (vs := [.float .f64 a, .float .f64 b, .bool up]) (us := [.f a, .f b, .b up]) (args := [vf 0, vf 1, vb 2]) tp2_ok (dr_ok tp2_ok) Tryz.func151 [] 200 3 rfl [false, true] (t := .bind ⟨fun us i => bRes (rrT (gF us 0)) i, 1, [(.v 0)]⟩ (.bind ⟨fun us _ => nB us, 1, [(.v 3)]⟩ (.need ⟨pF, [(.v 4)]⟩ (.bind ⟨fun us i => bRes (rrT (gF us 0)) i, 1, [(.v 1)]⟩ (.bind ⟨fun us _ => nB us, 1, [(.v 5)]⟩ (.need ⟨pT, [(.v 6)]⟩ (.done .ret ⟨[.tup [.fl (.l (.f 0)), .it .i64 (.l (.i 13))]], [], 7, []⟩))))))) (by kernel_rfl) ?_ (denL_cons.2 ⟨_, _, (fl_den rfl ha), (denL_cons.2 ⟨_, _, (fl_den rfl hb), (denL_cons.2 ⟨_, _, (bo_den rfl), rfl, rfl⟩), rfl⟩), rfl⟩)
 refine T.HH.h ?_
 refine T.hbind rfl (congrArg (fun r => [U.b r]) h0) rfl ?_
 refine T.hbind (xs := [.b false]) rfl (rfl) rfl ?_
 refine T.hneed rfl (rfl) ?_
 refine T.hbind (ρ' := [.f a, .f b, .b up, .b true, .b false, .b false]) rfl (congrArg (fun r => [U.b r]) h1) rfl ?_
 refine T.hbind (xs := [.b true]) rfl (rfl) rfl ?_
 refine T.hneed rfl (rfl) ?_
 exact T.hdone ⟨rfl, rfl, (by decide)⟩
set_option maxRecDepth 100000 in
set_option maxHeartbeats 4000000 in
theorem rdiv_3 (a b : Nat) (up : Bool) (w : World) (ha : Dy.W a) (hb : Dy.W b) (h0 : ((rrT (a))) = true) (h1 : ((rrT (b))) = true) (h2 : (Dy.feq b 0) = false) (h3 : (Dy.feq a 0) = true)  : Calls Tryz.prog 151 #[.float .f64 a, .float .f64 b, .bool up] w fun e w' => e = .returned (.tuple #[.float .f64 0, .int .i64 0]) ∧ Below w.heap.size w w' := by
 refine cal_calls (vs := [.float .f64 a, .float .f64 b, .bool up]) (us := [.f a, .f b, .b up]) (args := [vf 0, vf 1, vb 2]) tp2_ok (dr_ok tp2_ok) Tryz.func151 [] 200 3 rfl [false, false, false, true] (t := .bind ⟨fun us i => bRes (rrT (gF us 0)) i, 1, [(.v 0)]⟩ (.bind ⟨fun us _ => nB us, 1, [(.v 3)]⟩ (.need ⟨pF, [(.v 4)]⟩ (.bind ⟨fun us i => bRes (rrT (gF us 0)) i, 1, [(.v 1)]⟩ (.bind ⟨fun us _ => nB us, 1, [(.v 5)]⟩ (.need ⟨pF, [(.v 6)]⟩ (.bind ⟨fun us _ => cB Dy.feq us, 1, [(.v 1), (.l (.f 0))]⟩ (.need ⟨pF, [(.v 7)]⟩ (.bind ⟨fun us _ => cB Dy.feq us, 1, [(.v 0), (.l (.f 0))]⟩ (.need ⟨pT, [(.v 8)]⟩ (.done .ret ⟨[.tup [.fl (.l (.f 0)), .it .i64 (.l (.i 0))]], [], 9, []⟩))))))))))) (by kernel_rfl) ?_ (denL_cons.2 ⟨_, _, (fl_den rfl ha), (denL_cons.2 ⟨_, _, (fl_den rfl hb), (denL_cons.2 ⟨_, _, (bo_den rfl), rfl, rfl⟩), rfl⟩), rfl⟩)
 refine T.HH.h ?_
 refine T.hbind rfl (congrArg (fun r => [U.b r]) h0) rfl ?_
 refine T.hbind (xs := [.b false]) rfl (rfl) rfl ?_
 refine T.hneed rfl (rfl) ?_
 refine T.hbind rfl (congrArg (fun r => [U.b r]) h1) rfl ?_
 refine T.hbind (xs := [.b false]) rfl (rfl) rfl ?_
 refine T.hneed rfl (rfl) ?_
 refine T.hbind rfl (congrArg (fun r => [U.b r]) h2) rfl ?_
 refine T.hneed rfl (rfl) ?_
 refine T.hbind rfl (congrArg (fun r => [U.b r]) h3) rfl ?_
 refine T.hneed rfl (rfl) ?_
 exact T.hdone ⟨rfl, rfl, (by decide)⟩
set_option maxRecDepth 100000 in
set_option maxHeartbeats 4000000 in
theorem rdiv_4 (a b : Nat) (up : Bool) (w : World) (ha : Dy.W a) (hb : Dy.W b) {t0 : Nat} {t1 : Int} {t2 : Nat} {t3 : Int} {t4 : Nat} {t5 : Int} {t6 : Nat} {t7 : Nat} {t8 : Nat} {t9 : Nat} {t10 : Nat} {t11 : Nat} {t12 : Int} (h0 : ((rrT (a))) = true) (h1 : ((rrT (b))) = true) (h2 : (Dy.feq b 0) = false) (h3 : (Dy.feq a 0) = false) (h4 : (frT (a)) = (t0, t1)) (h5 : nNzT [.f a] = true) (h6 : (frT (b)) = (t2, t3)) (h7 : nNzT [.f b] = true) (h8 : ((Ieee.double.div t0 t2).getD 0) = t4) (h9 : (fN Ieee.double.div) [.f t0, .f t2] = true) (h10 : (IntKind.i64.wrap (t1 - t3)) = t5) (h11 : (nearT (t4) (t5)) = (t6, t7)) (h12 : nLdx [.i t5] = true) (h13 : (Op.negFloat .f64 t7) = t8) (h14 : mN [.f t7] = true) (h15 : (((fmaF (t8) (t2) (t0)).getD 0)) = t9) (h16 : nFma [.f t8, .f t2, .f t0] = true) (h17 : (Dy.flt t2 0) = true) (h18 : (Op.negFloat .f64 t9) = t10) (h19 : mN [.f t9] = true) (h20 : (sideF t6 t10 up) = (t11, t12)) (h21 : nSideT [.f t6] = true) (r0 : Dy.W t11) : Calls Tryz.prog 151 #[.float .f64 a, .float .f64 b, .bool up] w fun e w' => e = .returned (.tuple #[.float .f64 t11, .int .i64 t12]) ∧ Below w.heap.size w w' := by
 refine cal_calls (vs := [.float .f64 a, .float .f64 b, .bool up]) (us := [.f a, .f b, .b up]) (args := [vf 0, vf 1, vb 2]) tp2_ok (dr_ok tp2_ok) Tryz.func151 [] 200 3 rfl [false, false, false, false, true] (t := .bind ⟨fun us i => bRes (rrT (gF us 0)) i, 1, [(.v 0)]⟩ (.bind ⟨fun us _ => nB us, 1, [(.v 3)]⟩ (.need ⟨pF, [(.v 4)]⟩ (.bind ⟨fun us i => bRes (rrT (gF us 0)) i, 1, [(.v 1)]⟩ (.bind ⟨fun us _ => nB us, 1, [(.v 5)]⟩ (.need ⟨pF, [(.v 6)]⟩ (.bind ⟨fun us _ => cB Dy.feq us, 1, [(.v 1), (.l (.f 0))]⟩ (.need ⟨pF, [(.v 7)]⟩ (.bind ⟨fun us _ => cB Dy.feq us, 1, [(.v 0), (.l (.f 0))]⟩ (.need ⟨pF, [(.v 8)]⟩ (.bind ⟨fun us i => widthU (frT (gF us 0)) i, 2, [(.v 0)]⟩ (.need ⟨nNzT, [(.v 0)]⟩ (.bind ⟨fun us i => widthU (frT (gF us 0)) i, 2, [(.v 1)]⟩ (.need ⟨nNzT, [(.v 1)]⟩ (.bind ⟨fun us _ => fB Ieee.double.div us, 1, [(.v 9), (.v 11)]⟩ (.need ⟨fN Ieee.double.div, [(.v 9), (.v 11)]⟩ (.bind ⟨fun us _ => iB (fun a b => IntKind.i64.wrap (a - b)) us, 1, [(.v 10), (.v 12)]⟩ (.bind ⟨fun us i => ivU (nearT (gF us 0) (gI us 1)) i, 2, [(.v 13), (.v 14)]⟩ (.need ⟨nLdx, [(.v 14)]⟩ (.bind ⟨fun us _ => mF us, 1, [(.v 16)]⟩ (.need ⟨mN, [(.v 16)]⟩ (.bind ⟨fun us _ => .f ((fmaF (gF us 0) (gF us 1) (gF us 2)).getD 0), 1, [(.v 17), (.v 11), (.v 9)]⟩ (.need ⟨nFma, [(.v 17), (.v 11), (.v 9)]⟩ (.bind ⟨fun us _ => cB Dy.flt us, 1, [(.v 11), (.l (.f 0))]⟩ (.need ⟨pT, [(.v 19)]⟩ (.bind ⟨fun us _ => mF us, 1, [(.v 18)]⟩ (.need ⟨mN, [(.v 18)]⟩ (.bind ⟨fOp2 sideF, 2, [(.v 15), (.v 20), (.v 2)]⟩ (.need ⟨nSideT, [(.v 15)]⟩ (.done .ret ⟨[.tup [.fl (.v 21), .it .i64 (.v 22)]], [], 23, []⟩)))))))))))))))))))))))))))))) (by kernel_rfl) ?_ (denL_cons.2 ⟨_, _, (fl_den rfl ha), (denL_cons.2 ⟨_, _, (fl_den rfl hb), (denL_cons.2 ⟨_, _, (bo_den rfl), rfl, rfl⟩), rfl⟩), rfl⟩)
 refine T.HH.h ?_
 refine T.hbind (ρ' := [.f a, .f b, .b up, .b true]) rfl (congrArg (fun r => [U.b r]) h0) rfl ?_
 refine T.hbind (xs := [.b false]) rfl (rfl) rfl ?_
 refine T.hneed rfl (rfl) ?_
 refine T.hbind rfl (congrArg (fun r => [U.b r]) h1) rfl ?_
 refine T.hbind (xs := [.b false]) rfl (rfl) rfl ?_
 refine T.hneed rfl (rfl) ?_
 refine T.hbind rfl (congrArg (fun r => [U.b r]) h2) rfl ?_
 refine T.hneed rfl (rfl) ?_
 refine T.hbind rfl (congrArg (fun r => [U.b r]) h3) rfl ?_
 refine T.hneed rfl (rfl) ?_
 refine T.hbind rfl (congrArg (fun r => [widthU r 0, widthU r 1]) h4) rfl ?_
 refine T.hneed rfl (h5) ?_
 refine T.hbind rfl (congrArg (fun r => [widthU r 0, widthU r 1]) h6) rfl ?_
 refine T.hneed rfl (h7) ?_
 refine T.hbind (ρ' := [.f a, .f b, .b up, .b true, .b false, .b true, .b false, .b false, .b false, .f t0, .i t1, .f t2, .i t3, .f t4]) rfl (congrArg (fun r => [U.f r]) h8) rfl ?_
 refine T.hneed rfl (h9) ?_
 refine T.hbind rfl (congrArg (fun r => [U.i r]) h10) rfl ?_
 refine T.hbind rfl (congrArg (fun r => [ivU r 0, ivU r 1]) h11) rfl ?_
 refine T.hneed rfl (h12) ?_
 refine T.hbind rfl (congrArg (fun r => [U.f r]) h13) rfl ?_
 refine T.hneed rfl (h14) ?_
 refine T.hbind rfl (congrArg (fun r => [U.f r]) h15) rfl ?_
 refine T.hneed rfl (h16) ?_
 refine T.hbind rfl (congrArg (fun r => [U.b r]) h17) rfl ?_
 refine T.hneed rfl (rfl) ?_
 refine T.hbind rfl (congrArg (fun r => [U.f r]) h18) rfl ?_
 refine T.hneed rfl (h19) ?_
 refine T.hbind rfl (congrArg (fun r : Nat × Int => [U.f r.1, U.i r.2]) h20) rfl ?_
 refine T.hneed rfl (h21) ?_
 exact T.hdone ⟨rfl, rfl, r0⟩
set_option maxRecDepth 100000 in
set_option maxHeartbeats 4000000 in
theorem rdiv_5 (a b : Nat) (up : Bool) (w : World) (ha : Dy.W a) (hb : Dy.W b) {t0 : Nat} {t1 : Int} {t2 : Nat} {t3 : Int} {t4 : Nat} {t5 : Int} {t6 : Nat} {t7 : Nat} {t8 : Nat} {t9 : Nat} {t10 : Nat} {t11 : Int} (h0 : ((rrT (a))) = true) (h1 : ((rrT (b))) = true) (h2 : (Dy.feq b 0) = false) (h3 : (Dy.feq a 0) = false) (h4 : (frT (a)) = (t0, t1)) (h5 : nNzT [.f a] = true) (h6 : (frT (b)) = (t2, t3)) (h7 : nNzT [.f b] = true) (h8 : ((Ieee.double.div t0 t2).getD 0) = t4) (h9 : (fN Ieee.double.div) [.f t0, .f t2] = true) (h10 : (IntKind.i64.wrap (t1 - t3)) = t5) (h11 : (nearT (t4) (t5)) = (t6, t7)) (h12 : nLdx [.i t5] = true) (h13 : (Op.negFloat .f64 t7) = t8) (h14 : mN [.f t7] = true) (h15 : (((fmaF (t8) (t2) (t0)).getD 0)) = t9) (h16 : nFma [.f t8, .f t2, .f t0] = true) (h17 : (Dy.flt t2 0) = false) (h18 : (sideF t6 t9 up) = (t10, t11)) (h19 : nSideT [.f t6] = true) (r0 : Dy.W t10) : Calls Tryz.prog 151 #[.float .f64 a, .float .f64 b, .bool up] w fun e w' => e = .returned (.tuple #[.float .f64 t10, .int .i64 t11]) ∧ Below w.heap.size w w' := by
 refine cal_calls (vs := [.float .f64 a, .float .f64 b, .bool up]) (us := [.f a, .f b, .b up]) (args := [vf 0, vf 1, vb 2]) tp2_ok (dr_ok tp2_ok) Tryz.func151 [] 200 3 rfl [false, false, false, false, false] (t := .bind ⟨fun us i => bRes (rrT (gF us 0)) i, 1, [(.v 0)]⟩ (.bind ⟨fun us _ => nB us, 1, [(.v 3)]⟩ (.need ⟨pF, [(.v 4)]⟩ (.bind ⟨fun us i => bRes (rrT (gF us 0)) i, 1, [(.v 1)]⟩ (.bind ⟨fun us _ => nB us, 1, [(.v 5)]⟩ (.need ⟨pF, [(.v 6)]⟩ (.bind ⟨fun us _ => cB Dy.feq us, 1, [(.v 1), (.l (.f 0))]⟩ (.need ⟨pF, [(.v 7)]⟩ (.bind ⟨fun us _ => cB Dy.feq us, 1, [(.v 0), (.l (.f 0))]⟩ (.need ⟨pF, [(.v 8)]⟩ (.bind ⟨fun us i => widthU (frT (gF us 0)) i, 2, [(.v 0)]⟩ (.need ⟨nNzT, [(.v 0)]⟩ (.bind ⟨fun us i => widthU (frT (gF us 0)) i, 2, [(.v 1)]⟩ (.need ⟨nNzT, [(.v 1)]⟩ (.bind ⟨fun us _ => fB Ieee.double.div us, 1, [(.v 9), (.v 11)]⟩ (.need ⟨fN Ieee.double.div, [(.v 9), (.v 11)]⟩ (.bind ⟨fun us _ => iB (fun a b => IntKind.i64.wrap (a - b)) us, 1, [(.v 10), (.v 12)]⟩ (.bind ⟨fun us i => ivU (nearT (gF us 0) (gI us 1)) i, 2, [(.v 13), (.v 14)]⟩ (.need ⟨nLdx, [(.v 14)]⟩ (.bind ⟨fun us _ => mF us, 1, [(.v 16)]⟩ (.need ⟨mN, [(.v 16)]⟩ (.bind ⟨fun us _ => .f ((fmaF (gF us 0) (gF us 1) (gF us 2)).getD 0), 1, [(.v 17), (.v 11), (.v 9)]⟩ (.need ⟨nFma, [(.v 17), (.v 11), (.v 9)]⟩ (.bind ⟨fun us _ => cB Dy.flt us, 1, [(.v 11), (.l (.f 0))]⟩ (.need ⟨pF, [(.v 19)]⟩ (.bind ⟨fOp2 sideF, 2, [(.v 15), (.v 18), (.v 2)]⟩ (.need ⟨nSideT, [(.v 15)]⟩ (.done .ret ⟨[.tup [.fl (.v 20), .it .i64 (.v 21)]], [], 22, []⟩)))))))))))))))))))))))))))) (by kernel_rfl) ?_ (denL_cons.2 ⟨_, _, (fl_den rfl ha), (denL_cons.2 ⟨_, _, (fl_den rfl hb), (denL_cons.2 ⟨_, _, (bo_den rfl), rfl, rfl⟩), rfl⟩), rfl⟩)
 refine T.HH.h ?_
 refine T.hbind (ρ' := [.f a, .f b, .b up, .b true]) rfl (congrArg (fun r => [U.b r]) h0) rfl ?_
 refine T.hbind (xs := [.b false]) rfl (rfl) rfl ?_
 refine T.hneed rfl (rfl) ?_
 refine T.hbind rfl (congrArg (fun r => [U.b r]) h1) rfl ?_
 refine T.hbind (xs := [.b false]) rfl (rfl) rfl ?_
 refine T.hneed rfl (rfl) ?_
 refine T.hbind rfl (congrArg (fun r => [U.b r]) h2) rfl ?_
 refine T.hneed rfl (rfl) ?_
 refine T.hbind rfl (congrArg (fun r => [U.b r]) h3) rfl ?_
 refine T.hneed rfl (rfl) ?_
 refine T.hbind rfl (congrArg (fun r => [widthU r 0, widthU r 1]) h4) rfl ?_
 refine T.hneed rfl (h5) ?_
 refine T.hbind rfl (congrArg (fun r => [widthU r 0, widthU r 1]) h6) rfl ?_
 refine T.hneed rfl (h7) ?_
 refine T.hbind (ρ' := [.f a, .f b, .b up, .b true, .b false, .b true, .b false, .b false, .b false, .f t0, .i t1, .f t2, .i t3, .f t4]) rfl (congrArg (fun r => [U.f r]) h8) rfl ?_
 refine T.hneed rfl (h9) ?_
 refine T.hbind rfl (congrArg (fun r => [U.i r]) h10) rfl ?_
 refine T.hbind rfl (congrArg (fun r => [ivU r 0, ivU r 1]) h11) rfl ?_
 refine T.hneed rfl (h12) ?_
 refine T.hbind rfl (congrArg (fun r => [U.f r]) h13) rfl ?_
 refine T.hneed rfl (h14) ?_
 refine T.hbind rfl (congrArg (fun r => [U.f r]) h15) rfl ?_
 refine T.hneed rfl (h16) ?_
 refine T.hbind rfl (congrArg (fun r => [U.b r]) h17) rfl ?_
 refine T.hneed rfl (rfl) ?_
 refine T.hbind rfl (congrArg (fun r : Nat × Int => [U.f r.1, U.i r.2]) h18) rfl ?_
 refine T.hneed rfl (h19) ?_
 exact T.hdone ⟨rfl, rfl, r0⟩
set_option maxRecDepth 100000 in
set_option maxHeartbeats 4000000 in
theorem rsqrt_0 (a : Nat) (up : Bool) (w : World) (ha : Dy.W a) (h0 : ((rrT (a))) = true) (h1 : (Dy.flt a 0) = true)  : Calls Tryz.prog 136 #[.float .f64 a, .bool up] w fun e w' => e = .returned (.tuple #[.float .f64 0, .int .i64 12]) ∧ Below w.heap.size w w' := by
 refine cal_calls (vs := [.float .f64 a, .bool up]) (us := [.f a, .b up]) (args := [vf 0, vb 1]) tp2_ok (dr_ok tp2_ok) Tryz.func136 [] 200 2 rfl [false, true] (t := .bind ⟨fun us i => bRes (rrT (gF us 0)) i, 1, [(.v 0)]⟩ (.bind ⟨fun us _ => nB us, 1, [(.v 2)]⟩ (.need ⟨pF, [(.v 3)]⟩ (.bind ⟨fun us _ => cB Dy.flt us, 1, [(.v 0), (.l (.f 0))]⟩ (.need ⟨pT, [(.v 4)]⟩ (.done .ret ⟨[.tup [.fl (.l (.f 0)), .it .i64 (.l (.i 12))]], [], 5, []⟩)))))) (by kernel_rfl) ?_ (denL_cons.2 ⟨_, _, (fl_den rfl ha), (denL_cons.2 ⟨_, _, (bo_den rfl), rfl, rfl⟩), rfl⟩)
 refine T.HH.h ?_
 refine T.hbind rfl (congrArg (fun r => [U.b r]) h0) rfl ?_
 refine T.hbind (xs := [.b false]) (ρ' := [.f a, .b up, .b true, .b false]) rfl (rfl) rfl ?_
 refine T.hneed rfl (rfl) ?_
 refine T.hbind rfl (congrArg (fun r => [U.b r]) h1) rfl ?_
 refine T.hneed rfl (rfl) ?_
 exact T.hdone ⟨rfl, rfl, (by decide)⟩
set_option maxRecDepth 100000 in
set_option maxHeartbeats 4000000 in
theorem rsqrt_1 (a : Nat) (up : Bool) (w : World) (ha : Dy.W a) (h0 : ((rrT (a))) = false)  : Calls Tryz.prog 136 #[.float .f64 a, .bool up] w fun e w' => e = .returned (.tuple #[.float .f64 0, .int .i64 13]) ∧ Below w.heap.size w w' := by
 refine cal_calls (vs := [.float .f64 a, .bool up]) (us := [.f a, .b up]) (args := [vf 0, vb 1]) tp2_ok (dr_ok tp2_ok) Tryz.func136 [] 200 2 rfl [true] (t := .bind ⟨fun us i => bRes (rrT (gF us 0)) i, 1, [(.v 0)]⟩ (.bind ⟨fun us _ => nB us, 1, [(.v 2)]⟩ (.need ⟨pT, [(.v 3)]⟩ (.done .ret ⟨[.tup [.fl (.l (.f 0)), .it .i64 (.l (.i 13))]], [], 4, []⟩)))) (by kernel_rfl) ?_ (denL_cons.2 ⟨_, _, (fl_den rfl ha), (denL_cons.2 ⟨_, _, (bo_den rfl), rfl, rfl⟩), rfl⟩)
 refine T.HH.h ?_
 refine T.hbind rfl (congrArg (fun r => [U.b r]) h0) rfl ?_
 refine T.hbind (xs := [.b true]) rfl (rfl) rfl ?_
 refine T.hneed rfl (rfl) ?_
 exact T.hdone ⟨rfl, rfl, (by decide)⟩
set_option maxRecDepth 100000 in
set_option maxHeartbeats 4000000 in
theorem rsqrt_2 (a : Nat) (up : Bool) (w : World) (ha : Dy.W a) (h0 : ((rrT (a))) = true) (h1 : (Dy.flt a 0) = false) (h2 : (Dy.feq a 0) = true)  : Calls Tryz.prog 136 #[.float .f64 a, .bool up] w fun e w' => e = .returned (.tuple #[.float .f64 0, .int .i64 0]) ∧ Below w.heap.size w w' := by
 refine cal_calls (vs := [.float .f64 a, .bool up]) (us := [.f a, .b up]) (args := [vf 0, vb 1]) tp2_ok (dr_ok tp2_ok) Tryz.func136 [] 200 2 rfl [false, false, true] (t := .bind ⟨fun us i => bRes (rrT (gF us 0)) i, 1, [(.v 0)]⟩ (.bind ⟨fun us _ => nB us, 1, [(.v 2)]⟩ (.need ⟨pF, [(.v 3)]⟩ (.bind ⟨fun us _ => cB Dy.flt us, 1, [(.v 0), (.l (.f 0))]⟩ (.need ⟨pF, [(.v 4)]⟩ (.bind ⟨fun us _ => cB Dy.feq us, 1, [(.v 0), (.l (.f 0))]⟩ (.need ⟨pT, [(.v 5)]⟩ (.done .ret ⟨[.tup [.fl (.l (.f 0)), .it .i64 (.l (.i 0))]], [], 6, []⟩)))))))) (by kernel_rfl) ?_ (denL_cons.2 ⟨_, _, (fl_den rfl ha), (denL_cons.2 ⟨_, _, (bo_den rfl), rfl, rfl⟩), rfl⟩)
 refine T.HH.h ?_
 refine T.hbind rfl (congrArg (fun r => [U.b r]) h0) rfl ?_
 refine T.hbind (xs := [.b false]) rfl (rfl) rfl ?_
 refine T.hneed rfl (rfl) ?_
 refine T.hbind rfl (congrArg (fun r => [U.b r]) h1) rfl ?_
 refine T.hneed rfl (rfl) ?_
 refine T.hbind rfl (congrArg (fun r => [U.b r]) h2) rfl ?_
 refine T.hneed rfl (rfl) ?_
 exact T.hdone ⟨rfl, rfl, (by decide)⟩
set_option maxRecDepth 100000 in
set_option maxHeartbeats 4000000 in
theorem rsqrt_3 (a : Nat) (up : Bool) (w : World) (ha : Dy.W a) {t0 : Nat} {t1 : Int} {t2 : Int} {t3 : Nat} {t4 : Int} {t5 : Nat} {t6 : Int} {t7 : Nat} {t8 : Nat} {t9 : Nat} {t10 : Nat} {t11 : Nat} {t12 : Int} (h0 : ((rrT (a))) = true) (h1 : (Dy.flt a 0) = false) (h2 : (Dy.feq a 0) = false) (h3 : (frT (a)) = (t0, t1)) (h4 : nNzT [.f a] = true) (h5 : (t1.tmod 2) = t2) (h6 : (t2 != 0) = true) (h7 : ((Ieee.double.div t0 4611686018427387904).getD 0) = t3) (h8 : (fN Ieee.double.div) [.f t0, .f 4611686018427387904] = true) (h9 : (IntKind.i64.wrap (t1 + 1)) = t4) (h10 : (((rootF (t3)).getD 0)) = t5) (h11 : nRoot [.f t3] = true) (h12 : (IntKind.i64.wrap (t4.tdiv 2)) = t6) (h13 : (nearT (t5) (t6)) = (t7, t8)) (h14 : nLdx [.i t6] = true) (h15 : (Op.negFloat .f64 t8) = t9) (h16 : mN [.f t8] = true) (h17 : (((fmaF (t9) (t8) (t3)).getD 0)) = t10) (h18 : nFma [.f t9, .f t8, .f t3] = true) (h19 : (sideF t7 t10 up) = (t11, t12)) (h20 : nSideT [.f t7] = true) (r0 : Dy.W t11) : Calls Tryz.prog 136 #[.float .f64 a, .bool up] w fun e w' => e = .returned (.tuple #[.float .f64 t11, .int .i64 t12]) ∧ Below w.heap.size w w' := by
 refine cal_calls (vs := [.float .f64 a, .bool up]) (us := [.f a, .b up]) (args := [vf 0, vb 1]) tp2_ok (dr_ok tp2_ok) Tryz.func136 [] 200 2 rfl [false, false, false, true] (t := .bind ⟨fun us i => bRes (rrT (gF us 0)) i, 1, [(.v 0)]⟩ (.bind ⟨fun us _ => nB us, 1, [(.v 2)]⟩ (.need ⟨pF, [(.v 3)]⟩ (.bind ⟨fun us _ => cB Dy.flt us, 1, [(.v 0), (.l (.f 0))]⟩ (.need ⟨pF, [(.v 4)]⟩ (.bind ⟨fun us _ => cB Dy.feq us, 1, [(.v 0), (.l (.f 0))]⟩ (.need ⟨pF, [(.v 5)]⟩ (.bind ⟨fun us i => widthU (frT (gF us 0)) i, 2, [(.v 0)]⟩ (.need ⟨nNzT, [(.v 0)]⟩ (.bind ⟨fun us _ => iB (fun a b => a.tmod b) us, 1, [(.v 7), (.l (.i 2))]⟩ (.need ⟨iN, [(.v 7), (.l (.i 2))]⟩ (.bind ⟨fun us _ => jB (fun a b => a != b) us, 1, [(.v 8), (.l (.i 0))]⟩ (.need ⟨pT, [(.v 9)]⟩ (.bind ⟨fun us _ => fB Ieee.double.div us, 1, [(.v 6), (.l (.f 4611686018427387904))]⟩ (.need ⟨fN Ieee.double.div, [(.v 6), (.l (.f 4611686018427387904))]⟩ (.bind ⟨fun us _ => iB (fun a b => IntKind.i64.wrap (a + b)) us, 1, [(.v 7), (.l (.i 1))]⟩ (.bind ⟨fun us _ => .f ((rootF (gF us 0)).getD 0), 1, [(.v 10)]⟩ (.need ⟨nRoot, [(.v 10)]⟩ (.bind ⟨fun us _ => iB (fun a b => IntKind.i64.wrap (a.tdiv b)) us, 1, [(.v 11), (.l (.i 2))]⟩ (.need ⟨iN, [(.v 11), (.l (.i 2))]⟩ (.bind ⟨fun us i => ivU (nearT (gF us 0) (gI us 1)) i, 2, [(.v 12), (.v 13)]⟩ (.need ⟨nLdx, [(.v 13)]⟩ (.bind ⟨fun us _ => mF us, 1, [(.v 15)]⟩ (.need ⟨mN, [(.v 15)]⟩ (.bind ⟨fun us _ => .f ((fmaF (gF us 0) (gF us 1) (gF us 2)).getD 0), 1, [(.v 16), (.v 15), (.v 10)]⟩ (.need ⟨nFma, [(.v 16), (.v 15), (.v 10)]⟩ (.bind ⟨fOp2 sideF, 2, [(.v 14), (.v 17), (.v 1)]⟩ (.need ⟨nSideT, [(.v 14)]⟩ (.done .ret ⟨[.tup [.fl (.v 18), .it .i64 (.v 19)]], [], 20, []⟩))))))))))))))))))))))))))))) (by kernel_rfl) ?_ (denL_cons.2 ⟨_, _, (fl_den rfl ha), (denL_cons.2 ⟨_, _, (bo_den rfl), rfl, rfl⟩), rfl⟩)
 refine T.HH.h ?_
 refine T.hbind (ρ' := [.f a, .b up, .b true]) rfl (congrArg (fun r => [U.b r]) h0) rfl ?_
 refine T.hbind (xs := [.b false]) rfl (rfl) rfl ?_
 refine T.hneed rfl (rfl) ?_
 refine T.hbind rfl (congrArg (fun r => [U.b r]) h1) rfl ?_
 refine T.hneed rfl (rfl) ?_
 refine T.hbind rfl (congrArg (fun r => [U.b r]) h2) rfl ?_
 refine T.hneed rfl (rfl) ?_
 refine T.hbind rfl (congrArg (fun r => [widthU r 0, widthU r 1]) h3) rfl ?_
 refine T.hneed rfl (h4) ?_
 refine T.hbind rfl (congrArg (fun r => [U.i r]) h5) rfl ?_
 refine T.hneed rfl (rfl) ?_
 refine T.hbind rfl (congrArg (fun r => [U.b r]) h6) rfl ?_
 refine T.hneed rfl (rfl) ?_
 refine T.hbind rfl (congrArg (fun r => [U.f r]) h7) rfl ?_
 refine T.hneed rfl (h8) ?_
 refine T.hbind (ρ' := [.f a, .b up, .b true, .b false, .b false, .b false, .f t0, .i t1, .i t2, .b true, .f t3, .i t4]) rfl (congrArg (fun r => [U.i r]) h9) rfl ?_
 refine T.hbind rfl (congrArg (fun r => [U.f r]) h10) rfl ?_
 refine T.hneed rfl (h11) ?_
 refine T.hbind rfl (congrArg (fun r => [U.i r]) h12) rfl ?_
 refine T.hneed rfl (rfl) ?_
 refine T.hbind rfl (congrArg (fun r => [ivU r 0, ivU r 1]) h13) rfl ?_
 refine T.hneed rfl (h14) ?_
 refine T.hbind rfl (congrArg (fun r => [U.f r]) h15) rfl ?_
 refine T.hneed rfl (h16) ?_
 refine T.hbind rfl (congrArg (fun r => [U.f r]) h17) rfl ?_
 refine T.hneed rfl (h18) ?_
 refine T.hbind rfl (congrArg (fun r : Nat × Int => [U.f r.1, U.i r.2]) h19) rfl ?_
 refine T.hneed rfl (h20) ?_
 exact T.hdone ⟨rfl, rfl, r0⟩
set_option maxRecDepth 100000 in
set_option maxHeartbeats 4000000 in
theorem rsqrt_4 (a : Nat) (up : Bool) (w : World) (ha : Dy.W a) {t0 : Nat} {t1 : Int} {t2 : Int} {t3 : Nat} {t4 : Int} {t5 : Nat} {t6 : Nat} {t7 : Nat} {t8 : Nat} {t9 : Nat} {t10 : Int} (h0 : ((rrT (a))) = true) (h1 : (Dy.flt a 0) = false) (h2 : (Dy.feq a 0) = false) (h3 : (frT (a)) = (t0, t1)) (h4 : nNzT [.f a] = true) (h5 : (t1.tmod 2) = t2) (h6 : (t2 != 0) = false) (h7 : (((rootF (t0)).getD 0)) = t3) (h8 : nRoot [.f t0] = true) (h9 : (IntKind.i64.wrap (t1.tdiv 2)) = t4) (h10 : (nearT (t3) (t4)) = (t5, t6)) (h11 : nLdx [.i t4] = true) (h12 : (Op.negFloat .f64 t6) = t7) (h13 : mN [.f t6] = true) (h14 : (((fmaF (t7) (t6) (t0)).getD 0)) = t8) (h15 : nFma [.f t7, .f t6, .f t0] = true) (h16 : (sideF t5 t8 up) = (t9, t10)) (h17 : nSideT [.f t5] = true) (r0 : Dy.W t9) : Calls Tryz.prog 136 #[.float .f64 a, .bool up] w fun e w' => e = .returned (.tuple #[.float .f64 t9, .int .i64 t10]) ∧ Below w.heap.size w w' := by
 refine cal_calls (vs := [.float .f64 a, .bool up]) (us := [.f a, .b up]) (args := [vf 0, vb 1]) tp2_ok (dr_ok tp2_ok) Tryz.func136 [] 200 2 rfl [false, false, false, false] (t := .bind ⟨fun us i => bRes (rrT (gF us 0)) i, 1, [(.v 0)]⟩ (.bind ⟨fun us _ => nB us, 1, [(.v 2)]⟩ (.need ⟨pF, [(.v 3)]⟩ (.bind ⟨fun us _ => cB Dy.flt us, 1, [(.v 0), (.l (.f 0))]⟩ (.need ⟨pF, [(.v 4)]⟩ (.bind ⟨fun us _ => cB Dy.feq us, 1, [(.v 0), (.l (.f 0))]⟩ (.need ⟨pF, [(.v 5)]⟩ (.bind ⟨fun us i => widthU (frT (gF us 0)) i, 2, [(.v 0)]⟩ (.need ⟨nNzT, [(.v 0)]⟩ (.bind ⟨fun us _ => iB (fun a b => a.tmod b) us, 1, [(.v 7), (.l (.i 2))]⟩ (.need ⟨iN, [(.v 7), (.l (.i 2))]⟩ (.bind ⟨fun us _ => jB (fun a b => a != b) us, 1, [(.v 8), (.l (.i 0))]⟩ (.need ⟨pF, [(.v 9)]⟩ (.bind ⟨fun us _ => .f ((rootF (gF us 0)).getD 0), 1, [(.v 6)]⟩ (.need ⟨nRoot, [(.v 6)]⟩ (.bind ⟨fun us _ => iB (fun a b => IntKind.i64.wrap (a.tdiv b)) us, 1, [(.v 7), (.l (.i 2))]⟩ (.need ⟨iN, [(.v 7), (.l (.i 2))]⟩ (.bind ⟨fun us i => ivU (nearT (gF us 0) (gI us 1)) i, 2, [(.v 10), (.v 11)]⟩ (.need ⟨nLdx, [(.v 11)]⟩ (.bind ⟨fun us _ => mF us, 1, [(.v 13)]⟩ (.need ⟨mN, [(.v 13)]⟩ (.bind ⟨fun us _ => .f ((fmaF (gF us 0) (gF us 1) (gF us 2)).getD 0), 1, [(.v 14), (.v 13), (.v 6)]⟩ (.need ⟨nFma, [(.v 14), (.v 13), (.v 6)]⟩ (.bind ⟨fOp2 sideF, 2, [(.v 12), (.v 15), (.v 1)]⟩ (.need ⟨nSideT, [(.v 12)]⟩ (.done .ret ⟨[.tup [.fl (.v 16), .it .i64 (.v 17)]], [], 18, []⟩)))))))))))))))))))))))))) (by kernel_rfl) ?_ (denL_cons.2 ⟨_, _, (fl_den rfl ha), (denL_cons.2 ⟨_, _, (bo_den rfl), rfl, rfl⟩), rfl⟩)
 refine T.HH.h ?_
 refine T.hbind rfl (congrArg (fun r => [U.b r]) h0) rfl ?_
 refine T.hbind (xs := [.b false]) (ρ' := [.f a, .b up, .b true, .b false]) rfl (rfl) rfl ?_
 refine T.hneed rfl (rfl) ?_
 refine T.hbind rfl (congrArg (fun r => [U.b r]) h1) rfl ?_
 refine T.hneed rfl (rfl) ?_
 refine T.hbind rfl (congrArg (fun r => [U.b r]) h2) rfl ?_
 refine T.hneed rfl (rfl) ?_
 refine T.hbind rfl (congrArg (fun r => [widthU r 0, widthU r 1]) h3) rfl ?_
 refine T.hneed rfl (h4) ?_
 refine T.hbind rfl (congrArg (fun r => [U.i r]) h5) rfl ?_
 refine T.hneed rfl (rfl) ?_
 refine T.hbind rfl (congrArg (fun r => [U.b r]) h6) rfl ?_
 refine T.hneed rfl (rfl) ?_
 refine T.hbind rfl (congrArg (fun r => [U.f r]) h7) rfl ?_
 refine T.hneed rfl (h8) ?_
 refine T.hbind rfl (congrArg (fun r => [U.i r]) h9) rfl ?_
 refine T.hneed rfl (rfl) ?_
 refine T.hbind (ρ' := [.f a, .b up, .b true, .b false, .b false, .b false, .f t0, .i t1, .i t2, .b false, .f t3, .i t4, .f t5, .f t6]) rfl (congrArg (fun r => [ivU r 0, ivU r 1]) h10) rfl ?_
 refine T.hneed rfl (h11) ?_
 refine T.hbind rfl (congrArg (fun r => [U.f r]) h12) rfl ?_
 refine T.hneed rfl (h13) ?_
 refine T.hbind rfl (congrArg (fun r => [U.f r]) h14) rfl ?_
 refine T.hneed rfl (h15) ?_
 refine T.hbind rfl (congrArg (fun r : Nat × Int => [U.f r.1, U.i r.2]) h16) rfl ?_
 refine T.hneed rfl (h17) ?_
 exact T.hdone ⟨rfl, rfl, r0⟩
end Go.Proofs.YtkhplflbcgjkcaaGreat
