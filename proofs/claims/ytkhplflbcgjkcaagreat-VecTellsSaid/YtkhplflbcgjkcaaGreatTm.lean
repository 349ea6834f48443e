/- Walks: ways of burnishref01.Add, math.frexp. -/
import Derived.Test.YtkhplflbcgjkcaaGreatAa
namespace Go.Proofs.YtkhplflbcgjkcaaGreat
open Go Go.RowKit
set_option linter.unusedSimpArgs false
set_option linter.unusedVariables false
def tm0 : List (Nat × Ct) := tL0
theorem tm0_ok : AllOk Tryz.prog tm0 := tL0_ok
set_option maxRecDepth 100000 in
set_option maxHeartbeats 4000000 in
theorem radd_0 (a b : Nat) (up : Bool) (w : World) (ha : Dy.W a) (hb : Dy.W b) {t0 : Nat} {t1 : Nat} {t2 : Int} (h0 : ((rrT (a))) = true) (h1 : ((rrT (b))) = true) (h2 : ((Ieee.double.add a b).getD 0) = t0) (h3 : (fN Ieee.double.add) [.f a, .f b] = true) (h4 : ((infT (t0) (0))) = true) (h5 : (sideF t0 0 up) = (t1, t2)) (h6 : nSideT [.f t0] = true) (r0 : Dy.W t1) : Calls Tryz.prog 119 #[.float .f64 a, .float .f64 b, .bool up] w fun e w' => e = .returned (.tuple #[.float .f64 t1, .int .i64 t2]) ∧ Below w.heap.size w w' := by
 refine cal_calls (vs := [.float .f64 a, .float .f64 b, .bool up]) (us := [.f a, .f b, .b up]) (args := [vf 0, vf 1, vb 2]) tm0_ok (dr_ok tm0_ok) Tryz.func119 [] 200 3 rfl [false, false, true] (t := .bind ⟨fun us i => bRes (rrT (gF us 0)) i, 1, [(.v 0)]⟩ (.bind ⟨fun us _ => nB us, 1, [(.v 3)]⟩ (.need ⟨pF, [(.v 4)]⟩ (.bind ⟨fun us i => bRes (rrT (gF us 0)) i, 1, [(.v 1)]⟩ (.bind ⟨fun us _ => nB us, 1, [(.v 5)]⟩ (.need ⟨pF, [(.v 6)]⟩ (.bind ⟨fun us _ => fB Ieee.double.add us, 1, [(.v 0), (.v 1)]⟩ (.need ⟨fN Ieee.double.add, [(.v 0), (.v 1)]⟩ (.bind ⟨fun us i => bRes (infT (gF us 0) (gI us 1)) i, 1, [(.v 7), (.l (.i 0))]⟩ (.need ⟨pT, [(.v 8)]⟩ (.bind ⟨fOp2 sideF, 2, [(.v 7), (.l (.f 0)), (.v 2)]⟩ (.need ⟨nSideT, [(.v 7)]⟩ (.done .ret ⟨[.tup [.fl (.v 9), .it .i64 (.v 10)]], [], 11, []⟩))))))))))))) (by kernel_rfl) ?_ (denL_cons.2 ⟨_, _, (fl_den rfl ha), (denL_cons.2 ⟨_, _, (fl_den rfl hb), (denL_cons.2 ⟨_, _, (bo_den rfl), rfl, rfl⟩), rfl⟩), rfl⟩)
 refine T.HH.h ?_
 refine T.hbind rfl (congrArg (fun r => [U.b r]) h0) rfl ?_
 refine T.hbind (xs := [.b false]) rfl (rfl) rfl ?_
 refine T.hneed rfl (rfl) ?_
 refine T.hbind rfl (congrArg (fun r => [U.b r]) h1) rfl ?_
 refine T.hbind (xs := [.b false]) rfl (rfl) rfl ?_
 refine T.hneed rfl (rfl) ?_
 refine T.hbind rfl (congrArg (fun r => [U.f r]) h2) rfl ?_
 refine T.hneed rfl (h3) ?_
 refine T.hbind rfl (congrArg (fun r => [U.b r]) h4) rfl ?_
 refine T.hneed rfl (rfl) ?_
 refine T.hbind rfl (congrArg (fun r : Nat × Int => [U.f r.1, U.i r.2]) h5) rfl ?_
 refine T.hneed rfl (h6) ?_
 exact T.hdone ⟨rfl, rfl, r0⟩
set_option maxRecDepth 100000 in
set_option maxHeartbeats 4000000 in
theorem radd_1 (a b : Nat) (up : Bool) (w : World) (ha : Dy.W a) (hb : Dy.W b) (h0 : ((rrT (a))) = false)  : Calls Tryz.prog 119 #[.float .f64 a, .float .f64 b, .bool up] w fun e w' => e = .returned (.tuple #[.float .f64 0, .int .i64 13]) ∧ Below w.heap.size w w' := by
 refine cal_calls (vs := [.float .f64 a, .float .f64 b, .bool up]) (us := [.f a, .f b, .b up]) (args := [vf 0, vf 1, vb 2]) tm0_ok (dr_ok tm0_ok) Tryz.func119 [] 200 3 rfl [true] (t := .bind ⟨fun us i => bRes (rrT (gF us 0)) i, 1, [(.v 0)]⟩ (.bind ⟨fun us _ => nB us, 1, [(.v 3)]⟩ (.need ⟨pT, [(.v 4)]⟩ (.done .ret ⟨[.tup [.fl (.l (.f 0)), .it .i64 (.l (.i 13))]], [], 5, []⟩)))) (by kernel_rfl) ?_ (denL_cons.2 ⟨_, _, (fl_den rfl ha), (denL_cons.2 ⟨_, _, (fl_den rfl hb), (denL_cons.2 ⟨_, _, (bo_den rfl), rfl, rfl⟩), rfl⟩), rfl⟩)
 refine T.HH.h ?_
 refine T.hbind (ρ' := [.f a, .f b, .b up, .b false]) rfl (congrArg (fun r => [U.b r]) h0) rfl ?_
 refine T.hbind (xs := [.b true]) rfl (rfl) rfl ?_
 refine T.hneed rfl (rfl) ?_
 exact T.hdone ⟨rfl, rfl, (by decide)⟩
set_option maxRecDepth 100000 in
set_option maxHeartbeats 4000000 in
theorem radd_2 (a b : Nat) (up : Bool) (w : World) (ha : Dy.W a) (hb : Dy.W b) (h0 : ((rrT (a))) = true) (h1 : ((rrT (b))) = false)  : Calls Tryz.prog 119 #[.float .f64 a, .float .f64 b, .bool up] w fun e w' => e = .returned (.tuple #[.float .f64 0, .int .i64 13]) ∧ Below w.heap.size w w' := by
 refine cal_calls (vs := [.float .f64 a, .float .f64 b, .bool up]) (us := [.f a, .f b, .b up]) (args := [vf 0, vf 1, vb 2]) tm0_ok (dr_ok tm0_ok) Tryz.func119 [] 200 3 rfl [false, true] (t := .bind ⟨fun us i => bRes (rrT (gF us 0)) i, 1, [(.v 0)]⟩ (.bind ⟨fun us _ => nB us, 1, [(.v 3)]⟩ (.need ⟨pF, [(.v 4)]⟩ (.bind ⟨fun us i => bRes (rrT (gF us 0)) i, 1, [(.v 1)]⟩ (.bind ⟨fun us _ => nB us, 1, [(.v 5)]⟩ (.need ⟨pT, [(.v 6)]⟩ (.done .ret ⟨[.tup [.fl (.l (.f 0)), .it .i64 (.l (.i 13))]], [], 7, []⟩))))))) (by kernel_rfl) ?_ (denL_cons.2 ⟨_, _, (fl_den rfl ha), (denL_cons.2 ⟨_, _, (fl_den rfl hb), (denL_cons.2 ⟨_, _, (bo_den rfl), rfl, rfl⟩), rfl⟩), rfl⟩)
 refine T.HH.h ?_
 refine T.hbind rfl (congrArg (fun r => [U.b r]) h0) rfl ?_
 refine T.hbind (xs := [.b false]) rfl (rfl) rfl ?_
 refine T.hneed rfl (rfl) ?_
 refine T.hbind rfl (congrArg (fun r => [U.b r]) h1) rfl ?_
 refine T.hbind (xs := [.b true]) rfl (rfl) rfl ?_
 refine T.hneed rfl (rfl) ?_
 exact T.hdone ⟨rfl, rfl, (by decide)⟩
set_option maxRecDepth 100000 in
set_option maxHeartbeats 4000000 in
theorem radd_3 (a b : Nat) (up : Bool) (w : World) (ha : Dy.W a) (hb : Dy.W b) {t0 : Nat} {t1 : Nat} {t2 : Nat} {t3 : Nat} {t4 : Int} (h0 : ((rrT (a))) = true) (h1 : ((rrT (b))) = true) (h2 : ((Ieee.double.add a b).getD 0) = t0) (h3 : (fN Ieee.double.add) [.f a, .f b] = true) (h4 : ((infT (t0) (0))) = false) (h5 : ((Dy.abs (t0))) = t1) (h6 : ((Dy.ldx (4607182418800017408) (1000))) = t2) (h7 : nLdx [.i 1000] = true) (h8 : (Dy.fgt t1 t2 || Dy.feq t1 t2) = true) (h9 : (Dy.dAdd (a) (b) (up)) = (t3, t4)) (h10 : nFarT [.f a, .f b, .f t0] = true) (r0 : Dy.W t3) : Calls Tryz.prog 119 #[.float .f64 a, .float .f64 b, .bool up] w fun e w' => e = .returned (.tuple #[.float .f64 t3, .int .i64 t4]) ∧ Below w.heap.size w w' := by
 refine cal_calls (vs := [.float .f64 a, .float .f64 b, .bool up]) (us := [.f a, .f b, .b up]) (args := [vf 0, vf 1, vb 2]) tm0_ok (dr_ok tm0_ok) Tryz.func119 [] 200 3 rfl [false, false, false, true] (t := .bind ⟨fun us i => bRes (rrT (gF us 0)) i, 1, [(.v 0)]⟩ (.bind ⟨fun us _ => nB us, 1, [(.v 3)]⟩ (.need ⟨pF, [(.v 4)]⟩ (.bind ⟨fun us i => bRes (rrT (gF us 0)) i, 1, [(.v 1)]⟩ (.bind ⟨fun us _ => nB us, 1, [(.v 5)]⟩ (.need ⟨pF, [(.v 6)]⟩ (.bind ⟨fun us _ => fB Ieee.double.add us, 1, [(.v 0), (.v 1)]⟩ (.need ⟨fN Ieee.double.add, [(.v 0), (.v 1)]⟩ (.bind ⟨fun us i => bRes (infT (gF us 0) (gI us 1)) i, 1, [(.v 7), (.l (.i 0))]⟩ (.need ⟨pF, [(.v 8)]⟩ (.bind ⟨fun us _ => .f (Dy.abs (gF us 0)), 1, [(.v 7)]⟩ (.bind ⟨fun us _ => .f (Dy.ldx (gF us 0) (gI us 1)), 1, [(.l (.f 4607182418800017408)), (.l (.i 1000))]⟩ (.need ⟨nLdx, [(.l (.i 1000))]⟩ (.bind ⟨fun us _ => cB (fun a b => Dy.fgt a b || Dy.feq a b) us, 1, [(.v 9), (.v 10)]⟩ (.need ⟨pT, [(.v 11)]⟩ (.bind ⟨fun us i => widthU (Dy.dAdd (gF us 0) (gF us 1) (gB' us 3)) i, 2, [(.v 0), (.v 1), (.v 7), (.v 2)]⟩ (.need ⟨nFarT, [(.v 0), (.v 1), (.v 7)]⟩ (.done .ret ⟨[.tup [.fl (.v 12), .it .i64 (.v 13)]], [], 14, []⟩)))))))))))))))))) (by kernel_rfl) ?_ (denL_cons.2 ⟨_, _, (fl_den rfl ha), (denL_cons.2 ⟨_, _, (fl_den rfl hb), (denL_cons.2 ⟨_, _, (bo_den rfl), rfl, rfl⟩), rfl⟩), rfl⟩)
 refine T.HH.h ?_
 refine T.hbind rfl (congrArg (fun r => [U.b r]) h0) rfl ?_
 refine T.hbind (xs := [.b false]) rfl (rfl) rfl ?_
 refine T.hneed rfl (rfl) ?_
 refine T.hbind (ρ' := [.f a, .f b, .b up, .b true, .b false, .b true]) rfl (congrArg (fun r => [U.b r]) h1) rfl ?_
 refine T.hbind (xs := [.b false]) rfl (rfl) rfl ?_
 refine T.hneed rfl (rfl) ?_
 refine T.hbind rfl (congrArg (fun r => [U.f r]) h2) rfl ?_
 refine T.hneed rfl (h3) ?_
 refine T.hbind rfl (congrArg (fun r => [U.b r]) h4) rfl ?_
 refine T.hneed rfl (rfl) ?_
 refine T.hbind rfl (congrArg (fun r => [U.f r]) h5) rfl ?_
 refine T.hbind rfl (congrArg (fun r => [U.f r]) h6) rfl ?_
 refine T.hneed rfl (h7) ?_
 refine T.hbind rfl (congrArg (fun r => [U.b r]) h8) rfl ?_
 refine T.hneed rfl (rfl) ?_
 refine T.hbind rfl (congrArg (fun r => [widthU r 0, widthU r 1]) h9) rfl ?_
 refine T.hneed rfl (h10) ?_
 exact T.hdone ⟨rfl, rfl, r0⟩
set_option maxRecDepth 100000 in
set_option maxHeartbeats 4000000 in
theorem radd_4 (a b : Nat) (up : Bool) (w : World) (ha : Dy.W a) (hb : Dy.W b) {t0 : Nat} {t1 : Nat} {t2 : Nat} {t3 : Nat} {t4 : Nat} {t5 : Nat} {t6 : Nat} {t7 : Nat} {t8 : Nat} {t9 : Int} (h0 : ((rrT (a))) = true) (h1 : ((rrT (b))) = true) (h2 : ((Ieee.double.add a b).getD 0) = t0) (h3 : (fN Ieee.double.add) [.f a, .f b] = true) (h4 : ((infT (t0) (0))) = false) (h5 : ((Dy.abs (t0))) = t1) (h6 : ((Dy.ldx (4607182418800017408) (1000))) = t2) (h7 : nLdx [.i 1000] = true) (h8 : (Dy.fgt t1 t2 || Dy.feq t1 t2) = false) (h9 : ((Ieee.double.sub t0 a).getD 0) = t3) (h10 : (fN Ieee.double.sub) [.f t0, .f a] = true) (h11 : ((Ieee.double.sub t0 t3).getD 0) = t4) (h12 : (fN Ieee.double.sub) [.f t0, .f t3] = true) (h13 : ((Ieee.double.sub a t4).getD 0) = t5) (h14 : (fN Ieee.double.sub) [.f a, .f t4] = true) (h15 : ((Ieee.double.sub b t3).getD 0) = t6) (h16 : (fN Ieee.double.sub) [.f b, .f t3] = true) (h17 : ((Ieee.double.add t5 t6).getD 0) = t7) (h18 : (fN Ieee.double.add) [.f t5, .f t6] = true) (h19 : (sideF t0 t7 up) = (t8, t9)) (h20 : nSideT [.f t0] = true) (r0 : Dy.W t8) : Calls Tryz.prog 119 #[.float .f64 a, .float .f64 b, .bool up] w fun e w' => e = .returned (.tuple #[.float .f64 t8, .int .i64 t9]) ∧ Below w.heap.size w w' := by
 refine cal_calls (vs := [.float .f64 a, .float .f64 b, .bool up]) (us := [.f a, .f b, .b up]) (args := [vf 0, vf 1, vb 2]) tm0_ok (dr_ok tm0_ok) Tryz.func119 [] 200 3 rfl [false, false, false, false] (t := .bind ⟨fun us i => bRes (rrT (gF us 0)) i, 1, [(.v 0)]⟩ (.bind ⟨fun us _ => nB us, 1, [(.v 3)]⟩ (.need ⟨pF, [(.v 4)]⟩ (.bind ⟨fun us i => bRes (rrT (gF us 0)) i, 1, [(.v 1)]⟩ (.bind ⟨fun us _ => nB us, 1, [(.v 5)]⟩ (.need ⟨pF, [(.v 6)]⟩ (.bind ⟨fun us _ => fB Ieee.double.add us, 1, [(.v 0), (.v 1)]⟩ (.need ⟨fN Ieee.double.add, [(.v 0), (.v 1)]⟩ (.bind ⟨fun us i => bRes (infT (gF us 0) (gI us 1)) i, 1, [(.v 7), (.l (.i 0))]⟩ (.need ⟨pF, [(.v 8)]⟩ (.bind ⟨fun us _ => .f (Dy.abs (gF us 0)), 1, [(.v 7)]⟩ (.bind ⟨fun us _ => .f (Dy.ldx (gF us 0) (gI us 1)), 1, [(.l (.f 4607182418800017408)), (.l (.i 1000))]⟩ (.need ⟨nLdx, [(.l (.i 1000))]⟩ (.bind ⟨fun us _ => cB (fun a b => Dy.fgt a b || Dy.feq a b) us, 1, [(.v 9), (.v 10)]⟩ (.need ⟨pF, [(.v 11)]⟩ (.bind ⟨fun us _ => fB Ieee.double.sub us, 1, [(.v 7), (.v 0)]⟩ (.need ⟨fN Ieee.double.sub, [(.v 7), (.v 0)]⟩ (.bind ⟨fun us _ => fB Ieee.double.sub us, 1, [(.v 7), (.v 12)]⟩ (.need ⟨fN Ieee.double.sub, [(.v 7), (.v 12)]⟩ (.bind ⟨fun us _ => fB Ieee.double.sub us, 1, [(.v 0), (.v 13)]⟩ (.need ⟨fN Ieee.double.sub, [(.v 0), (.v 13)]⟩ (.bind ⟨fun us _ => fB Ieee.double.sub us, 1, [(.v 1), (.v 12)]⟩ (.need ⟨fN Ieee.double.sub, [(.v 1), (.v 12)]⟩ (.bind ⟨fun us _ => fB Ieee.double.add us, 1, [(.v 14), (.v 15)]⟩ (.need ⟨fN Ieee.double.add, [(.v 14), (.v 15)]⟩ (.bind ⟨fOp2 sideF, 2, [(.v 7), (.v 16), (.v 2)]⟩ (.need ⟨nSideT, [(.v 7)]⟩ (.done .ret ⟨[.tup [.fl (.v 17), .it .i64 (.v 18)]], [], 19, []⟩)))))))))))))))))))))))))))) (by kernel_rfl) ?_ (denL_cons.2 ⟨_, _, (fl_den rfl ha), (denL_cons.2 ⟨_, _, (fl_den rfl hb), (denL_cons.2 ⟨_, _, (bo_den rfl), rfl, rfl⟩), rfl⟩), rfl⟩)
 refine T.HH.h ?_
 refine T.hbind (ρ' := [.f a, .f b, .b up, .b true]) rfl (congrArg (fun r => [U.b r]) h0) rfl ?_
 refine T.hbind (xs := [.b false]) rfl (rfl) rfl ?_
 refine T.hneed rfl (rfl) ?_
 refine T.hbind rfl (congrArg (fun r => [U.b r]) h1) rfl ?_
 refine T.hbind (xs := [.b false]) rfl (rfl) rfl ?_
 refine T.hneed rfl (rfl) ?_
 refine T.hbind rfl (congrArg (fun r => [U.f r]) h2) rfl ?_
 refine T.hneed rfl (h3) ?_
 refine T.hbind rfl (congrArg (fun r => [U.b r]) h4) rfl ?_
 refine T.hneed rfl (rfl) ?_
 refine T.hbind rfl (congrArg (fun r => [U.f r]) h5) rfl ?_
 refine T.hbind rfl (congrArg (fun r => [U.f r]) h6) rfl ?_
 refine T.hneed rfl (h7) ?_
 refine T.hbind (ρ' := [.f a, .f b, .b up, .b true, .b false, .b true, .b false, .f t0, .b false, .f t1, .f t2, .b false]) rfl (congrArg (fun r => [U.b r]) h8) rfl ?_
 refine T.hneed rfl (rfl) ?_
 refine T.hbind rfl (congrArg (fun r => [U.f r]) h9) rfl ?_
 refine T.hneed rfl (h10) ?_
 refine T.hbind rfl (congrArg (fun r => [U.f r]) h11) rfl ?_
 refine T.hneed rfl (h12) ?_
 refine T.hbind rfl (congrArg (fun r => [U.f r]) h13) rfl ?_
 refine T.hneed rfl (h14) ?_
 refine T.hbind rfl (congrArg (fun r => [U.f r]) h15) rfl ?_
 refine T.hneed rfl (h16) ?_
 refine T.hbind rfl (congrArg (fun r => [U.f r]) h17) rfl ?_
 refine T.hneed rfl (h18) ?_
 refine T.hbind rfl (congrArg (fun r : Nat × Int => [U.f r.1, U.i r.2]) h19) rfl ?_
 refine T.hneed rfl (h20) ?_
 exact T.hdone ⟨rfl, rfl, r0⟩
set_option maxRecDepth 100000 in
set_option maxHeartbeats 4000000 in
theorem frexp_0 (a : Nat) (w : World) (ha : Dy.W a) {t0 : Nat} {t1 : Int} {t2 : Int} {t3 : Int} {t4 : Int} {t5 : Int} {t6 : Int} {t7 : Int} {t8 : Int} {t9 : Int} {t10 : Int} {t11 : Nat} (h0 : (Dy.feq a 0) = false) (h1 : ((infT (a) (0))) = false) (h2 : ((Dy.nan (a))) = false) (h3 : (normT (a)) = (t0, t1)) (h4 : nFinT [.f a] = true) (h5 : ((t0 : Nat)) = t2) (h6 : (t2.fdiv (2 ^ (min ((52 : Int)).toNat IntKind.u64.bits))) = t3) (h7 : sN [.i t2, .i 52] = true) (h8 : (IntKind.u64.wrap ((BitVec.ofInt IntKind.u64.bits t3 &&& BitVec.ofInt IntKind.u64.bits 2047).toNat : Nat)) = t4) (h9 : (IntKind.i64.wrap t4) = t5) (h10 : (IntKind.i64.wrap (t5 - 1023)) = t6) (h11 : (IntKind.i64.wrap (t6 + 1)) = t7) (h12 : (IntKind.i64.wrap (t1 + t7)) = t8) (h13 : (IntKind.u64.wrap ((BitVec.ofInt IntKind.u64.bits t2 &&& ~~~(BitVec.ofInt IntKind.u64.bits 9218868437227405312)).toNat : Nat)) = t9) (h14 : (IntKind.u64.wrap ((BitVec.ofInt IntKind.u64.bits t9 ||| BitVec.ofInt IntKind.u64.bits 4602678819172646912).toNat : Nat)) = t10) (h15 : ((t10).toNat) = t11) (h16 : nFrom [.i t10] = true) (r0 : Dy.W t11) : Calls Tryz.prog 176 #[.float .f64 a] w fun e w' => e = .returned (.tuple #[.float .f64 t11, .int .i64 t8]) ∧ Below w.heap.size w w' := by
 refine cal_calls (vs := [.float .f64 a]) (us := [.f a]) (args := [vf 0]) tm0_ok (dr_ok tm0_ok) Tryz.func176 [] 200 1 rfl [false, false, false] (t := .bind ⟨fun us _ => cB Dy.feq us, 1, [(.v 0), (.l (.f 0))]⟩ (.need ⟨pF, [(.v 1)]⟩ (.bind ⟨fun us i => bRes (infT (gF us 0) (gI us 1)) i, 1, [(.v 0), (.l (.i 0))]⟩ (.need ⟨pF, [(.v 2)]⟩ (.bind ⟨fun us _ => .b (Dy.nan (gF us 0)), 1, [(.v 0)]⟩ (.need ⟨pF, [(.v 3)]⟩ (.bind ⟨fun us i => widthU (normT (gF us 0)) i, 2, [(.v 0)]⟩ (.need ⟨nFinT, [(.v 0)]⟩ (.bind ⟨fun us _ => .i (gF us 0 : Nat), 1, [(.v 4)]⟩ (.bind ⟨fun us _ => iB (fun x y => x.fdiv (2 ^ (min y.toNat IntKind.u64.bits))) us, 1, [(.v 6), (.l (.i 52))]⟩ (.need ⟨sN, [(.v 6), (.l (.i 52))]⟩ (.bind ⟨fun us _ => iB (fun a b => IntKind.u64.wrap ((BitVec.ofInt IntKind.u64.bits a &&& BitVec.ofInt IntKind.u64.bits b).toNat : Nat)) us, 1, [(.v 7), (.l (.i 2047))]⟩ (.bind ⟨fun us _ => wI IntKind.i64 us, 1, [(.v 8)]⟩ (.bind ⟨fun us _ => iB (fun a b => IntKind.i64.wrap (a - b)) us, 1, [(.v 9), (.l (.i 1023))]⟩ (.bind ⟨fun us _ => iB (fun a b => IntKind.i64.wrap (a + b)) us, 1, [(.v 10), (.l (.i 1))]⟩ (.bind ⟨fun us _ => iB (fun a b => IntKind.i64.wrap (a + b)) us, 1, [(.v 5), (.v 11)]⟩ (.bind ⟨fun us _ => iB (fun a b => IntKind.u64.wrap ((BitVec.ofInt IntKind.u64.bits a &&& ~~~(BitVec.ofInt IntKind.u64.bits b)).toNat : Nat)) us, 1, [(.v 6), (.l (.i 9218868437227405312))]⟩ (.bind ⟨fun us _ => iB (fun a b => IntKind.u64.wrap ((BitVec.ofInt IntKind.u64.bits a ||| BitVec.ofInt IntKind.u64.bits b).toNat : Nat)) us, 1, [(.v 13), (.l (.i 4602678819172646912))]⟩ (.bind ⟨fun us _ => .f (gI us 0).toNat, 1, [(.v 14)]⟩ (.need ⟨nFrom, [(.v 14)]⟩ (.done .ret ⟨[.tup [.fl (.v 15), .it .i64 (.v 12)]], [], 16, []⟩))))))))))))))))))))) (by kernel_rfl) ?_ (denL_cons.2 ⟨_, _, (fl_den rfl ha), rfl, rfl⟩)
 refine T.HH.h ?_
 refine T.hbind rfl (congrArg (fun r => [U.b r]) h0) rfl ?_
 refine T.hneed rfl (rfl) ?_
 refine T.hbind (ρ' := [.f a, .b false, .b false]) rfl (congrArg (fun r => [U.b r]) h1) rfl ?_
 refine T.hneed rfl (rfl) ?_
 refine T.hbind rfl (congrArg (fun r => [U.b r]) h2) rfl ?_
 refine T.hneed rfl (rfl) ?_
 refine T.hbind rfl (congrArg (fun r => [widthU r 0, widthU r 1]) h3) rfl ?_
 refine T.hneed rfl (h4) ?_
 refine T.hbind rfl (congrArg (fun r => [U.i r]) h5) rfl ?_
 refine T.hbind rfl (congrArg (fun r => [U.i r]) h6) rfl ?_
 refine T.hneed rfl (h7) ?_
 refine T.hbind rfl (congrArg (fun r => [U.i r]) h8) rfl ?_
 refine T.hbind rfl (congrArg (fun r => [U.i r]) h9) rfl ?_
 refine T.hbind rfl (congrArg (fun r => [U.i r]) h10) rfl ?_
 refine T.hbind (ρ' := [.f a, .b false, .b false, .b false, .f t0, .i t1, .i t2, .i t3, .i t4, .i t5, .i t6, .i t7]) rfl (congrArg (fun r => [U.i r]) h11) rfl ?_
 refine T.hbind rfl (congrArg (fun r => [U.i r]) h12) rfl ?_
 refine T.hbind rfl (congrArg (fun r => [U.i r]) h13) rfl ?_
 refine T.hbind rfl (congrArg (fun r => [U.i r]) h14) rfl ?_
 refine T.hbind rfl (congrArg (fun r => [U.f r]) h15) rfl ?_
 refine T.hneed rfl (h16) ?_
 exact T.hdone ⟨rfl, rfl, r0⟩
end Go.Proofs.YtkhplflbcgjkcaaGreat
