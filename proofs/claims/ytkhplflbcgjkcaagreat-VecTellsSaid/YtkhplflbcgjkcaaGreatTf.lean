/- Walks: ways of burnishref01.side. -/
import Derived.Test.YtkhplflbcgjkcaaGreatTe
namespace Go.Proofs.YtkhplflbcgjkcaaGreat
open Go Go.RowKit
set_option linter.unusedSimpArgs false
set_option linter.unusedVariables false
def tf0 : List (Nat × Ct) := tE0
theorem tf0_ok : AllOk Tryz.prog tf0 := tE0_ok
set_option maxRecDepth 100000 in
set_option maxHeartbeats 4000000 in
theorem sidet_0 (c d : Nat) (w : World) (hc : Dy.W c) (hd : Dy.W d) (h0 : ((infT (c) (1))) = true)  : Calls Tryz.prog 155 #[.float .f64 c, .float .f64 d, .bool true] w fun e w' => e = .returned (.tuple #[.float .f64 0, .int .i64 10]) ∧ Below w.heap.size w w' := by
 refine cal_calls (vs := [.float .f64 c, .float .f64 d, .bool true]) (us := [.f c, .f d, .b true]) (args := [vf 0, vf 1, vb 2]) tf0_ok (dr_ok tf0_ok) Tryz.func155 [] 200 3 rfl [true, true] (t := .bind ⟨fun us i => bRes (infT (gF us 0) (gI us 1)) i, 1, [(.v 0), (.l (.i 1))]⟩ (.need ⟨pT, [(.v 3)]⟩ (.need ⟨pT, [(.v 2)]⟩ (.done .ret ⟨[.tup [.fl (.l (.f 0)), .it .i64 (.l (.i 10))]], [], 4, []⟩)))) (by kernel_rfl) ?_ (denL_cons.2 ⟨_, _, (fl_den rfl hc), (denL_cons.2 ⟨_, _, (fl_den rfl hd), (denL_cons.2 ⟨_, _, (bo_den rfl), rfl, rfl⟩), rfl⟩), rfl⟩)
 refine T.HH.h ?_
 refine T.hbind rfl (congrArg (fun r => [U.b r]) h0) rfl ?_
 refine T.hneed rfl (rfl) ?_
 refine T.hneed rfl (rfl) ?_
 exact T.hdone ⟨rfl, rfl, (by decide)⟩
set_option maxRecDepth 100000 in
set_option maxHeartbeats 4000000 in
theorem sidet_1 (c d : Nat) (w : World) (hc : Dy.W c) (hd : Dy.W d) (h0 : ((infT (c) (1))) = false) (h1 : ((infT (c) ((-1)))) = true)  : Calls Tryz.prog 155 #[.float .f64 c, .float .f64 d, .bool true] w fun e w' => e = .returned (.tuple #[.float .f64 18442240474082181119, .int .i64 0]) ∧ Below w.heap.size w w' := by
 refine cal_calls (vs := [.float .f64 c, .float .f64 d, .bool true]) (us := [.f c, .f d, .b true]) (args := [vf 0, vf 1, vb 2]) tf0_ok (dr_ok tf0_ok) Tryz.func155 [] 200 3 rfl [false, true, true] (t := .bind ⟨fun us i => bRes (infT (gF us 0) (gI us 1)) i, 1, [(.v 0), (.l (.i 1))]⟩ (.need ⟨pF, [(.v 3)]⟩ (.bind ⟨fun us i => bRes (infT (gF us 0) (gI us 1)) i, 1, [(.v 0), (.l (.i (-1)))]⟩ (.need ⟨pT, [(.v 4)]⟩ (.need ⟨pT, [(.v 2)]⟩ (.done .ret ⟨[.tup [.fl (.l (.f 18442240474082181119)), .it .i64 (.l (.i 0))]], [], 5, []⟩)))))) (by kernel_rfl) ?_ (denL_cons.2 ⟨_, _, (fl_den rfl hc), (denL_cons.2 ⟨_, _, (fl_den rfl hd), (denL_cons.2 ⟨_, _, (bo_den rfl), rfl, rfl⟩), rfl⟩), rfl⟩)
 refine T.HH.h ?_
 refine T.hbind rfl (congrArg (fun r => [U.b r]) h0) rfl ?_
 refine T.hneed rfl (rfl) ?_
 refine T.hbind rfl (congrArg (fun r => [U.b r]) h1) rfl ?_
 refine T.hneed rfl (rfl) ?_
 refine T.hneed rfl (rfl) ?_
 exact T.hdone ⟨rfl, rfl, (by decide)⟩
set_option maxRecDepth 100000 in
set_option maxHeartbeats 4000000 in
theorem sidet_2 (c d : Nat) (w : World) (hc : Dy.W c) (hd : Dy.W d) {t0 : Nat} {t1 : Nat} (h0 : ((infT (c) (1))) = false) (h1 : ((infT (c) ((-1)))) = false) (h2 : (Dy.fgt d 0) = true) (h3 : ((infV (1))) = t0) (h4 : ((nxG (c) (t0))) = t1) (h5 : nNx [.f c, .f t0] = true) (h6 : ((infT (t1) (0))) = true)  : Calls Tryz.prog 155 #[.float .f64 c, .float .f64 d, .bool true] w fun e w' => e = .returned (.tuple #[.float .f64 0, .int .i64 10]) ∧ Below w.heap.size w w' := by
 refine cal_calls (vs := [.float .f64 c, .float .f64 d, .bool true]) (us := [.f c, .f d, .b true]) (args := [vf 0, vf 1, vb 2]) tf0_ok (dr_ok tf0_ok) Tryz.func155 [] 200 3 rfl [false, false, true, true, false, true] (t := .bind ⟨fun us i => bRes (infT (gF us 0) (gI us 1)) i, 1, [(.v 0), (.l (.i 1))]⟩ (.need ⟨pF, [(.v 3)]⟩ (.bind ⟨fun us i => bRes (infT (gF us 0) (gI us 1)) i, 1, [(.v 0), (.l (.i (-1)))]⟩ (.need ⟨pF, [(.v 4)]⟩ (.need ⟨pT, [(.v 2)]⟩ (.bind ⟨fun us _ => cB Dy.fgt us, 1, [(.v 1), (.l (.f 0))]⟩ (.need ⟨pT, [(.v 5)]⟩ (.bind ⟨fun us i => fRes (infV (gI us 0)) i, 1, [(.l (.i 1))]⟩ (.bind ⟨fun us _ => .f (nxG (gF us 0) (gF us 1)), 1, [(.v 0), (.v 6)]⟩ (.need ⟨nNx, [(.v 0), (.v 6)]⟩ (.bind ⟨fun us _ => nB us, 1, [(.v 2)]⟩ (.need ⟨pF, [(.v 8)]⟩ (.bind ⟨fun us i => bRes (infT (gF us 0) (gI us 1)) i, 1, [(.v 7), (.l (.i 0))]⟩ (.need ⟨pT, [(.v 9)]⟩ (.done .ret ⟨[.tup [.fl (.l (.f 0)), .it .i64 (.l (.i 10))]], [], 10, []⟩))))))))))))))) (by kernel_rfl) ?_ (denL_cons.2 ⟨_, _, (fl_den rfl hc), (denL_cons.2 ⟨_, _, (fl_den rfl hd), (denL_cons.2 ⟨_, _, (bo_den rfl), rfl, rfl⟩), rfl⟩), rfl⟩)
 refine T.HH.h ?_
 refine T.hbind rfl (congrArg (fun r => [U.b r]) h0) rfl ?_
 refine T.hneed rfl (rfl) ?_
 refine T.hbind rfl (congrArg (fun r => [U.b r]) h1) rfl ?_
 refine T.hneed rfl (rfl) ?_
 refine T.hneed rfl (rfl) ?_
 refine T.hbind rfl (congrArg (fun r => [U.b r]) h2) rfl ?_
 refine T.hneed rfl (rfl) ?_
 refine T.hbind rfl (congrArg (fun r => [U.f r]) h3) rfl ?_
 refine T.hbind (ρ' := [.f c, .f d, .b true, .b false, .b false, .b true, .f t0, .f t1]) rfl (congrArg (fun r => [U.f r]) h4) rfl ?_
 refine T.hneed rfl (h5) ?_
 refine T.hbind (xs := [.b false]) rfl (rfl) rfl ?_
 refine T.hneed rfl (rfl) ?_
 refine T.hbind rfl (congrArg (fun r => [U.b r]) h6) rfl ?_
 refine T.hneed rfl (rfl) ?_
 exact T.hdone ⟨rfl, rfl, (by decide)⟩
set_option maxRecDepth 100000 in
set_option maxHeartbeats 4000000 in
theorem sidet_4 (c d : Nat) (w : World) (hc : Dy.W c) (hd : Dy.W d) {t0 : Nat} (h0 : ((infT (c) (1))) = false) (h1 : ((infT (c) ((-1)))) = false) (h2 : (Dy.fgt d 0) = false) (h3 : ((infT (c) (0))) = false) (h4 : ((plainT (c))) = t0) (r0 : Dy.W t0) : Calls Tryz.prog 155 #[.float .f64 c, .float .f64 d, .bool true] w fun e w' => e = .returned (.tuple #[.float .f64 t0, .int .i64 0]) ∧ Below w.heap.size w w' := by
 refine cal_calls (vs := [.float .f64 c, .float .f64 d, .bool true]) (us := [.f c, .f d, .b true]) (args := [vf 0, vf 1, vb 2]) tf0_ok (dr_ok tf0_ok) Tryz.func155 [] 200 3 rfl [false, false, true, false, false, false] (t := .bind ⟨fun us i => bRes (infT (gF us 0) (gI us 1)) i, 1, [(.v 0), (.l (.i 1))]⟩ (.need ⟨pF, [(.v 3)]⟩ (.bind ⟨fun us i => bRes (infT (gF us 0) (gI us 1)) i, 1, [(.v 0), (.l (.i (-1)))]⟩ (.need ⟨pF, [(.v 4)]⟩ (.need ⟨pT, [(.v 2)]⟩ (.bind ⟨fun us _ => cB Dy.fgt us, 1, [(.v 1), (.l (.f 0))]⟩ (.need ⟨pF, [(.v 5)]⟩ (.bind ⟨fun us _ => nB us, 1, [(.v 2)]⟩ (.need ⟨pF, [(.v 6)]⟩ (.bind ⟨fun us i => bRes (infT (gF us 0) (gI us 1)) i, 1, [(.v 0), (.l (.i 0))]⟩ (.need ⟨pF, [(.v 7)]⟩ (.bind ⟨fun us i => fRes (plainT (gF us 0)) i, 1, [(.v 0)]⟩ (.done .ret ⟨[.tup [.fl (.v 8), .it .i64 (.l (.i 0))]], [], 9, []⟩))))))))))))) (by kernel_rfl) ?_ (denL_cons.2 ⟨_, _, (fl_den rfl hc), (denL_cons.2 ⟨_, _, (fl_den rfl hd), (denL_cons.2 ⟨_, _, (bo_den rfl), rfl, rfl⟩), rfl⟩), rfl⟩)
 refine T.HH.h ?_
 refine T.hbind rfl (congrArg (fun r => [U.b r]) h0) rfl ?_
 refine T.hneed rfl (rfl) ?_
 refine T.hbind rfl (congrArg (fun r => [U.b r]) h1) rfl ?_
 refine T.hneed rfl (rfl) ?_
 refine T.hneed rfl (rfl) ?_
 refine T.hbind rfl (congrArg (fun r => [U.b r]) h2) rfl ?_
 refine T.hneed rfl (rfl) ?_
 refine T.hbind (xs := [.b false]) rfl (rfl) rfl ?_
 refine T.hneed rfl (rfl) ?_
 refine T.hbind rfl (congrArg (fun r => [U.b r]) h3) rfl ?_
 refine T.hneed rfl (rfl) ?_
 refine T.hbind (ρ' := [.f c, .f d, .b true, .b false, .b false, .b false, .b false, .b false, .f t0]) rfl (congrArg (fun r => [U.f r]) h4) rfl ?_
 exact T.hdone ⟨rfl, rfl, r0⟩
set_option maxRecDepth 100000 in
set_option maxHeartbeats 4000000 in
theorem sidet_5 (c d : Nat) (w : World) (hc : Dy.W c) (hd : Dy.W d) {t0 : Nat} {t1 : Nat} {t2 : Nat} (h0 : ((infT (c) (1))) = false) (h1 : ((infT (c) ((-1)))) = false) (h2 : (Dy.fgt d 0) = true) (h3 : ((infV (1))) = t0) (h4 : ((nxG (c) (t0))) = t1) (h5 : nNx [.f c, .f t0] = true) (h6 : ((infT (t1) (0))) = false) (h7 : ((plainT (t1))) = t2) (r0 : Dy.W t2) : Calls Tryz.prog 155 #[.float .f64 c, .float .f64 d, .bool true] w fun e w' => e = .returned (.tuple #[.float .f64 t2, .int .i64 0]) ∧ Below w.heap.size w w' := by
 refine cal_calls (vs := [.float .f64 c, .float .f64 d, .bool true]) (us := [.f c, .f d, .b true]) (args := [vf 0, vf 1, vb 2]) tf0_ok (dr_ok tf0_ok) Tryz.func155 [] 200 3 rfl [false, false, true, true, false, false] (t := .bind ⟨fun us i => bRes (infT (gF us 0) (gI us 1)) i, 1, [(.v 0), (.l (.i 1))]⟩ (.need ⟨pF, [(.v 3)]⟩ (.bind ⟨fun us i => bRes (infT (gF us 0) (gI us 1)) i, 1, [(.v 0), (.l (.i (-1)))]⟩ (.need ⟨pF, [(.v 4)]⟩ (.need ⟨pT, [(.v 2)]⟩ (.bind ⟨fun us _ => cB Dy.fgt us, 1, [(.v 1), (.l (.f 0))]⟩ (.need ⟨pT, [(.v 5)]⟩ (.bind ⟨fun us i => fRes (infV (gI us 0)) i, 1, [(.l (.i 1))]⟩ (.bind ⟨fun us _ => .f (nxG (gF us 0) (gF us 1)), 1, [(.v 0), (.v 6)]⟩ (.need ⟨nNx, [(.v 0), (.v 6)]⟩ (.bind ⟨fun us _ => nB us, 1, [(.v 2)]⟩ (.need ⟨pF, [(.v 8)]⟩ (.bind ⟨fun us i => bRes (infT (gF us 0) (gI us 1)) i, 1, [(.v 7), (.l (.i 0))]⟩ (.need ⟨pF, [(.v 9)]⟩ (.bind ⟨fun us i => fRes (plainT (gF us 0)) i, 1, [(.v 7)]⟩ (.done .ret ⟨[.tup [.fl (.v 10), .it .i64 (.l (.i 0))]], [], 11, []⟩)))))))))))))))) (by kernel_rfl) ?_ (denL_cons.2 ⟨_, _, (fl_den rfl hc), (denL_cons.2 ⟨_, _, (fl_den rfl hd), (denL_cons.2 ⟨_, _, (bo_den rfl), rfl, rfl⟩), rfl⟩), rfl⟩)
 refine T.HH.h ?_
 refine T.hbind rfl (congrArg (fun r => [U.b r]) h0) rfl ?_
 refine T.hneed rfl (rfl) ?_
 refine T.hbind rfl (congrArg (fun r => [U.b r]) h1) rfl ?_
 refine T.hneed rfl (rfl) ?_
 refine T.hneed rfl (rfl) ?_
 refine T.hbind rfl (congrArg (fun r => [U.b r]) h2) rfl ?_
 refine T.hneed rfl (rfl) ?_
 refine T.hbind rfl (congrArg (fun r => [U.f r]) h3) rfl ?_
 refine T.hbind rfl (congrArg (fun r => [U.f r]) h4) rfl ?_
 refine T.hneed rfl (h5) ?_
 refine T.hbind (xs := [.b false]) rfl (rfl) rfl ?_
 refine T.hneed rfl (rfl) ?_
 refine T.hbind rfl (congrArg (fun r => [U.b r]) h6) rfl ?_
 refine T.hneed rfl (rfl) ?_
 refine T.hbind (ρ' := [.f c, .f d, .b true, .b false, .b false, .b true, .f t0, .f t1, .b false, .b false, .f t2]) rfl (congrArg (fun r => [U.f r]) h7) rfl ?_
 exact T.hdone ⟨rfl, rfl, r0⟩
set_option maxRecDepth 100000 in
set_option maxHeartbeats 4000000 in
theorem sidef_0 (c d : Nat) (w : World) (hc : Dy.W c) (hd : Dy.W d) (h0 : ((infT (c) (1))) = true)  : Calls Tryz.prog 155 #[.float .f64 c, .float .f64 d, .bool false] w fun e w' => e = .returned (.tuple #[.float .f64 9218868437227405311, .int .i64 0]) ∧ Below w.heap.size w w' := by
 refine cal_calls (vs := [.float .f64 c, .float .f64 d, .bool false]) (us := [.f c, .f d, .b false]) (args := [vf 0, vf 1, vb 2]) tf0_ok (dr_ok tf0_ok) Tryz.func155 [] 200 3 rfl [true, false] (t := .bind ⟨fun us i => bRes (infT (gF us 0) (gI us 1)) i, 1, [(.v 0), (.l (.i 1))]⟩ (.need ⟨pT, [(.v 3)]⟩ (.need ⟨pF, [(.v 2)]⟩ (.done .ret ⟨[.tup [.fl (.l (.f 9218868437227405311)), .it .i64 (.l (.i 0))]], [], 4, []⟩)))) (by kernel_rfl) ?_ (denL_cons.2 ⟨_, _, (fl_den rfl hc), (denL_cons.2 ⟨_, _, (fl_den rfl hd), (denL_cons.2 ⟨_, _, (bo_den rfl), rfl, rfl⟩), rfl⟩), rfl⟩)
 refine T.HH.h ?_
 refine T.hbind rfl (congrArg (fun r => [U.b r]) h0) rfl ?_
 refine T.hneed rfl (rfl) ?_
 refine T.hneed rfl (rfl) ?_
 exact T.hdone ⟨rfl, rfl, (by decide)⟩
set_option maxRecDepth 100000 in
set_option maxHeartbeats 4000000 in
theorem sidef_1 (c d : Nat) (w : World) (hc : Dy.W c) (hd : Dy.W d) (h0 : ((infT (c) (1))) = false) (h1 : ((infT (c) ((-1)))) = true)  : Calls Tryz.prog 155 #[.float .f64 c, .float .f64 d, .bool false] w fun e w' => e = .returned (.tuple #[.float .f64 0, .int .i64 10]) ∧ Below w.heap.size w w' := by
 refine cal_calls (vs := [.float .f64 c, .float .f64 d, .bool false]) (us := [.f c, .f d, .b false]) (args := [vf 0, vf 1, vb 2]) tf0_ok (dr_ok tf0_ok) Tryz.func155 [] 200 3 rfl [false, true, false] (t := .bind ⟨fun us i => bRes (infT (gF us 0) (gI us 1)) i, 1, [(.v 0), (.l (.i 1))]⟩ (.need ⟨pF, [(.v 3)]⟩ (.bind ⟨fun us i => bRes (infT (gF us 0) (gI us 1)) i, 1, [(.v 0), (.l (.i (-1)))]⟩ (.need ⟨pT, [(.v 4)]⟩ (.need ⟨pF, [(.v 2)]⟩ (.done .ret ⟨[.tup [.fl (.l (.f 0)), .it .i64 (.l (.i 10))]], [], 5, []⟩)))))) (by kernel_rfl) ?_ (denL_cons.2 ⟨_, _, (fl_den rfl hc), (denL_cons.2 ⟨_, _, (fl_den rfl hd), (denL_cons.2 ⟨_, _, (bo_den rfl), rfl, rfl⟩), rfl⟩), rfl⟩)
 refine T.HH.h ?_
 refine T.hbind rfl (congrArg (fun r => [U.b r]) h0) rfl ?_
 refine T.hneed rfl (rfl) ?_
 refine T.hbind rfl (congrArg (fun r => [U.b r]) h1) rfl ?_
 refine T.hneed rfl (rfl) ?_
 refine T.hneed rfl (rfl) ?_
 exact T.hdone ⟨rfl, rfl, (by decide)⟩
set_option maxRecDepth 100000 in
set_option maxHeartbeats 4000000 in
theorem sidef_2 (c d : Nat) (w : World) (hc : Dy.W c) (hd : Dy.W d) {t0 : Nat} {t1 : Nat} (h0 : ((infT (c) (1))) = false) (h1 : ((infT (c) ((-1)))) = false) (h2 : (Dy.flt d 0) = true) (h3 : ((infV ((-1)))) = t0) (h4 : ((nxG (c) (t0))) = t1) (h5 : nNx [.f c, .f t0] = true) (h6 : ((infT (t1) (0))) = true)  : Calls Tryz.prog 155 #[.float .f64 c, .float .f64 d, .bool false] w fun e w' => e = .returned (.tuple #[.float .f64 0, .int .i64 10]) ∧ Below w.heap.size w w' := by
 refine cal_calls (vs := [.float .f64 c, .float .f64 d, .bool false]) (us := [.f c, .f d, .b false]) (args := [vf 0, vf 1, vb 2]) tf0_ok (dr_ok tf0_ok) Tryz.func155 [] 200 3 rfl [false, false, false, true, true, true] (t := .bind ⟨fun us i => bRes (infT (gF us 0) (gI us 1)) i, 1, [(.v 0), (.l (.i 1))]⟩ (.need ⟨pF, [(.v 3)]⟩ (.bind ⟨fun us i => bRes (infT (gF us 0) (gI us 1)) i, 1, [(.v 0), (.l (.i (-1)))]⟩ (.need ⟨pF, [(.v 4)]⟩ (.need ⟨pF, [(.v 2)]⟩ (.bind ⟨fun us _ => nB us, 1, [(.v 2)]⟩ (.need ⟨pT, [(.v 5)]⟩ (.bind ⟨fun us _ => cB Dy.flt us, 1, [(.v 1), (.l (.f 0))]⟩ (.need ⟨pT, [(.v 6)]⟩ (.bind ⟨fun us i => fRes (infV (gI us 0)) i, 1, [(.l (.i (-1)))]⟩ (.bind ⟨fun us _ => .f (nxG (gF us 0) (gF us 1)), 1, [(.v 0), (.v 7)]⟩ (.need ⟨nNx, [(.v 0), (.v 7)]⟩ (.bind ⟨fun us i => bRes (infT (gF us 0) (gI us 1)) i, 1, [(.v 8), (.l (.i 0))]⟩ (.need ⟨pT, [(.v 9)]⟩ (.done .ret ⟨[.tup [.fl (.l (.f 0)), .it .i64 (.l (.i 10))]], [], 10, []⟩))))))))))))))) (by kernel_rfl) ?_ (denL_cons.2 ⟨_, _, (fl_den rfl hc), (denL_cons.2 ⟨_, _, (fl_den rfl hd), (denL_cons.2 ⟨_, _, (bo_den rfl), rfl, rfl⟩), rfl⟩), rfl⟩)
 refine T.HH.h ?_
 refine T.hbind rfl (congrArg (fun r => [U.b r]) h0) rfl ?_
 refine T.hneed rfl (rfl) ?_
 refine T.hbind rfl (congrArg (fun r => [U.b r]) h1) rfl ?_
 refine T.hneed rfl (rfl) ?_
 refine T.hneed rfl (rfl) ?_
 refine T.hbind (xs := [.b true]) rfl (rfl) rfl ?_
 refine T.hneed rfl (rfl) ?_
 refine T.hbind rfl (congrArg (fun r => [U.b r]) h2) rfl ?_
 refine T.hneed rfl (rfl) ?_
 refine T.hbind (ρ' := [.f c, .f d, .b false, .b false, .b false, .b true, .b true, .f t0]) rfl (congrArg (fun r => [U.f r]) h3) rfl ?_
 refine T.hbind rfl (congrArg (fun r => [U.f r]) h4) rfl ?_
 refine T.hneed rfl (h5) ?_
 refine T.hbind rfl (congrArg (fun r => [U.b r]) h6) rfl ?_
 refine T.hneed rfl (rfl) ?_
 exact T.hdone ⟨rfl, rfl, (by decide)⟩
set_option maxRecDepth 100000 in
set_option maxHeartbeats 4000000 in
theorem sidef_4 (c d : Nat) (w : World) (hc : Dy.W c) (hd : Dy.W d) {t0 : Nat} (h0 : ((infT (c) (1))) = false) (h1 : ((infT (c) ((-1)))) = false) (h2 : (Dy.flt d 0) = false) (h3 : ((infT (c) (0))) = false) (h4 : ((plainT (c))) = t0) (r0 : Dy.W t0) : Calls Tryz.prog 155 #[.float .f64 c, .float .f64 d, .bool false] w fun e w' => e = .returned (.tuple #[.float .f64 t0, .int .i64 0]) ∧ Below w.heap.size w w' := by
 refine cal_calls (vs := [.float .f64 c, .float .f64 d, .bool false]) (us := [.f c, .f d, .b false]) (args := [vf 0, vf 1, vb 2]) tf0_ok (dr_ok tf0_ok) Tryz.func155 [] 200 3 rfl [false, false, false, true, false, false] (t := .bind ⟨fun us i => bRes (infT (gF us 0) (gI us 1)) i, 1, [(.v 0), (.l (.i 1))]⟩ (.need ⟨pF, [(.v 3)]⟩ (.bind ⟨fun us i => bRes (infT (gF us 0) (gI us 1)) i, 1, [(.v 0), (.l (.i (-1)))]⟩ (.need ⟨pF, [(.v 4)]⟩ (.need ⟨pF, [(.v 2)]⟩ (.bind ⟨fun us _ => nB us, 1, [(.v 2)]⟩ (.need ⟨pT, [(.v 5)]⟩ (.bind ⟨fun us _ => cB Dy.flt us, 1, [(.v 1), (.l (.f 0))]⟩ (.need ⟨pF, [(.v 6)]⟩ (.bind ⟨fun us i => bRes (infT (gF us 0) (gI us 1)) i, 1, [(.v 0), (.l (.i 0))]⟩ (.need ⟨pF, [(.v 7)]⟩ (.bind ⟨fun us i => fRes (plainT (gF us 0)) i, 1, [(.v 0)]⟩ (.done .ret ⟨[.tup [.fl (.v 8), .it .i64 (.l (.i 0))]], [], 9, []⟩))))))))))))) (by kernel_rfl) ?_ (denL_cons.2 ⟨_, _, (fl_den rfl hc), (denL_cons.2 ⟨_, _, (fl_den rfl hd), (denL_cons.2 ⟨_, _, (bo_den rfl), rfl, rfl⟩), rfl⟩), rfl⟩)
 refine T.HH.h ?_
 refine T.hbind rfl (congrArg (fun r => [U.b r]) h0) rfl ?_
 refine T.hneed rfl (rfl) ?_
 refine T.hbind rfl (congrArg (fun r => [U.b r]) h1) rfl ?_
 refine T.hneed rfl (rfl) ?_
 refine T.hneed rfl (rfl) ?_
 refine T.hbind (xs := [.b true]) rfl (rfl) rfl ?_
 refine T.hneed rfl (rfl) ?_
 refine T.hbind rfl (congrArg (fun r => [U.b r]) h2) rfl ?_
 refine T.hneed rfl (rfl) ?_
 refine T.hbind rfl (congrArg (fun r => [U.b r]) h3) rfl ?_
 refine T.hneed rfl (rfl) ?_
 refine T.hbind (ρ' := [.f c, .f d, .b false, .b false, .b false, .b true, .b false, .b false, .f t0]) rfl (congrArg (fun r => [U.f r]) h4) rfl ?_
 exact T.hdone ⟨rfl, rfl, r0⟩
set_option maxRecDepth 100000 in
set_option maxHeartbeats 4000000 in
theorem sidef_5 (c d : Nat) (w : World) (hc : Dy.W c) (hd : Dy.W d) {t0 : Nat} {t1 : Nat} {t2 : Nat} (h0 : ((infT (c) (1))) = false) (h1 : ((infT (c) ((-1)))) = false) (h2 : (Dy.flt d 0) = true) (h3 : ((infV ((-1)))) = t0) (h4 : ((nxG (c) (t0))) = t1) (h5 : nNx [.f c, .f t0] = true) (h6 : ((infT (t1) (0))) = false) (h7 : ((plainT (t1))) = t2) (r0 : Dy.W t2) : Calls Tryz.prog 155 #[.float .f64 c, .float .f64 d, .bool false] w fun e w' => e = .returned (.tuple #[.float .f64 t2, .int .i64 0]) ∧ Below w.heap.size w w' := by
 refine cal_calls (vs := [.float .f64 c, .float .f64 d, .bool false]) (us := [.f c, .f d, .b false]) (args := [vf 0, vf 1, vb 2]) tf0_ok (dr_ok tf0_ok) Tryz.func155 [] 200 3 rfl [false, false, false, true, true, false] (t := .bind ⟨fun us i => bRes (infT (gF us 0) (gI us 1)) i, 1, [(.v 0), (.l (.i 1))]⟩ (.need ⟨pF, [(.v 3)]⟩ (.bind ⟨fun us i => bRes (infT (gF us 0) (gI us 1)) i, 1, [(.v 0), (.l (.i (-1)))]⟩ (.need ⟨pF, [(.v 4)]⟩ (.need ⟨pF, [(.v 2)]⟩ (.bind ⟨fun us _ => nB us, 1, [(.v 2)]⟩ (.need ⟨pT, [(.v 5)]⟩ (.bind ⟨fun us _ => cB Dy.flt us, 1, [(.v 1), (.l (.f 0))]⟩ (.need ⟨pT, [(.v 6)]⟩ (.bind ⟨fun us i => fRes (infV (gI us 0)) i, 1, [(.l (.i (-1)))]⟩ (.bind ⟨fun us _ => .f (nxG (gF us 0) (gF us 1)), 1, [(.v 0), (.v 7)]⟩ (.need ⟨nNx, [(.v 0), (.v 7)]⟩ (.bind ⟨fun us i => bRes (infT (gF us 0) (gI us 1)) i, 1, [(.v 8), (.l (.i 0))]⟩ (.need ⟨pF, [(.v 9)]⟩ (.bind ⟨fun us i => fRes (plainT (gF us 0)) i, 1, [(.v 8)]⟩ (.done .ret ⟨[.tup [.fl (.v 10), .it .i64 (.l (.i 0))]], [], 11, []⟩)))))))))))))))) (by kernel_rfl) ?_ (denL_cons.2 ⟨_, _, (fl_den rfl hc), (denL_cons.2 ⟨_, _, (fl_den rfl hd), (denL_cons.2 ⟨_, _, (bo_den rfl), rfl, rfl⟩), rfl⟩), rfl⟩)
 refine T.HH.h ?_
 refine T.hbind rfl (congrArg (fun r => [U.b r]) h0) rfl ?_
 refine T.hneed rfl (rfl) ?_
 refine T.hbind rfl (congrArg (fun r => [U.b r]) h1) rfl ?_
 refine T.hneed rfl (rfl) ?_
 refine T.hneed rfl (rfl) ?_
 refine T.hbind (xs := [.b true]) rfl (rfl) rfl ?_
 refine T.hneed rfl (rfl) ?_
 refine T.hbind rfl (congrArg (fun r => [U.b r]) h2) rfl ?_
 refine T.hneed rfl (rfl) ?_
 refine T.hbind rfl (congrArg (fun r => [U.f r]) h3) rfl ?_
 refine T.hbind rfl (congrArg (fun r => [U.f r]) h4) rfl ?_
 refine T.hneed rfl (h5) ?_
 refine T.hbind rfl (congrArg (fun r => [U.b r]) h6) rfl ?_
 refine T.hneed rfl (rfl) ?_
 refine T.hbind (ρ' := [.f c, .f d, .b false, .b false, .b false, .b true, .b true, .f t0, .f t1, .b false, .f t2]) rfl (congrArg (fun r => [U.f r]) h7) rfl ?_
 exact T.hdone ⟨rfl, rfl, r0⟩
end Go.Proofs.YtkhplflbcgjkcaaGreat
