/- Walks: ways of burnishref01.far, Next, near. -/
import Derived.Test.YtnbdjpnnagpldaaTg
namespace Go.Proofs.Ytnbdjpnnagpldaa
open Go Go.RowKit
set_option linter.unusedSimpArgs false
set_option linter.unusedVariables false

def th0 : List (Nat × Ct) := tG0
theorem th0_ok : AllOk Try.prog th0 := tG0_ok
set_option maxRecDepth 100000 in
set_option maxHeartbeats 4000000 in
theorem far_0 (a b s : Nat) (up : Bool) (w : World) (ha : Dy.W a) (hb : Dy.W b) (hs : Dy.W s) {t0 : Nat} {t1 : Nat} {t2 : Nat} {t3 : Nat} {t4 : Nat} {t5 : Int} (h0 : ((Dy.ldx (a) ((-60)))) = t0) (h1 : nLdx [.i (-60)] = true) (h2 : ((Dy.ldx (b) ((-60)))) = t1) (h3 : ((Dy.ldx (s) ((-60)))) = t2) (h4 : ((Dy.abs (t0))) = t3) (h5 : (Dy.flt t3 4607182418800017408) = true) (h6 : (sideF s a up) = (t4, t5)) (h7 : nSideT [.f s] = true) (r0 : Dy.W t4) : Calls Try.prog 32 #[.float .f64 a, .float .f64 b, .float .f64 s, .bool up] w fun e w' => e = .returned (.tuple #[.float .f64 t4, .int .i64 t5]) ∧ Below w.heap.size w w' := by
  refine cal_calls (vs := [.float .f64 a, .float .f64 b, .float .f64 s, .bool up]) (us := [.f a, .f b, .f s, .b up]) (args := [vf 0, vf 1, vf 2, vb 3]) th0_ok (dr_ok th0_ok) Try.func32 [] 200 4 rfl [true] (t := .bind ⟨fun us _ => .f (Dy.ldx (gF us 0) (gI us 1)), 1, [(.v 0), (.l (.i (-60)))]⟩ (.need ⟨nLdx, [(.l (.i (-60)))]⟩ (.bind ⟨fun us _ => .f (Dy.ldx (gF us 0) (gI us 1)), 1, [(.v 1), (.l (.i (-60)))]⟩ (.need ⟨nLdx, [(.l (.i (-60)))]⟩ (.bind ⟨fun us _ => .f (Dy.ldx (gF us 0) (gI us 1)), 1, [(.v 2), (.l (.i (-60)))]⟩ (.need ⟨nLdx, [(.l (.i (-60)))]⟩ (.bind ⟨fun us _ => .f (Dy.abs (gF us 0)), 1, [(.v 4)]⟩ (.bind ⟨fun us _ => cB Dy.flt us, 1, [(.v 7), (.l (.f 4607182418800017408))]⟩ (.need ⟨pT, [(.v 8)]⟩ (.bind ⟨fOp2 sideF, 2, [(.v 2), (.v 0), (.v 3)]⟩ (.need ⟨nSideT, [(.v 2)]⟩ (.done .ret ⟨[.tup [.fl (.v 9), .it .i64 (.v 10)]], [], 11, []⟩)))))))))))) (by kernel_rfl) ?_ (denL_cons.2 ⟨_, _, (fl_den rfl ha), (denL_cons.2 ⟨_, _, (fl_den rfl hb), (denL_cons.2 ⟨_, _, (fl_den rfl hs), (denL_cons.2 ⟨_, _, (bo_den rfl), rfl, rfl⟩), rfl⟩), rfl⟩), rfl⟩)
  refine T.HH.h ?_
  refine T.hbind (us := [.f a, .i (-60)]) (xs := [.f t0]) (ρ' := [.f a, .f b, .f s, .b up, .f t0]) rfl (congrArg (fun r => [U.f r]) h0) rfl ?_
  refine T.hneed (us := [.i (-60)]) rfl (h1) ?_
  refine T.hbind (us := [.f b, .i (-60)]) (xs := [.f t1]) (ρ' := [.f a, .f b, .f s, .b up, .f t0, .f t1]) rfl (congrArg (fun r => [U.f r]) h2) rfl ?_
  refine T.hneed (us := [.i (-60)]) rfl (h1) ?_
  refine T.hbind (us := [.f s, .i (-60)]) (xs := [.f t2]) (ρ' := [.f a, .f b, .f s, .b up, .f t0, .f t1, .f t2]) rfl (congrArg (fun r => [U.f r]) h3) rfl ?_
  refine T.hneed (us := [.i (-60)]) rfl (h1) ?_
  refine T.hbind (us := [.f t0]) (xs := [.f t3]) (ρ' := [.f a, .f b, .f s, .b up, .f t0, .f t1, .f t2, .f t3]) rfl (congrArg (fun r => [U.f r]) h4) rfl ?_
  refine T.hbind (us := [.f t3, .f 4607182418800017408]) (xs := [.b true]) (ρ' := [.f a, .f b, .f s, .b up, .f t0, .f t1, .f t2, .f t3, .b true]) rfl (congrArg (fun r => [U.b r]) h5) rfl ?_
  refine T.hneed (us := [.b true]) rfl (rfl) ?_
  refine T.hbind (us := [.f s, .f a, .b up]) (xs := [.f t4, .i t5]) (ρ' := [.f a, .f b, .f s, .b up, .f t0, .f t1, .f t2, .f t3, .b true, .f t4, .i t5]) rfl (congrArg (fun r : Nat × Int => [U.f r.1, U.i r.2]) h6) rfl ?_
  refine T.hneed (us := [.f s]) rfl (h7) ?_
  exact T.hdone ⟨rfl, rfl, r0⟩

set_option maxRecDepth 100000 in
set_option maxHeartbeats 4000000 in
theorem far_1 (a b s : Nat) (up : Bool) (w : World) (ha : Dy.W a) (hb : Dy.W b) (hs : Dy.W s) {t0 : Nat} {t1 : Nat} {t2 : Nat} {t3 : Nat} {t4 : Nat} {t5 : Nat} {t6 : Int} (h0 : ((Dy.ldx (a) ((-60)))) = t0) (h1 : nLdx [.i (-60)] = true) (h2 : ((Dy.ldx (b) ((-60)))) = t1) (h3 : ((Dy.ldx (s) ((-60)))) = t2) (h4 : ((Dy.abs (t0))) = t3) (h5 : (Dy.flt t3 4607182418800017408) = false) (h6 : ((Dy.abs (t1))) = t4) (h7 : (Dy.flt t4 4607182418800017408) = true) (h8 : (sideF s b up) = (t5, t6)) (h9 : nSideT [.f s] = true) (r0 : Dy.W t5) : Calls Try.prog 32 #[.float .f64 a, .float .f64 b, .float .f64 s, .bool up] w fun e w' => e = .returned (.tuple #[.float .f64 t5, .int .i64 t6]) ∧ Below w.heap.size w w' := by
  refine cal_calls (vs := [.float .f64 a, .float .f64 b, .float .f64 s, .bool up]) (us := [.f a, .f b, .f s, .b up]) (args := [vf 0, vf 1, vf 2, vb 3]) th0_ok (dr_ok th0_ok) Try.func32 [] 200 4 rfl [false, true] (t := .bind ⟨fun us _ => .f (Dy.ldx (gF us 0) (gI us 1)), 1, [(.v 0), (.l (.i (-60)))]⟩ (.need ⟨nLdx, [(.l (.i (-60)))]⟩ (.bind ⟨fun us _ => .f (Dy.ldx (gF us 0) (gI us 1)), 1, [(.v 1), (.l (.i (-60)))]⟩ (.need ⟨nLdx, [(.l (.i (-60)))]⟩ (.bind ⟨fun us _ => .f (Dy.ldx (gF us 0) (gI us 1)), 1, [(.v 2), (.l (.i (-60)))]⟩ (.need ⟨nLdx, [(.l (.i (-60)))]⟩ (.bind ⟨fun us _ => .f (Dy.abs (gF us 0)), 1, [(.v 4)]⟩ (.bind ⟨fun us _ => cB Dy.flt us, 1, [(.v 7), (.l (.f 4607182418800017408))]⟩ (.need ⟨pF, [(.v 8)]⟩ (.bind ⟨fun us _ => .f (Dy.abs (gF us 0)), 1, [(.v 5)]⟩ (.bind ⟨fun us _ => cB Dy.flt us, 1, [(.v 9), (.l (.f 4607182418800017408))]⟩ (.need ⟨pT, [(.v 10)]⟩ (.bind ⟨fOp2 sideF, 2, [(.v 2), (.v 1), (.v 3)]⟩ (.need ⟨nSideT, [(.v 2)]⟩ (.done .ret ⟨[.tup [.fl (.v 11), .it .i64 (.v 12)]], [], 13, []⟩))))))))))))))) (by kernel_rfl) ?_ (denL_cons.2 ⟨_, _, (fl_den rfl ha), (denL_cons.2 ⟨_, _, (fl_den rfl hb), (denL_cons.2 ⟨_, _, (fl_den rfl hs), (denL_cons.2 ⟨_, _, (bo_den rfl), rfl, rfl⟩), rfl⟩), rfl⟩), rfl⟩)
  refine T.HH.h ?_
  refine T.hbind (us := [.f a, .i (-60)]) (xs := [.f t0]) (ρ' := [.f a, .f b, .f s, .b up, .f t0]) rfl (congrArg (fun r => [U.f r]) h0) rfl ?_
  refine T.hneed (us := [.i (-60)]) rfl (h1) ?_
  refine T.hbind (us := [.f b, .i (-60)]) (xs := [.f t1]) (ρ' := [.f a, .f b, .f s, .b up, .f t0, .f t1]) rfl (congrArg (fun r => [U.f r]) h2) rfl ?_
  refine T.hneed (us := [.i (-60)]) rfl (h1) ?_
  refine T.hbind (us := [.f s, .i (-60)]) (xs := [.f t2]) (ρ' := [.f a, .f b, .f s, .b up, .f t0, .f t1, .f t2]) rfl (congrArg (fun r => [U.f r]) h3) rfl ?_
  refine T.hneed (us := [.i (-60)]) rfl (h1) ?_
  refine T.hbind (us := [.f t0]) (xs := [.f t3]) (ρ' := [.f a, .f b, .f s, .b up, .f t0, .f t1, .f t2, .f t3]) rfl (congrArg (fun r => [U.f r]) h4) rfl ?_
  refine T.hbind (us := [.f t3, .f 4607182418800017408]) (xs := [.b false]) (ρ' := [.f a, .f b, .f s, .b up, .f t0, .f t1, .f t2, .f t3, .b false]) rfl (congrArg (fun r => [U.b r]) h5) rfl ?_
  refine T.hneed (us := [.b false]) rfl (rfl) ?_
  refine T.hbind (us := [.f t1]) (xs := [.f t4]) (ρ' := [.f a, .f b, .f s, .b up, .f t0, .f t1, .f t2, .f t3, .b false, .f t4]) rfl (congrArg (fun r => [U.f r]) h6) rfl ?_
  refine T.hbind (us := [.f t4, .f 4607182418800017408]) (xs := [.b true]) (ρ' := [.f a, .f b, .f s, .b up, .f t0, .f t1, .f t2, .f t3, .b false, .f t4, .b true]) rfl (congrArg (fun r => [U.b r]) h7) rfl ?_
  refine T.hneed (us := [.b true]) rfl (rfl) ?_
  refine T.hbind (us := [.f s, .f b, .b up]) (xs := [.f t5, .i t6]) (ρ' := [.f a, .f b, .f s, .b up, .f t0, .f t1, .f t2, .f t3, .b false, .f t4, .b true, .f t5, .i t6]) rfl (congrArg (fun r : Nat × Int => [U.f r.1, U.i r.2]) h8) rfl ?_
  refine T.hneed (us := [.f s]) rfl (h9) ?_
  exact T.hdone ⟨rfl, rfl, r0⟩

set_option maxRecDepth 100000 in
set_option maxHeartbeats 4000000 in
theorem far_2 (a b s : Nat) (up : Bool) (w : World) (ha : Dy.W a) (hb : Dy.W b) (hs : Dy.W s) {t0 : Nat} {t1 : Nat} {t2 : Nat} {t3 : Nat} {t4 : Nat} {t5 : Nat} {t6 : Nat} {t7 : Nat} {t8 : Nat} {t9 : Nat} {t10 : Nat} {t11 : Int} (h0 : ((Dy.ldx (a) ((-60)))) = t0) (h1 : nLdx [.i (-60)] = true) (h2 : ((Dy.ldx (b) ((-60)))) = t1) (h3 : ((Dy.ldx (s) ((-60)))) = t2) (h4 : ((Dy.abs (t0))) = t3) (h5 : (Dy.flt t3 4607182418800017408) = false) (h6 : ((Dy.abs (t1))) = t4) (h7 : (Dy.flt t4 4607182418800017408) = false) (h8 : ((Ieee.double.sub t2 t0).getD 0) = t5) (h9 : (fN Ieee.double.sub) [.f t2, .f t0] = true) (h10 : ((Ieee.double.sub t2 t5).getD 0) = t6) (h11 : (fN Ieee.double.sub) [.f t2, .f t5] = true) (h12 : ((Ieee.double.sub t0 t6).getD 0) = t7) (h13 : (fN Ieee.double.sub) [.f t0, .f t6] = true) (h14 : ((Ieee.double.sub t1 t5).getD 0) = t8) (h15 : (fN Ieee.double.sub) [.f t1, .f t5] = true) (h16 : ((Ieee.double.add t7 t8).getD 0) = t9) (h17 : (fN Ieee.double.add) [.f t7, .f t8] = true) (h18 : (sideF s t9 up) = (t10, t11)) (h19 : nSideT [.f s] = true) (r0 : Dy.W t10) : Calls Try.prog 32 #[.float .f64 a, .float .f64 b, .float .f64 s, .bool up] w fun e w' => e = .returned (.tuple #[.float .f64 t10, .int .i64 t11]) ∧ Below w.heap.size w w' := by
  refine cal_calls (vs := [.float .f64 a, .float .f64 b, .float .f64 s, .bool up]) (us := [.f a, .f b, .f s, .b up]) (args := [vf 0, vf 1, vf 2, vb 3]) th0_ok (dr_ok th0_ok) Try.func32 [] 200 4 rfl [false, false] (t := .bind ⟨fun us _ => .f (Dy.ldx (gF us 0) (gI us 1)), 1, [(.v 0), (.l (.i (-60)))]⟩ (.need ⟨nLdx, [(.l (.i (-60)))]⟩ (.bind ⟨fun us _ => .f (Dy.ldx (gF us 0) (gI us 1)), 1, [(.v 1), (.l (.i (-60)))]⟩ (.need ⟨nLdx, [(.l (.i (-60)))]⟩ (.bind ⟨fun us _ => .f (Dy.ldx (gF us 0) (gI us 1)), 1, [(.v 2), (.l (.i (-60)))]⟩ (.need ⟨nLdx, [(.l (.i (-60)))]⟩ (.bind ⟨fun us _ => .f (Dy.abs (gF us 0)), 1, [(.v 4)]⟩ (.bind ⟨fun us _ => cB Dy.flt us, 1, [(.v 7), (.l (.f 4607182418800017408))]⟩ (.need ⟨pF, [(.v 8)]⟩ (.bind ⟨fun us _ => .f (Dy.abs (gF us 0)), 1, [(.v 5)]⟩ (.bind ⟨fun us _ => cB Dy.flt us, 1, [(.v 9), (.l (.f 4607182418800017408))]⟩ (.need ⟨pF, [(.v 10)]⟩ (.bind ⟨fun us _ => fB Ieee.double.sub us, 1, [(.v 6), (.v 4)]⟩ (.need ⟨fN Ieee.double.sub, [(.v 6), (.v 4)]⟩ (.bind ⟨fun us _ => fB Ieee.double.sub us, 1, [(.v 6), (.v 11)]⟩ (.need ⟨fN Ieee.double.sub, [(.v 6), (.v 11)]⟩ (.bind ⟨fun us _ => fB Ieee.double.sub us, 1, [(.v 4), (.v 12)]⟩ (.need ⟨fN Ieee.double.sub, [(.v 4), (.v 12)]⟩ (.bind ⟨fun us _ => fB Ieee.double.sub us, 1, [(.v 5), (.v 11)]⟩ (.need ⟨fN Ieee.double.sub, [(.v 5), (.v 11)]⟩ (.bind ⟨fun us _ => fB Ieee.double.add us, 1, [(.v 13), (.v 14)]⟩ (.need ⟨fN Ieee.double.add, [(.v 13), (.v 14)]⟩ (.bind ⟨fOp2 sideF, 2, [(.v 2), (.v 15), (.v 3)]⟩ (.need ⟨nSideT, [(.v 2)]⟩ (.done .ret ⟨[.tup [.fl (.v 16), .it .i64 (.v 17)]], [], 18, []⟩))))))))))))))))))))))))) (by kernel_rfl) ?_ (denL_cons.2 ⟨_, _, (fl_den rfl ha), (denL_cons.2 ⟨_, _, (fl_den rfl hb), (denL_cons.2 ⟨_, _, (fl_den rfl hs), (denL_cons.2 ⟨_, _, (bo_den rfl), rfl, rfl⟩), rfl⟩), rfl⟩), rfl⟩)
  refine T.HH.h ?_
  refine T.hbind (us := [.f a, .i (-60)]) (xs := [.f t0]) (ρ' := [.f a, .f b, .f s, .b up, .f t0]) rfl (congrArg (fun r => [U.f r]) h0) rfl ?_
  refine T.hneed (us := [.i (-60)]) rfl (h1) ?_
  refine T.hbind (us := [.f b, .i (-60)]) (xs := [.f t1]) (ρ' := [.f a, .f b, .f s, .b up, .f t0, .f t1]) rfl (congrArg (fun r => [U.f r]) h2) rfl ?_
  refine T.hneed (us := [.i (-60)]) rfl (h1) ?_
  refine T.hbind (us := [.f s, .i (-60)]) (xs := [.f t2]) (ρ' := [.f a, .f b, .f s, .b up, .f t0, .f t1, .f t2]) rfl (congrArg (fun r => [U.f r]) h3) rfl ?_
  refine T.hneed (us := [.i (-60)]) rfl (h1) ?_
  refine T.hbind (us := [.f t0]) (xs := [.f t3]) (ρ' := [.f a, .f b, .f s, .b up, .f t0, .f t1, .f t2, .f t3]) rfl (congrArg (fun r => [U.f r]) h4) rfl ?_
  refine T.hbind (us := [.f t3, .f 4607182418800017408]) (xs := [.b false]) (ρ' := [.f a, .f b, .f s, .b up, .f t0, .f t1, .f t2, .f t3, .b false]) rfl (congrArg (fun r => [U.b r]) h5) rfl ?_
  refine T.hneed (us := [.b false]) rfl (rfl) ?_
  refine T.hbind (us := [.f t1]) (xs := [.f t4]) (ρ' := [.f a, .f b, .f s, .b up, .f t0, .f t1, .f t2, .f t3, .b false, .f t4]) rfl (congrArg (fun r => [U.f r]) h6) rfl ?_
  refine T.hbind (us := [.f t4, .f 4607182418800017408]) (xs := [.b false]) (ρ' := [.f a, .f b, .f s, .b up, .f t0, .f t1, .f t2, .f t3, .b false, .f t4, .b false]) rfl (congrArg (fun r => [U.b r]) h7) rfl ?_
  refine T.hneed (us := [.b false]) rfl (rfl) ?_
  refine T.hbind (us := [.f t2, .f t0]) (xs := [.f t5]) (ρ' := [.f a, .f b, .f s, .b up, .f t0, .f t1, .f t2, .f t3, .b false, .f t4, .b false, .f t5]) rfl (congrArg (fun r => [U.f r]) h8) rfl ?_
  refine T.hneed (us := [.f t2, .f t0]) rfl (h9) ?_
  refine T.hbind (us := [.f t2, .f t5]) (xs := [.f t6]) (ρ' := [.f a, .f b, .f s, .b up, .f t0, .f t1, .f t2, .f t3, .b false, .f t4, .b false, .f t5, .f t6]) rfl (congrArg (fun r => [U.f r]) h10) rfl ?_
  refine T.hneed (us := [.f t2, .f t5]) rfl (h11) ?_
  refine T.hbind (us := [.f t0, .f t6]) (xs := [.f t7]) (ρ' := [.f a, .f b, .f s, .b up, .f t0, .f t1, .f t2, .f t3, .b false, .f t4, .b false, .f t5, .f t6, .f t7]) rfl (congrArg (fun r => [U.f r]) h12) rfl ?_
  refine T.hneed (us := [.f t0, .f t6]) rfl (h13) ?_
  refine T.hbind (us := [.f t1, .f t5]) (xs := [.f t8]) (ρ' := [.f a, .f b, .f s, .b up, .f t0, .f t1, .f t2, .f t3, .b false, .f t4, .b false, .f t5, .f t6, .f t7, .f t8]) rfl (congrArg (fun r => [U.f r]) h14) rfl ?_
  refine T.hneed (us := [.f t1, .f t5]) rfl (h15) ?_
  refine T.hbind (us := [.f t7, .f t8]) (xs := [.f t9]) (ρ' := [.f a, .f b, .f s, .b up, .f t0, .f t1, .f t2, .f t3, .b false, .f t4, .b false, .f t5, .f t6, .f t7, .f t8, .f t9]) rfl (congrArg (fun r => [U.f r]) h16) rfl ?_
  refine T.hneed (us := [.f t7, .f t8]) rfl (h17) ?_
  refine T.hbind (us := [.f s, .f t9, .b up]) (xs := [.f t10, .i t11]) (ρ' := [.f a, .f b, .f s, .b up, .f t0, .f t1, .f t2, .f t3, .b false, .f t4, .b false, .f t5, .f t6, .f t7, .f t8, .f t9, .f t10, .i t11]) rfl (congrArg (fun r : Nat × Int => [U.f r.1, U.i r.2]) h18) rfl ?_
  refine T.hneed (us := [.f s]) rfl (h19) ?_
  exact T.hdone ⟨rfl, rfl, r0⟩

set_option maxRecDepth 100000 in
set_option maxHeartbeats 4000000 in
theorem rnextt_0 (a : Nat) (w : World) (ha : Dy.W a) {t0 : Nat} {t1 : Nat} (h0 : ((rrT (a))) = true) (h1 : ((infV (1))) = t0) (h2 : ((nxG (a) (t0))) = t1) (h3 : nNx [.f a, .f t0] = true) (h4 : ((infT (t1) (0))) = true)  : Calls Try.prog 16 #[.float .f64 a, .bool true] w fun e w' => e = .returned (.tuple #[.float .f64 0, .int .i64 10]) ∧ Below w.heap.size w w' := by
  refine cal_calls (vs := [.float .f64 a, .bool true]) (us := [.f a, .b true]) (args := [vf 0, vb 1]) th0_ok (dr_ok th0_ok) Try.func16 [] 200 2 rfl [false, true, true] (t := .bind ⟨fun us i => bRes (rrT (gF us 0)) i, 1, [(.v 0)]⟩ (.bind ⟨fun us _ => nB us, 1, [(.v 2)]⟩ (.need ⟨pF, [(.v 3)]⟩ (.need ⟨pT, [(.v 1)]⟩ (.bind ⟨fun us i => fRes (infV (gI us 0)) i, 1, [(.l (.i 1))]⟩ (.bind ⟨fun us _ => .f (nxG (gF us 0) (gF us 1)), 1, [(.v 0), (.v 4)]⟩ (.need ⟨nNx, [(.v 0), (.v 4)]⟩ (.bind ⟨fun us i => bRes (infT (gF us 0) (gI us 1)) i, 1, [(.v 5), (.l (.i 0))]⟩ (.need ⟨pT, [(.v 6)]⟩ (.done .ret ⟨[.tup [.fl (.l (.f 0)), .it .i64 (.l (.i 10))]], [], 7, []⟩)))))))))) (by kernel_rfl) ?_ (denL_cons.2 ⟨_, _, (fl_den rfl ha), (denL_cons.2 ⟨_, _, (bo_den rfl), rfl, rfl⟩), rfl⟩)
  refine T.HH.h ?_
  refine T.hbind (us := [.f a]) (xs := [.b true]) (ρ' := [.f a, .b true, .b true]) rfl (congrArg (fun r => [U.b r]) h0) rfl ?_
  refine T.hbind (us := [.b true]) (xs := [.b false]) (ρ' := [.f a, .b true, .b true, .b false]) rfl (rfl) rfl ?_
  refine T.hneed (us := [.b false]) rfl (rfl) ?_
  refine T.hneed (us := [.b true]) rfl (rfl) ?_
  refine T.hbind (us := [.i 1]) (xs := [.f t0]) (ρ' := [.f a, .b true, .b true, .b false, .f t0]) rfl (congrArg (fun r => [U.f r]) h1) rfl ?_
  refine T.hbind (us := [.f a, .f t0]) (xs := [.f t1]) (ρ' := [.f a, .b true, .b true, .b false, .f t0, .f t1]) rfl (congrArg (fun r => [U.f r]) h2) rfl ?_
  refine T.hneed (us := [.f a, .f t0]) rfl (h3) ?_
  refine T.hbind (us := [.f t1, .i 0]) (xs := [.b true]) (ρ' := [.f a, .b true, .b true, .b false, .f t0, .f t1, .b true]) rfl (congrArg (fun r => [U.b r]) h4) rfl ?_
  refine T.hneed (us := [.b true]) rfl (rfl) ?_
  exact T.hdone ⟨rfl, rfl, (by decide)⟩

set_option maxRecDepth 100000 in
set_option maxHeartbeats 4000000 in
theorem rnextt_1 (a : Nat) (w : World) (ha : Dy.W a) (h0 : ((rrT (a))) = false)  : Calls Try.prog 16 #[.float .f64 a, .bool true] w fun e w' => e = .returned (.tuple #[.float .f64 0, .int .i64 13]) ∧ Below w.heap.size w w' := by
  refine cal_calls (vs := [.float .f64 a, .bool true]) (us := [.f a, .b true]) (args := [vf 0, vb 1]) th0_ok (dr_ok th0_ok) Try.func16 [] 200 2 rfl [true] (t := .bind ⟨fun us i => bRes (rrT (gF us 0)) i, 1, [(.v 0)]⟩ (.bind ⟨fun us _ => nB us, 1, [(.v 2)]⟩ (.need ⟨pT, [(.v 3)]⟩ (.done .ret ⟨[.tup [.fl (.l (.f 0)), .it .i64 (.l (.i 13))]], [], 4, []⟩)))) (by kernel_rfl) ?_ (denL_cons.2 ⟨_, _, (fl_den rfl ha), (denL_cons.2 ⟨_, _, (bo_den rfl), rfl, rfl⟩), rfl⟩)
  refine T.HH.h ?_
  refine T.hbind (us := [.f a]) (xs := [.b false]) (ρ' := [.f a, .b true, .b false]) rfl (congrArg (fun r => [U.b r]) h0) rfl ?_
  refine T.hbind (us := [.b false]) (xs := [.b true]) (ρ' := [.f a, .b true, .b false, .b true]) rfl (rfl) rfl ?_
  refine T.hneed (us := [.b true]) rfl (rfl) ?_
  exact T.hdone ⟨rfl, rfl, (by decide)⟩

set_option maxRecDepth 100000 in
set_option maxHeartbeats 4000000 in
theorem rnextt_2 (a : Nat) (w : World) (ha : Dy.W a) {t0 : Nat} {t1 : Nat} {t2 : Nat} (h0 : ((rrT (a))) = true) (h1 : ((infV (1))) = t0) (h2 : ((nxG (a) (t0))) = t1) (h3 : nNx [.f a, .f t0] = true) (h4 : ((infT (t1) (0))) = false) (h5 : ((plainT (t1))) = t2) (r0 : Dy.W t2) : Calls Try.prog 16 #[.float .f64 a, .bool true] w fun e w' => e = .returned (.tuple #[.float .f64 t2, .int .i64 0]) ∧ Below w.heap.size w w' := by
  refine cal_calls (vs := [.float .f64 a, .bool true]) (us := [.f a, .b true]) (args := [vf 0, vb 1]) th0_ok (dr_ok th0_ok) Try.func16 [] 200 2 rfl [false, true, false] (t := .bind ⟨fun us i => bRes (rrT (gF us 0)) i, 1, [(.v 0)]⟩ (.bind ⟨fun us _ => nB us, 1, [(.v 2)]⟩ (.need ⟨pF, [(.v 3)]⟩ (.need ⟨pT, [(.v 1)]⟩ (.bind ⟨fun us i => fRes (infV (gI us 0)) i, 1, [(.l (.i 1))]⟩ (.bind ⟨fun us _ => .f (nxG (gF us 0) (gF us 1)), 1, [(.v 0), (.v 4)]⟩ (.need ⟨nNx, [(.v 0), (.v 4)]⟩ (.bind ⟨fun us i => bRes (infT (gF us 0) (gI us 1)) i, 1, [(.v 5), (.l (.i 0))]⟩ (.need ⟨pF, [(.v 6)]⟩ (.bind ⟨fun us i => fRes (plainT (gF us 0)) i, 1, [(.v 5)]⟩ (.done .ret ⟨[.tup [.fl (.v 7), .it .i64 (.l (.i 0))]], [], 8, []⟩))))))))))) (by kernel_rfl) ?_ (denL_cons.2 ⟨_, _, (fl_den rfl ha), (denL_cons.2 ⟨_, _, (bo_den rfl), rfl, rfl⟩), rfl⟩)
  refine T.HH.h ?_
  refine T.hbind (us := [.f a]) (xs := [.b true]) (ρ' := [.f a, .b true, .b true]) rfl (congrArg (fun r => [U.b r]) h0) rfl ?_
  refine T.hbind (us := [.b true]) (xs := [.b false]) (ρ' := [.f a, .b true, .b true, .b false]) rfl (rfl) rfl ?_
  refine T.hneed (us := [.b false]) rfl (rfl) ?_
  refine T.hneed (us := [.b true]) rfl (rfl) ?_
  refine T.hbind (us := [.i 1]) (xs := [.f t0]) (ρ' := [.f a, .b true, .b true, .b false, .f t0]) rfl (congrArg (fun r => [U.f r]) h1) rfl ?_
  refine T.hbind (us := [.f a, .f t0]) (xs := [.f t1]) (ρ' := [.f a, .b true, .b true, .b false, .f t0, .f t1]) rfl (congrArg (fun r => [U.f r]) h2) rfl ?_
  refine T.hneed (us := [.f a, .f t0]) rfl (h3) ?_
  refine T.hbind (us := [.f t1, .i 0]) (xs := [.b false]) (ρ' := [.f a, .b true, .b true, .b false, .f t0, .f t1, .b false]) rfl (congrArg (fun r => [U.b r]) h4) rfl ?_
  refine T.hneed (us := [.b false]) rfl (rfl) ?_
  refine T.hbind (us := [.f t1]) (xs := [.f t2]) (ρ' := [.f a, .b true, .b true, .b false, .f t0, .f t1, .b false, .f t2]) rfl (congrArg (fun r => [U.f r]) h5) rfl ?_
  exact T.hdone ⟨rfl, rfl, r0⟩

set_option maxRecDepth 100000 in
set_option maxHeartbeats 4000000 in
theorem rnextf_0 (a : Nat) (w : World) (ha : Dy.W a) {t0 : Nat} {t1 : Nat} (h0 : ((rrT (a))) = true) (h1 : ((infV ((-1)))) = t0) (h2 : ((nxG (a) (t0))) = t1) (h3 : nNx [.f a, .f t0] = true) (h4 : ((infT (t1) (0))) = true)  : Calls Try.prog 16 #[.float .f64 a, .bool false] w fun e w' => e = .returned (.tuple #[.float .f64 0, .int .i64 10]) ∧ Below w.heap.size w w' := by
  refine cal_calls (vs := [.float .f64 a, .bool false]) (us := [.f a, .b false]) (args := [vf 0, vb 1]) th0_ok (dr_ok th0_ok) Try.func16 [] 200 2 rfl [false, false, true] (t := .bind ⟨fun us i => bRes (rrT (gF us 0)) i, 1, [(.v 0)]⟩ (.bind ⟨fun us _ => nB us, 1, [(.v 2)]⟩ (.need ⟨pF, [(.v 3)]⟩ (.need ⟨pF, [(.v 1)]⟩ (.bind ⟨fun us i => fRes (infV (gI us 0)) i, 1, [(.l (.i (-1)))]⟩ (.bind ⟨fun us _ => .f (nxG (gF us 0) (gF us 1)), 1, [(.v 0), (.v 4)]⟩ (.need ⟨nNx, [(.v 0), (.v 4)]⟩ (.bind ⟨fun us i => bRes (infT (gF us 0) (gI us 1)) i, 1, [(.v 5), (.l (.i 0))]⟩ (.need ⟨pT, [(.v 6)]⟩ (.done .ret ⟨[.tup [.fl (.l (.f 0)), .it .i64 (.l (.i 10))]], [], 7, []⟩)))))))))) (by kernel_rfl) ?_ (denL_cons.2 ⟨_, _, (fl_den rfl ha), (denL_cons.2 ⟨_, _, (bo_den rfl), rfl, rfl⟩), rfl⟩)
  refine T.HH.h ?_
  refine T.hbind (us := [.f a]) (xs := [.b true]) (ρ' := [.f a, .b false, .b true]) rfl (congrArg (fun r => [U.b r]) h0) rfl ?_
  refine T.hbind (us := [.b true]) (xs := [.b false]) (ρ' := [.f a, .b false, .b true, .b false]) rfl (rfl) rfl ?_
  refine T.hneed (us := [.b false]) rfl (rfl) ?_
  refine T.hneed (us := [.b false]) rfl (rfl) ?_
  refine T.hbind (us := [.i (-1)]) (xs := [.f t0]) (ρ' := [.f a, .b false, .b true, .b false, .f t0]) rfl (congrArg (fun r => [U.f r]) h1) rfl ?_
  refine T.hbind (us := [.f a, .f t0]) (xs := [.f t1]) (ρ' := [.f a, .b false, .b true, .b false, .f t0, .f t1]) rfl (congrArg (fun r => [U.f r]) h2) rfl ?_
  refine T.hneed (us := [.f a, .f t0]) rfl (h3) ?_
  refine T.hbind (us := [.f t1, .i 0]) (xs := [.b true]) (ρ' := [.f a, .b false, .b true, .b false, .f t0, .f t1, .b true]) rfl (congrArg (fun r => [U.b r]) h4) rfl ?_
  refine T.hneed (us := [.b true]) rfl (rfl) ?_
  exact T.hdone ⟨rfl, rfl, (by decide)⟩

set_option maxRecDepth 100000 in
set_option maxHeartbeats 4000000 in
theorem rnextf_1 (a : Nat) (w : World) (ha : Dy.W a) (h0 : ((rrT (a))) = false)  : Calls Try.prog 16 #[.float .f64 a, .bool false] w fun e w' => e = .returned (.tuple #[.float .f64 0, .int .i64 13]) ∧ Below w.heap.size w w' := by
  refine cal_calls (vs := [.float .f64 a, .bool false]) (us := [.f a, .b false]) (args := [vf 0, vb 1]) th0_ok (dr_ok th0_ok) Try.func16 [] 200 2 rfl [true] (t := .bind ⟨fun us i => bRes (rrT (gF us 0)) i, 1, [(.v 0)]⟩ (.bind ⟨fun us _ => nB us, 1, [(.v 2)]⟩ (.need ⟨pT, [(.v 3)]⟩ (.done .ret ⟨[.tup [.fl (.l (.f 0)), .it .i64 (.l (.i 13))]], [], 4, []⟩)))) (by kernel_rfl) ?_ (denL_cons.2 ⟨_, _, (fl_den rfl ha), (denL_cons.2 ⟨_, _, (bo_den rfl), rfl, rfl⟩), rfl⟩)
  refine T.HH.h ?_
  refine T.hbind (us := [.f a]) (xs := [.b false]) (ρ' := [.f a, .b false, .b false]) rfl (congrArg (fun r => [U.b r]) h0) rfl ?_
  refine T.hbind (us := [.b false]) (xs := [.b true]) (ρ' := [.f a, .b false, .b false, .b true]) rfl (rfl) rfl ?_
  refine T.hneed (us := [.b true]) rfl (rfl) ?_
  exact T.hdone ⟨rfl, rfl, (by decide)⟩

set_option maxRecDepth 100000 in
set_option maxHeartbeats 4000000 in
theorem rnextf_2 (a : Nat) (w : World) (ha : Dy.W a) {t0 : Nat} {t1 : Nat} {t2 : Nat} (h0 : ((rrT (a))) = true) (h1 : ((infV ((-1)))) = t0) (h2 : ((nxG (a) (t0))) = t1) (h3 : nNx [.f a, .f t0] = true) (h4 : ((infT (t1) (0))) = false) (h5 : ((plainT (t1))) = t2) (r0 : Dy.W t2) : Calls Try.prog 16 #[.float .f64 a, .bool false] w fun e w' => e = .returned (.tuple #[.float .f64 t2, .int .i64 0]) ∧ Below w.heap.size w w' := by
  refine cal_calls (vs := [.float .f64 a, .bool false]) (us := [.f a, .b false]) (args := [vf 0, vb 1]) th0_ok (dr_ok th0_ok) Try.func16 [] 200 2 rfl [false, false, false] (t := .bind ⟨fun us i => bRes (rrT (gF us 0)) i, 1, [(.v 0)]⟩ (.bind ⟨fun us _ => nB us, 1, [(.v 2)]⟩ (.need ⟨pF, [(.v 3)]⟩ (.need ⟨pF, [(.v 1)]⟩ (.bind ⟨fun us i => fRes (infV (gI us 0)) i, 1, [(.l (.i (-1)))]⟩ (.bind ⟨fun us _ => .f (nxG (gF us 0) (gF us 1)), 1, [(.v 0), (.v 4)]⟩ (.need ⟨nNx, [(.v 0), (.v 4)]⟩ (.bind ⟨fun us i => bRes (infT (gF us 0) (gI us 1)) i, 1, [(.v 5), (.l (.i 0))]⟩ (.need ⟨pF, [(.v 6)]⟩ (.bind ⟨fun us i => fRes (plainT (gF us 0)) i, 1, [(.v 5)]⟩ (.done .ret ⟨[.tup [.fl (.v 7), .it .i64 (.l (.i 0))]], [], 8, []⟩))))))))))) (by kernel_rfl) ?_ (denL_cons.2 ⟨_, _, (fl_den rfl ha), (denL_cons.2 ⟨_, _, (bo_den rfl), rfl, rfl⟩), rfl⟩)
  refine T.HH.h ?_
  refine T.hbind (us := [.f a]) (xs := [.b true]) (ρ' := [.f a, .b false, .b true]) rfl (congrArg (fun r => [U.b r]) h0) rfl ?_
  refine T.hbind (us := [.b true]) (xs := [.b false]) (ρ' := [.f a, .b false, .b true, .b false]) rfl (rfl) rfl ?_
  refine T.hneed (us := [.b false]) rfl (rfl) ?_
  refine T.hneed (us := [.b false]) rfl (rfl) ?_
  refine T.hbind (us := [.i (-1)]) (xs := [.f t0]) (ρ' := [.f a, .b false, .b true, .b false, .f t0]) rfl (congrArg (fun r => [U.f r]) h1) rfl ?_
  refine T.hbind (us := [.f a, .f t0]) (xs := [.f t1]) (ρ' := [.f a, .b false, .b true, .b false, .f t0, .f t1]) rfl (congrArg (fun r => [U.f r]) h2) rfl ?_
  refine T.hneed (us := [.f a, .f t0]) rfl (h3) ?_
  refine T.hbind (us := [.f t1, .i 0]) (xs := [.b false]) (ρ' := [.f a, .b false, .b true, .b false, .f t0, .f t1, .b false]) rfl (congrArg (fun r => [U.b r]) h4) rfl ?_
  refine T.hneed (us := [.b false]) rfl (rfl) ?_
  refine T.hbind (us := [.f t1]) (xs := [.f t2]) (ρ' := [.f a, .b false, .b true, .b false, .f t0, .f t1, .b false, .f t2]) rfl (congrArg (fun r => [U.f r]) h5) rfl ?_
  exact T.hdone ⟨rfl, rfl, r0⟩

set_option maxRecDepth 100000 in
set_option maxHeartbeats 4000000 in
theorem near_0 (a : Nat) (e : Int) (w : World) (ha : Dy.W a) {t0 : Nat} (h0 : ((Dy.ldx (a) (e))) = t0) (h1 : nLdx [.i e] = true) (h2 : ((infT (t0) (0))) = true) (r0 : Dy.W t0) : Calls Try.prog 35 #[.float .f64 a, .int .i64 e] w fun e w' => e = .returned (.tuple #[.float .f64 t0, .float .f64 0]) ∧ Below w.heap.size w w' := by
  refine two_calls (vs := [.float .f64 a, .int .i64 e]) (us := [.f a, .i e]) (args := [vf 0, vi .i64 1]) th0_ok (dr_ok th0_ok) Try.func35 [] 200 2 rfl [true] (t := .bind ⟨fun us _ => .f (Dy.ldx (gF us 0) (gI us 1)), 1, [(.v 0), (.v 1)]⟩ (.need ⟨nLdx, [(.v 1)]⟩ (.bind ⟨fun us i => bRes (infT (gF us 0) (gI us 1)) i, 1, [(.v 2), (.l (.i 0))]⟩ (.need ⟨pT, [(.v 3)]⟩ (.done .ret ⟨[.tup [.fl (.v 2), .fl (.l (.f 0))]], [], 4, []⟩))))) (by kernel_rfl) ?_ (denL_cons.2 ⟨_, _, (fl_den rfl ha), (denL_cons.2 ⟨_, _, (it_den rfl), rfl, rfl⟩), rfl⟩)
  refine T.HH.h ?_
  refine T.hbind (us := [.f a, .i e]) (xs := [.f t0]) (ρ' := [.f a, .i e, .f t0]) rfl (congrArg (fun r => [U.f r]) h0) rfl ?_
  refine T.hneed (us := [.i e]) rfl (h1) ?_
  refine T.hbind (us := [.f t0, .i 0]) (xs := [.b true]) (ρ' := [.f a, .i e, .f t0, .b true]) rfl (congrArg (fun r => [U.b r]) h2) rfl ?_
  refine T.hneed (us := [.b true]) rfl (rfl) ?_
  exact T.hdone ⟨rfl, rfl, r0, (by decide)⟩

set_option maxRecDepth 100000 in
set_option maxHeartbeats 4000000 in
theorem near_1 (a : Nat) (e : Int) (w : World) (ha : Dy.W a) {t0 : Nat} {t1 : Int} {t2 : Nat} (h0 : ((Dy.ldx (a) (e))) = t0) (h1 : nLdx [.i e] = true) (h2 : ((infT (t0) (0))) = false) (h3 : (IntKind.i64.wrap (0 - e)) = t1) (h4 : ((Dy.ldx (t0) (t1))) = t2) (h5 : nLdx [.i t1] = true) (r0 : Dy.W t0) (r1 : Dy.W t2) : Calls Try.prog 35 #[.float .f64 a, .int .i64 e] w fun e w' => e = .returned (.tuple #[.float .f64 t0, .float .f64 t2]) ∧ Below w.heap.size w w' := by
  refine two_calls (vs := [.float .f64 a, .int .i64 e]) (us := [.f a, .i e]) (args := [vf 0, vi .i64 1]) th0_ok (dr_ok th0_ok) Try.func35 [] 200 2 rfl [false] (t := .bind ⟨fun us _ => .f (Dy.ldx (gF us 0) (gI us 1)), 1, [(.v 0), (.v 1)]⟩ (.need ⟨nLdx, [(.v 1)]⟩ (.bind ⟨fun us i => bRes (infT (gF us 0) (gI us 1)) i, 1, [(.v 2), (.l (.i 0))]⟩ (.need ⟨pF, [(.v 3)]⟩ (.bind ⟨fun us _ => mI IntKind.i64 us, 1, [(.v 1)]⟩ (.bind ⟨fun us _ => .f (Dy.ldx (gF us 0) (gI us 1)), 1, [(.v 2), (.v 4)]⟩ (.need ⟨nLdx, [(.v 4)]⟩ (.done .ret ⟨[.tup [.fl (.v 2), .fl (.v 5)]], [], 6, []⟩)))))))) (by kernel_rfl) ?_ (denL_cons.2 ⟨_, _, (fl_den rfl ha), (denL_cons.2 ⟨_, _, (it_den rfl), rfl, rfl⟩), rfl⟩)
  refine T.HH.h ?_
  refine T.hbind (us := [.f a, .i e]) (xs := [.f t0]) (ρ' := [.f a, .i e, .f t0]) rfl (congrArg (fun r => [U.f r]) h0) rfl ?_
  refine T.hneed (us := [.i e]) rfl (h1) ?_
  refine T.hbind (us := [.f t0, .i 0]) (xs := [.b false]) (ρ' := [.f a, .i e, .f t0, .b false]) rfl (congrArg (fun r => [U.b r]) h2) rfl ?_
  refine T.hneed (us := [.b false]) rfl (rfl) ?_
  refine T.hbind (us := [.i e]) (xs := [.i t1]) (ρ' := [.f a, .i e, .f t0, .b false, .i t1]) rfl (congrArg (fun r => [U.i r]) h3) rfl ?_
  refine T.hbind (us := [.f t0, .i t1]) (xs := [.f t2]) (ρ' := [.f a, .i e, .f t0, .b false, .i t1, .f t2]) rfl (congrArg (fun r => [U.f r]) h4) rfl ?_
  refine T.hneed (us := [.i t1]) rfl (h5) ?_
  exact T.hdone ⟨rfl, rfl, r0, r1⟩

end Go.Proofs.Ytnbdjpnnagpldaa
