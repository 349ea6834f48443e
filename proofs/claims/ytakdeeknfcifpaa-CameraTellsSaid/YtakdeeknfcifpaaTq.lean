/- Walks: ways of math.IsInf, math.Inf; Copysign. -/
import Derived.Test.YtakdeeknfcifpaaTc
namespace Go.Proofs.Ytakdeeknfcifpaa
open Go Go.RowKit
set_option linter.unusedSimpArgs false
set_option linter.unusedVariables false

def tq0 : List (Nat × Ct) := math0
theorem tq0_ok : AllOk Try.prog tq0 := math0_ok
set_option maxRecDepth 100000 in
set_option maxHeartbeats 4000000 in
theorem isinf_0 (b : Nat) (s : Int) (w : World) (hb : Dy.W b) {t0 : Nat} {t1 : Bool} (h0 : (s == 0) = true) (h1 : ((Dy.abs (b))) = t0) (h2 : (Dy.fgt t0 9218868437227405311) = t1)  : Calls Try.prog 64 #[.float .f64 b, .int .i64 s] w fun e w' => e = .returned (.bool t1) ∧ Below w.heap.size w w' := by
  refine boo_calls (vs := [.float .f64 b, .int .i64 s]) (us := [.f b, .i s]) (args := [vf 0, vi .i64 1]) tq0_ok (dr_ok tq0_ok) Try.func64 [] 200 2 rfl [true] (t := .bind ⟨fun us _ => jB (fun a b => a == b) us, 1, [(.v 1), (.l (.i 0))]⟩ (.need ⟨pT, [(.v 2)]⟩ (.bind ⟨fun us _ => .f (Dy.abs (gF us 0)), 1, [(.v 0)]⟩ (.bind ⟨fun us _ => cB Dy.fgt us, 1, [(.v 3), (.l (.f 9218868437227405311))]⟩ (.done .ret ⟨[.bo (.v 4)], [], 5, []⟩))))) (by kernel_rfl) ?_ (denL_cons.2 ⟨_, _, (fl_den rfl hb), (denL_cons.2 ⟨_, _, (it_den rfl), rfl, rfl⟩), rfl⟩)
  refine T.HH.h ?_
  refine T.hbind (us := [.i s, .i 0]) (xs := [.b true]) (ρ' := [.f b, .i s, .b true]) rfl (congrArg (fun r => [U.b r]) h0) rfl ?_
  refine T.hneed (us := [.b true]) rfl (rfl) ?_
  refine T.hbind (us := [.f b]) (xs := [.f t0]) (ρ' := [.f b, .i s, .b true, .f t0]) rfl (congrArg (fun r => [U.f r]) h1) rfl ?_
  refine T.hbind (us := [.f t0, .f 9218868437227405311]) (xs := [.b t1]) (ρ' := [.f b, .i s, .b true, .f t0, .b t1]) rfl (congrArg (fun r => [U.b r]) h2) rfl ?_
  exact T.hdone rfl

set_option maxRecDepth 100000 in
set_option maxHeartbeats 4000000 in
theorem isinf_1 (b : Nat) (s : Int) (w : World) (hb : Dy.W b) {t0 : Nat} {t1 : Bool} (h0 : (s == 0) = false) (h1 : (decide (s < 0)) = true) (h2 : (Op.negFloat .f64 b) = t0) (h3 : mN [.f b] = true) (h4 : (Dy.fgt t0 9218868437227405311) = t1)  : Calls Try.prog 64 #[.float .f64 b, .int .i64 s] w fun e w' => e = .returned (.bool t1) ∧ Below w.heap.size w w' := by
  refine boo_calls (vs := [.float .f64 b, .int .i64 s]) (us := [.f b, .i s]) (args := [vf 0, vi .i64 1]) tq0_ok (dr_ok tq0_ok) Try.func64 [] 200 2 rfl [false, true] (t := .bind ⟨fun us _ => jB (fun a b => a == b) us, 1, [(.v 1), (.l (.i 0))]⟩ (.need ⟨pF, [(.v 2)]⟩ (.bind ⟨fun us _ => jB (fun a b => decide (a < b)) us, 1, [(.v 1), (.l (.i 0))]⟩ (.need ⟨pT, [(.v 3)]⟩ (.bind ⟨fun us _ => mF us, 1, [(.v 0)]⟩ (.need ⟨mN, [(.v 0)]⟩ (.bind ⟨fun us _ => cB Dy.fgt us, 1, [(.v 4), (.l (.f 9218868437227405311))]⟩ (.done .ret ⟨[.bo (.v 5)], [], 6, []⟩)))))))) (by kernel_rfl) ?_ (denL_cons.2 ⟨_, _, (fl_den rfl hb), (denL_cons.2 ⟨_, _, (it_den rfl), rfl, rfl⟩), rfl⟩)
  refine T.HH.h ?_
  refine T.hbind (us := [.i s, .i 0]) (xs := [.b false]) (ρ' := [.f b, .i s, .b false]) rfl (congrArg (fun r => [U.b r]) h0) rfl ?_
  refine T.hneed (us := [.b false]) rfl (rfl) ?_
  refine T.hbind (us := [.i s, .i 0]) (xs := [.b true]) (ρ' := [.f b, .i s, .b false, .b true]) rfl (congrArg (fun r => [U.b r]) h1) rfl ?_
  refine T.hneed (us := [.b true]) rfl (rfl) ?_
  refine T.hbind (us := [.f b]) (xs := [.f t0]) (ρ' := [.f b, .i s, .b false, .b true, .f t0]) rfl (congrArg (fun r => [U.f r]) h2) rfl ?_
  refine T.hneed (us := [.f b]) rfl (h3) ?_
  refine T.hbind (us := [.f t0, .f 9218868437227405311]) (xs := [.b t1]) (ρ' := [.f b, .i s, .b false, .b true, .f t0, .b t1]) rfl (congrArg (fun r => [U.b r]) h4) rfl ?_
  exact T.hdone rfl

set_option maxRecDepth 100000 in
set_option maxHeartbeats 4000000 in
theorem isinf_2 (b : Nat) (s : Int) (w : World) (hb : Dy.W b) {t0 : Bool} (h0 : (s == 0) = false) (h1 : (decide (s < 0)) = false) (h2 : (Dy.fgt b 9218868437227405311) = t0)  : Calls Try.prog 64 #[.float .f64 b, .int .i64 s] w fun e w' => e = .returned (.bool t0) ∧ Below w.heap.size w w' := by
  refine boo_calls (vs := [.float .f64 b, .int .i64 s]) (us := [.f b, .i s]) (args := [vf 0, vi .i64 1]) tq0_ok (dr_ok tq0_ok) Try.func64 [] 200 2 rfl [false, false] (t := .bind ⟨fun us _ => jB (fun a b => a == b) us, 1, [(.v 1), (.l (.i 0))]⟩ (.need ⟨pF, [(.v 2)]⟩ (.bind ⟨fun us _ => jB (fun a b => decide (a < b)) us, 1, [(.v 1), (.l (.i 0))]⟩ (.need ⟨pF, [(.v 3)]⟩ (.bind ⟨fun us _ => cB Dy.fgt us, 1, [(.v 0), (.l (.f 9218868437227405311))]⟩ (.done .ret ⟨[.bo (.v 4)], [], 5, []⟩)))))) (by kernel_rfl) ?_ (denL_cons.2 ⟨_, _, (fl_den rfl hb), (denL_cons.2 ⟨_, _, (it_den rfl), rfl, rfl⟩), rfl⟩)
  refine T.HH.h ?_
  refine T.hbind (us := [.i s, .i 0]) (xs := [.b false]) (ρ' := [.f b, .i s, .b false]) rfl (congrArg (fun r => [U.b r]) h0) rfl ?_
  refine T.hneed (us := [.b false]) rfl (rfl) ?_
  refine T.hbind (us := [.i s, .i 0]) (xs := [.b false]) (ρ' := [.f b, .i s, .b false, .b false]) rfl (congrArg (fun r => [U.b r]) h1) rfl ?_
  refine T.hneed (us := [.b false]) rfl (rfl) ?_
  refine T.hbind (us := [.f b, .f 9218868437227405311]) (xs := [.b t0]) (ρ' := [.f b, .i s, .b false, .b false, .b t0]) rfl (congrArg (fun r => [U.b r]) h2) rfl ?_
  exact T.hdone rfl

set_option maxRecDepth 100000 in
set_option maxHeartbeats 4000000 in
theorem infv_0 (s : Int) (w : World) {t0 : Nat} (h0 : (decide (s ≥ 0)) = true) (h1 : (((9218868437227405312 : Int)).toNat) = t0) (h2 : nFrom [.i 9218868437227405312] = true) (r0 : Dy.W t0) : Calls Try.prog 75 #[.int .i64 s] w fun e w' => e = .returned (.float .f64 t0) ∧ Below w.heap.size w w' := by
  refine flo_calls (vs := [.int .i64 s]) (us := [.i s]) (args := [vi .i64 0]) tq0_ok (dr_ok tq0_ok) Try.func75 [] 200 1 rfl [true] (t := .bind ⟨fun us _ => jB (fun a b => decide (a ≥ b)) us, 1, [(.v 0), (.l (.i 0))]⟩ (.need ⟨pT, [(.v 1)]⟩ (.bind ⟨fun us _ => .f (gI us 0).toNat, 1, [(.l (.i 9218868437227405312))]⟩ (.need ⟨nFrom, [(.l (.i 9218868437227405312))]⟩ (.done .ret ⟨[.fl (.v 2)], [], 3, []⟩))))) (by kernel_rfl) ?_ (denL_cons.2 ⟨_, _, (it_den rfl), rfl, rfl⟩)
  refine T.HH.h ?_
  refine T.hbind (us := [.i s, .i 0]) (xs := [.b true]) (ρ' := [.i s, .b true]) rfl (congrArg (fun r => [U.b r]) h0) rfl ?_
  refine T.hneed (us := [.b true]) rfl (rfl) ?_
  refine T.hbind (us := [.i 9218868437227405312]) (xs := [.f t0]) (ρ' := [.i s, .b true, .f t0]) rfl (congrArg (fun r => [U.f r]) h1) rfl ?_
  refine T.hneed (us := [.i 9218868437227405312]) rfl (h2) ?_
  exact T.hdone ⟨rfl, r0⟩

set_option maxRecDepth 100000 in
set_option maxHeartbeats 4000000 in
theorem infv_1 (s : Int) (w : World) {t0 : Nat} (h0 : (decide (s ≥ 0)) = false) (h1 : (((18442240474082181120 : Int)).toNat) = t0) (h2 : nFrom [.i 18442240474082181120] = true) (r0 : Dy.W t0) : Calls Try.prog 75 #[.int .i64 s] w fun e w' => e = .returned (.float .f64 t0) ∧ Below w.heap.size w w' := by
  refine flo_calls (vs := [.int .i64 s]) (us := [.i s]) (args := [vi .i64 0]) tq0_ok (dr_ok tq0_ok) Try.func75 [] 200 1 rfl [false] (t := .bind ⟨fun us _ => jB (fun a b => decide (a ≥ b)) us, 1, [(.v 0), (.l (.i 0))]⟩ (.need ⟨pF, [(.v 1)]⟩ (.bind ⟨fun us _ => .f (gI us 0).toNat, 1, [(.l (.i 18442240474082181120))]⟩ (.need ⟨nFrom, [(.l (.i 18442240474082181120))]⟩ (.done .ret ⟨[.fl (.v 2)], [], 3, []⟩))))) (by kernel_rfl) ?_ (denL_cons.2 ⟨_, _, (it_den rfl), rfl, rfl⟩)
  refine T.HH.h ?_
  refine T.hbind (us := [.i s, .i 0]) (xs := [.b false]) (ρ' := [.i s, .b false]) rfl (congrArg (fun r => [U.b r]) h0) rfl ?_
  refine T.hneed (us := [.b false]) rfl (rfl) ?_
  refine T.hbind (us := [.i 18442240474082181120]) (xs := [.f t0]) (ρ' := [.i s, .b false, .f t0]) rfl (congrArg (fun r => [U.f r]) h1) rfl ?_
  refine T.hneed (us := [.i 18442240474082181120]) rfl (h2) ?_
  exact T.hdone ⟨rfl, r0⟩

def ctCopyT : Ct := ⟨2, [], [vf 0, vf 1], { binds := [⟨fun us _ => .i (gF us 0 : Nat), 1, [(.v 0)]⟩, ⟨fun us _ => iB (fun a b => IntKind.u64.wrap ((BitVec.ofInt IntKind.u64.bits a &&& ~~~(BitVec.ofInt IntKind.u64.bits b)).toNat : Nat)) us, 1, [(.v 2), (.l (.i 9223372036854775808))]⟩, ⟨fun us _ => .i (gF us 0 : Nat), 1, [(.v 1)]⟩, ⟨fun us _ => iB (fun a b => IntKind.u64.wrap ((BitVec.ofInt IntKind.u64.bits a &&& BitVec.ofInt IntKind.u64.bits b).toNat : Nat)) us, 1, [(.v 4), (.l (.i 9223372036854775808))]⟩, ⟨fun us _ => iB (fun a b => IntKind.u64.wrap ((BitVec.ofInt IntKind.u64.bits a ||| BitVec.ofInt IntKind.u64.bits b).toNat : Nat)) us, 1, [(.v 3), (.v 5)]⟩, ⟨fun us _ => .f (gI us 0).toNat, 1, [(.v 6)]⟩], needs := [⟨nFrom, [(.v 6)]⟩], val := .fl (.v 7), upd := [] }⟩
theorem ctCopyT_ok : CtOk Try.prog 74 ctCopyT := CtOk.flat tq0_ok (dr_ok tq0_ok) Try.func74 rfl (by decide) [] 200 ⟨[.fl (.v 7)], [], 8, []⟩ (by kernel_rfl) rfl (by kernel_rfl) rfl (by kernel_rfl) (by kernel_rfl) (by kernel_rfl) (by kernel_rfl)

def tq1 : List (Nat × Ct) := (74, ctCopyT) :: tq0
theorem tq1_ok : AllOk Try.prog tq1 := ⟨ctCopyT_ok, tq0_ok⟩

end Go.Proofs.Ytakdeeknfcifpaa
