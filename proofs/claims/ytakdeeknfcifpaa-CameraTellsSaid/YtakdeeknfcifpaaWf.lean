/- Walks: ways of burnishref25.may, bare. -/
import Derived.Test.YtakdeeknfcifpaaMC
namespace Go.Proofs.Ytakdeeknfcifpaa
open Go Go.RowKit
set_option linter.unusedSimpArgs false
set_option linter.unusedVariables false

def wf0 : List (Nat × Ct) := uA0
theorem wf0_ok : AllOk Try.prog wf0 := uA0_ok
set_option maxRecDepth 100000 in
set_option maxHeartbeats 4000000 in
theorem may25_0 (x : Nat) (w : World) (hx : Dy.W x) {t0 : Bool} (h0 : ((rrT (x))) = true) (h1 : (Dy.fgt x 13830554455654793216 || Dy.feq x 13830554455654793216) = true) (h2 : (Dy.flt x 4607182418800017408 || Dy.feq x 4607182418800017408) = t0)  : Calls Try.prog 27 #[.float .f64 x] w fun e w' => e = .returned (.bool t0) ∧ Below w.heap.size w w' := by
  refine boo_calls (vs := [.float .f64 x]) (us := [.f x]) (args := [vf 0]) wf0_ok (dr_ok wf0_ok) Try.func27 [] 200 1 rfl [true, true] (t := .bind ⟨fun us i => bRes (rrT (gF us 0)) i, 1, [(.v 0)]⟩ (.need ⟨pT, [(.v 1)]⟩ (.bind ⟨fun us _ => cB (fun a b => Dy.fgt a b || Dy.feq a b) us, 1, [(.v 0), (.l (.f 13830554455654793216))]⟩ (.need ⟨pT, [(.v 2)]⟩ (.bind ⟨fun us _ => cB (fun a b => Dy.flt a b || Dy.feq a b) us, 1, [(.v 0), (.l (.f 4607182418800017408))]⟩ (.done .ret ⟨[.bo (.v 3)], [], 4, []⟩)))))) (by kernel_rfl) ?_ (denL_cons.2 ⟨_, _, (fl_den rfl hx), rfl, rfl⟩)
  refine T.HH.h ?_
  refine T.hbind (us := [.f x]) (xs := [.b true]) (ρ' := [.f x, .b true]) rfl (congrArg (fun r => [U.b r]) h0) rfl ?_
  refine T.hneed (us := [.b true]) rfl (rfl) ?_
  refine T.hbind (us := [.f x, .f 13830554455654793216]) (xs := [.b true]) (ρ' := [.f x, .b true, .b true]) rfl (congrArg (fun r => [U.b r]) h1) rfl ?_
  refine T.hneed (us := [.b true]) rfl (rfl) ?_
  refine T.hbind (us := [.f x, .f 4607182418800017408]) (xs := [.b t0]) (ρ' := [.f x, .b true, .b true, .b t0]) rfl (congrArg (fun r => [U.b r]) h2) rfl ?_
  exact T.hdone rfl

set_option maxRecDepth 100000 in
set_option maxHeartbeats 4000000 in
theorem may25_1 (x : Nat) (w : World) (hx : Dy.W x) (h0 : ((rrT (x))) = false)  : Calls Try.prog 27 #[.float .f64 x] w fun e w' => e = .returned (.bool false) ∧ Below w.heap.size w w' := by
  refine boo_calls (vs := [.float .f64 x]) (us := [.f x]) (args := [vf 0]) wf0_ok (dr_ok wf0_ok) Try.func27 [] 200 1 rfl [false] (t := .bind ⟨fun us i => bRes (rrT (gF us 0)) i, 1, [(.v 0)]⟩ (.need ⟨pF, [(.v 1)]⟩ (.done .ret ⟨[.bo (.l (.b false))], [], 2, []⟩))) (by kernel_rfl) ?_ (denL_cons.2 ⟨_, _, (fl_den rfl hx), rfl, rfl⟩)
  refine T.HH.h ?_
  refine T.hbind (us := [.f x]) (xs := [.b false]) (ρ' := [.f x, .b false]) rfl (congrArg (fun r => [U.b r]) h0) rfl ?_
  refine T.hneed (us := [.b false]) rfl (rfl) ?_
  exact T.hdone rfl

set_option maxRecDepth 100000 in
set_option maxHeartbeats 4000000 in
theorem may25_2 (x : Nat) (w : World) (hx : Dy.W x) (h0 : ((rrT (x))) = true) (h1 : (Dy.fgt x 13830554455654793216 || Dy.feq x 13830554455654793216) = false)  : Calls Try.prog 27 #[.float .f64 x] w fun e w' => e = .returned (.bool false) ∧ Below w.heap.size w w' := by
  refine boo_calls (vs := [.float .f64 x]) (us := [.f x]) (args := [vf 0]) wf0_ok (dr_ok wf0_ok) Try.func27 [] 200 1 rfl [true, false] (t := .bind ⟨fun us i => bRes (rrT (gF us 0)) i, 1, [(.v 0)]⟩ (.need ⟨pT, [(.v 1)]⟩ (.bind ⟨fun us _ => cB (fun a b => Dy.fgt a b || Dy.feq a b) us, 1, [(.v 0), (.l (.f 13830554455654793216))]⟩ (.need ⟨pF, [(.v 2)]⟩ (.done .ret ⟨[.bo (.l (.b false))], [], 3, []⟩))))) (by kernel_rfl) ?_ (denL_cons.2 ⟨_, _, (fl_den rfl hx), rfl, rfl⟩)
  refine T.HH.h ?_
  refine T.hbind (us := [.f x]) (xs := [.b true]) (ρ' := [.f x, .b true]) rfl (congrArg (fun r => [U.b r]) h0) rfl ?_
  refine T.hneed (us := [.b true]) rfl (rfl) ?_
  refine T.hbind (us := [.f x, .f 13830554455654793216]) (xs := [.b false]) (ρ' := [.f x, .b true, .b false]) rfl (congrArg (fun r => [U.b r]) h1) rfl ?_
  refine T.hneed (us := [.b false]) rfl (rfl) ?_
  exact T.hdone rfl

set_option maxRecDepth 100000 in
set_option maxHeartbeats 4000000 in
theorem bare25_0 (x : Nat) (w : World) (hx : Dy.W x) {t0 : Nat} (h0 : (Dy.flt x 0) = true) (h1 : (Op.negFloat .f64 x) = t0) (h2 : mN [.f x] = true) (r0 : Dy.W t0) : Calls Try.prog 28 #[.float .f64 x] w fun e w' => e = .returned (.float .f64 t0) ∧ Below w.heap.size w w' := by
  refine flo_calls (vs := [.float .f64 x]) (us := [.f x]) (args := [vf 0]) wf0_ok (dr_ok wf0_ok) Try.func28 [] 200 1 rfl [true] (t := .bind ⟨fun us _ => cB Dy.flt us, 1, [(.v 0), (.l (.f 0))]⟩ (.need ⟨pT, [(.v 1)]⟩ (.bind ⟨fun us _ => mF us, 1, [(.v 0)]⟩ (.need ⟨mN, [(.v 0)]⟩ (.done .ret ⟨[.fl (.v 2)], [], 3, []⟩))))) (by kernel_rfl) ?_ (denL_cons.2 ⟨_, _, (fl_den rfl hx), rfl, rfl⟩)
  refine T.HH.h ?_
  refine T.hbind (us := [.f x, .f 0]) (xs := [.b true]) (ρ' := [.f x, .b true]) rfl (congrArg (fun r => [U.b r]) h0) rfl ?_
  refine T.hneed (us := [.b true]) rfl (rfl) ?_
  refine T.hbind (us := [.f x]) (xs := [.f t0]) (ρ' := [.f x, .b true, .f t0]) rfl (congrArg (fun r => [U.f r]) h1) rfl ?_
  refine T.hneed (us := [.f x]) rfl (h2) ?_
  exact T.hdone ⟨rfl, r0⟩

set_option maxRecDepth 100000 in
set_option maxHeartbeats 4000000 in
theorem bare25_1 (x : Nat) (w : World) (hx : Dy.W x) (h0 : (Dy.flt x 0) = false)  : Calls Try.prog 28 #[.float .f64 x] w fun e w' => e = .returned (.float .f64 x) ∧ Below w.heap.size w w' := by
  refine flo_calls (vs := [.float .f64 x]) (us := [.f x]) (args := [vf 0]) wf0_ok (dr_ok wf0_ok) Try.func28 [] 200 1 rfl [false] (t := .bind ⟨fun us _ => cB Dy.flt us, 1, [(.v 0), (.l (.f 0))]⟩ (.need ⟨pF, [(.v 1)]⟩ (.done .ret ⟨[.fl (.v 0)], [], 2, []⟩))) (by kernel_rfl) ?_ (denL_cons.2 ⟨_, _, (fl_den rfl hx), rfl, rfl⟩)
  refine T.HH.h ?_
  refine T.hbind (us := [.f x, .f 0]) (xs := [.b false]) (ρ' := [.f x, .b false]) rfl (congrArg (fun r => [U.b r]) h0) rfl ?_
  refine T.hneed (us := [.b false]) rfl (rfl) ?_
  exact T.hdone ⟨rfl, hx⟩

end Go.Proofs.Ytakdeeknfcifpaa
