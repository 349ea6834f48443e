/- The law RayTells walked. -/
import Derived.Test.YtakdeeknfcifpaaWh
namespace Go.Proofs.Ytakdeeknfcifpaa
open Go Go.RowKit
set_option linter.unusedSimpArgs false
set_option linter.unusedVariables false

def wj0 : List (Nat × Ct) := wh7
theorem wj0_ok : AllOk Try.prog wj0 := wh7_ok
set_option maxRecDepth 100000 in
set_option maxHeartbeats 4000000 in
theorem raytells (x y : Nat) (w : World) (hx : Dy.W x) (hy : Dy.W y) {t0 : Bool} {t1 : Int} {t2 : Nat} {t3 : Nat} {t4 : Bool} {t5 : Int} {t6 : Nat} {t7 : Nat} {t8 : Bool} {t9 : Int} (h0 : (Dy.dIn (x) (y)) = (t0, t1)) (h1 : (hitC (x) (y)) = ((t2, t3), (t4, t5))) (h2 : (hitR (x) (y)) = ((t6, t7), (t8, t9))) (h3 : (t0 == t0) = true) (h4 : (t1 == t1) = true) (h5 : (((decide (t2 = t6) && (decide (0 = 0) && decide (t3 = t7))))) = true) (h6 : (t4 == t8) = true) (h7 : (t5 == t9) = true) : Calls Try.prog 3 #[.float .f64 x, .float .f64 y] w fun e w' => e = .returned (.bool true) ∧ Below w.heap.size w w' := by
  refine law_calls (vs := [.float .f64 x, .float .f64 y]) (us := [.f x, .f y]) (args := [vf 0, vf 1]) wj0_ok (dr_ok wj0_ok) Try.func3 [] 200 2 rfl [true, true, true, true, true] (t := .bind ⟨fun us i => inU (Dy.dIn (gF us 0) (gF us 1)) i, 2, [(.v 0), (.v 1)]⟩ (.bind ⟨fun us i => inU (Dy.dIn (gF us 0) (gF us 1)) i, 2, [(.v 0), (.v 1)]⟩ (.bind ⟨fun us i => lookU (hitC (gF us 0) (gF us 1)) i, 4, [(.v 0), (.v 1)]⟩ (.bind ⟨fun us i => lookU (hitR (gF us 0) (gF us 1)) i, 4, [(.v 0), (.v 1)]⟩ (.bind ⟨fun us _ => bB (fun x y => x == y) us, 1, [(.v 2), (.v 4)]⟩ (.need ⟨pT, [(.v 14)]⟩ (.bind ⟨fun us _ => jB (fun a b => a == b) us, 1, [(.v 3), (.v 5)]⟩ (.need ⟨pT, [(.v 15)]⟩ (.bind ⟨fun us i => bRes ((decide (gF us 0 = gF us 3) && (decide (gF us 1 = gF us 4) && decide (gF us 2 = gF us 5)))) i, 1, [(.v 6), (.l (.f 0)), (.v 7), (.v 10), (.l (.f 0)), (.v 11)]⟩ (.need ⟨pT, [(.v 16)]⟩ (.bind ⟨fun us _ => bB (fun x y => x == y) us, 1, [(.v 8), (.v 12)]⟩ (.need ⟨pT, [(.v 17)]⟩ (.bind ⟨fun us _ => jB (fun a b => a == b) us, 1, [(.v 9), (.v 13)]⟩ (.need ⟨pT, [(.v 18)]⟩ (.done .ret ⟨[.bo (.l (.b true))], [], 19, []⟩))))))))))))))) (by kernel_rfl) ?_ (denL_cons.2 ⟨_, _, (fl_den rfl hx), (denL_cons.2 ⟨_, _, (fl_den rfl hy), rfl, rfl⟩), rfl⟩)
  refine T.HH.h ?_
  refine T.hbind (us := [.f x, .f y]) (xs := [.b t0, .i t1]) (ρ' := [.f x, .f y, .b t0, .i t1]) rfl (congrArg (fun r => [inU r 0, inU r 1]) h0) rfl ?_
  refine T.hbind (us := [.f x, .f y]) (xs := [.b t0, .i t1]) (ρ' := [.f x, .f y, .b t0, .i t1, .b t0, .i t1]) rfl (congrArg (fun r => [inU r 0, inU r 1]) h0) rfl ?_
  refine T.hbind (us := [.f x, .f y]) (xs := [.f t2, .f t3, .b t4, .i t5]) (ρ' := [.f x, .f y, .b t0, .i t1, .b t0, .i t1, .f t2, .f t3, .b t4, .i t5]) rfl (congrArg (fun r => [lookU r 0, lookU r 1, lookU r 2, lookU r 3]) h1) rfl ?_
  refine T.hbind (us := [.f x, .f y]) (xs := [.f t6, .f t7, .b t8, .i t9]) (ρ' := [.f x, .f y, .b t0, .i t1, .b t0, .i t1, .f t2, .f t3, .b t4, .i t5, .f t6, .f t7, .b t8, .i t9]) rfl (congrArg (fun r => [lookU r 0, lookU r 1, lookU r 2, lookU r 3]) h2) rfl ?_
  refine T.hbind (us := [.b t0, .b t0]) (xs := [.b true]) (ρ' := [.f x, .f y, .b t0, .i t1, .b t0, .i t1, .f t2, .f t3, .b t4, .i t5, .f t6, .f t7, .b t8, .i t9, .b true]) rfl (congrArg (fun r => [U.b r]) h3) rfl ?_
  refine T.hneed (us := [.b true]) rfl (rfl) ?_
  refine T.hbind (us := [.i t1, .i t1]) (xs := [.b true]) (ρ' := [.f x, .f y, .b t0, .i t1, .b t0, .i t1, .f t2, .f t3, .b t4, .i t5, .f t6, .f t7, .b t8, .i t9, .b true, .b true]) rfl (congrArg (fun r => [U.b r]) h4) rfl ?_
  refine T.hneed (us := [.b true]) rfl (rfl) ?_
  refine T.hbind (us := [.f t2, .f 0, .f t3, .f t6, .f 0, .f t7]) (xs := [.b true]) (ρ' := [.f x, .f y, .b t0, .i t1, .b t0, .i t1, .f t2, .f t3, .b t4, .i t5, .f t6, .f t7, .b t8, .i t9, .b true, .b true, .b true]) rfl (congrArg (fun r => [U.b r]) h5) rfl ?_
  refine T.hneed (us := [.b true]) rfl (rfl) ?_
  refine T.hbind (us := [.b t4, .b t8]) (xs := [.b true]) (ρ' := [.f x, .f y, .b t0, .i t1, .b t0, .i t1, .f t2, .f t3, .b t4, .i t5, .f t6, .f t7, .b t8, .i t9, .b true, .b true, .b true, .b true]) rfl (congrArg (fun r => [U.b r]) h6) rfl ?_
  refine T.hneed (us := [.b true]) rfl (rfl) ?_
  refine T.hbind (us := [.i t5, .i t9]) (xs := [.b true]) (ρ' := [.f x, .f y, .b t0, .i t1, .b t0, .i t1, .f t2, .f t3, .b t4, .i t5, .f t6, .f t7, .b t8, .i t9, .b true, .b true, .b true, .b true, .b true]) rfl (congrArg (fun r => [U.b r]) h7) rfl ?_
  refine T.hneed (us := [.b true]) rfl (rfl) ?_
  exact T.hdone rfl

end Go.Proofs.Ytakdeeknfcifpaa
