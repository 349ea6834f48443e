/- Walks: ways of burnishref01.far, Next, near. Plain facts: a sum by its nearest number and what that lacks (P1.2). Walks: burnishref01.far: sums that are great. Walks: burnishref01.far: a sum that is great (P1.2). A reckoning of programs by symbols: burnishref01.far, math.normalize. -/
import Derived.Test.YtkhplflbcgjkcaaGreatTg
import Derived.Test.YtkhplflbcgjkcaaGreatDc
/-! Walks: ways of burnishref01.far, Next, near. -/
namespace Go.Proofs.YtkhplflbcgjkcaaGreat
open Go Go.RowKit
set_option linter.unusedSimpArgs false
set_option linter.unusedVariables false
def th0 : List (Nat × Ct) := tG0
theorem th0_ok : AllOk Tryz.prog th0 := tG0_ok
set_option maxRecDepth 100000 in
set_option maxHeartbeats 4000000 in
theorem far_0 (a b s : Nat) (up : Bool) (w : World) (ha : Dy.W a) (hb : Dy.W b) (hs : Dy.W s) {t0 : Nat} {t1 : Nat} {t2 : Nat} {t3 : Nat} {t4 : Nat} {t5 : Int} (h0 : ((Dy.ldx (a) ((-60)))) = t0) (h1 : nLdx [.i (-60)] = true) (h2 : ((Dy.ldx (b) ((-60)))) = t1) (h3 : ((Dy.ldx (s) ((-60)))) = t2) (h4 : ((Dy.abs (t0))) = t3) (h5 : (Dy.flt t3 4607182418800017408) = true) (h6 : (sideF s a up) = (t4, t5)) (h7 : nSideT [.f s] = true) (r0 : Dy.W t4) : Calls Tryz.prog 156 #[.float .f64 a, .float .f64 b, .float .f64 s, .bool up] w fun e w' => e = .returned (.tuple #[.float .f64 t4, .int .i64 t5]) ∧ Below w.heap.size w w' := by
 refine cal_calls (vs := [.float .f64 a, .float .f64 b, .float .f64 s, .bool up]) (us := [.f a, .f b, .f s, .b up]) (args := [vf 0, vf 1, vf 2, vb 3]) th0_ok (dr_ok th0_ok) Tryz.func156 [] 200 4 rfl [true] (t := .bind ⟨fun us _ => .f (Dy.ldx (gF us 0) (gI us 1)), 1, [(.v 0), (.l (.i (-60)))]⟩ (.need ⟨nLdx, [(.l (.i (-60)))]⟩ (.bind ⟨fun us _ => .f (Dy.ldx (gF us 0) (gI us 1)), 1, [(.v 1), (.l (.i (-60)))]⟩ (.need ⟨nLdx, [(.l (.i (-60)))]⟩ (.bind ⟨fun us _ => .f (Dy.ldx (gF us 0) (gI us 1)), 1, [(.v 2), (.l (.i (-60)))]⟩ (.need ⟨nLdx, [(.l (.i (-60)))]⟩ (.bind ⟨fun us _ => .f (Dy.abs (gF us 0)), 1, [(.v 4)]⟩ (.bind ⟨fun us _ => cB Dy.flt us, 1, [(.v 7), (.l (.f 4607182418800017408))]⟩ (.need ⟨pT, [(.v 8)]⟩ (.bind ⟨fOp2 sideF, 2, [(.v 2), (.v 0), (.v 3)]⟩ (.need ⟨nSideT, [(.v 2)]⟩ (.done .ret ⟨[.tup [.fl (.v 9), .it .i64 (.v 10)]], [], 11, []⟩)))))))))))) (by kernel_rfl) ?_ (denL_cons.2 ⟨_, _, (fl_den rfl ha), (denL_cons.2 ⟨_, _, (fl_den rfl hb), (denL_cons.2 ⟨_, _, (fl_den rfl hs), (denL_cons.2 ⟨_, _, (bo_den rfl), rfl, rfl⟩), rfl⟩), rfl⟩), rfl⟩)
 refine T.HH.h ?_
 refine T.hbind rfl (congrArg (fun r => [U.f r]) h0) rfl ?_
 refine T.hneed rfl (h1) ?_
 refine T.hbind rfl (congrArg (fun r => [U.f r]) h2) rfl ?_
 refine T.hneed rfl (h1) ?_
 refine T.hbind rfl (congrArg (fun r => [U.f r]) h3) rfl ?_
 refine T.hneed rfl (h1) ?_
 refine T.hbind rfl (congrArg (fun r => [U.f r]) h4) rfl ?_
 refine T.hbind rfl (congrArg (fun r => [U.b r]) h5) rfl ?_
 refine T.hneed rfl (rfl) ?_
 refine T.hbind rfl (congrArg (fun r : Nat × Int => [U.f r.1, U.i r.2]) h6) rfl ?_
 refine T.hneed rfl (h7) ?_
 exact T.hdone ⟨rfl, rfl, r0⟩
set_option maxRecDepth 100000 in
set_option maxHeartbeats 4000000 in
theorem far_1 (a b s : Nat) (up : Bool) (w : World) (ha : Dy.W a) (hb : Dy.W b) (hs : Dy.W s) {t0 : Nat} {t1 : Nat} {t2 : Nat} {t3 : Nat} {t4 : Nat} {t5 : Nat} {t6 : Int} (h0 : ((Dy.ldx (a) ((-60)))) = t0) (h1 : nLdx [.i (-60)] = true) (h2 : ((Dy.ldx (b) ((-60)))) = t1) (h3 : ((Dy.ldx (s) ((-60)))) = t2) (h4 : ((Dy.abs (t0))) = t3) (h5 : (Dy.flt t3 4607182418800017408) = false) (h6 : ((Dy.abs (t1))) = t4) (h7 : (Dy.flt t4 4607182418800017408) = true) (h8 : (sideF s b up) = (t5, t6)) (h9 : nSideT [.f s] = true) (r0 : Dy.W t5) : Calls Tryz.prog 156 #[.float .f64 a, .float .f64 b, .float .f64 s, .bool up] w fun e w' => e = .returned (.tuple #[.float .f64 t5, .int .i64 t6]) ∧ Below w.heap.size w w' := by
 refine cal_calls (vs := [.float .f64 a, .float .f64 b, .float .f64 s, .bool up]) (us := [.f a, .f b, .f s, .b up]) (args := [vf 0, vf 1, vf 2, vb 3]) th0_ok (dr_ok th0_ok) Tryz.func156 [] 200 4 rfl [false, true] (t := .bind ⟨fun us _ => .f (Dy.ldx (gF us 0) (gI us 1)), 1, [(.v 0), (.l (.i (-60)))]⟩ (.need ⟨nLdx, [(.l (.i (-60)))]⟩ (.bind ⟨fun us _ => .f (Dy.ldx (gF us 0) (gI us 1)), 1, [(.v 1), (.l (.i (-60)))]⟩ (.need ⟨nLdx, [(.l (.i (-60)))]⟩ (.bind ⟨fun us _ => .f (Dy.ldx (gF us 0) (gI us 1)), 1, [(.v 2), (.l (.i (-60)))]⟩ (.need ⟨nLdx, [(.l (.i (-60)))]⟩ (.bind ⟨fun us _ => .f (Dy.abs (gF us 0)), 1, [(.v 4)]⟩ (.bind ⟨fun us _ => cB Dy.flt us, 1, [(.v 7), (.l (.f 4607182418800017408))]⟩ (.need ⟨pF, [(.v 8)]⟩ (.bind ⟨fun us _ => .f (Dy.abs (gF us 0)), 1, [(.v 5)]⟩ (.bind ⟨fun us _ => cB Dy.flt us, 1, [(.v 9), (.l (.f 4607182418800017408))]⟩ (.need ⟨pT, [(.v 10)]⟩ (.bind ⟨fOp2 sideF, 2, [(.v 2), (.v 1), (.v 3)]⟩ (.need ⟨nSideT, [(.v 2)]⟩ (.done .ret ⟨[.tup [.fl (.v 11), .it .i64 (.v 12)]], [], 13, []⟩))))))))))))))) (by kernel_rfl) ?_ (denL_cons.2 ⟨_, _, (fl_den rfl ha), (denL_cons.2 ⟨_, _, (fl_den rfl hb), (denL_cons.2 ⟨_, _, (fl_den rfl hs), (denL_cons.2 ⟨_, _, (bo_den rfl), rfl, rfl⟩), rfl⟩), rfl⟩), rfl⟩)
 refine T.HH.h ?_
 refine T.hbind rfl (congrArg (fun r => [U.f r]) h0) rfl ?_
 refine T.hneed rfl (h1) ?_
 refine T.hbind (ρ' := [.f a, .f b, .f s, .b up, .f t0, .f t1]) rfl (congrArg (fun r => [U.f r]) h2) rfl ?_
 refine T.hneed rfl (h1) ?_
 refine T.hbind rfl (congrArg (fun r => [U.f r]) h3) rfl ?_
 refine T.hneed rfl (h1) ?_
 refine T.hbind rfl (congrArg (fun r => [U.f r]) h4) rfl ?_
 refine T.hbind rfl (congrArg (fun r => [U.b r]) h5) rfl ?_
 refine T.hneed rfl (rfl) ?_
 refine T.hbind rfl (congrArg (fun r => [U.f r]) h6) rfl ?_
 refine T.hbind rfl (congrArg (fun r => [U.b r]) h7) rfl ?_
 refine T.hneed rfl (rfl) ?_
 refine T.hbind rfl (congrArg (fun r : Nat × Int => [U.f r.1, U.i r.2]) h8) rfl ?_
 refine T.hneed rfl (h9) ?_
 exact T.hdone ⟨rfl, rfl, r0⟩
set_option maxRecDepth 100000 in
set_option maxHeartbeats 4000000 in
theorem far_2 (a b s : Nat) (up : Bool) (w : World) (ha : Dy.W a) (hb : Dy.W b) (hs : Dy.W s) {t0 : Nat} {t1 : Nat} {t2 : Nat} {t3 : Nat} {t4 : Nat} {t5 : Nat} {t6 : Nat} {t7 : Nat} {t8 : Nat} {t9 : Nat} {t10 : Nat} {t11 : Int} (h0 : ((Dy.ldx (a) ((-60)))) = t0) (h1 : nLdx [.i (-60)] = true) (h2 : ((Dy.ldx (b) ((-60)))) = t1) (h3 : ((Dy.ldx (s) ((-60)))) = t2) (h4 : ((Dy.abs (t0))) = t3) (h5 : (Dy.flt t3 4607182418800017408) = false) (h6 : ((Dy.abs (t1))) = t4) (h7 : (Dy.flt t4 4607182418800017408) = false) (h8 : ((Ieee.double.sub t2 t0).getD 0) = t5) (h9 : (fN Ieee.double.sub) [.f t2, .f t0] = true) (h10 : ((Ieee.double.sub t2 t5).getD 0) = t6) (h11 : (fN Ieee.double.sub) [.f t2, .f t5] = true) (h12 : ((Ieee.double.sub t0 t6).getD 0) = t7) (h13 : (fN Ieee.double.sub) [.f t0, .f t6] = true) (h14 : ((Ieee.double.sub t1 t5).getD 0) = t8) (h15 : (fN Ieee.double.sub) [.f t1, .f t5] = true) (h16 : ((Ieee.double.add t7 t8).getD 0) = t9) (h17 : (fN Ieee.double.add) [.f t7, .f t8] = true) (h18 : (sideF s t9 up) = (t10, t11)) (h19 : nSideT [.f s] = true) (r0 : Dy.W t10) : Calls Tryz.prog 156 #[.float .f64 a, .float .f64 b, .float .f64 s, .bool up] w fun e w' => e = .returned (.tuple #[.float .f64 t10, .int .i64 t11]) ∧ Below w.heap.size w w' := by
 refine cal_calls (vs := [.float .f64 a, .float .f64 b, .float .f64 s, .bool up]) (us := [.f a, .f b, .f s, .b up]) (args := [vf 0, vf 1, vf 2, vb 3]) th0_ok (dr_ok th0_ok) Tryz.func156 [] 200 4 rfl [false, false] (t := .bind ⟨fun us _ => .f (Dy.ldx (gF us 0) (gI us 1)), 1, [(.v 0), (.l (.i (-60)))]⟩ (.need ⟨nLdx, [(.l (.i (-60)))]⟩ (.bind ⟨fun us _ => .f (Dy.ldx (gF us 0) (gI us 1)), 1, [(.v 1), (.l (.i (-60)))]⟩ (.need ⟨nLdx, [(.l (.i (-60)))]⟩ (.bind ⟨fun us _ => .f (Dy.ldx (gF us 0) (gI us 1)), 1, [(.v 2), (.l (.i (-60)))]⟩ (.need ⟨nLdx, [(.l (.i (-60)))]⟩ (.bind ⟨fun us _ => .f (Dy.abs (gF us 0)), 1, [(.v 4)]⟩ (.bind ⟨fun us _ => cB Dy.flt us, 1, [(.v 7), (.l (.f 4607182418800017408))]⟩ (.need ⟨pF, [(.v 8)]⟩ (.bind ⟨fun us _ => .f (Dy.abs (gF us 0)), 1, [(.v 5)]⟩ (.bind ⟨fun us _ => cB Dy.flt us, 1, [(.v 9), (.l (.f 4607182418800017408))]⟩ (.need ⟨pF, [(.v 10)]⟩ (.bind ⟨fun us _ => fB Ieee.double.sub us, 1, [(.v 6), (.v 4)]⟩ (.need ⟨fN Ieee.double.sub, [(.v 6), (.v 4)]⟩ (.bind ⟨fun us _ => fB Ieee.double.sub us, 1, [(.v 6), (.v 11)]⟩ (.need ⟨fN Ieee.double.sub, [(.v 6), (.v 11)]⟩ (.bind ⟨fun us _ => fB Ieee.double.sub us, 1, [(.v 4), (.v 12)]⟩ (.need ⟨fN Ieee.double.sub, [(.v 4), (.v 12)]⟩ (.bind ⟨fun us _ => fB Ieee.double.sub us, 1, [(.v 5), (.v 11)]⟩ (.need ⟨fN Ieee.double.sub, [(.v 5), (.v 11)]⟩ (.bind ⟨fun us _ => fB Ieee.double.add us, 1, [(.v 13), (.v 14)]⟩ (.need ⟨fN Ieee.double.add, [(.v 13), (.v 14)]⟩ (.bind ⟨fOp2 sideF, 2, [(.v 2), (.v 15), (.v 3)]⟩ (.need ⟨nSideT, [(.v 2)]⟩ (.done .ret ⟨[.tup [.fl (.v 16), .it .i64 (.v 17)]], [], 18, []⟩))))))))))))))))))))))))) (by kernel_rfl) ?_ (denL_cons.2 ⟨_, _, (fl_den rfl ha), (denL_cons.2 ⟨_, _, (fl_den rfl hb), (denL_cons.2 ⟨_, _, (fl_den rfl hs), (denL_cons.2 ⟨_, _, (bo_den rfl), rfl, rfl⟩), rfl⟩), rfl⟩), rfl⟩)
 refine T.HH.h ?_
 refine T.hbind rfl (congrArg (fun r => [U.f r]) h0) rfl ?_
 refine T.hneed rfl (h1) ?_
 refine T.hbind (ρ' := [.f a, .f b, .f s, .b up, .f t0, .f t1]) rfl (congrArg (fun r => [U.f r]) h2) rfl ?_
 refine T.hneed rfl (h1) ?_
 refine T.hbind rfl (congrArg (fun r => [U.f r]) h3) rfl ?_
 refine T.hneed rfl (h1) ?_
 refine T.hbind rfl (congrArg (fun r => [U.f r]) h4) rfl ?_
 refine T.hbind rfl (congrArg (fun r => [U.b r]) h5) rfl ?_
 refine T.hneed rfl (rfl) ?_
 refine T.hbind rfl (congrArg (fun r => [U.f r]) h6) rfl ?_
 refine T.hbind rfl (congrArg (fun r => [U.b r]) h7) rfl ?_
 refine T.hneed rfl (rfl) ?_
 refine T.hbind rfl (congrArg (fun r => [U.f r]) h8) rfl ?_
 refine T.hneed rfl (h9) ?_
 refine T.hbind rfl (congrArg (fun r => [U.f r]) h10) rfl ?_
 refine T.hneed rfl (h11) ?_
 refine T.hbind (ρ' := [.f a, .f b, .f s, .b up, .f t0, .f t1, .f t2, .f t3, .b false, .f t4, .b false, .f t5, .f t6, .f t7]) rfl (congrArg (fun r => [U.f r]) h12) rfl ?_
 refine T.hneed rfl (h13) ?_
 refine T.hbind rfl (congrArg (fun r => [U.f r]) h14) rfl ?_
 refine T.hneed rfl (h15) ?_
 refine T.hbind rfl (congrArg (fun r => [U.f r]) h16) rfl ?_
 refine T.hneed rfl (h17) ?_
 refine T.hbind rfl (congrArg (fun r : Nat × Int => [U.f r.1, U.i r.2]) h18) rfl ?_
 refine T.hneed rfl (h19) ?_
 exact T.hdone ⟨rfl, rfl, r0⟩
set_option maxRecDepth 100000 in
set_option maxHeartbeats 4000000 in
theorem near_0 (a : Nat) (e : Int) (w : World) (ha : Dy.W a) {t0 : Nat} (h0 : ((Dy.ldx (a) (e))) = t0) (h1 : nLdx [.i e] = true) (h2 : ((infT (t0) (0))) = true) (r0 : Dy.W t0) : Calls Tryz.prog 164 #[.float .f64 a, .int .i64 e] w fun e w' => e = .returned (.tuple #[.float .f64 t0, .float .f64 0]) ∧ Below w.heap.size w w' := by
 refine two_calls (vs := [.float .f64 a, .int .i64 e]) (us := [.f a, .i e]) (args := [vf 0, vi .i64 1]) th0_ok (dr_ok th0_ok) Tryz.func164 [] 200 2 rfl [true] (t := .bind ⟨fun us _ => .f (Dy.ldx (gF us 0) (gI us 1)), 1, [(.v 0), (.v 1)]⟩ (.need ⟨nLdx, [(.v 1)]⟩ (.bind ⟨fun us i => bRes (infT (gF us 0) (gI us 1)) i, 1, [(.v 2), (.l (.i 0))]⟩ (.need ⟨pT, [(.v 3)]⟩ (.done .ret ⟨[.tup [.fl (.v 2), .fl (.l (.f 0))]], [], 4, []⟩))))) (by kernel_rfl) ?_ (denL_cons.2 ⟨_, _, (fl_den rfl ha), (denL_cons.2 ⟨_, _, (it_den rfl), rfl, rfl⟩), rfl⟩)
 refine T.HH.h ?_
 refine T.hbind rfl (congrArg (fun r => [U.f r]) h0) rfl ?_
 refine T.hneed rfl (h1) ?_
 refine T.hbind rfl (congrArg (fun r => [U.b r]) h2) rfl ?_
 refine T.hneed rfl (rfl) ?_
 exact T.hdone ⟨rfl, rfl, r0, (by decide)⟩
set_option maxRecDepth 100000 in
set_option maxHeartbeats 4000000 in
theorem near_1 (a : Nat) (e : Int) (w : World) (ha : Dy.W a) {t0 : Nat} {t1 : Int} {t2 : Nat} (h0 : ((Dy.ldx (a) (e))) = t0) (h1 : nLdx [.i e] = true) (h2 : ((infT (t0) (0))) = false) (h3 : (IntKind.i64.wrap (0 - e)) = t1) (h4 : ((Dy.ldx (t0) (t1))) = t2) (h5 : nLdx [.i t1] = true) (r0 : Dy.W t0) (r1 : Dy.W t2) : Calls Tryz.prog 164 #[.float .f64 a, .int .i64 e] w fun e w' => e = .returned (.tuple #[.float .f64 t0, .float .f64 t2]) ∧ Below w.heap.size w w' := by
 refine two_calls (vs := [.float .f64 a, .int .i64 e]) (us := [.f a, .i e]) (args := [vf 0, vi .i64 1]) th0_ok (dr_ok th0_ok) Tryz.func164 [] 200 2 rfl [false] (t := .bind ⟨fun us _ => .f (Dy.ldx (gF us 0) (gI us 1)), 1, [(.v 0), (.v 1)]⟩ (.need ⟨nLdx, [(.v 1)]⟩ (.bind ⟨fun us i => bRes (infT (gF us 0) (gI us 1)) i, 1, [(.v 2), (.l (.i 0))]⟩ (.need ⟨pF, [(.v 3)]⟩ (.bind ⟨fun us _ => mI IntKind.i64 us, 1, [(.v 1)]⟩ (.bind ⟨fun us _ => .f (Dy.ldx (gF us 0) (gI us 1)), 1, [(.v 2), (.v 4)]⟩ (.need ⟨nLdx, [(.v 4)]⟩ (.done .ret ⟨[.tup [.fl (.v 2), .fl (.v 5)]], [], 6, []⟩)))))))) (by kernel_rfl) ?_ (denL_cons.2 ⟨_, _, (fl_den rfl ha), (denL_cons.2 ⟨_, _, (it_den rfl), rfl, rfl⟩), rfl⟩)
 refine T.HH.h ?_
 refine T.hbind rfl (congrArg (fun r => [U.f r]) h0) rfl ?_
 refine T.hneed rfl (h1) ?_
 refine T.hbind rfl (congrArg (fun r => [U.b r]) h2) rfl ?_
 refine T.hneed rfl (rfl) ?_
 refine T.hbind (ρ' := [.f a, .i e, .f t0, .b false, .i t1]) rfl (congrArg (fun r => [U.i r]) h3) rfl ?_
 refine T.hbind rfl (congrArg (fun r => [U.f r]) h4) rfl ?_
 refine T.hneed rfl (h5) ?_
 exact T.hdone ⟨rfl, rfl, r0, r1⟩
end Go.Proofs.YtkhplflbcgjkcaaGreat
/-! Plain facts: a sum by its nearest number and what that lacks (P1.2). -/
namespace Go.Dy
open Ieee
open Go.Proofs.YtkhplflbcgjkcaaGreat (sideF sideF_up sideF_dn)
theorem sum_side {E : Int} {c d : Nat} {up : Bool} (hc : Cb c (nz E)) (h1 : ok (nz E) → fgt d 0 = decide (V (nz E) < E)) (h2 : ok (nz E) → flt d 0 = decide (E < V (nz E))) : sideF c d up = out (fl E 1 up) up := by
 have hup : fl E 1 true ≤ fl E 1 false + 1 := fl_up_le (by omega)
 have a1 : fl E 1 false ≤ nz E := le_nz (by have := (@fl_down (fl E 1 false) E 1 (by omega)).1 (Int.le_refl _); omega)
 have a2 : nz E ≤ fl E 1 true := nz_le (by have := (@fl_up (fl E 1 true) E 1 (by omega)).1 (Int.le_refl _); omega)
 cases up
 ·refine sideF_dn hc a1 (by omega) (fun o => ?_)
  rw [h2 o]
  by_cases h : E < V (nz E)
  ·rw [if_pos (decide_eq_true h)]
   have : ¬ nz E ≤ fl E 1 false := by rw [fl_down (by omega)]; omega
   omega
  ·rw [if_neg (by simpa using h)]
   have : nz E ≤ fl E 1 false := by rw [fl_down (by omega)]; omega
   omega
 ·refine sideF_up hc a2 (by omega) (fun o => ?_)
  rw [h1 o]
  by_cases h : V (nz E) < E
  ·rw [if_pos (decide_eq_true h)]
   have : ¬ fl E 1 true ≤ nz E := by rw [fl_up (by omega)]; omega
   omega
  ·rw [if_neg (by simpa using h)]
   have : fl E 1 true ≤ nz E := by rw [fl_up (by omega)]; omega
   omega
theorem sign_enc {d : Int} (o : ok d) : fgt (enc d) 0 = decide (0 < V d) ∧ flt (enc d) 0 = decide (V d < 0) := by
 rw [fgt_dec (W_enc o) W_zero (right_enc o) right_zero, flt_dec (W_enc o) W_zero (right_enc o) right_zero, dec_enc o, dec_zero]
 have h1 : 0 ≤ d ↔ 0 ≤ V d := V_nonneg.symm
 have h2 : 0 ≤ -d ↔ 0 ≤ -V d := by rw [← V_neg]; exact V_nonneg.symm
 constructor
 ·congr 1; rw [eq_iff_iff]; omega
 ·congr 1; rw [eq_iff_iff]; omega
def K1000 : Int := 9110782046170513408
theorem V_top : V (top : Int) = 16777216 * V K1000 := by decide +kernel
theorem K_one : V K1000 = 10715086071862673209484250490600018105614048117055336074437503883703510511249361224931983788156958581275946729175531468251871452856923140435984577574698574803934567774824230985421074605062371141877954182153046474983581941267398767559165543946077062914571196477686542167660429831652624386837205668069376 * (one : Int) := by decide +kernel
theorem V_K1000_pos : 0 < V K1000 := by decide +kernel
theorem ok_lt {n : Int} (h : Fl n) (h1 : -(16777216 * V K1000) < n) (h2 : n < 16777216 * V K1000) : ok (nz n) ∧ V (nz n) = n := by
 have e := h.rn
 refine ⟨?_, e⟩
 unfold rn at e
 rw [← V_top] at h1 h2
 have k1 : nz n < top := by
  rcases Int.lt_or_le (nz n) top with h | h
  ·exact h
  ·have := V_le_iff.2 h; omega
 have k2 : -(top : Int) < nz n := by
  rcases Int.lt_or_le (-(top : Int)) (nz n) with h | h
  ·exact h
  ·have := V_le_iff.2 h; rw [V_neg] at this; omega
 exact ⟨k2, k1⟩
theorem ok_rn {n : Int} (h1 : -(8388608 * V K1000) ≤ n) (h2 : n ≤ 8388608 * V K1000) : ok (nz n) := by
 have q := V_K1000_pos
 have f : Fl (8388608 * V K1000) := by
  have h := Fl.ofV K1000
  have : (8388608 : Int) * V K1000 = V 9214364837600034816 := by decide +kernel
  rw [this]; exact Fl.ofV _
 have r1 := rn_le (n := n) f h2
 have r2 := le_rn (n := n) f.neg h1
 have := (ok_lt (fl_rn n) (by omega) (by omega)).1
 unfold rn at this; rw [nz_V] at this; exact this
theorem add_mid {a b : Int} (oa : ok a) (ob : ok b) (o : ok (nz (V a + V b))) : double.add (enc a) (enc b) = some (enc (nz (V a + V b))) := by
 rw [add_near (W_enc oa) (W_enc ob) (right_enc oa) (right_enc ob), dec_enc oa, dec_enc ob, nrst_ok o]
theorem sub_mid {a b : Int} (oa : ok a) (ob : ok b) (o : ok (nz (V a - V b))) : double.sub (enc a) (enc b) = some (enc (nz (V a - V b))) := by
 rw [sub_near (W_enc oa) (W_enc ob) (right_enc oa) (right_enc ob), dec_enc oa, dec_enc ob, nrst_ok o]
theorem sum_ranges {A B S : Int} (fa : Fl A) (fb : Fl B) (ha : -(16777216 * V K1000) < A ∧ A < 16777216 * V K1000) (hb : -(16777216 * V K1000) < B ∧ B < 16777216 * V K1000) (hs : S = rn (A + B)) (s1 : -V K1000 < S) (s2 : S < V K1000) :
  ok (nz (S - A)) ∧ ok (nz (S - rn (S - A))) ∧ ok (nz (A - (S - rn (S - A)))) ∧ ok (nz (B - rn (S - A))) ∧ ok (nz (A + B - S)) := by
 have q := V_K1000_pos
 obtain ⟨k1, k2, k3, k4⟩ := two_sum fa fb hs rfl
 obtain ⟨fe, e1, e2⟩ := fl_err fa fb
 rw [← hs] at fe e1 e2
 have fQ := Fl.ofV K1000
 have hn1 : A + B ≤ V K1000 := by
  rcases Int.lt_or_le (V K1000) (A + B) with h | h
  ·have := le_rn (n := A + B) fQ (by omega); omega
  ·exact h
 have hn2 : -V K1000 ≤ A + B := by
  rcases Int.lt_or_le (A + B) (-V K1000) with h | h
  ·have := rn_le (n := A + B) fQ.neg (by omega); omega
  ·exact h
 have hbig := fun n h1 h2 => (ok_rn (n := n) h1 h2)
 have hlt := fun n h h1 h2 => (ok_lt (n := n) h h1 h2)
 generalize V K1000 = Q at *
 by_cases hA : -(4 * Q) ≤ A ∧ A ≤ 4 * Q
 ·have c0 : -(6 * Q) ≤ S - A := by omega
  have c1 : S - A ≤ 6 * Q := by omega
  have f8 : Fl (8 * Q) := by rw [show 8 * Q = 2 * (2 * (2 * Q)) by omega]; exact fQ.twice.twice.twice
  have c2 := rn_le (n := S - A) f8 (by omega)
  have c3 := le_rn (n := S - A) f8.neg (by omega)
  generalize rn (S - A) = c at *
  exact ⟨hbig _ (by omega) (by omega), hbig _ (by omega) (by omega), hbig _ (by omega) (by omega), hbig _ (by omega) (by omega), hbig _ (by omega) (by omega)⟩
 ·have fs : Fl (A + B) := by
   rcases Int.lt_or_le A 0 with h | h
   ·have := sterbenz fb fa.neg (by omega) (by omega)
    rwa [show B - -A = A + B by omega] at this
   ·have := sterbenz fa fb.neg (by omega) (by omega)
    rwa [show A - -B = A + B by omega] at this
  have es : S = A + B := by rw [hs, fs.rn]
  have e3 : S - A = B := by omega
  have z0 : ok (nz 0) := by have : nz 0 = 0 := nz_V 0
                            rw [this]; unfold ok; decide
  rw [e3, fb.rn]
  have e4 : S - B = A := by omega
  rw [e4, Int.sub_self, Int.sub_self, show A + B - S = 0 by omega]
  have hb' := hlt B fb hb.1 hb.2
  have ha' := hlt A fa ha.1 ha.2
  exact ⟨hb'.1, ha'.1, z0, z0, z0⟩
end Go.Dy
/-! Walks: burnishref01.far: sums that are great. -/
namespace Go.Dy
open Ieee
theorem rn_scale_pos {q : Nat} (k : Nat) : rn ((q * 2 ^ k : Nat) : Int) = rn (q : Int) * 2 ^ k := by
 rcases form_of q with h | ⟨j, m, x, h1, h2, h3, e⟩
 ·have f1 : Fl (q : Int) := ⟨q, 0, by omega, by simp⟩
  have f2 : Fl ((q * 2 ^ k : Nat) : Int) := ⟨q, k, by omega, by rw [Int.natCast_mul, Int.natCast_pow]; rfl⟩
  rw [f1.rn, f2.rn, Int.natCast_mul, Int.natCast_pow]; rfl
 ·have e1 : ∀ n : Nat, rn (n : Int) = mag (nr n 0) := fun n => by
   unfold rn nz; rw [if_neg (by omega), Int.natAbs_natCast, V_nat]
  have pk : 0 < 2 ^ k := Nat.two_pow_pos k
  have e2 : q * 2 ^ k = m * 2 ^ (j + k) + x * 2 ^ k := by rw [e, Nat.add_mul, Nat.pow_add, Nat.mul_assoc]
  have hx : x * 2 ^ k < 2 ^ (j + k) := by rw [Nat.pow_add]; exact Nat.mul_lt_mul_of_pos_right h3 pk
  have r1 : rdn q = j * 2 ^ 52 + m := by rw [e]; exact rdn_form h1 h2 h3
  have r2 : rdn (q * 2 ^ k) = (j + k) * 2 ^ 52 + m := by rw [e2]; exact rdn_form h1 h2 hx
  have mf : ∀ i, mag (i * 2 ^ 52 + m) = m * 2 ^ i := fun i => by
   have := mag_form i (m - 2 ^ 52) (by omega)
   have e5 : 2 ^ 52 + (m - 2 ^ 52) = m := by omega
   rw [e5] at this; exact this
  have ms : ∀ i, mag (i * 2 ^ 52 + m + 1) = (m + 1) * 2 ^ i := fun i => by
   rw [mag_succ, mf i, Nat.add_mul, Nat.one_mul]
   have : (i * 2 ^ 52 + m) / 2 ^ 52 - 1 = i := by omega
   rw [this]
  rw [e1, e1]
  have hn : ∀ n : Nat, nr n 0 = if mag (rdn n) + mag (rdn n + 1) < 2 * n then rdn n + 1 else if 2 * n = mag (rdn n) + mag (rdn n + 1) ∧ rdn n % 2 = 1 then rdn n + 1 else rdn n := fun n => by
   have e : n / 2 ^ 0 = n := by rw [Nat.pow_zero, Nat.div_one]
   unfold nr; rw [e]; dsimp only; rw [Nat.pow_zero, Nat.mul_one]
  rw [hn, hn, r1, r2, mf, ms, mf, ms]
  have c1 : m * 2 ^ (j + k) + (m + 1) * 2 ^ (j + k) = (m * 2 ^ j + (m + 1) * 2 ^ j) * 2 ^ k := by rw [Nat.pow_add]; grind
  have c2 : 2 * (q * 2 ^ k) = 2 * q * 2 ^ k := by rw [Nat.mul_assoc]
  have c3 : ((j + k) * 2 ^ 52 + m) % 2 = (j * 2 ^ 52 + m) % 2 := by omega
  have c4 : (m * 2 ^ (j + k) + (m + 1) * 2 ^ (j + k) < 2 * (q * 2 ^ k)) ↔ (m * 2 ^ j + (m + 1) * 2 ^ j < 2 * q) := by
   rw [c1, c2]; exact Nat.mul_lt_mul_right pk
  have c5 : (2 * (q * 2 ^ k) = m * 2 ^ (j + k) + (m + 1) * 2 ^ (j + k)) ↔ (2 * q = m * 2 ^ j + (m + 1) * 2 ^ j) := by
   rw [c1, c2]; exact ⟨fun h => Nat.eq_of_mul_eq_mul_right pk h, fun h => by rw [h]⟩
  have up : ∀ i, mag (i * 2 ^ 52 + m + 1) = (m + 1) * 2 ^ i := ms
  by_cases g1 : m * 2 ^ j + (m + 1) * 2 ^ j < 2 * q
  ·rw [if_pos g1, if_pos (c4.2 g1), ms, ms, Nat.pow_add, ← Nat.mul_assoc, Int.natCast_mul, Int.natCast_pow]; rfl
  ·rw [if_neg g1, if_neg (fun h => g1 (c4.1 h))]
   by_cases g2 : 2 * q = m * 2 ^ j + (m + 1) * 2 ^ j ∧ (j * 2 ^ 52 + m) % 2 = 1
   ·rw [if_pos g2, if_pos ⟨c5.2 g2.1, by rw [c3]; exact g2.2⟩, ms, ms, Nat.pow_add, ← Nat.mul_assoc, Int.natCast_mul, Int.natCast_pow]; rfl
   ·rw [if_neg g2, if_neg (fun h => g2 ⟨c5.1 h.1, by rw [← c3]; exact h.2⟩), mf, mf, Nat.pow_add, ← Nat.mul_assoc, Int.natCast_mul, Int.natCast_pow]; rfl
theorem rn_scale (n : Int) (k : Nat) : rn (n * 2 ^ k) = rn n * 2 ^ k := by
 rcases Int.lt_or_le n 0 with h | h
 ·obtain ⟨q, hq⟩ : ∃ q : Nat, n = -(q : Int) := ⟨n.natAbs, by omega⟩
  have := rn_scale_pos (q := q) k
  rw [Int.natCast_mul, Int.natCast_pow] at this
  rw [hq, Int.neg_mul, rn_neg, rn_neg, Int.neg_mul]
  exact congrArg _ this
 ·obtain ⟨q, hq⟩ : ∃ q : Nat, n = (q : Int) := ⟨n.natAbs, by omega⟩
  have := rn_scale_pos (q := q) k
  rw [Int.natCast_mul, Int.natCast_pow] at this
  rw [hq]; exact this
theorem ldx60 {z : Int} (o : ok z) (h : (one : Int) * 2 ^ 59 ≤ (V z).natAbs) : ∃ x : Int, ok x ∧ ldx (enc z) (-60) = enc x ∧ V z = V x * 2 ^ 60 := by
 have tp := top_eq
 have hg : (2 : Int) ^ 60 ∣ V z := by
  refine grid_of (Fl.ofV z) ?_
  have ob : (2 : Int) ^ 53 * 2 ^ 60 ≤ one * 2 ^ 59 := by
   have : (2 : Int) ^ 53 * 2 ^ 60 ≤ (one : Int) * 2 ^ 59 := by decide +kernel
   exact this
  have : ((2 ^ 53 * 2 ^ 60 : Nat) : Int) = (2 : Int) ^ 53 * 2 ^ 60 := by decide
  omega
 obtain ⟨m, hm⟩ := hg
 have fm : Fl m := by
  obtain ⟨m', k', h1, h2⟩ := Fl.ofV z
  have := rn_scale m 60
  rw [Int.mul_comm m, ← hm, (Fl.ofV z).rn, hm, Int.mul_comm] at this
  have p : (2 : Int) ^ 60 ≠ 0 := by decide
  have e := Int.eq_of_mul_eq_mul_right p this
  rw [e]; exact fl_rn m
 obtain ⟨x, hx⟩ := fm.rank
 have e0 : V z = V x * 2 ^ 60 := by rw [hm, hx, Int.mul_comm]
 have vx : (V x).natAbs ≤ (V z).natAbs := by
  have p60 : ((2 : Int) ^ 60).natAbs = 2 ^ 60 := by decide
  rw [e0, Int.natAbs_mul, p60]; omega
 have lx : x.natAbs ≤ z.natAbs := by
  rw [V_natAbs, V_natAbs] at vx
  exact mag_le_iff.1 vx
 have ox : ok x := by unfold ok at *; omega
 refine ⟨x, ox, ?_, e0⟩
 have z0 : z ≠ 0 := by
  intro h0; subst h0; rw [V_zero] at h
  have : (0 : Int) < one * 2 ^ 59 := by decide +kernel
  omega
 have x0 : x ≠ 0 := by
  intro h0; subst h0; rw [V_zero] at e0
  have e9 : V z = 0 := by omega
  have : (V z).natAbs = mag z.natAbs := V_natAbs z
  rw [e9] at this
  have := @mag_lt 0 z.natAbs (by omega)
  rw [mag_zero] at this; omega
 have eb : enc z % 2 ^ 63 = z.natAbs := by unfold enc; unfold ok at o; split <;> omega
 have sb : sgn (enc z) = decide (z < 0) := by
  unfold sgn enc; unfold ok at o; congr 1; rw [eq_iff_iff]; split <;> omega
 have sx : x < 0 ↔ z < 0 := by
  have h1 : 0 ≤ x ↔ 0 ≤ V x := V_nonneg.symm
  have h2 : 0 ≤ z ↔ 0 ≤ V z := V_nonneg.symm
  rw [e0] at h2
  omega
 unfold ldx
 have hmag : mag z.natAbs = mag x.natAbs * 2 ^ 60 := by
  rw [← V_natAbs, ← V_natAbs, e0, Int.natAbs_mul]; rfl
 rw [eb, if_pos (by unfold ok at o; omega), sb]
 have e1 : (-60 : Int).toNat = 0 := by decide
 have e2 : (-(-60 : Int)).toNat = 60 := by decide
 rw [e1, e2, Nat.pow_zero, Nat.mul_one, nr_exact hmag, Nat.min_eq_left (by unfold ok at ox; omega)]
 unfold word enc
 by_cases c : z < 0
 ·rw [decide_eq_true c, if_pos rfl, if_neg (by omega)]; omega
 ·rw [decide_eq_false c, if_neg (by decide), if_pos (by omega)]; omega
theorem half_one : (one : Int) * 2 ^ 59 ≤ ((mag 4607182418800017407 * 2 ^ 60 : Nat) : Int) := by decide +kernel
theorem ldx60_small {z : Int} (o : ok z) : (flt (abs (ldx (enc z) (-60))) 4607182418800017408 = true → (V z).natAbs < (one : Int) * 2 ^ 60) ∧ (flt (abs (ldx (enc z) (-60))) 4607182418800017408 = false → (one : Int) * 2 ^ 59 ≤ (V z).natAbs) := by
 have tp := top_eq
 have eb : enc z % 2 ^ 63 = z.natAbs := by unfold enc; unfold ok at o; split <;> omega
 have e1 : (-60 : Int).toNat = 0 := by decide
 have e2 : (-(-60 : Int)).toNat = 60 := by decide
 obtain ⟨r, hr⟩ : ∃ r, nr (mag z.natAbs) 60 = r := ⟨_, rfl⟩
 have hrl : r ≤ z.natAbs := by
  rw [← hr]; refine nr_le ?_
  have : 1 ≤ 2 ^ 60 := by decide
  exact Nat.le_mul_of_pos_right _ (by omega)
 have rt : r < top := by unfold ok at o; omega
 have ea : abs (ldx (enc z) (-60)) = r := by
  unfold ldx
  rw [eb, if_pos (by unfold ok at o; omega), e1, e2, Nat.pow_zero, Nat.mul_one, hr, Nat.min_eq_left (by omega)]
  unfold abs
  exact word_abs (by omega)
 rw [ea]
 have or : ok (r : Int) := by unfold ok; omega
 have er : enc (r : Int) = r := by unfold enc; rw [if_pos (by omega)]; omega
 have e3 : flt r 4607182418800017408 = decide ((r : Int) < I1) := by
  have h := flt_dec (W_enc or) (W_enc ok_I1) (right_enc or) (right_enc ok_I1)
  have e5 : enc I1 = 4607182418800017408 := by decide
  rw [dec_enc or, dec_enc ok_I1, er, e5] at h; exact h
 rw [e3]
 have vz := V_natAbs z
 have m1 : (mag 4607182418800017408 : Int) = one := by have := V_one; unfold I1 at this; rw [show (4607182418800017408 : Int) = ((4607182418800017408 : Nat) : Int) from rfl, V_nat] at this; exact this
 constructor
 ·intro h
  rw [decide_eq_true_eq] at h
  unfold I1 at h
  rcases Nat.lt_or_ge (mag z.natAbs) (mag 4607182418800017408 * 2 ^ 60) with h1 | h1
  ·rw [vz]
   have : ((mag 4607182418800017408 * 2 ^ 60 : Nat) : Int) = one * 2 ^ 60 := by rw [Int.natCast_mul, m1]; rfl
   omega
  ·have := le_nr h1; omega
 ·intro h
  rw [decide_eq_false_iff_not] at h
  unfold I1 at h
  rcases Nat.lt_or_ge (mag z.natAbs) (mag 4607182418800017407 * 2 ^ 60) with h1 | h1
  ·have := nr_le (r := 4607182418800017407) (n := mag z.natAbs) (j := 60) (by omega); omega
  ·rw [vz]
   have k := half_one
   obtain ⟨M, hM⟩ : ∃ M, mag 4607182418800017407 * 2 ^ 60 = M := ⟨_, rfl⟩
   rw [hM] at h1 k
   omega
end Go.Dy
/-! Walks: burnishref01.far: a sum that is great (P1.2). -/
namespace Go.Proofs.YtkhplflbcgjkcaaGreat
open Go Go.RowKit
set_option linter.unusedSimpArgs false
set_option linter.unusedVariables false
open Dy
theorem fn_some {g : Nat → Nat → Option Nat} {x y r : Nat} (h : g x y = some r) (hr : Dy.W r) : fN g [.f x, .f y] = true := by
 show okF (g x y) = true
 rw [h]; exact decide_eq_true hr.lt
theorem nan_enc' {z : Int} (o : ok z) : nSideT [.f (enc z)] = true := by
 show (!nan (enc z)) = true
 rw [nan_enc o]; rfl
theorem nrst_near {z : Int} : nan (nrst z) = false := by
 unfold nrst
 split
 ·decide
 ·split
  ·decide
  ·exact nan_enc (by unfold ok; omega)
theorem nLdx60 : nLdx [.i (-60)] = true := by decide
theorem far_any (a b : Nat) (up : Bool) (w : World) (ha : Dy.W a) (hb : Dy.W b) (ra : right a = true) (rb : right b = true) (os : ok (nz (V (dec a) + V (dec b)))) (hs : V K1000 ≤ (V (nz (V (dec a) + V (dec b)))).natAbs) :
  Calls Tryz.prog 156 #[.float .f64 a, .float .f64 b, .float .f64 (enc (nz (V (dec a) + V (dec b)))), .bool up] w fun e w' => e = .returned (.tuple #[.float .f64 (dAdd a b up).1, .int .i64 (dAdd a b up).2]) ∧ Below w.heap.size w w' := by
 obtain ⟨ea, oa⟩ := enc_dec ha.lt ra
 obtain ⟨eb, ob⟩ := enc_dec hb.lt rb
 rw [dAdd_out ra rb]
 generalize dec a = x at *
 generalize dec b = y at *
 obtain ⟨z, hz⟩ : ∃ z, nz (V x + V y) = z := ⟨_, rfl⟩
 have hS : V z = rn (V x + V y) := by rw [← hz]; rfl
 rw [hz] at os hs ⊢
 subst ea; subst eb
 have ws := W_enc os
 have q := V_K1000_pos
 have kone := K_one
 have hcb : Cb (enc z) (nz (V x + V y)) := by rw [hz]; exact .inr (.inr ⟨os, right_fin (right_enc os), ws, dec_enc os⟩)
 have o1 : (0 : Int) < one := by have := one_big; have := big_pos; omega
 obtain ⟨fe, er1, er2⟩ := fl_err (Fl.ofV x) (Fl.ofV y)
 rw [← hS] at fe er1 er2
 have gS : (2 : Int) ^ 2000 ∣ V z := by
  refine grid_of (Fl.ofV z) ?_
  have : ((2 ^ 53 * 2 ^ 2000 : Nat) : Int) ≤ V K1000 := by decide +kernel
  omega
 have small : ∀ u v : Int, ok u → ok v → V u + V v = V x + V y → (V u).natAbs < (one : Int) * 2 ^ 60 → V z = V v := fun u v ou ov e h => by
  have h1 := rn_near (n := V x + V y) (Fl.ofV v)
  rw [← hS, ← e] at h1
  have e2 : V u + V v - V v = V u := by omega
  rw [e2] at h1
  have p61 : (one : Int) * 2 ^ 60 * 2 < V K1000 - one * 2 ^ 60 * 4 := by decide +kernel
  have gV : (2 : Int) ^ 1200 ∣ V v := by
   refine grid_of (Fl.ofV v) ?_
   have : ((2 ^ 53 * 2 ^ 1200 : Nat) : Int) ≤ V K1000 - one * 2 ^ 60 * 4 := by decide +kernel
   obtain ⟨P, hP⟩ : ∃ P : Nat, 2 ^ 53 * 2 ^ 1200 = P := ⟨_, rfl⟩
   rw [hP] at this ⊢
   omega
  have gD : (2 : Int) ^ 1200 ∣ V z - V v := Int.dvd_sub (dvd_less (by omega) gS) gV
  have lt : (V z - V v).natAbs < ((2 : Int) ^ 1200).natAbs := by
   have : (one : Int) * 2 ^ 60 * 2 < (((2 : Int) ^ 1200).natAbs : Int) := by decide +kernel
   obtain ⟨P, hP⟩ : ∃ P : Nat, ((2 : Int) ^ 1200).natAbs = P := ⟨_, rfl⟩
   rw [hP] at this ⊢
   omega
  have := Int.eq_zero_of_dvd_of_natAbs_lt_natAbs gD lt
  omega
 obtain ⟨sx1, sx2⟩ := ldx60_small oa
 obtain ⟨sy1, sy2⟩ := ldx60_small ob
 cases c1 : flt (abs (ldx (enc x) (-60))) 4607182418800017408 with
 | true =>
  have e := small x y oa ob rfl (sx1 c1)
  obtain ⟨g1, g2⟩ := sign_enc oa
  have R : sideF (enc z) (enc x) up = out (fl (V x + V y) 1 up) up := sum_side hcb (fun _ => by rw [hz, g1, e]; congr 1; rw [eq_iff_iff]; omega) (fun _ => by rw [hz, g2, e]; congr 1; rw [eq_iff_iff]; omega)
  exact far_0 _ _ _ up w ha hb ws rfl nLdx60 rfl rfl rfl c1 R (nan_enc' os) (out_W _ _)
 | false =>
  cases c2 : flt (abs (ldx (enc y) (-60))) 4607182418800017408 with
  | true =>
   have e := small y x ob oa (Int.add_comm _ _) (sy1 c2)
   obtain ⟨g1, g2⟩ := sign_enc ob
   have R : sideF (enc z) (enc y) up = out (fl (V x + V y) 1 up) up := sum_side hcb (fun _ => by rw [hz, g1, e]; congr 1; rw [eq_iff_iff]; omega) (fun _ => by rw [hz, g2, e]; congr 1; rw [eq_iff_iff]; omega)
   exact far_1 _ _ _ up w ha hb ws rfl nLdx60 rfl rfl rfl c1 rfl c2 R (nan_enc' os) (out_W _ _)
  | false =>
   obtain ⟨X, oX, lX, eX⟩ := ldx60 oa (sx2 c1)
   obtain ⟨Y, oY, lY, eY⟩ := ldx60 ob (sy2 c2)
   obtain ⟨T, oT, lT, eT⟩ := ldx60 os (by
    have : (one : Int) * 2 ^ 59 ≤ V K1000 := by decide +kernel
    omega)
   have p0 : (0 : Int) < 2 ^ 60 := by decide
   have hT : V T = rn (V X + V Y) := by
    have h1 := rn_scale (V X + V Y) 60
    rw [Int.add_mul, ← eX, ← eY, ← hS, eT] at h1
    exact Int.eq_of_mul_eq_mul_right (by omega) h1
   obtain ⟨k1, k2, k3, k4⟩ := two_sum (Fl.ofV X) (Fl.ofV Y) hT rfl
   have bX : ∀ u v : Int, ok u → V u = V v * 2 ^ 60 → -(16 * V K1000) < V v ∧ V v < 16 * V K1000 := fun u v ou e => by
    have t := V_top
    have h1 : V u < V top := V_lt ou.2
    have h2 : V (-(top : Int)) < V u := V_lt ou.1
    rw [V_neg] at h2
    rw [t] at h1 h2
    rw [e] at h1 h2
    constructor <;> omega
   obtain ⟨x1, x2⟩ := bX x X oa eX
   obtain ⟨y1, y2⟩ := bX y Y ob eY
   obtain ⟨t1, t2⟩ := bX z T os eT
   have f64 : Fl (64 * V K1000) := by
    rw [show 64 * V K1000 = 2 * (2 * (2 * (2 * (2 * (2 * V K1000))))) by omega]; exact (Fl.ofV K1000).twice.twice.twice.twice.twice.twice
   have r1 := rn_le (n := V T - V X) f64 (by omega)
   have r2 := le_rn (n := V T - V X) f64.neg (by omega)
   have okr := fun n h1 h2 => (ok_rn (n := n) h1 h2)
   have oc : ok (nz (V T - V X)) := okr _ (by omega) (by omega)
   have s1 := sub_mid oT oX oc
   obtain ⟨c, hc⟩ : ∃ c, nz (V T - V X) = c := ⟨_, rfl⟩
   have hcV : V c = rn (V T - V X) := by rw [← hc]; rfl
   rw [hc] at s1 oc
   rw [← hcV] at k1 k2 k3 k4 r1 r2
   have o2 : ok (nz (V T - V c)) := okr _ (by omega) (by omega)
   have s2 := sub_mid oT oc o2
   obtain ⟨p, hp⟩ : ∃ p, nz (V T - V c) = p := ⟨_, rfl⟩
   have hpV : V p = V T - V c := by rw [← hp]; exact k1
   rw [hp] at s2 o2
   rw [← hpV] at k2 k4
   have o3 : ok (nz (V X - V p)) := okr _ (by omega) (by omega)
   have s3 := sub_mid oX o2 o3
   obtain ⟨m, hm⟩ : ∃ m, nz (V X - V p) = m := ⟨_, rfl⟩
   have hmV : V m = V X - V p := by rw [← hm]; exact k2
   rw [hm] at s3 o3
   have o4 : ok (nz (V Y - V c)) := okr _ (by omega) (by omega)
   have s4 := sub_mid oY oc o4
   obtain ⟨n, hn⟩ : ∃ n, nz (V Y - V c) = n := ⟨_, rfl⟩
   have hnV : V n = V Y - V c := by rw [← hn]; exact k3
   rw [hn] at s4 o4
   rw [← hmV, ← hnV] at k4
   have o5 : ok (nz (V m + V n)) := okr _ (by omega) (by omega)
   have s5 := add_mid o3 o4 o5
   obtain ⟨d, hd⟩ : ∃ d, nz (V m + V n) = d := ⟨_, rfl⟩
   have hdV : V d = V X + V Y - V T := by rw [← hd]; exact k4
   rw [hd] at s5 o5
   obtain ⟨g1, g2⟩ := sign_enc o5
   have R : sideF (enc z) (enc d) up = out (fl (V x + V y) 1 up) up := sum_side hcb (fun _ => by rw [hz, g1, hdV, eX, eY, eT]; congr 1; rw [eq_iff_iff]; omega) (fun _ => by rw [hz, g2, hdV, eX, eY, eT]; congr 1; rw [eq_iff_iff]; omega)
   exact far_2 _ _ _ up w ha hb ws lX nLdx60 lY lT rfl (by rw [← lX]; exact c1) rfl (by rw [← lY]; exact c2) (by rw [s1]; rfl) (fn_some s1 (W_enc oc)) (by rw [s2]; rfl) (fn_some s2 (W_enc o2)) (by rw [s3]; rfl) (fn_some s3 (W_enc o3)) (by rw [s4]; rfl) (fn_some s4 (W_enc o4)) (by rw [s5]; rfl) (fn_some s5 (W_enc o5)) R (nan_enc' os) (out_W _ _)
end Go.Proofs.YtkhplflbcgjkcaaGreat
/-! A reckoning of programs by symbols: burnishref01.far, math.normalize. -/
namespace Go.Proofs.YtkhplflbcgjkcaaGreat
open Go Go.RowKit
set_option linter.unusedSimpArgs false
set_option linter.unusedVariables false
open Dy
def nFarT (us : List U) : Bool := right (gF us 0) && (right (gF us 1) && (decide (gF us 2 = nrst (nz (V (dec (gF us 0)) + V (dec (gF us 1))))) && (right (gF us 2) && decide (V K1000 ≤ ((V (dec (gF us 2))).natAbs : Int)))))
theorem nrst_right {z : Int} (h : right (nrst z) = true) : ok z ∧ nrst z = enc z := by
 have tp := top_eq
 unfold nrst at h ⊢
 by_cases h1 : (top : Int) ≤ z
 ·rw [if_pos h1] at h; exfalso; revert h; decide
 ·by_cases h2 : z ≤ -(top : Int)
  ·rw [if_neg h1, if_pos h2] at h; exfalso; revert h; decide
  ·rw [if_neg h1, if_neg h2]; exact ⟨by unfold ok; omega, rfl⟩
def ctFarT : Ct := ctP 4 [vf 0, vf 1, vf 2, vb 3] (fun us i => widthU (Dy.dAdd (gF us 0) (gF us 1) (gB' us 3)) i) 2 (.tup [vf 4, vi .i64 5]) [⟨nFarT, [.v 0, .v 1, .v 2]⟩]
theorem farT_ct : CtOk Tryz.prog 156 ctFarT := by
 refine ctP_ok (en Tryz.func156 rfl (by decide)) rfl rfl (fun us w vs hl hv hn => ?_) rfl
 match us, hl with
 | [u0, u1, u2, u3], _ =>
  obtain ⟨x, y, hx, hy, rfl⟩ := denL_cons.1 hv
  obtain ⟨x', y', hx', hy', rfl⟩ := denL_cons.1 hy
  obtain ⟨x2, y2, hx2, hy2, rfl⟩ := denL_cons.1 hy'
  obtain ⟨x3, y3, hx3, hy3, rfl⟩ := denL_cons.1 hy2
  rw [denL_nil.1 hy3]
  obtain ⟨a1, e1, w1, rfl⟩ := den_fl hx
  obtain ⟨a2, e2, w2, rfl⟩ := den_fl hx'
  obtain ⟨a3, e3, w3, rfl⟩ := den_fl hx2
  obtain ⟨a4, e4, rfl⟩ := den_bo hx3
  simp [E.ev] at e1 e2 e3 e4; subst e1 e2 e3 e4
  obtain ⟨xs, h1, h2⟩ := hn _ (List.mem_singleton.2 rfl)
  simp [evs, E.ev] at h1; subst h1
  have h3 : (right a1 && (right a2 && (decide (a3 = nrst (nz (V (dec a1) + V (dec a2)))) && (right a3 && decide (V K1000 ≤ ((V (dec a3)).natAbs : Int)))))) = true := h2
  simp only [Bool.and_eq_true, decide_eq_true_eq] at h3
  obtain ⟨ra, rb, rfl, rs, hs⟩ := h3
  obtain ⟨os, en⟩ := nrst_right rs
  rw [en, dec_enc os] at hs
  refine ⟨.tuple #[.float .f64 (Dy.dAdd a1 a2 a4).1, .int .i64 (Dy.dAdd a1 a2 a4).2], ?_, ?_⟩
  ·have k0 := Dy.dAdd_W a1 a2 a4
   unfold den
   rw [denL_cons.2 ⟨_, _, fl_den (n := (Dy.dAdd a1 a2 a4).1) rfl k0, denL_cons.2 ⟨_, [], it_den (n := (Dy.dAdd a1 a2 a4).2) rfl, rfl, rfl⟩, rfl⟩]
  ·rw [en]
   exact far_any a1 a2 a4 w w1 w2 ra rb os hs
def nFinT (us : List U) : Bool := decide (gF us 0 % 2 ^ 63 < Dy.top)
def normT (b : Nat) : Nat × Int := (Dy.norm1 b, Dy.norm2 b)
theorem W_norm1 {b : Nat} (hb : Dy.W b) (hf : fin b) : Dy.W (norm1 b) := by
 by_cases h0 : b % 2 ^ 63 = 0
 ·have h : abs b < 2 ^ 52 := by unfold abs; omega
  unfold norm1; rw [if_pos h]
  have e : fmul b 4841369599423283200 = fmul b 4841369599423283200 := rfl
  have hm := mul_eq (x := b) (y := 4841369599423283200) hb (by decide) hf (by decide)
  unfold Dy.W at hb
  rcases Nat.lt_or_ge b (2 ^ 63) with h1 | h1
  ·have : b = 0 := by omega
   subst this; unfold Dy.W; decide +kernel
  ·have : b = 2 ^ 63 := by omega
   subst this; unfold Dy.W; decide +kernel
 ·obtain ⟨r, e, h1, h2, -⟩ := norm_spec hb hf h0
  rw [e]; unfold Dy.W word; have := top_eq; split <;> omega
def ctNormT : Ct := ctP 1 [vf 0] (fun us i => widthU (normT (gF us 0)) i) 2 (.tup [vf 1, vi .i64 2]) [⟨nFinT, [.v 0]⟩]
theorem normT_ct : CtOk Tryz.prog 169 ctNormT := by
 refine ctP_ok (en Tryz.func169 rfl (by decide)) rfl rfl (fun us w vs hl hv hn => ?_) rfl
 match us, hl with
 | [u0], _ =>
  obtain ⟨x, y, hx, hy, rfl⟩ := denL_cons.1 hv
  rw [denL_nil.1 hy]
  obtain ⟨a1, e1, w1, rfl⟩ := den_fl hx
  simp [E.ev] at e1; subst e1
  obtain ⟨xs, h1, h2⟩ := hn _ (List.mem_singleton.2 rfl)
  simp [evs, E.ev] at h1; subst h1
  have hf : fin a1 := by
   have h3 : a1 % 2 ^ 63 < Dy.top := of_decide_eq_true h2
   exact h3
  refine ⟨.tuple #[.float .f64 (norm1 a1), .int .i64 (norm2 a1)], ?_, (normalize_any a1 w w1 hf).mono fun e w2 ⟨h1, h2⟩ => ⟨h1, by subst h2; exact Below.refl _ _⟩⟩
  unfold den
  rw [denL_cons.2 ⟨_, _, fl_den (n := norm1 a1) rfl (W_norm1 w1 hf), denL_cons.2 ⟨_, [], it_den (n := norm2 a1) rfl, rfl, rfl⟩, rfl⟩]
def tL0 : List (Nat × Ct) := (156, ctFarT) :: (169, ctNormT) :: tG0
theorem tL0_ok : AllOk Tryz.prog tL0 := ⟨farT_ct, normT_ct, tG0_ok⟩
end Go.Proofs.YtkhplflbcgjkcaaGreat
