/- Walks: ways of burnishref02.Right. Walks: burnishref02.Right. -/
import Derived.Test.YtkhplflbcgjkcaaGreatAc
/-! Walks: ways of burnishref02.Right. -/
namespace Go.Proofs.YtkhplflbcgjkcaaGreat
open Go Go.RowKit
set_option linter.unusedSimpArgs false
set_option linter.unusedVariables false
def gT0 : List (Nat × Ct) := (118, ctO2 Dy.dAdd) :: (60, ctO2 Dy.dSub) :: (104, ctO2 Dy.dMul) :: (126, ctO2 Dy.dDiv) :: (131, ctO1 Dy.dSqrt) :: (83, ctO1 Dy.dNext) :: (58, ctRight) :: (17, ctIvR) :: (19, ctHas) :: (65, ctC2 Dy.cAdd) :: (66, ctC2 Dy.cSub) :: (42, ctC2 Dy.cMul) :: (67, ctC2 Dy.cDiv) :: (70, ctC1 Dy.cSqr) :: (71, ctC1 Dy.cSqrt) :: (43, ctC0 Dy.cNum) :: uA0
theorem gT0_ok : AllOk Tryz.prog gT0 := ⟨add_ct, sub_ct, mul_ct, div_ct, sqrt_ct, next_ct, right_ct, ivR_ct, has_ct, cAdd_ct, cSub_ct, cMul_ct, cDiv_ct, cSqr_ct, cSqrt_ct, cNum_ct, uA0_ok⟩
def ud0 : List (Nat × Ct) := gT0
theorem ud0_ok : AllOk Tryz.prog ud0 := gT0_ok
set_option maxRecDepth 100000 in
set_option maxHeartbeats 4000000 in
theorem right02_0 (a b : Nat) (w : World) (ha : Dy.W a) (hb : Dy.W b) {t0 : Bool} (h0 : ((rrT (a))) = true) (h1 : ((rrT (b))) = true) (h2 : (Dy.flt a b || Dy.feq a b) = t0)  : Calls Tryz.prog 18 #[.agg #[.float .f64 a, .float .f64 b]] w fun e w' => e = .returned (.bool t0) ∧ Below w.heap.size w w' := by
 refine boo_calls (vs := [.agg #[.float .f64 a, .float .f64 b]]) (us := [.f a, .f b]) (args := [vp 0 1]) ud0_ok (dr_ok ud0_ok) Tryz.func18 [] 200 2 rfl [true, true] (t := .bind ⟨fun us i => bRes (rrT (gF us 0)) i, 1, [(.v 0)]⟩ (.need ⟨pT, [(.v 2)]⟩ (.bind ⟨fun us i => bRes (rrT (gF us 0)) i, 1, [(.v 1)]⟩ (.need ⟨pT, [(.v 3)]⟩ (.bind ⟨fun us _ => cB (fun a b => Dy.flt a b || Dy.feq a b) us, 1, [(.v 0), (.v 1)]⟩ (.done .ret ⟨[.bo (.v 4)], [], 5, []⟩)))))) (by kernel_rfl) ?_ (denL_cons.2 ⟨_, _, (agg_mk (denL_cons.2 ⟨_, _, (fl_den rfl ha), (denL_cons.2 ⟨_, _, (fl_den rfl hb), rfl, rfl⟩), rfl⟩)), rfl, rfl⟩)
 refine T.HH.h ?_
 refine T.hbind rfl (congrArg (fun r => [U.b r]) h0) rfl ?_
 refine T.hneed rfl (rfl) ?_
 refine T.hbind rfl (congrArg (fun r => [U.b r]) h1) rfl ?_
 refine T.hneed rfl (rfl) ?_
 refine T.hbind rfl (congrArg (fun r => [U.b r]) h2) rfl ?_
 exact T.hdone rfl
set_option maxRecDepth 100000 in
set_option maxHeartbeats 4000000 in
theorem right02_1 (a b : Nat) (w : World) (ha : Dy.W a) (hb : Dy.W b) (h0 : ((rrT (a))) = false)  : Calls Tryz.prog 18 #[.agg #[.float .f64 a, .float .f64 b]] w fun e w' => e = .returned (.bool false) ∧ Below w.heap.size w w' := by
 refine boo_calls (vs := [.agg #[.float .f64 a, .float .f64 b]]) (us := [.f a, .f b]) (args := [vp 0 1]) ud0_ok (dr_ok ud0_ok) Tryz.func18 [] 200 2 rfl [false] (t := .bind ⟨fun us i => bRes (rrT (gF us 0)) i, 1, [(.v 0)]⟩ (.need ⟨pF, [(.v 2)]⟩ (.done .ret ⟨[.bo (.l (.b false))], [], 3, []⟩))) (by kernel_rfl) ?_ (denL_cons.2 ⟨_, _, (agg_mk (denL_cons.2 ⟨_, _, (fl_den rfl ha), (denL_cons.2 ⟨_, _, (fl_den rfl hb), rfl, rfl⟩), rfl⟩)), rfl, rfl⟩)
 refine T.HH.h ?_
 refine T.hbind rfl (congrArg (fun r => [U.b r]) h0) rfl ?_
 refine T.hneed rfl (rfl) ?_
 exact T.hdone rfl
set_option maxRecDepth 100000 in
set_option maxHeartbeats 4000000 in
theorem right02_2 (a b : Nat) (w : World) (ha : Dy.W a) (hb : Dy.W b) (h0 : ((rrT (a))) = true) (h1 : ((rrT (b))) = false)  : Calls Tryz.prog 18 #[.agg #[.float .f64 a, .float .f64 b]] w fun e w' => e = .returned (.bool false) ∧ Below w.heap.size w w' := by
 refine boo_calls (vs := [.agg #[.float .f64 a, .float .f64 b]]) (us := [.f a, .f b]) (args := [vp 0 1]) ud0_ok (dr_ok ud0_ok) Tryz.func18 [] 200 2 rfl [true, false] (t := .bind ⟨fun us i => bRes (rrT (gF us 0)) i, 1, [(.v 0)]⟩ (.need ⟨pT, [(.v 2)]⟩ (.bind ⟨fun us i => bRes (rrT (gF us 0)) i, 1, [(.v 1)]⟩ (.need ⟨pF, [(.v 3)]⟩ (.done .ret ⟨[.bo (.l (.b false))], [], 4, []⟩))))) (by kernel_rfl) ?_ (denL_cons.2 ⟨_, _, (agg_mk (denL_cons.2 ⟨_, _, (fl_den rfl ha), (denL_cons.2 ⟨_, _, (fl_den rfl hb), rfl, rfl⟩), rfl⟩)), rfl, rfl⟩)
 refine T.HH.h ?_
 refine T.hbind rfl (congrArg (fun r => [U.b r]) h0) rfl ?_
 refine T.hneed rfl (rfl) ?_
 refine T.hbind rfl (congrArg (fun r => [U.b r]) h1) rfl ?_
 refine T.hneed rfl (rfl) ?_
 exact T.hdone rfl
end Go.Proofs.YtkhplflbcgjkcaaGreat
/-! Walks: burnishref02.Right. -/
namespace Go.Proofs.YtkhplflbcgjkcaaGreat
open Go Go.RowKit
set_option linter.unusedSimpArgs false
set_option linter.unusedVariables false
open Dy
theorem right02_any (a b : Nat) (w : World) (ha : Dy.W a) (hb : Dy.W b) : Calls Tryz.prog 18 #[.agg #[.float .f64 a, .float .f64 b]] w fun e w' => e = .returned (.bool (ivR (a, b))) ∧ Below w.heap.size w w' := by
 have ra' := rrT_right ha
 have rb' := rrT_right hb
 cases ra : right a with
 | false =>
  have e : ivR (a, b) = false := by unfold ivR; rw [ra]; rfl
  rw [e]; exact right02_1 a b w ha hb (by rw [ra', ra])
 | true =>
  cases rb : right b with
  | false =>
   have e : ivR (a, b) = false := by unfold ivR; rw [ra, rb]; rfl
   rw [e]; exact right02_2 a b w ha hb (by rw [ra', ra]) (by rw [rb', rb])
  | true =>
   have e : ivR (a, b) = decide (dec a ≤ dec b) := by unfold ivR; rw [ra, rb]; rfl
   rw [e]; exact right02_0 a b w ha hb (by rw [ra', ra]) (by rw [rb', rb]) (fle_dec ha hb ra rb)
def ctR02 : Ct := ctP 2 [vp 0 1] (fIv1 Dy.ivR) 1 (vb 2)
theorem R02_ct : CtOk Tryz.prog 18 ctR02 := by
 refine ctP_ok (en Tryz.func18 rfl (by decide)) rfl rfl (fun us w vs hl hv _ => ?_) rfl
 match us, hl with
 | [u0, u1], _ =>
  obtain ⟨x, y, hx, hy, rfl⟩ := denL_cons.1 hv
  rw [denL_nil.1 hy]
  obtain ⟨xs, h1, rfl⟩ := den_agg hx
  obtain ⟨p, q, h2, h3, rfl⟩ := denL_cons.1 h1
  obtain ⟨r, s, h4, h5, rfl⟩ := denL_cons.1 h3
  rw [denL_nil.1 h5]
  obtain ⟨a1, e1, w1, rfl⟩ := den_fl h2
  obtain ⟨a2, e2, w2, rfl⟩ := den_fl h4
  simp [E.ev] at e1 e2
  subst e1 e2
  exact ⟨.bool (ivR (a1, a2)), bo_den rfl, right02_any a1 a2 w w1 w2⟩
def uE0 : List (Nat × Ct) := (18, ctR02) :: gT0
theorem uE0_ok : AllOk Tryz.prog uE0 := ⟨R02_ct, gT0_ok⟩
end Go.Proofs.YtkhplflbcgjkcaaGreat
