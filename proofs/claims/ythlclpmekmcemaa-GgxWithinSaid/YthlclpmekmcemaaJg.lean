/- The law GgxWithin: walk and plain law joined. -/
import Derived.Test.YthlclpmekmcemaaGb
import Derived.Test.YthlclpmekmcemaaJw
namespace Go.Proofs.Ythlclpmekmcemaa
open Go Go.RowKit

theorem ge_ok {l y : Int} {a : Nat} (ha : a = Dy.enc l) (ol : Dy.ok l) (oy : Dy.ok y) (h : l ≤ y) : (Dy.fgt (Dy.enc y) a || Dy.feq (Dy.enc y) a) = true := by
  subst ha
  rw [Dy.fgt_enc oy ol, Dy.feq_enc oy ol]
  by_cases c : l < y
  · rw [decide_eq_true c]; rfl
  · rw [decide_eq_false c, decide_eq_true (show y = l by omega)]; rfl
theorem le_ok {l y : Int} {a : Nat} (ha : a = Dy.enc l) (ol : Dy.ok l) (oy : Dy.ok y) (h : y ≤ l) : (Dy.flt (Dy.enc y) a || Dy.feq (Dy.enc y) a) = true := by
  subst ha
  rw [Dy.fle_enc oy ol, decide_eq_true h]
theorem gA_ok {p : Int × Int} (hp : Dy.Rk p) (w : Dy.Wi p (4584664420663164928, 4607182418800017408)) : gA (Dy.enc p.1, Dy.enc p.2) = true := by
  unfold gA
  rw [show Dy.ivR (Dy.enc p.1, Dy.enc p.2) = true from hp.E_R, show (Dy.fgt (Dy.enc p.1) 4584664420663164928 || Dy.feq (Dy.enc p.1) 4584664420663164928) = true from ge_ok (l := 4584664420663164928) (by decide) (Dy.ok_B (by decide) (by decide)) hp.lo w.lo,
    show (Dy.flt (Dy.enc p.2) 4607182418800017408 || Dy.feq (Dy.enc p.2) 4607182418800017408) = true from le_ok (l := 4607182418800017408) (by decide) (Dy.ok_B (by decide) (by decide)) hp.hi w.hi]; rfl
theorem gC_ok {p : Int × Int} (hp : Dy.Rk p) (w : Dy.Wi p (0, 4607182418800017408)) : gC (Dy.enc p.1, Dy.enc p.2) = true := by
  unfold gC
  rw [show Dy.ivR (Dy.enc p.1, Dy.enc p.2) = true from hp.E_R, show (Dy.fgt (Dy.enc p.1) 0 || Dy.feq (Dy.enc p.1) 0) = true from ge_ok (l := 0) rfl Dy.ok_zero hp.lo w.lo,
    show (Dy.flt (Dy.enc p.2) 4607182418800017408 || Dy.feq (Dy.enc p.2) 4607182418800017408) = true from le_ok (l := 4607182418800017408) (by decide) (Dy.ok_B (by decide) (by decide)) hp.hi w.hi]; rfl
theorem nG1_ok {p q : Int × Int} (hp : Dy.Rk p) (w : Dy.Wi p (4584664420663164928, 4607182418800017408)) (hq : Dy.Rk q) (u : Dy.Wi q (0, 4607182418800017408)) : nG1 [.f (Dy.enc p.1), .f (Dy.enc p.2), .f (Dy.enc q.1), .f (Dy.enc q.2)] = true := by
  show (gA (Dy.enc p.1, Dy.enc p.2) && gC (Dy.enc q.1, Dy.enc q.2)) = true
  rw [gA_ok hp w, gC_ok hq u]; rfl
theorem nG2_ok {p q r : Int × Int} (hp : Dy.Rk p) (w : Dy.Wi p (4584664420663164928, 4607182418800017408)) (hq : Dy.Rk q) (u : Dy.Wi q (0, 4607182418800017408)) (hr : Dy.Rk r) (v : Dy.Wi r (0, 4607182418800017408)) : nG2 [.f (Dy.enc p.1), .f (Dy.enc p.2), .f (Dy.enc q.1), .f (Dy.enc q.2), .f (Dy.enc r.1), .f (Dy.enc r.2)] = true := by
  show (gA (Dy.enc p.1, Dy.enc p.2) && gC (Dy.enc q.1, Dy.enc q.2) && gC (Dy.enc r.1, Dy.enc r.2)) = true
  rw [gA_ok hp w, gC_ok hq u, gC_ok hr v]; rfl
theorem same_ok {x y : Dy.Cm (Nat × Nat)} (h : Dy.MF Dy.Wn x y) : sameW ((Dy.told (x 0)).1.1, (Dy.told (x 0)).1.2) (Dy.told (x 0)).2 ((Dy.told (y 0)).1.1, (Dy.told (y 0)).1.2) (Dy.told (y 0)).2 = true := by
  unfold sameW
  by_cases h0 : (Dy.told (x 0)).2 = 0
  · obtain ⟨a, b⟩ := h.told h0
    rw [h0, a, show inW ((Dy.told (y 0)).1.1, (Dy.told (y 0)).1.2) ((Dy.told (x 0)).1.1, (Dy.told (x 0)).1.2) = true from inW_of b]; rfl
  · rw [show ((Dy.told (x 0)).2 != 0) = true from bne_iff_ne.2 h0]; rfl
set_option maxRecDepth 100000 in
set_option maxHeartbeats 4000000 in
theorem gwithin_any (u0 u1 u2 u3 u4 u5 v0 v1 v2 v3 v4 v5 : Nat) (w : World) (k0 : u0 < 4294967296) (k1 : u1 < 4294967296) (k2 : u2 < 4294967296) (k3 : u3 < 4294967296) (k4 : u4 < 4294967296) (k5 : u5 < 4294967296) (l0 : v0 < 4294967296) (l1 : v1 < 4294967296) (l2 : v2 < 4294967296) (l3 : v3 < 4294967296) (l4 : v4 < 4294967296) (l5 : v5 < 4294967296) :
    Calls Try.prog 10 #[.agg #[.int .u32 u0, .int .u32 u1, .int .u32 u2, .int .u32 u3, .int .u32 u4, .int .u32 u5], .agg #[.int .u32 v0, .int .u32 v1, .int .u32 v2, .int .u32 v3, .int .u32 v4, .int .u32 v5]] w fun e w' => e = .returned (.bool true) ∧ Below w.heap.size w w' := by
  obtain ⟨n0, p0, hp0, wp0, ep0⟩ := spanL (l := 0) (h := 4607182418800017408) (a := 0) (b := 4607182418800017408) rfl (by decide) (by decide) (by decide) (by decide) k0 k1
  obtain ⟨n1, p1, hp1, wp1, ep1⟩ := spanL (l := 0) (h := 4607182418800017408) (a := 0) (b := 4607182418800017408) rfl (by decide) (by decide) (by decide) (by decide) k2 k3
  obtain ⟨n2, p2, hp2, wp2, ep2⟩ := spanL (l := 4584664420663164928) (h := 4607182418800017408) (a := 4584664420663164928) (b := 4607182418800017408) (by decide) (by decide) (by decide) (by decide) (by decide) k4 k5
  obtain ⟨m0, q0, hq0, wq0, eq0⟩ := span_inner hp0 wp0 (by decide) (by decide) l0 l1
  obtain ⟨m1, q1, hq1, wq1, eq1⟩ := span_inner hp1 wp1 (by decide) (by decide) l2 l3
  obtain ⟨m2, q2, hq2, wq2, eq2⟩ := span_inner hp2 wp2 (by decide) (by decide) l4 l5
  have wt0 := wi_trans wq0 wp0
  have wt1 := wi_trans wq1 wp1
  have wt2 := wi_trans wq2 wp2
  exact gwithin_ok u0 u1 u2 u3 u4 u5 v0 v1 v2 v3 v4 v5 w ep0 n0 ep1 n1 ep2 n2 eq0 m0 eq1 m1 eq2 m2 (pair3' _) (nG1_ok hp2 wp2 hp0 wp0) (pair3' _) (nG1_ok hq2 wt2 hq0 wt0) (pair3' _) (pair3' _) (pair3' _) (nG2_ok hp2 wp2 hp0 wp0 hp1 wp1) (pair3' _) (nG2_ok hq2 wt2 hq0 wt0 hq1 wt1) (pair3' _) (pair3' _)
    (same_ok (dM_mf (wn_mk hp0 hq0 wq0) (wn_mk hp2 hq2 wq2))) (same_ok (lambdaM_mf (wn_mk hp0 hq0 wq0) (wn_mk hp2 hq2 wq2))) (same_ok (g2M_mf (wn_mk hp0 hq0 wq0) (wn_mk hp1 hq1 wq1) (wn_mk hp2 hq2 wq2))) (same_ok (facingM_mf (wn_mk hp0 hq0 wq0) (wn_mk hp2 hq2 wq2)))
end Go.Proofs.Ythlclpmekmcemaa
