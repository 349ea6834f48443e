/- The law OrenWithin: walk and plain law joined. -/
import Derived.Test.YthlclpmekmcemaaYz
import Derived.Test.YthlclpmekmcemaaJw
namespace Go.Proofs.Ythlclpmekmcemaa
open Go Go.RowKit

theorem oPair_told {p1 : Int × Int} (hp1 : Dy.Rk p1) (wp1 : Dy.Wi p1 (0, 4607182418800017408)) : oPair (Dy.enc p1.1, Dy.enc p1.2) = told2 (pairM (Dy.enc p1.1, Dy.enc p1.2) 0) := by
  have k : oL1 (Dy.enc p1.1, Dy.enc p1.2) 0 4607182418800017408 = 0 := by
    unfold oL1
    rw [if_pos (by rw [show Dy.ivR (Dy.enc p1.1, Dy.enc p1.2) = true from hp1.E_R]), if_pos (by rw [show wiB 0 4607182418800017408 (Dy.enc p1.1, Dy.enc p1.2) = true from wiB_ok (l := 0) (h := 4607182418800017408) rfl (by decide) Dy.ok_zero (Dy.ok_B (by decide) (by decide)) hp1 wp1])]
  unfold oPair
  rw [if_neg (by rw [k]; decide)]
theorem oSlope_told {p2 : Int × Int} {p3 : Int × Int} {p4 : Int × Int} (hp2 : Dy.Rk p2) (wp2 : Dy.Wi p2 (0, 4607182418800017408)) (hp3 : Dy.Rk p3) (wp3 : Dy.Wi p3 (0, 4607182418800017408)) (hp4 : Dy.Rk p4) (wp4 : Dy.Wi p4 ((-4607182418800017408), 4607182418800017408)) : oSlope (Dy.enc p2.1, Dy.enc p2.2) (Dy.enc p3.1, Dy.enc p3.2) (Dy.enc p4.1, Dy.enc p4.2) = Dy.told (slopeM (Dy.enc p2.1, Dy.enc p2.2) (Dy.enc p3.1, Dy.enc p3.2) (Dy.enc p4.1, Dy.enc p4.2) 0) := by
  have k : oL3 (Dy.enc p2.1, Dy.enc p2.2) (Dy.enc p3.1, Dy.enc p3.2) (Dy.enc p4.1, Dy.enc p4.2) 0 4607182418800017408 0 4607182418800017408 13830554455654793216 4607182418800017408 = 0 := by
    unfold oL3
    rw [if_pos (by rw [show Dy.ivR (Dy.enc p2.1, Dy.enc p2.2) = true from hp2.E_R, show Dy.ivR (Dy.enc p3.1, Dy.enc p3.2) = true from hp3.E_R, show Dy.ivR (Dy.enc p4.1, Dy.enc p4.2) = true from hp4.E_R]; rfl), if_pos (by rw [show wiB 0 4607182418800017408 (Dy.enc p2.1, Dy.enc p2.2) = true from wiB_ok (l := 0) (h := 4607182418800017408) rfl (by decide) Dy.ok_zero (Dy.ok_B (by decide) (by decide)) hp2 wp2, show wiB 0 4607182418800017408 (Dy.enc p3.1, Dy.enc p3.2) = true from wiB_ok (l := 0) (h := 4607182418800017408) rfl (by decide) Dy.ok_zero (Dy.ok_B (by decide) (by decide)) hp3 wp3, show wiB 13830554455654793216 4607182418800017408 (Dy.enc p4.1, Dy.enc p4.2) = true from wiB_ok (l := (-4607182418800017408)) (h := 4607182418800017408) (by decide) (by decide) (Dy.ok_neg (Dy.ok_B (by decide) (by decide))) (Dy.ok_B (by decide) (by decide)) hp4 wp4]; rfl)]
  unfold oSlope
  rw [if_neg (by rw [k]; decide)]
theorem oVal_told {p0 : Int × Int} {p1 : Int × Int} {p2 : Int × Int} {p3 : Int × Int} {p4 : Int × Int} (hp0 : Dy.Rk p0) (wp0 : Dy.Wi p0 (0, 4607182418800017408)) (hp1 : Dy.Rk p1) (wp1 : Dy.Wi p1 (0, 4607182418800017408)) (hp2 : Dy.Rk p2) (wp2 : Dy.Wi p2 (0, 4607182418800017408)) (hp3 : Dy.Rk p3) (wp3 : Dy.Wi p3 (0, 4607182418800017408)) (hp4 : Dy.Rk p4) (wp4 : Dy.Wi p4 ((-4607182418800017408), 4607182418800017408)) : oVal (Dy.enc p0.1, Dy.enc p0.2) (Dy.enc p1.1, Dy.enc p1.2) (Dy.enc p2.1, Dy.enc p2.2) (Dy.enc p3.1, Dy.enc p3.2) (Dy.enc p4.1, Dy.enc p4.2) = Dy.told (orenM (Dy.enc p0.1, Dy.enc p0.2) (Dy.enc p1.1, Dy.enc p1.2) (Dy.enc p2.1, Dy.enc p2.2) (Dy.enc p3.1, Dy.enc p3.2) (Dy.enc p4.1, Dy.enc p4.2) 0) := by
  have k : oL5 (Dy.enc p0.1, Dy.enc p0.2) (Dy.enc p1.1, Dy.enc p1.2) (Dy.enc p2.1, Dy.enc p2.2) (Dy.enc p3.1, Dy.enc p3.2) (Dy.enc p4.1, Dy.enc p4.2) 0 4607182418800017408 0 4607182418800017408 0 4607182418800017408 0 4607182418800017408 13830554455654793216 4607182418800017408 = 0 := by
    unfold oL5
    rw [if_pos (by rw [show Dy.ivR (Dy.enc p0.1, Dy.enc p0.2) = true from hp0.E_R, show Dy.ivR (Dy.enc p1.1, Dy.enc p1.2) = true from hp1.E_R, show Dy.ivR (Dy.enc p2.1, Dy.enc p2.2) = true from hp2.E_R, show Dy.ivR (Dy.enc p3.1, Dy.enc p3.2) = true from hp3.E_R, show Dy.ivR (Dy.enc p4.1, Dy.enc p4.2) = true from hp4.E_R]; rfl), if_pos (by rw [show wiB 0 4607182418800017408 (Dy.enc p0.1, Dy.enc p0.2) = true from wiB_ok (l := 0) (h := 4607182418800017408) rfl (by decide) Dy.ok_zero (Dy.ok_B (by decide) (by decide)) hp0 wp0, show wiB 0 4607182418800017408 (Dy.enc p1.1, Dy.enc p1.2) = true from wiB_ok (l := 0) (h := 4607182418800017408) rfl (by decide) Dy.ok_zero (Dy.ok_B (by decide) (by decide)) hp1 wp1, show wiB 0 4607182418800017408 (Dy.enc p2.1, Dy.enc p2.2) = true from wiB_ok (l := 0) (h := 4607182418800017408) rfl (by decide) Dy.ok_zero (Dy.ok_B (by decide) (by decide)) hp2 wp2, show wiB 0 4607182418800017408 (Dy.enc p3.1, Dy.enc p3.2) = true from wiB_ok (l := 0) (h := 4607182418800017408) rfl (by decide) Dy.ok_zero (Dy.ok_B (by decide) (by decide)) hp3 wp3, show wiB 13830554455654793216 4607182418800017408 (Dy.enc p4.1, Dy.enc p4.2) = true from wiB_ok (l := (-4607182418800017408)) (h := 4607182418800017408) (by decide) (by decide) (Dy.ok_neg (Dy.ok_B (by decide) (by decide))) (Dy.ok_B (by decide) (by decide)) hp4 wp4]; rfl)]
  unfold oVal
  rw [if_neg (by rw [k]; decide)]

theorem told2_ok {r : ((Nat × Nat) × (Nat × Nat)) × Int} (h : r.2 = 0) : told2 r = (r.1, 0) := by
  unfold told2; rw [if_neg (by rw [h]; decide)]
theorem pair_no : (pairM (0, 4607182418800017408) 0).2 = 0 := by decide +kernel
theorem pair_ok {p : Int × Int} (hp : Dy.Rk p) (wp : Dy.Wi p (0, 4607182418800017408)) : (pairM (Dy.enc p.1, Dy.enc p.2) 0).2 = 0 := by
  have w : Dy.Wn (0, 4607182418800017408) (Dy.enc p.1, Dy.enc p.2) := ⟨(0, 4607182418800017408), p, (by decide), rfl, ⟨Dy.ok_zero, Dy.ok_B (by decide) (by decide), by decide⟩, hp, wp⟩
  exact (pairM_mf w 0 pair_no).1
set_option maxRecDepth 100000 in
set_option maxHeartbeats 4000000 in
theorem owithin_any (u0 u1 u2 u3 u4 u5 u6 u7 u8 u9 v0 v1 v2 v3 v4 v5 v6 v7 v8 v9 : Nat) (w : World) (k0 : u0 < 4294967296) (k1 : u1 < 4294967296) (k2 : u2 < 4294967296) (k3 : u3 < 4294967296) (k4 : u4 < 4294967296) (k5 : u5 < 4294967296) (k6 : u6 < 4294967296) (k7 : u7 < 4294967296) (k8 : u8 < 4294967296) (k9 : u9 < 4294967296) (l0 : v0 < 4294967296) (l1 : v1 < 4294967296) (l2 : v2 < 4294967296) (l3 : v3 < 4294967296) (l4 : v4 < 4294967296) (l5 : v5 < 4294967296) (l6 : v6 < 4294967296) (l7 : v7 < 4294967296) (l8 : v8 < 4294967296) (l9 : v9 < 4294967296) :
    Calls Try.prog 3 #[.agg #[.int .u32 u0, .int .u32 u1, .int .u32 u2, .int .u32 u3, .int .u32 u4, .int .u32 u5, .int .u32 u6, .int .u32 u7, .int .u32 u8, .int .u32 u9], .agg #[.int .u32 v0, .int .u32 v1, .int .u32 v2, .int .u32 v3, .int .u32 v4, .int .u32 v5, .int .u32 v6, .int .u32 v7, .int .u32 v8, .int .u32 v9]] w fun e w' => e = .returned (.bool true) ∧ Below w.heap.size w w' := by
  obtain ⟨n0, p0, hp0, wp0, ep0⟩ := spanL (l := 0) (h := 4607182418800017408) (a := 0) (b := 4607182418800017408) rfl (by decide) (by decide) (by decide) (by decide) k0 k1
  obtain ⟨n1, p1, hp1, wp1, ep1⟩ := spanL (l := 0) (h := 4607182418800017408) (a := 0) (b := 4607182418800017408) rfl (by decide) (by decide) (by decide) (by decide) k2 k3
  obtain ⟨n2, p2, hp2, wp2, ep2⟩ := spanL (l := 0) (h := 4607182418800017408) (a := 0) (b := 4607182418800017408) rfl (by decide) (by decide) (by decide) (by decide) k4 k5
  obtain ⟨n3, p3, hp3, wp3, ep3⟩ := spanL (l := 0) (h := 4607182418800017408) (a := 0) (b := 4607182418800017408) rfl (by decide) (by decide) (by decide) (by decide) k6 k7
  obtain ⟨n4, p4, hp4, wp4, ep4⟩ := spanL (l := (-4607182418800017408)) (h := 4607182418800017408) (a := 13830554455654793216) (b := 4607182418800017408) (by decide) (by decide) (by decide) (by decide) (by decide) k8 k9
  obtain ⟨m0, q0, hq0, wq0, eq0⟩ := span_inner hp0 wp0 (by decide) (by decide) l0 l1
  obtain ⟨m1, q1, hq1, wq1, eq1⟩ := span_inner hp1 wp1 (by decide) (by decide) l2 l3
  obtain ⟨m2, q2, hq2, wq2, eq2⟩ := span_inner hp2 wp2 (by decide) (by decide) l4 l5
  obtain ⟨m3, q3, hq3, wq3, eq3⟩ := span_inner hp3 wp3 (by decide) (by decide) l6 l7
  obtain ⟨m4, q4, hq4, wq4, eq4⟩ := span_inner hp4 wp4 (by decide) (by decide) l8 l9
  have wt0 := wi_trans wq0 wp0
  have wt1 := wi_trans wq1 wp1
  have wt2 := wi_trans wq2 wp2
  have wt3 := wi_trans wq3 wp3
  have wt4 := wi_trans wq4 wp4
  have nn : ∀ {p : Int × Int}, Dy.Rk p → Dy.Wi p (0, 4607182418800017408) → ∀ r, (Dy.enc p.1, Dy.enc p.2) = Dy.E r → Dy.Rk r → 0 ≤ r.1 := by
    intro p hp wp r hr kr
    have := E_inj hp kr hr; subst this; exact wp.lo
  have V : (oVal (Dy.enc p0.1, Dy.enc p0.2) (Dy.enc p1.1, Dy.enc p1.2) (Dy.enc p2.1, Dy.enc p2.2) (Dy.enc p3.1, Dy.enc p3.2) (Dy.enc p4.1, Dy.enc p4.2)).2 = 0 → (oVal (Dy.enc q0.1, Dy.enc q0.2) (Dy.enc q1.1, Dy.enc q1.2) (Dy.enc q2.1, Dy.enc q2.2) (Dy.enc q3.1, Dy.enc q3.2) (Dy.enc q4.1, Dy.enc q4.2)).2 = 0 ∧ Dy.Wn (oVal (Dy.enc p0.1, Dy.enc p0.2) (Dy.enc p1.1, Dy.enc p1.2) (Dy.enc p2.1, Dy.enc p2.2) (Dy.enc p3.1, Dy.enc p3.2) (Dy.enc p4.1, Dy.enc p4.2)).1 (oVal (Dy.enc q0.1, Dy.enc q0.2) (Dy.enc q1.1, Dy.enc q1.2) (Dy.enc q2.1, Dy.enc q2.2) (Dy.enc q3.1, Dy.enc q3.2) (Dy.enc q4.1, Dy.enc q4.2)).1 := by
    rw [oVal_told hp0 wp0 hp1 wp1 hp2 wp2 hp3 wp3 hp4 wp4, oVal_told hq0 wt0 hq1 wt1 hq2 wt2 hq3 wt3 hq4 wt4]
    exact (orenM_mf (wn_mk hp0 hq0 wq0) (wn_mk hp1 hq1 wq1) (wn_mk hp2 hq2 wq2) (wn_mk hp3 hq3 wq3) (wn_mk hp4 hq4 wq4) (nn hp2 wp2) (nn hp3 wp3)).told
  have S : (oSlope (Dy.enc p2.1, Dy.enc p2.2) (Dy.enc p3.1, Dy.enc p3.2) (Dy.enc p4.1, Dy.enc p4.2)).2 = 0 → (oSlope (Dy.enc q2.1, Dy.enc q2.2) (Dy.enc q3.1, Dy.enc q3.2) (Dy.enc q4.1, Dy.enc q4.2)).2 = 0 ∧ Dy.Wn (oSlope (Dy.enc p2.1, Dy.enc p2.2) (Dy.enc p3.1, Dy.enc p3.2) (Dy.enc p4.1, Dy.enc p4.2)).1 (oSlope (Dy.enc q2.1, Dy.enc q2.2) (Dy.enc q3.1, Dy.enc q3.2) (Dy.enc q4.1, Dy.enc q4.2)).1 := by
    rw [oSlope_told hp2 wp2 hp3 wp3 hp4 wp4, oSlope_told hq2 wt2 hq3 wt3 hq4 wt4]
    exact (slopeM_mf (wn_mk hp2 hq2 wq2) (wn_mk hp3 hq3 wq3) (wn_mk hp4 hq4 wq4) (nn hp2 wp2) (nn hp3 wp3)).told
  have a1 := pair_ok hp1 wp1
  have a2 := pair_ok hq1 wt1
  have e1 : (oPair (Dy.enc p1.1, Dy.enc p1.2)).2 = 0 := by rw [oPair_told hp1 wp1, told2_ok a1]
  have e2 : (oPair (Dy.enc q1.1, Dy.enc q1.2)).2 = 0 := by rw [oPair_told hq1 wt1, told2_ok a2]
  have e3 : Dy.Wn (oPair (Dy.enc p1.1, Dy.enc p1.2)).1.1 (oPair (Dy.enc q1.1, Dy.enc q1.2)).1.1 ∧ Dy.Wn (oPair (Dy.enc p1.1, Dy.enc p1.2)).1.2 (oPair (Dy.enc q1.1, Dy.enc q1.2)).1.2 := by
    rw [oPair_told hp1 wp1, told2_ok a1, oPair_told hq1 wt1, told2_ok a2]
    exact (pairM_mf (wn_mk hp1 hq1 wq1) 0 a1).2
  by_cases hv : (oVal (Dy.enc p0.1, Dy.enc p0.2) (Dy.enc p1.1, Dy.enc p1.2) (Dy.enc p2.1, Dy.enc p2.2) (Dy.enc p3.1, Dy.enc p3.2) (Dy.enc p4.1, Dy.enc p4.2)).2 = 0 <;> by_cases hs : (oSlope (Dy.enc p2.1, Dy.enc p2.2) (Dy.enc p3.1, Dy.enc p3.2) (Dy.enc p4.1, Dy.enc p4.2)).2 = 0
  · obtain ⟨d1, d2⟩ := V hv
    obtain ⟨c1, c2⟩ := S hs
    exact owithin_oo u0 u1 u2 u3 u4 u5 u6 u7 u8 u9 v0 v1 v2 v3 v4 v5 v6 v7 v8 v9 w ep0 ep1 ep2 ep3 ep4 n0 n1 n2 n3 n4 eq0 m0 eq1 m1 eq2 m2 eq3 m3 eq4 m4 (pair3' _) (pair3' _) (pair3' _) (pair3' _) (beq_iff_eq.2 hv) (bne_eq_false_iff_eq.2 d1) (inW_of d2) (beq_iff_eq.2 hs) (bne_eq_false_iff_eq.2 c1) (inW_of c2) (pair5' _) (pair5' _) (beq_iff_eq.2 e1) (beq_iff_eq.2 e2) (inW_of e3.1) (inW_of e3.2)
  · obtain ⟨d1, d2⟩ := V hv
    exact owithin_oe u0 u1 u2 u3 u4 u5 u6 u7 u8 u9 v0 v1 v2 v3 v4 v5 v6 v7 v8 v9 w ep0 ep1 ep2 ep3 ep4 n0 n1 n2 n3 n4 eq0 m0 eq1 m1 eq2 m2 eq3 m3 eq4 m4 (pair3' _) (pair3' _) (pair3' _) (pair3' _) (beq_iff_eq.2 hv) (bne_eq_false_iff_eq.2 d1) (inW_of d2) (beq_eq_false_iff_ne.2 hs) (pair5' _) (pair5' _) (beq_iff_eq.2 e1) (beq_iff_eq.2 e2) (inW_of e3.1) (inW_of e3.2)
  · obtain ⟨c1, c2⟩ := S hs
    exact owithin_eo u0 u1 u2 u3 u4 u5 u6 u7 u8 u9 v0 v1 v2 v3 v4 v5 v6 v7 v8 v9 w ep0 ep1 ep2 ep3 ep4 n0 n1 n2 n3 n4 eq0 m0 eq1 m1 eq2 m2 eq3 m3 eq4 m4 (pair3' _) (pair3' _) (pair3' _) (pair3' _) (beq_eq_false_iff_ne.2 hv) (beq_iff_eq.2 hs) (bne_eq_false_iff_eq.2 c1) (inW_of c2) (pair5' _) (pair5' _) (beq_iff_eq.2 e1) (beq_iff_eq.2 e2) (inW_of e3.1) (inW_of e3.2)
  · exact owithin_ee u0 u1 u2 u3 u4 u5 u6 u7 u8 u9 v0 v1 v2 v3 v4 v5 v6 v7 v8 v9 w ep0 ep1 ep2 ep3 ep4 n0 n1 n2 n3 n4 eq0 m0 eq1 m1 eq2 m2 eq3 m3 eq4 m4 (pair3' _) (pair3' _) (pair3' _) (pair3' _) (beq_eq_false_iff_ne.2 hv) (beq_eq_false_iff_ne.2 hs) (pair5' _) (pair5' _) (beq_iff_eq.2 e1) (beq_iff_eq.2 e2) (inW_of e3.1) (inW_of e3.2)
end Go.Proofs.Ythlclpmekmcemaa
