/- The law VecHolds: walk and plain law joined. -/
import Derived.Test.YtikiegcncliocaaLa20
import Derived.Test.YtikiegcncliocaaSx
namespace Go.Proofs.Ytikiegcncliocaa
open Go Go.RowKit

theorem pair9h (r : V4 × Int) : r = (((r.1.1.1, r.1.1.2), (r.1.2.1.1, r.1.2.1.2), (r.1.2.2.1.1, r.1.2.2.1.2), (r.1.2.2.2.1, r.1.2.2.2.2)), r.2) := rfl
theorem rk_p {z : Int} (h : Dy.ok z) : Dy.Rk (z, z) := ⟨h, h, Int.le_refl _⟩
theorem wn_p {p : Int × Int} {z : Int} (hp : Dy.Rk p) (h : Dy.ok z) (h1 : p.1 ≤ z) (h2 : z ≤ p.2) : Dy.Wn (Dy.enc p.1, Dy.enc p.2) (Dy.enc z, Dy.enc z) := ⟨p, (z, z), rfl, rfl, hp, rk_p h, ⟨h1, h2⟩⟩
theorem wn_s {p : Int × Int} (hp : Dy.Rk p) : Dy.Wn (Dy.enc p.1, Dy.enc p.2) (Dy.enc p.1, Dy.enc p.2) := ⟨p, p, rfl, rfl, hp, hp, Dy.Wi.refl _⟩
theorem wrS7 {z : Int} (h0 : 0 ≤ z) (h1 : z < 1000) : IntKind.i64.wrap z = z := by rw [IntKind.wrap_i64]; omega
theorem ag_of {p q : Int × Int} {x y u v : Nat} (hp : Dy.Rk p) (hq : Dy.Rk q) (h : Dy.cAdd 0 (Dy.enc p.1, Dy.enc p.2) (Dy.enc q.1, Dy.enc q.2) = ((x, y), 0)) (k : Dy.cSub 0 (x, y) (Dy.enc q.1, Dy.enc q.2) = ((u, v), 0)) : with5 (u, v) (Dy.enc p.1, Dy.enc p.2) = true := by
  obtain ⟨_, s, gs⟩ := add_got0 hp hq (e := 0) (show (Dy.cAdd 0 (Dy.enc p.1, Dy.enc p.2) (Dy.enc q.1, Dy.enc q.2)).2 = 0 by rw [h])
  have e := gs.1
  rw [show Dy.cAdd 0 (Dy.E p) (Dy.E q) = ((x, y), 0) from h] at e
  have e : (x, y) = Dy.E s := congrArg Prod.fst e
  rw [e] at k
  obtain ⟨_, t, gt⟩ := sub_got0 gs.rk hq (e := 0) (show (Dy.cSub 0 (Dy.E s) (Dy.enc q.1, Dy.enc q.2)).2 = 0 by rw [k])
  have f := gt.1
  rw [show Dy.cSub 0 (Dy.E s) (Dy.E q) = ((u, v), 0) from k] at f
  have f : (u, v) = Dy.E t := congrArg Prod.fst f
  rw [f]
  exact with5_of ⟨t, p, rfl, rfl, gt.rk, hp, again_of hp hq gs gt⟩
attribute [local irreducible] madeG btwB with5
set_option maxRecDepth 100000 in
set_option maxHeartbeats 4000000 in
theorem vech_any (a1 a2 b1 b2 m1 m2 p1 p2 q1 q2 r1 r2 y1 y2 : Nat) (n0 n1 n2 n3 n4 n5 : Nat) (w : World) (wa1 : Dy.W a1) (wa2 : Dy.W a2) (wb1 : Dy.W b1) (wb2 : Dy.W b2) (wm1 : Dy.W m1) (wm2 : Dy.W m2) (wp1 : Dy.W p1) (wp2 : Dy.W p2) (wq1 : Dy.W q1) (wq2 : Dy.W q2) (wr1 : Dy.W r1) (wr2 : Dy.W r2) (wy1 : Dy.W y1) (wy2 : Dy.W y2) (k0 : n0 < 65536) (k1 : n1 < 65536) (k2 : n2 < 65536) (k3 : n3 < 65536) (k4 : n4 < 65536) (k5 : n5 < 65536) : Calls Try.prog 9 #[.agg #[.float .f64 a1, .float .f64 a2, .float .f64 b1, .float .f64 b2, .float .f64 m1, .float .f64 m2], .agg #[.float .f64 p1, .float .f64 p2, .float .f64 q1, .float .f64 q2, .float .f64 r1, .float .f64 r2], .agg #[.float .f64 y1, .float .f64 y2], .agg #[.int .u16 ((n0 : Nat) : Int), .int .u16 ((n1 : Nat) : Int), .int .u16 ((n2 : Nat) : Int), .int .u16 ((n3 : Nat) : Int), .int .u16 ((n4 : Nat) : Int), .int .u16 ((n5 : Nat) : Int)]] w fun e w' => e = .returned (.bool true) ∧ Below w.heap.size w w' := by
  by_cases Ra : Dy.ivR (a1, a2) = true
  case neg => exact vech_0 a1 a2 b1 b2 m1 m2 p1 p2 q1 q2 r1 r2 y1 y2 n0 n1 n2 n3 n4 n5 w wa1 wa2 wb1 wb2 wm1 wm2 wp1 wp2 wq1 wq2 wr1 wr2 wy1 wy2  (by simpa using Ra)
  by_cases Rb : Dy.ivR (b1, b2) = true
  case neg => exact vech_1 a1 a2 b1 b2 m1 m2 p1 p2 q1 q2 r1 r2 y1 y2 n0 n1 n2 n3 n4 n5 w wa1 wa2 wb1 wb2 wm1 wm2 wp1 wp2 wq1 wq2 wr1 wr2 wy1 wy2 Ra rfl (prt_ok k0) (by simpa using Rb)
  by_cases Rm : Dy.ivR (m1, m2) = true
  case neg => exact vech_2 a1 a2 b1 b2 m1 m2 p1 p2 q1 q2 r1 r2 y1 y2 n0 n1 n2 n3 n4 n5 w wa1 wa2 wb1 wb2 wm1 wm2 wp1 wp2 wq1 wq2 wr1 wr2 wy1 wy2 Ra rfl (prt_ok k0) Rb rfl (prt_ok k1) (by simpa using Rm)
  by_cases Rp : Dy.ivR (p1, p2) = true
  case neg => exact vech_3 a1 a2 b1 b2 m1 m2 p1 p2 q1 q2 r1 r2 y1 y2 n0 n1 n2 n3 n4 n5 w wa1 wa2 wb1 wb2 wm1 wm2 wp1 wp2 wq1 wq2 wr1 wr2 wy1 wy2 Ra rfl (prt_ok k0) Rb rfl (prt_ok k1) Rm rfl (prt_ok k2) (by simpa using Rp)
  by_cases Rq : Dy.ivR (q1, q2) = true
  case neg => exact vech_4 a1 a2 b1 b2 m1 m2 p1 p2 q1 q2 r1 r2 y1 y2 n0 n1 n2 n3 n4 n5 w wa1 wa2 wb1 wb2 wm1 wm2 wp1 wp2 wq1 wq2 wr1 wr2 wy1 wy2 Ra rfl (prt_ok k0) Rb rfl (prt_ok k1) Rm rfl (prt_ok k2) Rp rfl (prt_ok k3) (by simpa using Rq)
  by_cases Rr : Dy.ivR (r1, r2) = true
  case neg => exact vech_5 a1 a2 b1 b2 m1 m2 p1 p2 q1 q2 r1 r2 y1 y2 n0 n1 n2 n3 n4 n5 w wa1 wa2 wb1 wb2 wm1 wm2 wp1 wp2 wq1 wq2 wr1 wr2 wy1 wy2 Ra rfl (prt_ok k0) Rb rfl (prt_ok k1) Rm rfl (prt_ok k2) Rp rfl (prt_ok k3) Rq rfl (prt_ok k4) (by simpa using Rr)
  by_cases Ry : Dy.ivR (y1, y2) = true
  case neg => exact vech_6 a1 a2 b1 b2 m1 m2 p1 p2 q1 q2 r1 r2 y1 y2 n0 n1 n2 n3 n4 n5 w wa1 wa2 wb1 wb2 wm1 wm2 wp1 wp2 wq1 wq2 wr1 wr2 wy1 wy2 Ra rfl (prt_ok k0) Rb rfl (prt_ok k1) Rm rfl (prt_ok k2) Rp rfl (prt_ok k3) Rq rfl (prt_ok k4) Rr rfl (prt_ok k5) (by simpa using Ry)
  obtain ⟨Pa, Ha, Ea⟩ := Dy.rk_of ⟨wa1, wa2⟩ Ra
  obtain ⟨rfl, rfl⟩ := Prod.mk.inj (show (a1, a2) = (Dy.enc Pa.1, Dy.enc Pa.2) from Ea)
  obtain ⟨Pb, Hb, Eb⟩ := Dy.rk_of ⟨wb1, wb2⟩ Rb
  obtain ⟨rfl, rfl⟩ := Prod.mk.inj (show (b1, b2) = (Dy.enc Pb.1, Dy.enc Pb.2) from Eb)
  obtain ⟨Pm, Hm, Em⟩ := Dy.rk_of ⟨wm1, wm2⟩ Rm
  obtain ⟨rfl, rfl⟩ := Prod.mk.inj (show (m1, m2) = (Dy.enc Pm.1, Dy.enc Pm.2) from Em)
  obtain ⟨Pp, Hp, Ep⟩ := Dy.rk_of ⟨wp1, wp2⟩ Rp
  obtain ⟨rfl, rfl⟩ := Prod.mk.inj (show (p1, p2) = (Dy.enc Pp.1, Dy.enc Pp.2) from Ep)
  obtain ⟨Pq, Hq, Eq⟩ := Dy.rk_of ⟨wq1, wq2⟩ Rq
  obtain ⟨rfl, rfl⟩ := Prod.mk.inj (show (q1, q2) = (Dy.enc Pq.1, Dy.enc Pq.2) from Eq)
  obtain ⟨Pr, Hr, Er⟩ := Dy.rk_of ⟨wr1, wr2⟩ Rr
  obtain ⟨rfl, rfl⟩ := Prod.mk.inj (show (r1, r2) = (Dy.enc Pr.1, Dy.enc Pr.2) from Er)
  obtain ⟨Py, Hy, Ey⟩ := Dy.rk_of ⟨wy1, wy2⟩ Ry
  obtain ⟨rfl, rfl⟩ := Prod.mk.inj (show (y1, y2) = (Dy.enc Py.1, Dy.enc Py.2) from Ey)
  obtain ⟨Za, Ta, la, ua, oa⟩ := btw_in Ha ((n0 : Nat) : Int)
  obtain ⟨Zb, Tb, lb, ub, ob⟩ := btw_in Hb ((n1 : Nat) : Int)
  obtain ⟨Zm, Tm, lm, um, om⟩ := btw_in Hm ((n2 : Nat) : Int)
  obtain ⟨Zp, Tp, lp, up, op⟩ := btw_in Hp ((n3 : Nat) : Int)
  obtain ⟨Zq, Tq, lq, uq, oq⟩ := btw_in Hq ((n4 : Nat) : Int)
  obtain ⟨Zr, Tr, lr, ur, or⟩ := btw_in Hr ((n5 : Nat) : Int)
  refine vech_ok _ _ _ _ _ _ _ _ _ _ _ _ _ _ _ _ _ _ _ _ w wa1 wa2 wb1 wb2 wm1 wm2 wp1 wp2 wq1 wq2 wr1 wr2 wy1 wy2 Ra Ta (prt_ok k0) Rb Tb (prt_ok k1) Rm Tm (prt_ok k2) Rp Tp (prt_ok k3) Rq Tq (prt_ok k4) Rr Tr (prt_ok k5) Ry (fun i => 0 ≤ i ∧ i ≤ 7) ⟨by decide, by decide⟩ ?_ ?_
  · rintro i ⟨i0, i7⟩ hc
    have hi : i < 7 := of_decide_eq_true hc
    have wr : IntKind.i64.wrap (i + 1) = i + 1 := wrS7 (by omega) (by omega)
    have M := madeG_mf i (wn_p Ha oa la ua) (wn_p Hb ob lb ub) (wn_p Hm om lm um) (wn_p Hp op lp up) (wn_p Hq oq lq uq) (wn_p Hr or lr ur) (wn_s Hy)
    refine ⟨_, _, _, _, _, _, _, _, _, _, _, _, _, _, _, _, _, _, _, pair9h _, Ra, Rb, Rm, pair9h _, (rk_p oa).E_R, (rk_p ob).E_R, (rk_p om).E_R, rfl, by rw [wr]; omega, by rw [wr]; omega, ?_⟩
    by_cases h0 : (madeG i 0 (Dy.enc Pa.1, Dy.enc Pa.2) (Dy.enc Pb.1, Dy.enc Pb.2) (Dy.enc Pm.1, Dy.enc Pm.2) (Dy.enc Pp.1, Dy.enc Pp.2) (Dy.enc Pq.1, Dy.enc Pq.2) (Dy.enc Pr.1, Dy.enc Pr.2) (Dy.enc Py.1, Dy.enc Py.2)).2 = 0
    · obtain ⟨M0, M1, M2, M3, M4⟩ := M h0
      exact Or.inr ⟨bne_eq_false_iff_eq.2 h0, bne_eq_false_iff_eq.2 M0, with5_of M1, with5_of M2, with5_of M3, with5_of M4⟩
    · exact Or.inl (bne_iff_ne.2 h0)
  · rintro i ⟨i0, i7⟩ hc
    obtain ⟨d0, d1, d2, r0⟩ := ex3n (Dy.cAdd 0 (Dy.enc Pa.1, Dy.enc Pa.2) (Dy.enc Pp.1, Dy.enc Pp.2))
    obtain ⟨d3, d4, d5, r1⟩ := ex3n (Dy.cAdd d2 (Dy.enc Pb.1, Dy.enc Pb.2) (Dy.enc Pq.1, Dy.enc Pq.2))
    obtain ⟨d6, d7, d8, r2⟩ := ex3n (Dy.cAdd d5 (Dy.enc Pm.1, Dy.enc Pm.2) (Dy.enc Pr.1, Dy.enc Pr.2))
    obtain ⟨d9, d10, d11, r3⟩ := ex3n (Dy.cSub d8 (d0, d1) (Dy.enc Pp.1, Dy.enc Pp.2))
    obtain ⟨d12, d13, d14, r4⟩ := ex3n (Dy.cSub d11 (d3, d4) (Dy.enc Pq.1, Dy.enc Pq.2))
    obtain ⟨d15, d16, d17, r5⟩ := ex3n (Dy.cSub d14 (d6, d7) (Dy.enc Pr.1, Dy.enc Pr.2))
    refine ⟨_, _, _, _, _, _, _, _, _, _, _, _, _, _, _, _, _, _, _, r0, r1, r2, r3, r4, r5, rfl, ?_⟩
    by_cases h0 : d17 = 0
    · have z14 : d14 = 0 := z_chain (show (Dy.cSub d14 (d6, d7) (Dy.enc Pr.1, Dy.enc Pr.2)).2 = 0 by rw [r5]; exact h0)
      have z11 : d11 = 0 := z_chain (show (Dy.cSub d11 (d3, d4) (Dy.enc Pq.1, Dy.enc Pq.2)).2 = 0 by rw [r4]; exact z14)
      have z8 : d8 = 0 := z_chain (show (Dy.cSub d8 (d0, d1) (Dy.enc Pp.1, Dy.enc Pp.2)).2 = 0 by rw [r3]; exact z11)
      have z5 : d5 = 0 := z_chainA (show (Dy.cAdd d5 (Dy.enc Pm.1, Dy.enc Pm.2) (Dy.enc Pr.1, Dy.enc Pr.2)).2 = 0 by rw [r2]; exact z8)
      have z2' : d2 = 0 := z_chainA (show (Dy.cAdd d2 (Dy.enc Pb.1, Dy.enc Pb.2) (Dy.enc Pq.1, Dy.enc Pq.2)).2 = 0 by rw [r1]; exact z5)
      subst h0 z14 z11 z8 z5 z2'
      refine Or.inr ⟨rfl, ag_of Ha Hp r0 r3, ag_of Hb Hq r1 r4, ag_of Hm Hr r2 r5⟩
    · exact Or.inl (bne_iff_ne.2 h0)
end Go.Proofs.Ytikiegcncliocaa
