/- The law MicroWithin: walk and plain law joined. -/
import Derived.Test.YtikiegcncliocaaGreatLa15
import Derived.Test.YtikiegcncliocaaGreatJm
import Derived.Test.YtikiegcncliocaaGreatJh
namespace Go.Proofs.YtikiegcncliocaaGreat
open Go Go.RowKit

attribute [local irreducible] halfM glossM halfG gloG gA gC lookF dM g1M g2M unitG widenF spanF
theorem in1_span {p s : Int × Int} (h : In1 p) (hs : Dy.Rk s) (w : Dy.Wi s p) : In1 s := ⟨hs, wi_trans w h.wi⟩
theorem pair9 (r : ((Nat × Nat) × (Nat × Nat) × (Nat × Nat) × (Nat × Nat)) × Int) : r = (((r.1.1.1, r.1.1.2), (r.1.2.1.1, r.1.2.1.2), (r.1.2.2.1.1, r.1.2.2.1.2), (r.1.2.2.2.1, r.1.2.2.2.2)), r.2) := rfl
theorem wn_self {p : Int × Int} (h : Dy.Rk p) : Dy.Wn (Dy.enc p.1, Dy.enc p.2) (Dy.enc p.1, Dy.enc p.2) := wn_mk h h ⟨Int.le_refl _, Int.le_refl _⟩
theorem wi_01 {p : Int × Int} (h : In1 p) (h0 : 0 ≤ p.1) : Dy.Wi p (0, 4607182418800017408) := ⟨h0, h.wi.hi⟩
theorem nLook_ok {a b c d e f s : Int × Int} (ia : In1 a) (ib : In1 b) (ic : In1 c) (id_ : In1 d) (ie : In1 e) (if_ : In1 f) (c0 : 0 ≤ c.1) (f0 : 0 ≤ f.1) (ks : Dy.Rk s) (ws : Dy.Wi s (4584664420663164928, 4607182418800017408)) :
    nLook [.f (Dy.enc a.1), .f (Dy.enc a.2), .f (Dy.enc b.1), .f (Dy.enc b.2), .f (Dy.enc c.1), .f (Dy.enc c.2), .f (Dy.enc d.1), .f (Dy.enc d.2), .f (Dy.enc e.1), .f (Dy.enc e.2), .f (Dy.enc f.1), .f (Dy.enc f.2), .f (Dy.enc s.1), .f (Dy.enc s.2)] = true := by
  have ok1 : Dy.ok 4607182418800017408 := Dy.ok_B (by decide) (by decide)
  have o5 : Dy.ok 4584664420663164928 := Dy.ok_B (by decide) (by decide)
  have x1 : decide (lookF (Dy.enc a.1) (Dy.enc a.2) (Dy.enc b.1) (Dy.enc b.2) (Dy.enc c.1) (Dy.enc c.2) (Dy.enc d.1) (Dy.enc d.2) (Dy.enc e.1) (Dy.enc e.2) (Dy.enc f.1) (Dy.enc f.2) = 0) = true := decide_eq_true (look_ok ia ib ic id_ ie if_ c0 f0)
  have x2 := gA_ok ks ws
  have x3 : Dy.ivR (Dy.enc s.1, Dy.enc s.2) = true := ks.E_R
  have x4 : Dy.flt (Dy.enc s.1) 4584664420663164928 = false := lt_false (y := 4584664420663164928) ks.lo o5 ws.lo
  have x5 : Dy.fgt (Dy.enc s.2) 4607182418800017408 = false := gt_false (y := 4607182418800017408) ks.hi ok1 ws.hi
  have x6 := gC_ok ic.rk (wi_01 ic c0)
  have x7 := gC_ok if_.rk (wi_01 if_ f0)
  have x8 := half_gC (wn_self ia.rk) (wn_self ib.rk) (wn_self ic.rk) (wn_self id_.rk) (wn_self ie.rk) (wn_self if_.rk)
  show (decide (lookF (Dy.enc a.1) (Dy.enc a.2) (Dy.enc b.1) (Dy.enc b.2) (Dy.enc c.1) (Dy.enc c.2) (Dy.enc d.1) (Dy.enc d.2) (Dy.enc e.1) (Dy.enc e.2) (Dy.enc f.1) (Dy.enc f.2) = 0) && (gA (Dy.enc s.1, Dy.enc s.2) && (Dy.ivR (Dy.enc s.1, Dy.enc s.2) && (!Dy.flt (Dy.enc s.1) 4584664420663164928 && (!Dy.fgt (Dy.enc s.2) 4607182418800017408 && (gC (Dy.enc c.1, Dy.enc c.2) && (gC (Dy.enc f.1, Dy.enc f.2) && ((halfG (Dy.enc a.1, Dy.enc a.2) (Dy.enc b.1, Dy.enc b.2) (Dy.enc c.1, Dy.enc c.2) (Dy.enc d.1, Dy.enc d.2) (Dy.enc e.1, Dy.enc e.2) (Dy.enc f.1, Dy.enc f.2)).2 != 0 || gC (halfG (Dy.enc a.1, Dy.enc a.2) (Dy.enc b.1, Dy.enc b.2) (Dy.enc c.1, Dy.enc c.2) (Dy.enc d.1, Dy.enc d.2) (Dy.enc e.1, Dy.enc e.2) (Dy.enc f.1, Dy.enc f.2)).1.1)))))))) = true
  rw [x1, x2, x3, x4, x5, x6, x7, x8]; rfl
set_option maxRecDepth 100000 in
set_option maxHeartbeats 4000000 in
theorem microwithin_any (u0 u1 u2 u3 u4 u5 u6 u7 u8 u9 u10 u11 u12 u13 u14 u15 u16 u17 u18 u19 u20 u21 u22 : Nat) (w : World) (k0 : u0 < 4294967296) (k1 : u1 < 4294967296) (k2 : u2 < 4294967296) (k3 : u3 < 4294967296) (k4 : u4 < 4294967296) (k5 : u5 < 4294967296) (k6 : u6 < 256) (k7 : u7 < 4294967296) (k8 : u8 < 4294967296) (k9 : u9 < 4294967296) (k10 : u10 < 4294967296) (k11 : u11 < 4294967296) (k12 : u12 < 4294967296) (k13 : u13 < 4294967296) (k14 : u14 < 4294967296) (k15 : u15 < 4294967296) (k16 : u16 < 4294967296) (k17 : u17 < 4294967296) (k18 : u18 < 4294967296) (k19 : u19 < 4294967296) (k20 : u20 < 4294967296) (k21 : u21 < 4294967296) (k22 : u22 < 4294967296) : Calls Tryz.prog 3 #[.agg #[.int .u32 ((u0 : Nat) : Int), .int .u32 ((u1 : Nat) : Int), .int .u32 ((u2 : Nat) : Int), .int .u32 ((u3 : Nat) : Int), .int .u32 ((u4 : Nat) : Int), .int .u32 ((u5 : Nat) : Int)], .int .u8 ((u6 : Nat) : Int), .agg #[.int .u32 ((u7 : Nat) : Int), .int .u32 ((u8 : Nat) : Int), .int .u32 ((u9 : Nat) : Int), .int .u32 ((u10 : Nat) : Int), .int .u32 ((u11 : Nat) : Int), .int .u32 ((u12 : Nat) : Int)], .agg #[.int .u32 ((u13 : Nat) : Int), .int .u32 ((u14 : Nat) : Int), .int .u32 ((u15 : Nat) : Int), .int .u32 ((u16 : Nat) : Int), .int .u32 ((u17 : Nat) : Int), .int .u32 ((u18 : Nat) : Int)], .agg #[.int .u32 ((u19 : Nat) : Int), .int .u32 ((u20 : Nat) : Int), .int .u32 ((u21 : Nat) : Int), .int .u32 ((u22 : Nat) : Int)]] w fun e w' => e = .returned (.bool true) ∧ Below w.heap.size w w' := by
  obtain ⟨x, y, z, p, q, r, t, D⟩ := dir3 k0 k1 k2
  obtain ⟨x', y', z', p', q', r', t', D'⟩ := dir3 k3 k4 k5
  obtain ⟨b, b0, b1, eb, nb, mb⟩ := byte_all k6
  obtain ⟨va, eva, kva, lva, hva, nva⟩ := widen_num (L := 13830554455654793216) (l := -4607182418800017408) D.ip.rk b0 b1 (by decide) (by decide) D.ip.wi.lo D.ip.wi.hi
  have iva : In1 va := ⟨kva, ⟨by dsimp only; omega, hva⟩⟩
  obtain ⟨mva, sva, rva, wva, fva⟩ := span_inner kva iva.wi (by decide) (by decide) k7 k8
  have jva := in1_span iva rva wva
  obtain ⟨vb, evb, kvb, lvb, hvb, nvb⟩ := widen_num (L := 13830554455654793216) (l := -4607182418800017408) D.iq.rk b0 b1 (by decide) (by decide) D.iq.wi.lo D.iq.wi.hi
  have ivb : In1 vb := ⟨kvb, ⟨by dsimp only; omega, hvb⟩⟩
  obtain ⟨mvb, svb, rvb, wvb, fvb⟩ := span_inner kvb ivb.wi (by decide) (by decide) k9 k10
  have jvb := in1_span ivb rvb wvb
  obtain ⟨vc, evc, kvc, lvc, hvc, nvc⟩ := widen_num (L := 0) (l := 0) D.ir.rk b0 b1 (by decide) (by decide) (by have := D.r0; omega) D.ir.wi.hi
  have ivc : In1 vc := ⟨kvc, ⟨by dsimp only; omega, hvc⟩⟩
  obtain ⟨mvc, svc, rvc, wvc, fvc⟩ := span_inner kvc ivc.wi (by decide) (by decide) k11 k12
  have jvc := in1_span ivc rvc wvc
  obtain ⟨vd, evd, kvd, lvd, hvd, nvd⟩ := widen_num (L := 13830554455654793216) (l := -4607182418800017408) D'.ip.rk b0 b1 (by decide) (by decide) D'.ip.wi.lo D'.ip.wi.hi
  have ivd : In1 vd := ⟨kvd, ⟨by dsimp only; omega, hvd⟩⟩
  obtain ⟨mvd, svd, rvd, wvd, fvd⟩ := span_inner kvd ivd.wi (by decide) (by decide) k13 k14
  have jvd := in1_span ivd rvd wvd
  obtain ⟨ve, eve, kve, lve, hve, nve⟩ := widen_num (L := 13830554455654793216) (l := -4607182418800017408) D'.iq.rk b0 b1 (by decide) (by decide) D'.iq.wi.lo D'.iq.wi.hi
  have ive : In1 ve := ⟨kve, ⟨by dsimp only; omega, hve⟩⟩
  obtain ⟨mve, sve, rve, wve, fve⟩ := span_inner kve ive.wi (by decide) (by decide) k15 k16
  have jve := in1_span ive rve wve
  obtain ⟨vf, evf, kvf, lvf, hvf, nvf⟩ := widen_num (L := 0) (l := 0) D'.ir.rk b0 b1 (by decide) (by decide) (by have := D'.r0; omega) D'.ir.wi.hi
  have ivf : In1 vf := ⟨kvf, ⟨by dsimp only; omega, hvf⟩⟩
  obtain ⟨mvf, svf, rvf, wvf, fvf⟩ := span_inner kvf ivf.wi (by decide) (by decide) k17 k18
  have jvf := in1_span ivf rvf wvf
  obtain ⟨ns, s, ks, ws, es⟩ := spanL (l := 4584664420663164928) (h := 4607182418800017408) (a := 4584664420663164928) (b := 4607182418800017408) (by decide) (by decide) (by decide) (by decide) (by decide) k19 k20
  obtain ⟨ms, ss, rs, ws', fs⟩ := span_inner ks ws (by decide) (by decide) k21 k22
  have N1 := nLook_ok iva ivb ivc ivd ive ivf lvc lvf ks ws
  have N2 := nLook_ok jva jvb jvc jvd jve jvf (Int.le_trans lvc wvc.lo) (Int.le_trans lvf wvf.lo) rs (wi_trans ws' ws)
  by_cases h0 : (gloG (Dy.enc va.1, Dy.enc va.2) (Dy.enc vb.1, Dy.enc vb.2) (Dy.enc vc.1, Dy.enc vc.2) (Dy.enc vd.1, Dy.enc vd.2) (Dy.enc ve.1, Dy.enc ve.2) (Dy.enc vf.1, Dy.enc vf.2) (Dy.enc s.1, Dy.enc s.2)).2 = 0
  · obtain ⟨M0, M⟩ := gloG_mf (wn_mk kva rva wva) (wn_mk kvb rvb wvb) (wn_mk kvc rvc wvc) (wn_mk kvd rvd wvd) (wn_mk kve rve wve) (wn_mk kvf rvf wvf) (wn_mk ks rs ws') h0
    exact microwithin_o u0 u1 u2 u3 u4 u5 u6 u7 u8 u9 u10 u11 u12 u13 u14 u15 u16 u17 u18 u19 u20 u21 u22 w D.ex D.ey D.ez D.eG D'.ex D'.ey D'.ez D'.eG rfl rfl D.gt D'.gt D.nx D.ny D.nz D.nr D'.nx D'.ny D'.nz D'.nr rfl nb eb mb eva evb evc nva nvb nvc evd eve evf nvd nve nvf es ns (pair9 _) N1 fva fvb fvc mva mvb mvc fvd fve fvf mvd mve mvf fs ms (pair9 _) N2 (bne_eq_false_iff_eq.2 h0) (beq_iff_eq.2 M0) (inW_of M.1) (inW_of M.2.1) (inW_of M.2.2.1) (inW_of M.2.2.2)
  · exact microwithin_e u0 u1 u2 u3 u4 u5 u6 u7 u8 u9 u10 u11 u12 u13 u14 u15 u16 u17 u18 u19 u20 u21 u22 w D.ex D.ey D.ez D.eG D'.ex D'.ey D'.ez D'.eG rfl rfl D.gt D'.gt D.nx D.ny D.nz D.nr D'.nx D'.ny D'.nz D'.nr rfl nb eb mb eva evb evc nva nvb nvc evd eve evf nvd nve nvf es ns (pair9 _) N1 fva fvb fvc mva mvb mvc fvd fve fvf mvd mve mvf fs ms (pair9 _) N2 (bne_iff_ne.2 h0)
end Go.Proofs.YtikiegcncliocaaGreat
