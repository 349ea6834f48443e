/- The law MicroBack: walk and plain law joined. -/
import Derived.Test.YtikiegcncliocaaLa13
import Derived.Test.YtikiegcncliocaaJn
namespace Go.Proofs.Ytikiegcncliocaa
open Go Go.RowKit

theorem back_eq (d a b x y : Rat) : d * (1 / (1 + a + b)) / (4 * x * y) = d * (1 / (1 + b + a)) / (4 * y * x) := by
  rw [show 1 + a + b = 1 + b + a by grind, show 4 * x * y = 4 * y * x by grind]
attribute [local irreducible] g1M g2M dM unitG btwF lookF
set_option maxRecDepth 100000 in
set_option maxHeartbeats 4000000 in
theorem microback_any (u0 u1 u2 u3 u4 u5 u6 : Nat) (w : World) (k0 : u0 < 4294967296) (k1 : u1 < 4294967296) (k2 : u2 < 4294967296) (k3 : u3 < 4294967296) (k4 : u4 < 4294967296) (k5 : u5 < 4294967296) (k6 : u6 < 4294967296) : Calls Try.prog 12 #[.agg #[.int .u32 ((u0 : Nat) : Int), .int .u32 ((u1 : Nat) : Int), .int .u32 ((u2 : Nat) : Int), .int .u32 ((u3 : Nat) : Int), .int .u32 ((u4 : Nat) : Int), .int .u32 ((u5 : Nat) : Int)], .int .u32 ((u6 : Nat) : Int)] w fun e w' => e = .returned (.bool true) ∧ Below w.heap.size w w' := by
  obtain ⟨x, y, z, p, q, r, t, D⟩ := dir3 k0 k1 k2
  obtain ⟨x', y', z', p', q', r', t', D'⟩ := dir3 k3 k4 k5
  have U := D.u3; have U' := D'.u3
  have ok1 : Dy.ok 4607182418800017408 := Dy.ok_B (by decide) (by decide)
  have o5' : Dy.ok 4584664420663164928 := Dy.ok_B (by decide) (by decide)
  obtain ⟨na, a, la, ua, ea⟩ := btw_F (l := 4584664420663164928) (h := 4607182418800017408) (by decide) (by decide) (by decide) k6
  rw [show Dy.enc 4584664420663164928 = 4584664420663164928 from by decide, show Dy.enc 4607182418800017408 = 4607182418800017408 from by decide] at na ea
  have oa : Dy.ok a := ok_part (by decide) (by decide) la ua
  obtain ⟨pa, qa⟩ := point_all oa
  have wa : Dy.Wi (a, a) (4584664420663164928, 4607182418800017408) := ⟨la, ua⟩
  obtain ⟨s, gs, bs, hs'⟩ := alpha_num la ua
  have half : Dy.cNum 0 4602678819172646912 = ((4602678819172646912, 4602678819172646912), 0) := by decide +kernel
  have four : Dy.cNum 0 4616189618054758400 = ((4616189618054758400, 4616189618054758400), 0) := by decide +kernel
  have r0 := D.r0; have r0' := D'.r0
  have look := look_ok D.ip D.iq D.ir D'.ip D'.iq D'.ir (by omega) (by omega)
  obtain ⟨s1, s2, s3, q1, q2, u, q3, v, n, hn, ln, th, tw, d1, d2, d3, d4, d5, ad, sq, hs, h, l, o1, o2, o3, o4, o5, o6, o7, o8, o9, o10, o11, o12, o13, o14, o15, o16, o17, o18, o19, o20, o21, rh, rl, r3, rtw, rhs, rsq, m3, mtw, ntw, mhs, msq, nhs⟩ := mhalf_num D.bp D.bq D.br D'.bp D'.bq D'.br D.hp D.hq D.hr D'.hp D'.hq D'.hr U U'
  obtain ⟨e1, e2, r1⟩ := clip_parts rh
  obtain ⟨e3, e4, r2⟩ := clip_parts rl
  have z0 : ∀ κ, 1 / 256 ≤ Dy.val z / t κ := fun κ => Rat.le_trans D.br.lo (D.hr κ).lo
  have z1 : ∀ κ, Dy.val z / t κ ≤ 1 := fun κ => Rat.le_trans (D.hr κ).hi D.br.hi
  have z0' : ∀ κ, 1 / 256 ≤ Dy.val z' / t' κ := fun κ => Rat.le_trans D'.br.lo (D'.hr κ).lo
  have z1' : ∀ κ, Dy.val z' / t' κ ≤ 1 := fun κ => Rat.le_trans (D'.hr κ).hi D'.br.hi
  obtain ⟨la_, tl, el, bl, t1, hl⟩ := hides_seq bs (Dy.hasS_const hs') (sq_nn _) D.br D.hr z0 z1
  obtain ⟨mu_, tm, em, bm, t2, hm⟩ := hides_seq bs (Dy.hasS_const hs') (sq_nn _) D'.br D'.hr z0' z1'
  obtain ⟨g1, g2, eg1, eg2, bg1, bg2, hg1, hg2⟩ := seen_seq gs el em bl bm hl hm
  obtain ⟨f1, f2, ef1, ef2, bf1, bf2, hf1, hf2⟩ := seen_seq gs em el bm bl hm hl
  have cl := clip_01 ln
  have blc := bd_01 r2 cl.1 cl.2
  obtain ⟨dv, δ, ed, bd, hd⟩ := d_seq gs bs (Dy.hasS_const hs') blc (fun _ => has_lo r2)
  obtain ⟨m1, v1, v2, val, m2, v3, dens, w1, w2, w3, a1, a2, a3, a4, a5, a6, a7, a8, a9, a10, kv, kd, kx, ky, pv, pd, hv, hx2, hx3⟩ := look_seq bd bg2 bf1 D.br D'.br hd hg2 hf1 D.hr D'.hr z0 z0'
  have wr := wi_dir D.ir r0; have wr' := wi_dir D'.ir r0'
  have wl : Dy.Wi (Dy.rClip 0 4607182418800017408 ln) (0, 4607182418800017408) := ⟨cl.1, cl.2⟩
  have pt := rk_pt' oa
  have T1 := told_E ed; have T2 := told_E eg2; have T3 := told_E ef1
  have N1 := nG1_ok (p := (a, a)) pt wa r2 wl
  have N2 := nG2_ok (p := (a, a)) pt wa D.ir.rk wr D'.ir.rk wr'
  have N3 := nG1_ok (p := (a, a)) pt wa D'.ir.rk wr'
  have look' := look_ok D'.ip D'.iq D'.ir D.ip D.iq D.ir (by omega) (by omega)
  obtain ⟨m1', v1', v2', val', m2', v3', dens', w1', w2', w3', b1, b2, b3, b4, b5, b6, b7, b8, b9, b10, kv', kd', kx', ky', pv', pd', hv', hx2', hx3'⟩ := look_seq bd bf2 bg1 D'.br D.br hd hf2 hg1 D'.hr D.hr z0' z0
  have T2' := told_E ef2; have T3' := told_E eg1
  have N2' := nG2_ok (p := (a, a)) pt wa D'.ir.rk wr' D.ir.rk wr
  have N3' := nG1_ok (p := (a, a)) pt wa D.ir.rk wr
  have c1 := got_addc D.bp.rk D'.bp.rk o1
  have c2 := got_addc D.bq.rk D'.bq.rk o2
  have c3 := got_addc D.br.rk D'.br.rk o3
  have M1 := meets_hasS kv kv' hv hv' (Dy.near_eq fun κ => back_eq _ _ _ _ _)
  have M2 := meets_has r2 r2 (has_lo r2) (has_lo r2)
  have M3 := meets_has r1 r1 (has_lo r1) (has_lo r1)
  have G1 := ge_true (y := 0) kv.lo Dy.ok_zero pv
  have G2 := ge_true (y := 0) kd.lo Dy.ok_zero pd
  exact microback_ok u0 u1 u2 u3 u4 u5 u6 w D.ex D.ey D.ez D.eG D'.ex D'.ey D'.ez D'.eG rfl rfl D.gt D'.gt D.nx D.ny D.nz D.nr D'.nx D'.ny D'.nz D'.nr ea na pa qa
    look rfl pt.E_R rfl (lt_false oa o5' la) (gt_false oa ok1 ua) rfl o1.1 o2.1 o3.1 o4.1 o5.1 o6.1 o7.1 o8.1 o9.1 half o10.1 rfl e1 rfl e2 o3.1 o11.1 rfl e3 rfl e4 rfl T1 rfl T2 rfl T3 rfl four a1.1 a2.1 a3.1 a4.1 a5.1 a6.1 a7.1 rfl (rn_0 rh.lo) (rn_1 rh.lo) (rn_0 rh.hi) (rn_1 rh.hi) (rn_0 rl.lo) (rn_1 rl.lo) (rn_0 rl.hi) (rn_1 rl.hi) N1 N2 N3
    look' rfl pt.E_R rfl (lt_false oa o5' la) (gt_false oa ok1 ua) rfl c1.1 c2.1 c3.1 o4.1 o5.1 o6.1 o7.1 o8.1 o9.1 half o10.1 rfl e1 rfl e2 c3.1 o11.1 rfl e3 rfl e4 rfl T1 rfl T2' rfl T3' rfl b1.1 b2.1 b3.1 b4.1 b5.1 b6.1 b7.1 rfl (rn_0 rh.lo) (rn_1 rh.lo) (rn_0 rh.hi) (rn_1 rh.hi) (rn_0 rl.lo) (rn_1 rl.lo) (rn_0 rl.hi) (rn_1 rl.hi) N1 N2' N3'
    M1 M2 M3 G1 G2
end Go.Proofs.Ytikiegcncliocaa
