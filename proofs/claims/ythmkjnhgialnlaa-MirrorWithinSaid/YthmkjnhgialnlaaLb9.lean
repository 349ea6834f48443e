/- The law MirrorWithin: walk and plain law joined. -/
import Derived.Test.YthmkjnhgialnlaaLa9
import Derived.Test.YthmkjnhgialnlaaRp
namespace Go.Proofs.Ythmkjnhgialnlaa
open Go Go.RowKit

theorem in1_span {p s : Int × Int} (h : In1 p) (hs : Dy.Rk s) (w : Dy.Wi s p) : In1 s := ⟨hs, wi_trans w h.wi⟩
theorem pair7 (r : ((Nat × Nat) × (Nat × Nat) × (Nat × Nat)) × Int) : r = (((r.1.1.1, r.1.1.2), (r.1.2.1.1, r.1.2.1.2), (r.1.2.2.1, r.1.2.2.2)), r.2) := rfl
theorem clip_wn {a a' : Nat × Nat} (w : Dy.Wn a a') : inW ((Dy.clip 13830554455654793216 4607182418800017408 a').1, (Dy.clip 13830554455654793216 4607182418800017408 a').2) ((Dy.clip 13830554455654793216 4607182418800017408 a).1, (Dy.clip 13830554455654793216 4607182418800017408 a).2) = true :=
  inW_of (Dy.wn_clip (x := -4607182418800017408) (y := 4607182418800017408) (Dy.ok_neg (Dy.ok_B (by decide) (by decide))) (Dy.ok_B (by decide) (by decide)) (by decide) (by decide) w)
set_option maxRecDepth 100000 in
set_option maxHeartbeats 4000000 in
theorem mwithin_any (u0 u1 u2 u3 u4 u5 u6 u7 u8 u9 u10 u11 u12 u13 u14 u15 u16 u17 u18 : Nat) (w : World) (k0 : u0 < 4294967296) (k1 : u1 < 4294967296) (k2 : u2 < 4294967296) (k3 : u3 < 4294967296) (k4 : u4 < 4294967296) (k5 : u5 < 4294967296) (k6 : u6 < 256) (k7 : u7 < 4294967296) (k8 : u8 < 4294967296) (k9 : u9 < 4294967296) (k10 : u10 < 4294967296) (k11 : u11 < 4294967296) (k12 : u12 < 4294967296) (k13 : u13 < 4294967296) (k14 : u14 < 4294967296) (k15 : u15 < 4294967296) (k16 : u16 < 4294967296) (k17 : u17 < 4294967296) (k18 : u18 < 4294967296) : Calls Try.prog 12 #[.agg #[.int .u32 ((u0 : Nat) : Int), .int .u32 ((u1 : Nat) : Int), .int .u32 ((u2 : Nat) : Int), .int .u32 ((u3 : Nat) : Int), .int .u32 ((u4 : Nat) : Int), .int .u32 ((u5 : Nat) : Int)], .int .u8 ((u6 : Nat) : Int), .agg #[.int .u32 ((u7 : Nat) : Int), .int .u32 ((u8 : Nat) : Int), .int .u32 ((u9 : Nat) : Int), .int .u32 ((u10 : Nat) : Int), .int .u32 ((u11 : Nat) : Int), .int .u32 ((u12 : Nat) : Int)], .agg #[.int .u32 ((u13 : Nat) : Int), .int .u32 ((u14 : Nat) : Int), .int .u32 ((u15 : Nat) : Int), .int .u32 ((u16 : Nat) : Int), .int .u32 ((u17 : Nat) : Int), .int .u32 ((u18 : Nat) : Int)]] w fun e w' => e = .returned (.bool true) ∧ Below w.heap.size w w' := by
  obtain ⟨x, y, z, p, q, r, t, D⟩ := dir3 k0 k1 k2
  obtain ⟨x', y', z', p', q', r', t', D'⟩ := dir3 k3 k4 k5
  obtain ⟨b, b0, b1, eb, nb, mb⟩ := byte_all k6
  obtain ⟨a, ea, ka, la, ha, na⟩ := widen_num (L := 13830554455654793216) (l := -4607182418800017408) D.ip.rk b0 b1 (by decide) (by decide) D.ip.wi.lo D.ip.wi.hi
  have ia : In1 a := ⟨ka, ⟨by dsimp only; omega, ha⟩⟩
  obtain ⟨ma, sa, ra, wa, fa⟩ := span_inner ka ia.wi (by decide) (by decide) k7 k8
  have ja := in1_span ia ra wa
  obtain ⟨b2, eb2, kb2, lb2, hb2, nb2⟩ := widen_num (L := 13830554455654793216) (l := -4607182418800017408) D.iq.rk b0 b1 (by decide) (by decide) D.iq.wi.lo D.iq.wi.hi
  have ib2 : In1 b2 := ⟨kb2, ⟨by dsimp only; omega, hb2⟩⟩
  obtain ⟨mb2, sb2, rb2, wb2, fb2⟩ := span_inner kb2 ib2.wi (by decide) (by decide) k9 k10
  have jb2 := in1_span ib2 rb2 wb2
  obtain ⟨c, ec, kc, lc, hc, nc⟩ := widen_num (L := 0) (l := 0) D.ir.rk b0 b1 (by decide) (by decide) (by have := D.r0; omega) D.ir.wi.hi
  have ic : In1 c := ⟨kc, ⟨by dsimp only; omega, hc⟩⟩
  obtain ⟨mc, sc, rc, wc, fc⟩ := span_inner kc ic.wi (by decide) (by decide) k11 k12
  have jc := in1_span ic rc wc
  obtain ⟨d, ed, kd, ld, hd, nd⟩ := widen_num (L := 13830554455654793216) (l := -4607182418800017408) D'.ip.rk b0 b1 (by decide) (by decide) D'.ip.wi.lo D'.ip.wi.hi
  have id_ : In1 d := ⟨kd, ⟨by dsimp only; omega, hd⟩⟩
  obtain ⟨md, sd, rd, wd, fd⟩ := span_inner kd id_.wi (by decide) (by decide) k13 k14
  have jd := in1_span id_ rd wd
  obtain ⟨e, ee, ke, le, he, ne⟩ := widen_num (L := 13830554455654793216) (l := -4607182418800017408) D'.iq.rk b0 b1 (by decide) (by decide) D'.iq.wi.lo D'.iq.wi.hi
  have ie : In1 e := ⟨ke, ⟨by dsimp only; omega, he⟩⟩
  obtain ⟨me, se, re, we, fe⟩ := span_inner ke ie.wi (by decide) (by decide) k15 k16
  have je := in1_span ie re we
  obtain ⟨f, ef, kf, lf, hf, nf⟩ := widen_num (L := 0) (l := 0) D'.ir.rk b0 b1 (by decide) (by decide) (by have := D'.r0; omega) D'.ir.wi.hi
  have if_ : In1 f := ⟨kf, ⟨by dsimp only; omega, hf⟩⟩
  obtain ⟨mf, sf, rf, wf, ff⟩ := span_inner kf if_.wi (by decide) (by decide) k17 k18
  have jf := in1_span if_ rf wf
  have G := reflG_ok ia ib2 ic id_ ie if_
  have G' := reflG_ok ja jb2 jc jd je jf
  have M := (reflM_mf (wn_mk ka ra wa) (wn_mk kb2 rb2 wb2) (wn_mk kc rc wc) (wn_mk kd rd wd) (wn_mk ke re we) (wn_mk kf rf wf) 0 (refl_e0 ia ib2 ic id_ ie if_)).2
  exact mirrorwithin_ok u0 u1 u2 u3 u4 u5 u6 u7 u8 u9 u10 u11 u12 u13 u14 u15 u16 u17 u18 w D.ex D.ey D.ez D.eG D'.ex D'.ey D'.ez D'.eG rfl rfl D.gt D'.gt D.nx D.ny D.nz D.nr D'.nx D'.ny D'.nz D'.nr rfl nb eb mb ea eb2 ec na nb2 nc ed ee ef nd ne nf (G.trans (pair7 _)) (nM6_ok ia ib2 ic id_ ie if_) fa fb2 fc ma mb2 mc fd fe ff md me mf (G'.trans (pair7 _)) (nM6_ok ja jb2 jc jd je jf) rfl rfl (clip_wn M.1) (clip_wn M.2.1) (clip_wn M.2.2)
end Go.Proofs.Ythmkjnhgialnlaa
