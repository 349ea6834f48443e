/- The law MirrorHalf: walk and plain law joined. -/
import Derived.Test.YthmkjnhgialnlaaLa11
import Derived.Test.YthmkjnhgialnlaaRw
namespace Go.Proofs.Ythmkjnhgialnlaa
open Go Go.RowKit

theorem may_in {p : Int × Int} (h : In1 p) : ((Dy.fgt (Dy.enc p.1) 13830554455654793216 || Dy.feq (Dy.enc p.1) 13830554455654793216) && (Dy.flt (Dy.enc p.2) 4607182418800017408 || Dy.feq (Dy.enc p.2) 4607182418800017408)) = true := by
  have o1 : Dy.ok 4607182418800017408 := Dy.ok_B (by decide) (by decide)
  have a := h.wi.lo; have b := h.wi.hi
  rw [show (Dy.fgt (Dy.enc p.1) 13830554455654793216 || Dy.feq (Dy.enc p.1) 13830554455654793216) = true from ge_true (y := -4607182418800017408) h.rk.lo (Dy.ok_neg o1) a, show (Dy.flt (Dy.enc p.2) 4607182418800017408 || Dy.feq (Dy.enc p.2) 4607182418800017408) = true from le_true (y := 4607182418800017408) h.rk.hi o1 b]; rfl
theorem may_in0 {p : Int × Int} (h : In1 p) (h0 : 0 ≤ p.1) : ((Dy.fgt (Dy.enc p.1) 0 || Dy.feq (Dy.enc p.1) 0) && (Dy.flt (Dy.enc p.2) 4607182418800017408 || Dy.feq (Dy.enc p.2) 4607182418800017408)) = true := by
  have o1 : Dy.ok 4607182418800017408 := Dy.ok_B (by decide) (by decide)
  have b := h.wi.hi
  rw [show (Dy.fgt (Dy.enc p.1) 0 || Dy.feq (Dy.enc p.1) 0) = true from ge_true (y := 0) h.rk.lo Dy.ok_zero h0, show (Dy.flt (Dy.enc p.2) 4607182418800017408 || Dy.feq (Dy.enc p.2) 4607182418800017408) = true from le_true (y := 4607182418800017408) h.rk.hi o1 b]; rfl
theorem look_ok {a b c p q r : Int × Int} (ha : In1 a) (hb : In1 b) (hc : In1 c) (hp : In1 p) (hq : In1 q) (hr : In1 r) (c0 : 0 ≤ c.1) (r0 : 0 ≤ r.1) : lookF (Dy.enc a.1) (Dy.enc a.2) (Dy.enc b.1) (Dy.enc b.2) (Dy.enc c.1) (Dy.enc c.2) (Dy.enc p.1) (Dy.enc p.2) (Dy.enc q.1) (Dy.enc q.2) (Dy.enc r.1) (Dy.enc r.2) = 0 := by
  have e : ∀ {p : Int × Int}, In1 p → Dy.ivR (Dy.enc p.1, Dy.enc p.2) = true := fun h => h.rk.E_R
  unfold lookF
  rw [if_pos (by rw [e ha, e hb, e hc, e hp, e hq, e hr]; rfl), if_pos (by rw [may_in ha, may_in hb, may_in0 hc c0, may_in hp, may_in hq, may_in0 hr r0]; rfl)]
theorem mir_add (a b c d e f x y : Rat) : mir a b c d e f x y + y = 2 * dot3 a b c d e f * x := by unfold mir; grind
theorem dot_le1 {X Y Z P Q R : Rat} (h : X * X + Y * Y + Z * Z ≤ 1) (k : P * P + Q * Q + R * R ≤ 1) : dot3 X Y Z P Q R ≤ 1 := by
  have a := sq0 (X - P); have b := sq0 (Y - Q); have c := sq0 (Z - R)
  unfold dot3; grind
theorem clip_parts {p : Int × Int} (hp : Dy.Rk p) : Dy.dmin (Dy.dmax (Dy.enc p.1) 0) 4607182418800017408 = Dy.enc (Dy.rClip 0 4607182418800017408 p).1 ∧ Dy.dmin (Dy.dmax (Dy.enc p.2) 0) 4607182418800017408 = Dy.enc (Dy.rClip 0 4607182418800017408 p).2 ∧ Dy.Rk (Dy.rClip 0 4607182418800017408 p) := by
  obtain ⟨e, r⟩ := Dy.clip_R (x := 0) (y := 4607182418800017408) (l := 0) (h := 4607182418800017408) hp Dy.ok_zero (Dy.ok_B (by decide) (by decide)) rfl (by decide)
  exact ⟨congrArg (·.1) e, congrArg (·.2) e, r⟩
theorem rn_0 {z : Int} (h : Dy.ok z) : rN [.f (Dy.enc z), .f 0] = true := by
  show (Dy.right (Dy.enc z) && Dy.right (Dy.enc 0)) = true
  rw [Dy.right_enc h, Dy.right_enc Dy.ok_zero]; rfl
theorem rn_1 {z : Int} (h : Dy.ok z) : rN [.f (Dy.dmax (Dy.enc z) 0), .f 4607182418800017408] = true := by
  have o1 : Dy.ok 4607182418800017408 := Dy.ok_B (by decide) (by decide)
  have e : Dy.dmax (Dy.enc z) 0 = Dy.enc (max z 0) := Dy.dmax_enc (z := 0) h Dy.ok_zero
  rw [e]
  show (Dy.right (Dy.enc _) && Dy.right (Dy.enc 4607182418800017408)) = true
  rw [Dy.right_enc (Dy.ok_max2 h Dy.ok_zero), Dy.right_enc o1]; rfl
theorem three_inj {p q r p' q' r' : Int × Int} (hp : Dy.Rk p) (hq : Dy.Rk q) (hr : Dy.Rk r) (hp' : Dy.Rk p') (hq' : Dy.Rk q') (hr' : Dy.Rk r') (h : (((Dy.enc p.1, Dy.enc p.2), (Dy.enc q.1, Dy.enc q.2), (Dy.enc r.1, Dy.enc r.2)), (0 : Int)) = ((Dy.E p', Dy.E q', Dy.E r'), 0)) : p = p' ∧ q = q' ∧ r = r' := by
  have h1 := congrArg (·.1.1) h; have h2 := congrArg (·.1.2.1) h; have h3 := congrArg (·.1.2.2) h
  exact ⟨Dy.E_inj hp hp' h1, Dy.E_inj hq hq' h2, Dy.E_inj hr hr' h3⟩
theorem Dir3.wd {u0 u1 u2 : Nat} {x y z : Int} {p q r : Int × Int} {t : Nat → Rat} (h : Dir3 u0 u1 u2 x y z p q r t) : Dy.Bd p (-1) 1 (1 / 70368744177664) ∧ Dy.Bd q (-1) 1 (1 / 70368744177664) ∧ Dy.Bd r (-1) 1 (1 / 70368744177664) := by
  have vm : Dy.val (-4607182418800017408) = -1 := by rw [Dy.val_neg, Dy.val_one]
  have lo : ∀ {x : Int}, -1 ≤ Dy.val x → -4607182418800017408 ≤ x := fun k => Dy.val_le.1 (by rw [vm]; exact k)
  have hi : ∀ {x : Int}, Dy.val x ≤ 1 → x ≤ 4607182418800017408 := fun k => Dy.val_le.1 (by rw [Dy.val_one]; exact k)
  obtain ⟨p', q', r', e, b1, b2, b3⟩ := unit_wd (lo h.x1.1) (hi h.x1.2) (lo h.y1.1) (hi h.y1.2) (Dy.val_le.1 (by rw [val_z6]; exact h.z1.1)) (hi h.z1.2)
  obtain ⟨rfl, rfl, rfl⟩ := three_inj h.bp.rk h.bq.rk h.br.rk b1.rk b2.rk b3.rk (h.eG.symm.trans e)
  exact ⟨b1, b2, b3⟩
theorem bdh {p : Int × Int} {L : Rat} (h : Dy.Bd p L 1 2) (hL : -1 ≤ L) : Dy.Bd p (-1) 1 2 := h.mono ⟨hL, Rat.le_refl, Rat.le_refl⟩
set_option maxRecDepth 100000 in
set_option maxHeartbeats 4000000 in
theorem mhalf_any (u0 u1 u2 u3 u4 u5 : Nat) (w : World) (k0 : u0 < 4294967296) (k1 : u1 < 4294967296) (k2 : u2 < 4294967296) (k3 : u3 < 4294967296) (k4 : u4 < 4294967296) (k5 : u5 < 4294967296) : Calls Try.prog 13 #[.agg #[.int .u32 ((u0 : Nat) : Int), .int .u32 ((u1 : Nat) : Int), .int .u32 ((u2 : Nat) : Int), .int .u32 ((u3 : Nat) : Int), .int .u32 ((u4 : Nat) : Int), .int .u32 ((u5 : Nat) : Int)]] w fun e w' => e = .returned (.bool true) ∧ Below w.heap.size w w' := by
  obtain ⟨x, y, z, p, q, r, t, D⟩ := dir3 k0 k1 k2
  obtain ⟨x', y', z', p', q', r', t', D'⟩ := dir3 k3 k4 k5
  have bp := D.bp; have bq := D.bq; have br := bdh D.br (by decide +kernel)
  have bp' := D'.bp; have bq' := D'.bq; have br' := bdh D'.br (by decide +kernel)
  have U := D.u3; have U' := D'.u3
  obtain ⟨a, b, c, eR, ba, bb, bc, ha, hb, hc⟩ := reflG_num bp bq br bp' bq' br' D.hp D.hq D.hr D'.hp D'.hq D'.hr U U'
  obtain ⟨m1, m2, m3, m4, v, g1, g2, g3, g4, g5, rm, hm⟩ := dot_num bp bq br bp' bq' br' D.hp D.hq D.hr D'.hp D'.hq D'.hr
  have i : ∀ {p : Int × Int}, Dy.Bd p (-1) 1 2 → In1 p := fun h => in1_bd h (by decide +kernel)
  have nM := nM6_ok (i bp) (i bq) (i br) (i bp') (i bq') (i br')
  have oK : Dy.ok 4472074429978902528 := Dy.ok_B (by decide) (by decide)
  by_cases hz : c.1 < 0
  · exact mirrorhalf_a u0 u1 u2 u3 u4 u5 w D.ex D.ey D.ez D.eG D'.ex D'.ey D'.ez D'.eG rfl rfl D.gt D'.gt D.nx D.ny D.nz D.nr D'.nx D'.ny D'.nz D'.nr
      eR nM g1.1 g2.1 g3.1 g4.1 g5.1 rfl rfl (by rw [show Dy.flt (Dy.enc c.1) 0 = Dy.flt (Dy.enc c.1) (Dy.enc 0) from rfl, Dy.flt_enc bc.rk.lo Dy.ok_zero]; exact decide_eq_true hz)
  have hz : 0 ≤ c.1 := by omega
  by_cases hd : v.1 ≤ 4472074429978902528
  · exact mirrorhalf_b u0 u1 u2 u3 u4 u5 w D.ex D.ey D.ez D.eG D'.ex D'.ey D'.ez D'.eG rfl rfl D.gt D'.gt D.nx D.ny D.nz D.nr D'.nx D'.ny D'.nz D'.nr
      eR nM g1.1 g2.1 g3.1 g4.1 g5.1 rfl rfl (lt_false (y := 0) bc.rk.lo Dy.ok_zero hz) (le_true (y := 4472074429978902528) rm.lo oK hd)
  have hd' := hd
  have hd : 4472074429978902528 ≤ v.1 := by omega
  obtain ⟨wp, wq, wr⟩ := D.wd
  obtain ⟨wp', wq', wr'⟩ := D'.wd
  obtain ⟨a', b', c', eR', ba', bb', bc'⟩ := refl_wd wp wq wr wp' wq' wr'
  obtain ⟨rfl, rfl, rfl⟩ := three_inj ba.rk bb.rk bc.rk ba'.rk bb'.rk bc'.rk (eR.symm.trans eR')
  have sm : ∀ {p : Int × Int}, Dy.Bd p (-1) 1 (1 / 70368744177664) → Dy.Bd p (-1) 1 (1 / 1099511627776) := fun h => h.mono ⟨Rat.le_refl, Rat.le_refl, by decide +kernel⟩
  have vd := Dy.val_le.2 hd
  rw [Dy.val_q (z := 4472074429978902528) (num := 1) (den := 1073741824) (by decide) (by decide +kernel)] at vd
  obtain ⟨x1, x2, x3, y1, y2, y3, y4, y5, n, hn, ln, h, l, o1, o2, o3, o4, o5, o6, o7, o8, o9, o10, o11, rh, rl, sh, nh, sl, nl⟩ := half_num ba' bb' bc' (sm wp) (sm wq) (sm wr) ha hb hc D.hp D.hq D.hr (fun κ => mir_add _ _ _ _ _ _ _ _) (fun κ => mir_add _ _ _ _ _ _ _ _) (fun κ => mir_add _ _ _ _ _ _ _ _) (fun κ => Rat.le_trans (Rat.le_trans (by decide +kernel) vd) (hm κ).lo) (fun κ => dot_le1 (U.le κ) (U'.le κ)) U'
    (fun κ => Dy.le_quo (by have := (D'.tb κ).1; grind) (by have := D'.z1.1; grind))
  obtain ⟨e1, e2, r1⟩ := clip_parts rh
  obtain ⟨e3, e4, r2⟩ := clip_parts rl
  have r0 := D.r0
  have half : Dy.cNum 0 4602678819172646912 = ((4602678819172646912, 4602678819172646912), 0) := by decide +kernel
  have gtd : (Dy.flt (Dy.enc v.1) 4472074429978902528 || Dy.feq (Dy.enc v.1) 4472074429978902528) = false := by
    rw [show (Dy.flt (Dy.enc v.1) 4472074429978902528 || Dy.feq (Dy.enc v.1) 4472074429978902528) = decide (v.1 ≤ 4472074429978902528) from Dy.fle_enc rm.lo oK]; exact decide_eq_false hd'
  exact mirrorhalf_c u0 u1 u2 u3 u4 u5 w D.ex D.ey D.ez D.eG D'.ex D'.ey D'.ez D'.eG rfl rfl D.gt D'.gt D.nx D.ny D.nz D.nr D'.nx D'.ny D'.nz D'.nr
    eR nM g1.1 g2.1 g3.1 g4.1 g5.1 rfl rfl (lt_false (y := 0) bc.rk.lo Dy.ok_zero hz) gtd
    (look_ok (i ba) (i bb) (i bc) (i bp) (i bq) (i br) hz (by omega)) rfl o1.1 o2.1 o3.1 o4.1 o5.1 o6.1 o7.1 o8.1 o9.1 half o10.1 rfl e1 rfl e2 o3.1 o11.1 rfl e3 rfl e4 rfl
    (rn_0 rh.lo) (rn_1 rh.lo) (rn_0 rh.hi) (rn_1 rh.hi) (rn_0 rl.lo) (rn_1 rl.lo) (rn_0 rl.hi) (rn_1 rl.hi)
    (meets_hasS r2 br'.rk sl D'.hr nl) (meets_hasS r1 rm sh hm nh)
end Go.Proofs.Ythmkjnhgialnlaa
