/- Plain facts: rough surfaces (oren): of intervals; put the other way about; with a roughness of 0. -/
import Derived.Test.YthmkjnhgialnlaaRg
namespace Go.Dy
theorem mulR_comm (x y : Int) (up : Bool) : mulR x y up = mulR y x up := by unfold mulR; rw [Int.mul_comm]
theorem cMul_comm (e : Int) {p q : Int × Int} (hp : Rk p) (hq : Rk q) : cMul e (E p) (E q) = cMul e (E q) (E p) := by
  rw [cMul_E hp hq, cMul_E hq hp]
  have h1 : lo4 mulR p q = lo4 mulR q p := by
    unfold lo4
    rw [mulR_comm q.1 p.1, mulR_comm q.1 p.2, mulR_comm q.2 p.1, mulR_comm q.2 p.2]; omega
  have h2 : hi4 mulR p q = hi4 mulR q p := by
    unfold hi4
    rw [mulR_comm q.1 p.1, mulR_comm q.1 p.2, mulR_comm q.2 p.1, mulR_comm q.2 p.2]; omega
  rw [h1, h2]
theorem cMax_comm (e : Int) {p q : Int × Int} (hp : Rk p) (hq : Rk q) : cMax e (E p) (E q) = cMax e (E q) (E p) := by
  unfold cMax
  rw [hp.E_R, hq.E_R]
  show cAsk e true ((dmax (enc p.1) (enc q.1), dmax (enc p.2) (enc q.2)), 0) = cAsk e true ((dmax (enc q.1) (enc p.1), dmax (enc q.2) (enc p.2)), 0)
  rw [dmax_enc hp.lo hq.lo, dmax_enc hp.hi hq.hi, dmax_enc hq.lo hp.lo, dmax_enc hq.hi hp.hi, show max p.1 q.1 = max q.1 p.1 by omega, show max p.2 q.2 = max q.2 p.2 by omega]
end Go.Dy
namespace Go.Proofs.Ythmkjnhgialnlaa
open Go Go.RowKit

theorem slope_sw {i o : Int × Int} (hi : Dy.Rk i) (ho : Dy.Rk o) (d : Nat × Nat) : slopeM (Dy.E i) (Dy.E o) d = slopeM (Dy.E o) (Dy.E i) d := by
  have e1 : Dy.mMul (Dy.E i) (Dy.E o) = Dy.mMul (Dy.E o) (Dy.E i) := funext fun e => Dy.cMul_comm e hi ho
  have e2 : Dy.mMax (Dy.E i) (Dy.E o) = Dy.mMax (Dy.E o) (Dy.E i) := funext fun e => Dy.cMax_comm e hi ho
  unfold slopeM
  rw [e1, e2]
theorem oren_sw {i o : Int × Int} (hi : Dy.Rk i) (ho : Dy.Rk o) (r g d : Nat × Nat) : orenM r g (Dy.E i) (Dy.E o) d = orenM r g (Dy.E o) (Dy.E i) d := by
  unfold orenM; rw [slope_sw hi ho]
/-- Where a value has no error, the slope has none. -/
theorem oren_slope {r g i o d : Nat × Nat} (h : (orenM r g i o d 0).2 = 0) : (slopeM i o d 0).2 = 0 := by
  unfold orenM at h
  rw [Dy.cm_bind] at h
  refine Dy.Cm.Z.bind (pairM_z g) (fun ab => ?_) _ h
  exact Dy.Cm.Z.bind (Dy.z_mul _ _) fun _ => Dy.Cm.Z.bind (Dy.z_add _ _) fun _ => Dy.Cm.Z.bind (Dy.z_mul _ _) fun _ => Dy.Cm.Z.pure _
theorem clip_b {p : Int × Int} (hp : Dy.Rk p) : ∃ s : Int × Int, Dy.clip 13830554455654793216 4607182418800017408 (Dy.E p) = Dy.E s ∧ Dy.Bd s (-1) 1 2 := by
  obtain ⟨e, r⟩ := Dy.clip_R (x := (-4607182418800017408)) (y := 4607182418800017408) (l := 13830554455654793216) (h := 4607182418800017408) hp (Dy.ok_neg (Dy.ok_B (by decide) (by decide))) (Dy.ok_B (by decide) (by decide)) (by decide) (by decide)
  have v1 : Dy.val (-4607182418800017408) = -1 := (Dy.val_q (num := -1) (den := 1) (by decide) (by decide +kernel)).trans (by decide +kernel)
  have v2 : Dy.val 4607182418800017408 = 1 := Dy.val_one
  have a1 : -1 ≤ Dy.val (Dy.rClip (-4607182418800017408) 4607182418800017408 p).1 := by
    show _ ≤ Dy.val (min (max p.1 _) _); rw [Dy.val_min, Dy.val_max, v1, v2]; grind
  have a2 : Dy.val (Dy.rClip (-4607182418800017408) 4607182418800017408 p).2 ≤ 1 := by
    show Dy.val (min (max p.2 _) _) ≤ _; rw [Dy.val_min, Dy.val_max, v1, v2]; grind
  have a3 := Dy.val_le.2 r.le
  exact ⟨_, e, r, a1, a2, by grind⟩
set_option maxHeartbeats 1000000 in
theorem slope_iv {i o d : Int × Int} (hi : Dy.Bd i 0 1 1) (ho : Dy.Bd o 0 1 1) (hd : Dy.Bd d (-1) 1 2) (h : (slopeM (Dy.E i) (Dy.E o) (Dy.E d) 0).2 = 0) : ∃ s : Int × Int, slopeM (Dy.E i) (Dy.E o) (Dy.E d) 0 = (Dy.E s, 0) ∧ Dy.Bd s (-1) 1 2 := by
  obtain ⟨ss1, gs1, bs1⟩ := Dy.bd_mul 1 0 (37778931862957170098177 / 37778931862957161709568) (75557863725914340196353 / 37778931862957161709568) 0 1 1 1 hi ho (by decide +kernel)
  obtain ⟨ss2, gs2, bs2⟩ := Dy.bd_sub (75557863725914331807745 / 37778931862957161709568) (-37778931862957174292481 / 18889465931478580854784) (37778931862957178486785 / 37778931862957161709568) (75557863725914348584961 / 18889465931478580854784) hd bs1 (by decide +kernel)
  obtain ⟨gs3, bs3⟩ := Dy.bd_max 0 1 1 hi ho (by decide +kernel)
  unfold slopeM at h ⊢
  rw [Dy.cs_mul gs1.1, Dy.cs_sub gs2.1] at h ⊢
  by_cases h1 : ss2.2 ≤ 0
  · rw [Dy.cif_t ((pos_enc bs2.rk).1.trans (decide_eq_true h1))] at h ⊢
    obtain ⟨k, ek, bk⟩ := clip_b bs2.rk
    exact ⟨k, congrArg (fun r => (r, (0 : Int))) ek, bk⟩
  · rw [Dy.cif_f ((pos_enc bs2.rk).1.trans (decide_eq_false h1))] at h ⊢
    by_cases h2 : 0 ≤ ss2.1
    · rw [Dy.cif_t ((pos_enc bs2.rk).2.trans (decide_eq_true h2)), Dy.cs_max gs3.1] at h ⊢
      obtain ⟨k0, gk⟩ := Dy.got_of_good (Dy.good_div bs3.rk.E_W) (show (Dy.cDiv 0 (Dy.E ss2) (Dy.E (Dy.rMax i o))).2 = 0 from h)
      rw [Dy.cs_div gk.1]
      obtain ⟨k, ek, bk⟩ := clip_b gk.rk
      exact ⟨k, congrArg (fun r => (r, (0 : Int))) ek, bk⟩
    · rw [Dy.cif_f ((pos_enc bs2.rk).2.trans (decide_eq_false h2)), Dy.cs_max gs3.1] at h ⊢
      obtain ⟨k0, gk⟩ := Dy.got_of_good (Dy.good_div (a := (0, (Dy.E ss2).2)) bs3.rk.E_W) (show (Dy.cDiv 0 (0, (Dy.E ss2).2) (Dy.E (Dy.rMax i o))).2 = 0 from h)
      rw [Dy.cs_div gk.1]
      have rp : Dy.Rk (ss2.1, 0) := ⟨bs2.rk.lo, Dy.ok_zero, by dsimp only; omega⟩
      have e := Dy.iHull_E rp gk.rk
      obtain ⟨k, ek, bk⟩ := clip_b (rp.hull gk.rk)
      exact ⟨k, congrArg (fun r => (r, (0 : Int))) ((congrArg (Dy.clip 13830554455654793216 4607182418800017408) e).trans ek), bk⟩
theorem pair_iv {g : Int × Int} (hg : Dy.Bd g 0 1 1) : ∃ a b : Int × Int, pairM (Dy.E g) 0 = ((Dy.E a, Dy.E b), 0) ∧ Dy.Bd a (10026595021056745138189588524297 / 40564819207303340847894502572032) (807011436558923701141125758087 / 2535301200456458802993406410752) (464505145198809215766227427355 / 5070602400912917605986812821504) ∧ Dy.Bd b 0 (12912182984942782085338581740723 / 40564819207303340847894502572032) (8314112073266629339274485385447 / 20282409603651670423947251286016) := by
  obtain ⟨bp1, yp1, hp1⟩ := Dy.bd_pi
  obtain ⟨gp2, bp2, hp2⟩ := Dy.bd_num (x := 4611686018427387904) (z := 4611686018427387904) (num := 2) (den := 1) (Dy.ok_B (by decide) (by decide)) (by decide) (by decide) (by decide +kernel)
  have cp2 : Dy.Bd ((4611686018427387904 : Int), (4611686018427387904 : Int)) 2 2 0 := bp2.mono (by decide +kernel)
  have ep2 : Dy.Has ((4611686018427387904 : Int), (4611686018427387904 : Int)) ((2 : Rat)) := (show ((2 : Int) : Rat) / (((1 : Nat) : Int) : Rat) = 2 from by decide +kernel) ▸ hp2
  obtain ⟨gp3, bp3, hp3⟩ := Dy.bd_num (x := 4607182418800017408) (z := 4607182418800017408) (num := 1) (den := 1) (Dy.ok_B (by decide) (by decide)) (by decide) (by decide) (by decide +kernel)
  have cp3 : Dy.Bd ((4607182418800017408 : Int), (4607182418800017408 : Int)) 1 1 0 := bp3.mono (by decide +kernel)
  have ep3 : Dy.Has ((4607182418800017408 : Int), (4607182418800017408 : Int)) ((1 : Rat)) := (show ((1 : Int) : Rat) / (((1 : Nat) : Int) : Rat) = 1 from by decide +kernel) ▸ hp3
  obtain ⟨sp4, gp4, bp4⟩ := Dy.bd_div (7074237752028441 / 4503599627370496) (59343007400567774834725 / 37778931862957161709568) (59343007400567809576923 / 37778931862957161709568) (40055026346007745154514945 / 43556142965880123323311949751266331066368) (884279719003555 / 562949953421312) (7074237752028441 / 4503599627370496) (1 / 4503599627370496) bp1 cp2 (by decide +kernel)
  obtain ⟨gp5, bp5, hp5⟩ := Dy.bd_num (x := 4613937818241073152) (z := 4613937818241073152) (num := 3) (den := 1) (Dy.ok_B (by decide) (by decide)) (by decide) (by decide) (by decide +kernel)
  have cp5 : Dy.Bd ((4613937818241073152 : Int), (4613937818241073152 : Int)) 3 3 0 := bp5.mono (by decide +kernel)
  have ep5 : Dy.Has ((4613937818241073152 : Int), (4613937818241073152 : Int)) ((3 : Rat)) := (show ((3 : Int) : Rat) / (((1 : Nat) : Int) : Rat) = 3 from by decide +kernel) ▸ hp5
  obtain ⟨sp6, gp6, bp6⟩ := Dy.bd_div (13521606402434446949298167524011 / 20282409603651670423947251286016) (27043212804868887893796831887359 / 40564819207303340847894502572032) (6760803201217224975848959552171 / 10141204801825835211973625643008) (12895208742556044530199211 / 43556142965880123323311949751266331066368) (27043212804868893898596335048021 / 40564819207303340847894502572032) (13521606402434446949298167524011 / 20282409603651670423947251286016) 0 cp2 cp5 (by decide +kernel)
  have hp6 : Dy.Has sp6 ((2 : Rat) / (3 : Rat)) := Dy.has_div cp2.rk cp5.rk gp6 ep2 ep5
  obtain ⟨sp7, gp7, bp7⟩ := Dy.bd_sub (36675856203062290597013138440193 / 40564819207303340847894502572032) (18337928101531116569793540466745 / 20282409603651670423947251286016) (36675856203062298740689139336419 / 40564819207303340847894502572032) (70438646135098466521211053 / 43556142965880123323311949751266331066368) bp4 bp6 (by decide +kernel)
  obtain ⟨sp8, gp8, bp8⟩ := Dy.bd_mul (36675856203062298740689139336419 / 40564819207303340847894502572032) 0 (18337928101531153442182570116323 / 20282409603651670423947251286016) (18337928101531190314571206048701 / 20282409603651670423947251286016) 0 (36675856203062298740689139336419 / 40564819207303340847894502572032) (36675856203062298740689139336419 / 40564819207303340847894502572032) 1 bp7 hg (by decide +kernel)
  obtain ⟨sp9, gp9, bp9⟩ := Dy.bd_add (76421533813199324332659 / 18889465931478580854784) (118686014801135542085061 / 37778931862957161709568) (152843067626398682603297 / 37778931862957161709568) (9168964050765617881198734899843 / 10141204801825835211973625643008) bp1 bp8 (by decide +kernel)
  obtain ⟨sp10, gp10, bp10⟩ := Dy.bd_div (12912182984942776351177442518061 / 40564819207303340847894502572032) (10026595021056745138189588524297 / 40564819207303340847894502572032) (807011436558923701141125758087 / 2535301200456458802993406410752) (464505145198809215766227427355 / 5070602400912917605986812821504) (2506648755264187001317539533907 / 10141204801825835211973625643008) (12912182984942776351177442518061 / 40564819207303340847894502572032) (3716041161590467991968680196179 / 40564819207303340847894502572032) cp3 bp9 (by decide +kernel)
  obtain ⟨sp11, gp11, bp11⟩ := Dy.bd_mul (807011436558923701141125758087 / 2535301200456458802993406410752) 0 (12912182984942782085338581740723 / 40564819207303340847894502572032) (8314112073266629339274485385447 / 20282409603651670423947251286016) 0 (807011436558923701141125758087 / 2535301200456458802993406410752) 1 (807011436558923701141125758087 / 2535301200456458802993406410752) hg bp10 (by decide +kernel)
  refine ⟨sp10, sp11, ?_, bp10, bp11⟩
  rw [← Dy.bd_pi.2.1] at *
  unfold pairM
  refine (Dy.cs_num gp2.1).trans ?_
  refine (Dy.cs_num gp3.1).trans ?_
  refine (Dy.cs_div gp4.1).trans ?_
  refine (Dy.cs_num gp5.1).trans ?_
  refine (Dy.cs_div gp6.1).trans ?_
  refine (Dy.cs_sub gp7.1).trans ?_
  refine (Dy.cs_mul gp8.1).trans ?_
  refine (Dy.cs_add gp9.1).trans ?_
  refine (Dy.cs_div gp10.1).trans ?_
  refine (Dy.cs_mul gp11.1).trans ?_
  exact rfl
theorem value_iv {r g s : Int × Int} {i o d : Nat × Nat} (hr : Dy.Bd r 0 1 1) (hg : Dy.Bd g 0 1 1) (es : slopeM i o d 0 = (Dy.E s, 0)) (bs : Dy.Bd s (-1) 1 2) : ∃ v : Int × Int, orenM (Dy.E r) (Dy.E g) i o d 0 = (Dy.E v, 0) ∧ Dy.Rk v ∧ 0 ≤ v.1 ∧ v.2 ≤ 4607182418800017408 := by
  obtain ⟨a, b, ep, ba, bb⟩ := pair_iv hg
  obtain ⟨sv1, gv1, bv1⟩ := Dy.bd_mul (12912182984942782085338581740723 / 40564819207303340847894502572032) (-12912182984942784952419151352055 / 40564819207303340847894502572032) (12912182984942784952419151352055 / 40564819207303340847894502572032) (9884263881579700061909 / 9444732965739290427392) (-12912182984942782085338581740723 / 40564819207303340847894502572032) (12912182984942782085338581740723 / 40564819207303340847894502572032) (12912182984942782085338581740723 / 40564819207303340847894502572032) 1 bb bs (by decide +kernel)
  obtain ⟨sv2, gv2, bv2⟩ := Dy.bd_add (25824365969885564170677163481447 / 40564819207303340847894502572032) (-1442793981943022774195351025211 / 20282409603651670423947251286016) (25824365969885569904838302704111 / 40564819207303340847894502572032) (10749472137077086087745 / 9444732965739290427392) ba bv1 (by decide +kernel)
  obtain ⟨sv3, gv3, bv3⟩ := Dy.bd_mul (25824365969885569904838302704111 / 40564819207303340847894502572032) (-2885587963886051282551841273087 / 40564819207303340847894502572032) (3228045746235696954874930240847 / 5070602400912917605986812821504) (67048703551194532915021 / 37778931862957161709568) (-1442793981943022774195351025211 / 20282409603651670423947251286016) (25824365969885569904838302704111 / 40564819207303340847894502572032) 1 (25824365969885569904838302704111 / 40564819207303340847894502572032) hr bv2 (by decide +kernel)
  obtain ⟨gv4, bv4⟩ := Dy.bd_clipq (x := 0) (y := 4607182418800017408) (l := 0) (h := 4607182418800017408) (nx := 0) (dx := 1) (ny := 1) (dy := 1) 0 (3228045746235696954874930240847 / 5070602400912917605986812821504) Dy.ok_zero (Dy.ok_B (by decide) (by decide)) rfl (by decide) bv3 (by decide +kernel) (by decide +kernel) (by decide +kernel)
  refine ⟨(Dy.rClip (0) (4607182418800017408) sv3), ?_, bv4.rk, Dy.val_le.1 (by rw [Dy.val_zero]; exact bv4.lo), Dy.val_le.1 (by rw [Dy.val_one]; exact (bv4.mono (L' := 0) (H' := 1) (w' := 100) (by decide +kernel)).hi)⟩
  unfold orenM
  refine (Dy.cm_s es).trans ?_
  refine (Dy.cm_s ep).trans ?_
  refine (Dy.cs_mul gv1.1).trans ?_
  refine (Dy.cs_add gv2.1).trans ?_
  refine (Dy.cs_mul gv3.1).trans ?_
  exact congrArg (fun r => (r, (0 : Int))) gv4
theorem value_zero {r s : Int × Int} {i o d : Nat × Nat} {x y : Rat} (hr : Dy.Bd r 0 1 1) (kr : Dy.Has r x) (es : slopeM i o d 0 = (Dy.E s, 0)) (bs : Dy.Bd s (-1) 1 2) (hs : Dy.Has s y) : ∃ v : Int × Int, orenM (Dy.E r) (Dy.E (0, 0)) i o d 0 = (Dy.E v, 0) ∧ Dy.Rk v ∧ Dy.Has v (x / Dy.piQ) := by
  obtain ⟨a, b, ep, ba, bb, ha, hb⟩ := pair_num (z := 0) (by decide) (by decide)
  obtain ⟨x0, x1⟩ := hr.has kr
  obtain ⟨sv1, gv1, bv1⟩ := Dy.bd_mul (12912182984942782085338581740723 / 40564819207303340847894502572032) (-12912182984942784952419151352055 / 40564819207303340847894502572032) (12912182984942784952419151352055 / 40564819207303340847894502572032) (25824365969885598879850695415005 / 40564819207303340847894502572032) (-12912182984942782085338581740723 / 40564819207303340847894502572032) (12912182984942782085338581740723 / 40564819207303340847894502572032) (12912182984942782085338581740723 / 40564819207303340847894502572032) 1 bb bs (by decide +kernel)
  have hv1 : Dy.Has sv1 ((Dy.val 0 * pairQ (Dy.val 0)) * y) := Dy.has_mul bb.rk bs.rk gv1 hb hs
  obtain ⟨sv2, gv2, bv2⟩ := Dy.bd_add (25824365969885564170677163481447 / 40564819207303340847894502572032) (-1442793981943022774195351025211 / 20282409603651670423947251286016) (25824365969885569904838302704111 / 40564819207303340847894502572032) (25824365969885633589024227348565 / 40564819207303340847894502572032) ba bv1 (by decide +kernel)
  have hv2 : Dy.Has sv2 ((pairQ (Dy.val 0)) + ((Dy.val 0 * pairQ (Dy.val 0)) * y)) := Dy.has_add ba.rk bv1.rk gv2 ha hv1
  obtain ⟨sv3, gv3, bv3⟩ := Dy.bd_mul (25824365969885569904838302704111 / 40564819207303340847894502572032) (-2885587963886051282551841273087 / 40564819207303340847894502572032) (3228045746235696954874930240847 / 5070602400912917605986812821504) (24050815002886212878947 / 18889465931478580854784) (-1442793981943022774195351025211 / 20282409603651670423947251286016) (25824365969885569904838302704111 / 40564819207303340847894502572032) 1 (25824365969885569904838302704111 / 40564819207303340847894502572032) hr bv2 (by decide +kernel)
  have hv3 : Dy.Has sv3 (x * ((pairQ (Dy.val 0)) + ((Dy.val 0 * pairQ (Dy.val 0)) * y))) := Dy.has_mul hr.rk bv2.rk gv3 kr hv2
  obtain ⟨gv4, bv4⟩ := Dy.bd_clipq (x := 0) (y := 4607182418800017408) (l := 0) (h := 4607182418800017408) (nx := 0) (dx := 1) (ny := 1) (dy := 1) 0 (3228045746235696954874930240847 / 5070602400912917605986812821504) Dy.ok_zero (Dy.ok_B (by decide) (by decide)) rfl (by decide) bv3 (by decide +kernel) (by decide +kernel) (by decide +kernel)
  have hv4 : Dy.Has (Dy.rClip (0) (4607182418800017408) sv3) (min (max (x * ((pairQ (Dy.val 0)) + ((Dy.val 0 * pairQ (Dy.val 0)) * y))) 0) 1) := Dy.has_clipq (nx := 0) (dx := 1) (ny := 1) (dy := 1) hv3 (by decide +kernel) (by decide +kernel)
  have e : (min (max (x * ((pairQ (Dy.val 0)) + ((Dy.val 0 * pairQ (Dy.val 0)) * y))) 0) 1) = x / Dy.piQ := by
    have p := piQ_pos.1
    have p1 : 1 ≤ Dy.piQ := by unfold Dy.piQ; decide +kernel
    have i1 : x / Dy.piQ * Dy.piQ = x := Rat.div_mul_cancel (by grind)
    have q0 : 0 ≤ x / Dy.piQ := Dy.le_quo p (by grind)
    have q1 : x / Dy.piQ ≤ 1 := Dy.quo_le p (by grind)
    have z : Dy.val 0 = 0 := Dy.val_zero
    have t : x * (pairQ (Dy.val 0) + Dy.val 0 * pairQ (Dy.val 0) * y) = x / Dy.piQ := by
      rw [z]; unfold pairQ
      rw [show Dy.piQ + (Dy.piQ / 2 - 2 / 3) * 0 = Dy.piQ by grind]; grind
    rw [t]; grind
  refine ⟨(Dy.rClip (0) (4607182418800017408) sv3), ?_, bv4.rk, e ▸ hv4⟩
  unfold orenM
  refine (Dy.cm_s es).trans ?_
  refine (Dy.cm_s ep).trans ?_
  refine (Dy.cs_mul gv1.1).trans ?_
  refine (Dy.cs_add gv2.1).trans ?_
  refine (Dy.cs_mul gv3.1).trans ?_
  exact congrArg (fun r => (r, (0 : Int))) gv4
/-- Pi's part of an albedo. -/
theorem lam_num {r : Int × Int} {x : Rat} (hr : Dy.Bd r 0 1 1) (kr : Dy.Has r x) : ∃ v : Int × Int, Dy.Got (Dy.cDiv 0 (Dy.E r) (4614256656552045848, 4614256656552045849)) v ∧ Dy.Has v (x / Dy.piQ) := by
  obtain ⟨bp, ep, hp⟩ := Dy.bd_pi
  obtain ⟨sl1, gl1, bl1⟩ := Dy.bd_div (3228045746235693164742483537269 / 10141204801825835211973625643008) 0 (6456091492471387763025251880203 / 20282409603651670423947251286016) (12912182984942780218371252957215 / 40564819207303340847894502572032) 0 (3228045746235693164742483537269 / 10141204801825835211973625643008) (3228045746235693621052528433639 / 10141204801825835211973625643008) hr bp (by decide +kernel)
  have hl1 : Dy.Has sl1 (x / Dy.piQ) := Dy.has_div hr.rk bp.rk gl1 kr hp
  rw [ep] at gl1
  exact ⟨sl1, gl1, hl1⟩
end Go.Proofs.Ythmkjnhgialnlaa
