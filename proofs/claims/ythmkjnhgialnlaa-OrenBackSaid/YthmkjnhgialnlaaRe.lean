/- Plain facts: rough surfaces (oren): bounds, widths and values. -/
import Derived.Test.YthmkjnhgialnlaaRd
import Derived.Test.YthmkjnhgialnlaaCc
namespace Go.Proofs.Ythmkjnhgialnlaa
open Go Go.RowKit

/-- The pair's first number. -/
def pairQ (x : Rat) : Rat := 1 / (Dy.piQ + (Dy.piQ / 2 - 2 / 3) * x)
theorem pair_num {z : Int} (lz : 0 ≤ z) (uz : z ≤ 4607182418800017408) : ∃ a b : Int × Int, pairM (Dy.E (z, z)) 0 = ((Dy.E a, Dy.E b), 0) ∧ Dy.Bd a (10026595021056745138189588524297 / 40564819207303340847894502572032) (807011436558923701141125758087 / 2535301200456458802993406410752) (12477337008116571041899529 / 21778071482940061661655974875633165533184) ∧ Dy.Bd b 0 (12912182984942782085338581740723 / 40564819207303340847894502572032) (31111682656972000887671173 / 43556142965880123323311949751266331066368) ∧ Dy.Has a (pairQ (Dy.val z)) ∧ Dy.Has b (Dy.val z * pairQ (Dy.val z)) := by
  obtain ⟨b1, y1, h1⟩ := Dy.bd_pi
  have cz : Dy.Bd (z, z) 0 1 0 := (Dy.bd_in (x := 0) (y := 4607182418800017408) (nx := 0) (dx := 1) (ny := 1) (dy := 1) lz uz (Dy.ok_B (by unfold Dy.B10; omega) (by unfold Dy.B10; omega)) (by decide +kernel)).mono (by decide +kernel)
  have ez : Dy.Has (z, z) (Dy.val z) := Dy.Has.pt z
  obtain ⟨g2, b2, h2⟩ := Dy.bd_num (x := 4611686018427387904) (z := 4611686018427387904) (num := 2) (den := 1) (Dy.ok_B (by decide) (by decide)) (by decide) (by decide) (by decide +kernel)
  have c2 : Dy.Bd ((4611686018427387904 : Int), (4611686018427387904 : Int)) 2 2 0 := b2.mono (by decide +kernel)
  have e2 : Dy.Has ((4611686018427387904 : Int), (4611686018427387904 : Int)) ((2 : Rat)) := (show ((2 : Int) : Rat) / (((1 : Nat) : Int) : Rat) = 2 from by decide +kernel) ▸ h2
  obtain ⟨g3, b3, h3⟩ := Dy.bd_num (x := 4607182418800017408) (z := 4607182418800017408) (num := 1) (den := 1) (Dy.ok_B (by decide) (by decide)) (by decide) (by decide) (by decide +kernel)
  have c3 : Dy.Bd ((4607182418800017408 : Int), (4607182418800017408 : Int)) 1 1 0 := b3.mono (by decide +kernel)
  have e3 : Dy.Has ((4607182418800017408 : Int), (4607182418800017408 : Int)) ((1 : Rat)) := (show ((1 : Int) : Rat) / (((1 : Nat) : Int) : Rat) = 1 from by decide +kernel) ▸ h3
  obtain ⟨s4, g4, b4⟩ := Dy.bd_div (7074237752028441 / 4503599627370496) (59343007400567774834725 / 37778931862957161709568) (59343007400567809576923 / 37778931862957161709568) (40055026346007745154514945 / 43556142965880123323311949751266331066368) (884279719003555 / 562949953421312) (7074237752028441 / 4503599627370496) (1 / 4503599627370496) b1 c2 (by decide +kernel)
  have h4 : Dy.Has s4 (Dy.piQ / (2 : Rat)) := Dy.has_div b1.rk c2.rk g4 h1 e2
  obtain ⟨g5, b5, h5⟩ := Dy.bd_num (x := 4613937818241073152) (z := 4613937818241073152) (num := 3) (den := 1) (Dy.ok_B (by decide) (by decide)) (by decide) (by decide) (by decide +kernel)
  have c5 : Dy.Bd ((4613937818241073152 : Int), (4613937818241073152 : Int)) 3 3 0 := b5.mono (by decide +kernel)
  have e5 : Dy.Has ((4613937818241073152 : Int), (4613937818241073152 : Int)) ((3 : Rat)) := (show ((3 : Int) : Rat) / (((1 : Nat) : Int) : Rat) = 3 from by decide +kernel) ▸ h5
  obtain ⟨s6, g6, b6⟩ := Dy.bd_div (13521606402434446949298167524011 / 20282409603651670423947251286016) (27043212804868887893796831887359 / 40564819207303340847894502572032) (6760803201217224975848959552171 / 10141204801825835211973625643008) (12895208742556044530199211 / 43556142965880123323311949751266331066368) (27043212804868893898596335048021 / 40564819207303340847894502572032) (13521606402434446949298167524011 / 20282409603651670423947251286016) 0 c2 c5 (by decide +kernel)
  have h6 : Dy.Has s6 ((2 : Rat) / (3 : Rat)) := Dy.has_div c2.rk c5.rk g6 e2 e5
  obtain ⟨s7, g7, b7⟩ := Dy.bd_sub (36675856203062290597013138440193 / 40564819207303340847894502572032) (18337928101531116569793540466745 / 20282409603651670423947251286016) (36675856203062298740689139336419 / 40564819207303340847894502572032) (70438646135098466521211053 / 43556142965880123323311949751266331066368) b4 b6 (by decide +kernel)
  have h7 : Dy.Has s7 ((Dy.piQ / (2 : Rat)) - ((2 : Rat) / (3 : Rat))) := Dy.has_sub b4.rk b6.rk g7 h4 h6
  obtain ⟨s8, g8, b8⟩ := Dy.bd_mul (36675856203062298740689139336419 / 40564819207303340847894502572032) 0 (18337928101531153442182570116323 / 20282409603651670423947251286016) (87927057181633147240915271 / 43556142965880123323311949751266331066368) 0 (36675856203062298740689139336419 / 40564819207303340847894502572032) (36675856203062298740689139336419 / 40564819207303340847894502572032) 1 b7 cz (by decide +kernel)
  have h8 : Dy.Has s8 (((Dy.piQ / (2 : Rat)) - ((2 : Rat) / (3 : Rat))) * (Dy.val z)) := Dy.has_mul b7.rk cz.rk g8 h7 ez
  obtain ⟨s9, g9, b9⟩ := Dy.bd_add (76421533813199324332659 / 18889465931478580854784) (118686014801135542085061 / 37778931862957161709568) (152843067626398682603297 / 37778931862957161709568) (23190690115022915269107113 / 5444517870735015415413993718908291383296) b1 b8 (by decide +kernel)
  have h9 : Dy.Has s9 (Dy.piQ + (((Dy.piQ / (2 : Rat)) - ((2 : Rat) / (3 : Rat))) * (Dy.val z))) := Dy.has_add b1.rk b8.rk g9 h1 h8
  obtain ⟨s10, g10, b10⟩ := Dy.bd_div (12912182984942776351177442518061 / 40564819207303340847894502572032) (10026595021056745138189588524297 / 40564819207303340847894502572032) (807011436558923701141125758087 / 2535301200456458802993406410752) (12477337008116571041899529 / 21778071482940061661655974875633165533184) (2506648755264187001317539533907 / 10141204801825835211973625643008) (12912182984942776351177442518061 / 40564819207303340847894502572032) (9398832687747142323528747 / 21778071482940061661655974875633165533184) c3 b9 (by decide +kernel)
  have h10 : Dy.Has s10 ((1 : Rat) / (Dy.piQ + (((Dy.piQ / (2 : Rat)) - ((2 : Rat) / (3 : Rat))) * (Dy.val z)))) := Dy.has_div c3.rk b9.rk g10 e3 h9
  obtain ⟨s11, g11, b11⟩ := Dy.bd_mul (807011436558923701141125758087 / 2535301200456458802993406410752) 0 (12912182984942782085338581740723 / 40564819207303340847894502572032) (31111682656972000887671173 / 43556142965880123323311949751266331066368) 0 (807011436558923701141125758087 / 2535301200456458802993406410752) 1 (807011436558923701141125758087 / 2535301200456458802993406410752) cz b10 (by decide +kernel)
  have h11 : Dy.Has s11 ((Dy.val z) * ((1 : Rat) / (Dy.piQ + (((Dy.piQ / (2 : Rat)) - ((2 : Rat) / (3 : Rat))) * (Dy.val z))))) := Dy.has_mul cz.rk b10.rk g11 ez h10
  refine ⟨s10, s11, ?_, b10, b11, h10, h11⟩
  rw [← Dy.bd_pi.2.1] at *
  unfold pairM
  refine (Dy.cs_num g2.1).trans ?_
  refine (Dy.cs_num g3.1).trans ?_
  refine (Dy.cs_div g4.1).trans ?_
  refine (Dy.cs_num g5.1).trans ?_
  refine (Dy.cs_div g6.1).trans ?_
  refine (Dy.cs_sub g7.1).trans ?_
  refine (Dy.cs_mul g8.1).trans ?_
  refine (Dy.cs_add g9.1).trans ?_
  refine (Dy.cs_div g10.1).trans ?_
  refine (Dy.cs_mul g11.1).trans ?_
  exact rfl
theorem one_num {a b : Int × Int} {x : Rat} (ba : Dy.Bd a (10026595021056745138189588524297 / 40564819207303340847894502572032) (807011436558923701141125758087 / 2535301200456458802993406410752) (12477337008116571041899529 / 21778071482940061661655974875633165533184)) (bb : Dy.Bd b 0 (12912182984942782085338581740723 / 40564819207303340847894502572032) (31111682656972000887671173 / 43556142965880123323311949751266331066368)) (ha : Dy.Has a (pairQ x)) (hb : Dy.Has b (x * pairQ x)) (x0 : 0 ≤ x) :
    ∃ h t d m n s : Int × Int, Dy.Got (Dy.cDiv 0 (Dy.E Dy.piP) (Dy.E (4611686018427387904, 4611686018427387904))) h ∧ Dy.Got (Dy.cDiv 0 (Dy.E (4611686018427387904, 4611686018427387904)) (Dy.E (4613937818241073152, 4613937818241073152))) t ∧ Dy.Got (Dy.cSub 0 (Dy.E h) (Dy.E t)) d ∧ Dy.Got (Dy.cMul 0 (Dy.E Dy.piP) (Dy.E a)) m ∧ Dy.Got (Dy.cMul 0 (Dy.E d) (Dy.E b)) n ∧ Dy.Got (Dy.cAdd 0 (Dy.E m) (Dy.E n)) s ∧ Dy.Bd s (15749738629335923467968757217897 / 20282409603651670423947251286016) (48651459460140422702827 / 37778931862957161709568) (11557739761932360492315929 / 2722258935367507707706996859454145691648) ∧ Dy.Has s 1 := by
  obtain ⟨bo1, yo1, ho1⟩ := Dy.bd_pi
  obtain ⟨go2, bo2, ho2⟩ := Dy.bd_num (x := 4611686018427387904) (z := 4611686018427387904) (num := 2) (den := 1) (Dy.ok_B (by decide) (by decide)) (by decide) (by decide) (by decide +kernel)
  have co2 : Dy.Bd ((4611686018427387904 : Int), (4611686018427387904 : Int)) 2 2 0 := bo2.mono (by decide +kernel)
  have eo2 : Dy.Has ((4611686018427387904 : Int), (4611686018427387904 : Int)) ((2 : Rat)) := (show ((2 : Int) : Rat) / (((1 : Nat) : Int) : Rat) = 2 from by decide +kernel) ▸ ho2
  obtain ⟨so3, go3, bo3⟩ := Dy.bd_div (7074237752028441 / 4503599627370496) (59343007400567774834725 / 37778931862957161709568) (59343007400567809576923 / 37778931862957161709568) (40055026346007745154514945 / 43556142965880123323311949751266331066368) (884279719003555 / 562949953421312) (7074237752028441 / 4503599627370496) (1 / 4503599627370496) bo1 co2 (by decide +kernel)
  have ho3 : Dy.Has so3 (Dy.piQ / (2 : Rat)) := Dy.has_div bo1.rk co2.rk go3 ho1 eo2
  obtain ⟨go4, bo4, ho4⟩ := Dy.bd_num (x := 4613937818241073152) (z := 4613937818241073152) (num := 3) (den := 1) (Dy.ok_B (by decide) (by decide)) (by decide) (by decide) (by decide +kernel)
  have co4 : Dy.Bd ((4613937818241073152 : Int), (4613937818241073152 : Int)) 3 3 0 := bo4.mono (by decide +kernel)
  have eo4 : Dy.Has ((4613937818241073152 : Int), (4613937818241073152 : Int)) ((3 : Rat)) := (show ((3 : Int) : Rat) / (((1 : Nat) : Int) : Rat) = 3 from by decide +kernel) ▸ ho4
  obtain ⟨so5, go5, bo5⟩ := Dy.bd_div (13521606402434446949298167524011 / 20282409603651670423947251286016) (27043212804868887893796831887359 / 40564819207303340847894502572032) (6760803201217224975848959552171 / 10141204801825835211973625643008) (12895208742556044530199211 / 43556142965880123323311949751266331066368) (27043212804868893898596335048021 / 40564819207303340847894502572032) (13521606402434446949298167524011 / 20282409603651670423947251286016) 0 co2 co4 (by decide +kernel)
  have ho5 : Dy.Has so5 ((2 : Rat) / (3 : Rat)) := Dy.has_div co2.rk co4.rk go5 eo2 eo4
  obtain ⟨so6, go6, bo6⟩ := Dy.bd_sub (36675856203062290597013138440193 / 40564819207303340847894502572032) (18337928101531116569793540466745 / 20282409603651670423947251286016) (36675856203062298740689139336419 / 40564819207303340847894502572032) (70438646135098466521211053 / 43556142965880123323311949751266331066368) bo3 bo5 (by decide +kernel)
  have ho6 : Dy.Has so6 ((Dy.piQ / (2 : Rat)) - ((2 : Rat) / (3 : Rat))) := Dy.has_sub bo3.rk bo5.rk go6 ho3 ho5
  obtain ⟨so7, go7, bo7⟩ := Dy.bd_mul (9444732965739296560331 / 9444732965739290427392) (15749738629335929267674675069871 / 20282409603651670423947251286016) (9444732965739298657483 / 9444732965739290427392) (51948621158349543046923629 / 21778071482940061661655974875633165533184) (8866314627782502219152762237957239819746875835 / 11417981541647679048466287755595961091061972992) (5708990770823843231367289666622829458109752367 / 5708990770823839524233143877797980545530986496) (7074237752028441 / 2251799813685248) (807011436558923701141125758087 / 2535301200456458802993406410752) bo1 ba (by decide +kernel)
  have ho7 : Dy.Has so7 (Dy.piQ * pairQ x) := Dy.has_mul bo1.rk ba.rk go7 ho1 ha
  obtain ⟨so8, go8, bo8⟩ := Dy.bd_mul (11674287613689842381573393120147 / 40564819207303340847894502572032) 0 (11674287613689844973785974083095 / 40564819207303340847894502572032) (56117046630626790890390709 / 43556142965880123323311949751266331066368) 0 (473565366423389202684151966000693514885577000838760438129290937 / 1645504557321206042154969182557350504982735865633579863348609024) (36675856203062298740689139336419 / 40564819207303340847894502572032) (12912182984942782085338581740723 / 40564819207303340847894502572032) bo6 bb (by decide +kernel)
  have ho8 : Dy.Has so8 (((Dy.piQ / (2 : Rat)) - ((2 : Rat) / (3 : Rat))) * (x * pairQ x)) := Dy.has_mul bo6.rk bb.rk go8 ho6 hb
  obtain ⟨so9, go9, bo9⟩ := Dy.bd_add (48651459460140411900033 / 37778931862957161709568) (15749738629335923467968757217897 / 20282409603651670423947251286016) (48651459460140422702827 / 37778931862957161709568) (11557739761932360492315929 / 2722258935367507707706996859454145691648) bo7 bo8 (by decide +kernel)
  have ho9 : Dy.Has so9 ((Dy.piQ * pairQ x) + (((Dy.piQ / (2 : Rat)) - ((2 : Rat) / (3 : Rat))) * (x * pairQ x))) := Dy.has_add bo7.rk bo8.rk go9 ho7 ho8
  refine ⟨_, _, _, _, _, _, go3, go5, go6, go7, go8, go9, bo9, ?_⟩
  have e : ((Dy.piQ * pairQ x) + (((Dy.piQ / (2 : Rat)) - ((2 : Rat) / (3 : Rat))) * (x * pairQ x))) = 1 := by
    have q0 : (0 : Rat) < Dy.piQ := by unfold Dy.piQ; decide +kernel
    have q1 : (0 : Rat) < Dy.piQ / 2 - 2 / 3 := by unfold Dy.piQ; decide +kernel
    have q2 := Rat.mul_nonneg (show 0 ≤ Dy.piQ / 2 - 2 / 3 by grind) x0
    unfold pairQ
    have n : Dy.piQ + (Dy.piQ / 2 - 2 / 3) * x ≠ 0 := by grind
    grind
  exact e ▸ ho9
/-- The slope. -/
def slopeQ (x y t : Rat) : Rat := min (max (if t - x * y ≤ 0 then t - x * y else (t - x * y) / max x y) (-1)) 1
theorem hull_b {p r : Int × Int} {L H w L' H' w' : Rat} (hp : Dy.Bd p L H w) (hr : Dy.Bd r L' H' w') (h1 : p.1 ≤ r.1) (h2 : 0 ≤ r.1) (h3 : p.1 ≤ 0) (h4 : Dy.val p.1 ≥ -w) (h5 : Dy.val r.1 ≤ 0) : Dy.iHull ((Dy.E p).1, 0) (Dy.E r) = Dy.E (p.1, r.2) ∧ Dy.Bd (p.1, r.2) L H' (w + w') := by
  have e : Dy.iHull (Dy.E (p.1, 0)) (Dy.E r) = _ := Dy.iHull_E (p := (p.1, 0)) (q := r) ⟨hp.rk.lo, Dy.ok_zero, h3⟩ hr.rk
  have l := hr.rk.le
  rw [show min (p.1, (0 : Int)).1 r.1 = p.1 by dsimp only; omega, show max (p.1, (0 : Int)).2 r.2 = r.2 by dsimp only; omega] at e
  refine ⟨e, ⟨hp.rk.lo, hr.rk.hi, by dsimp only; omega⟩, hp.lo, hr.hi, ?_⟩
  have := hr.wd
  show Dy.val r.2 - Dy.val p.1 ≤ _
  grind
set_option maxHeartbeats 1000000 in
theorem slope_num {x y t : Int} (lx : 4571153621781053440 ≤ x) (ux : x ≤ 4607182418800017408) (ly : 4571153621781053440 ≤ y) (uy : y ≤ 4607182418800017408) (lt : -4607182418800017408 ≤ t) (ut : t ≤ 4607182418800017408) : ∃ s : Int × Int, slopeM (Dy.E (x, x)) (Dy.E (y, y)) (Dy.E (t, t)) 0 = (Dy.E s, 0) ∧ Dy.Bd s (-1) 1 (19864993510043865086790075907 / 43556142965880123323311949751266331066368) ∧ Dy.Has s (slopeQ (Dy.val x) (Dy.val y) (Dy.val t)) := by
  have cx : Dy.Bd (x, x) (1 / 256) 1 0 := (Dy.bd_in (x := 4571153621781053440) (y := 4607182418800017408) (nx := 1) (dx := 256) (ny := 1) (dy := 1) lx ux (Dy.ok_B (by unfold Dy.B10; omega) (by unfold Dy.B10; omega)) (by decide +kernel)).mono (by decide +kernel)
  have ex : Dy.Has (x, x) (Dy.val x) := Dy.Has.pt x
  have cy : Dy.Bd (y, y) (1 / 256) 1 0 := (Dy.bd_in (x := 4571153621781053440) (y := 4607182418800017408) (nx := 1) (dx := 256) (ny := 1) (dy := 1) ly uy (Dy.ok_B (by unfold Dy.B10; omega) (by unfold Dy.B10; omega)) (by decide +kernel)).mono (by decide +kernel)
  have ey : Dy.Has (y, y) (Dy.val y) := Dy.Has.pt y
  have ct : Dy.Bd (t, t) (-1) 1 0 := (Dy.bd_in (x := -4607182418800017408) (y := 4607182418800017408) (nx := -1) (dx := 1) (ny := 1) (dy := 1) lt ut (Dy.ok_B (by unfold Dy.B10; omega) (by unfold Dy.B10; omega)) (by decide +kernel)).mono (by decide +kernel)
  have et : Dy.Has (t, t) (Dy.val t) := Dy.Has.pt t
  obtain ⟨ss1, gs1, bs1⟩ := Dy.bd_mul 1 (618970019633682938194821119 / 40564819207303340847894502572032) (37778931862957170098177 / 37778931862957161709568) (19342813113834066795298817 / 43556142965880123323311949751266331066368) (1 / 65536) 1 1 1 cx cy (by decide +kernel)
  have hs1 : Dy.Has ss1 ((Dy.val x) * (Dy.val y)) := Dy.has_mul cx.rk cy.rk gs1 ex ey
  obtain ⟨ss2, gs2, bs2⟩ := Dy.bd_sub (75557863725914331807745 / 37778931862957161709568) (-37778931862957174292481 / 18889465931478580854784) (10141050059320931294838704308225 / 10141204801825835211973625643008) (29014219670751102340432129 / 21778071482940061661655974875633165533184) ct bs1 (by decide +kernel)
  have hs2 : Dy.Has ss2 ((Dy.val t) - ((Dy.val x) * (Dy.val y))) := Dy.has_sub ct.rk bs1.rk gs2 et hs1
  obtain ⟨gs3, bs3⟩ := Dy.bd_max (1 / 256) 1 0 cx cy (by decide +kernel)
  have hs3 : Dy.Has (Dy.rMax (x, x) (y, y)) (max (Dy.val x) (Dy.val y)) := Dy.has_max ex ey
  have mp : 0 < max (Dy.val x) (Dy.val y) := by have := cx.lo; grind
  have hlo := hs2.lo
  have hhi := hs2.hi
  have z0 := Dy.val_zero
  have hwd := bs2.wd
  by_cases h1 : ss2.2 ≤ 0
  · have v1 := Dy.val_le.2 h1
    obtain ⟨gk, bk⟩ := Dy.bd_clipq (x := (-4607182418800017408)) (y := 4607182418800017408) (l := 13830554455654793216) (h := 4607182418800017408) (nx := -1) (dx := 1) (ny := 1) (dy := 1) (-1) 1 (Dy.ok_neg (Dy.ok_B (by decide) (by decide))) (Dy.ok_B (by decide) (by decide)) (by decide) (by decide) bs2 (by decide +kernel) (by decide +kernel) (by decide +kernel)
    have hk := Dy.has_clipq (x := (-4607182418800017408)) (y := 4607182418800017408) (nx := -1) (dx := 1) (ny := 1) (dy := 1) (a := -1) (b := 1) hs2 (by decide +kernel) (by decide +kernel)
    refine ⟨_, ?_, bk.mono (by decide +kernel), ?_⟩
    · unfold slopeM
      refine (Dy.cs_mul gs1.1).trans ?_
      refine (Dy.cs_sub gs2.1).trans ?_
      refine (Dy.cif_t ((pos_enc bs2.rk).1.trans (decide_eq_true h1))).trans ?_
      exact congrArg (fun r => (r, (0 : Int))) gk
    · have e : slopeQ (Dy.val x) (Dy.val y) (Dy.val t) = min (max (Dy.val t - Dy.val x * Dy.val y) (-1)) 1 := by unfold slopeQ; rw [if_pos (by grind)]
      rw [e]; exact hk
  · by_cases h2 : 0 ≤ ss2.1
    · have v2 := Dy.val_le.2 h2
      have bp : Dy.Bd ss2 0 (10141050059320931294838704308225 / 10141204801825835211973625643008) (29014219670751102340432129 / 21778071482940061661655974875633165533184) := ⟨bs2.rk, by grind, bs2.hi, bs2.wd⟩
      obtain ⟨qq, gq, bq⟩ := Dy.bd_div (9671258982964450163687425 / 37778931862957161709568) 0 (4835629491482226155569153 / 18889465931478580854784) (19806965070702362882109211649 / 43556142965880123323311949751266331066368) 0 (9671258982964450163687425 / 37778931862957161709568) (29014219670751102340432129 / 85070591730234615865843651857942052864) bp bs3 (by decide +kernel)
      have hq := Dy.has_div bp.rk bs3.rk gq hs2 hs3
      obtain ⟨gk, bk⟩ := Dy.bd_clipq (x := (-4607182418800017408)) (y := 4607182418800017408) (l := 13830554455654793216) (h := 4607182418800017408) (nx := -1) (dx := 1) (ny := 1) (dy := 1) (-1) 1 (Dy.ok_neg (Dy.ok_B (by decide) (by decide))) (Dy.ok_B (by decide) (by decide)) (by decide) (by decide) bq (by decide +kernel) (by decide +kernel) (by decide +kernel)
      have hk := Dy.has_clipq (x := (-4607182418800017408)) (y := 4607182418800017408) (nx := -1) (dx := 1) (ny := 1) (dy := 1) (a := -1) (b := 1) hq (by decide +kernel) (by decide +kernel)
      refine ⟨_, ?_, bk.mono (by decide +kernel), ?_⟩
      · unfold slopeM
        refine (Dy.cs_mul gs1.1).trans ?_
        refine (Dy.cs_sub gs2.1).trans ?_
        refine (Dy.cif_f ((pos_enc bs2.rk).1.trans (decide_eq_false h1))).trans ?_
        refine (Dy.cif_t ((pos_enc bs2.rk).2.trans (decide_eq_true h2))).trans ?_
        refine (Dy.cs_max gs3.1).trans ?_
        refine (Dy.cs_div gq.1).trans ?_
        exact congrArg (fun r => (r, (0 : Int))) gk
      · have e : slopeQ (Dy.val x) (Dy.val y) (Dy.val t) = min (max ((Dy.val t - Dy.val x * Dy.val y) / max (Dy.val x) (Dy.val y)) (-1)) 1 := by
          unfold slopeQ
          by_cases c : Dy.val t - Dy.val x * Dy.val y ≤ 0
          · have c' : Dy.val t - Dy.val x * Dy.val y = 0 := by grind
            rw [if_pos c, c']
            rw [show (0 : Rat) / max (Dy.val x) (Dy.val y) = 0 by grind]
          · rw [if_neg c]
        rw [e]; exact hk
    · have v1 : Dy.val ss2.1 ≤ 0 := by rw [← z0]; exact Dy.val_le.2 (by omega)
      have v2 : 0 ≤ Dy.val ss2.2 := by rw [← z0]; exact Dy.val_le.2 (by omega)
      have bp : Dy.Bd (0, ss2.2) 0 (10141050059320931294838704308225 / 10141204801825835211973625643008) (29014219670751102340432129 / 21778071482940061661655974875633165533184) := ⟨⟨Dy.ok_zero, bs2.rk.hi, by dsimp only; omega⟩, by rw [z0]; grind, bs2.hi, by show Dy.val ss2.2 - Dy.val 0 ≤ _; rw [z0]; grind⟩
      obtain ⟨qq, gq, bq⟩ := Dy.bd_div (9671258982964450163687425 / 37778931862957161709568) 0 (4835629491482226155569153 / 18889465931478580854784) (19806965070702362882109211649 / 43556142965880123323311949751266331066368) 0 (9671258982964450163687425 / 37778931862957161709568) (29014219670751102340432129 / 85070591730234615865843651857942052864) bp bs3 (by decide +kernel)
      have q0 : 0 ≤ qq.1 := Dy.val_le.1 (by rw [z0]; exact bq.lo)
      have q1 : Dy.val qq.1 ≤ 0 := by
        have := (Dy.has_div bp.rk bs3.rk gq (x := 0) ⟨by rw [z0]; grind, v2⟩ hs3).lo
        rw [show (0 : Rat) / max (Dy.val x) (Dy.val y) = 0 by grind] at this
        exact this
      obtain ⟨he, bh⟩ := hull_b bs2 bq (by omega) q0 (by omega) (by grind) q1
      have hh : Dy.Has (ss2.1, qq.2) (if Dy.val t - Dy.val x * Dy.val y ≤ 0 then Dy.val t - Dy.val x * Dy.val y else (Dy.val t - Dy.val x * Dy.val y) / max (Dy.val x) (Dy.val y)) := by
        have b1 := bq.lo
        have b2 := Dy.val_le.2 bq.rk.le
        by_cases c : Dy.val t - Dy.val x * Dy.val y ≤ 0
        · rw [if_pos c]; exact ⟨hlo, by dsimp only; grind⟩
        · rw [if_neg c]
          have hp : Dy.Has (0, ss2.2) (Dy.val t - Dy.val x * Dy.val y) := ⟨by rw [z0]; grind, hhi⟩
          have hq := Dy.has_div bp.rk bs3.rk gq hp hs3
          exact ⟨by have := hq.lo; dsimp only; grind, hq.hi⟩
      obtain ⟨gk, bk⟩ := Dy.bd_clipq (x := (-4607182418800017408)) (y := 4607182418800017408) (l := 13830554455654793216) (h := 4607182418800017408) (nx := -1) (dx := 1) (ny := 1) (dy := 1) (-1) 1 (Dy.ok_neg (Dy.ok_B (by decide) (by decide))) (Dy.ok_B (by decide) (by decide)) (by decide) (by decide) bh (by decide +kernel) (by decide +kernel) (by decide +kernel)
      have hk := Dy.has_clipq (x := (-4607182418800017408)) (y := 4607182418800017408) (nx := -1) (dx := 1) (ny := 1) (dy := 1) (a := -1) (b := 1) hh (by decide +kernel) (by decide +kernel)
      refine ⟨_, ?_, bk.mono (by decide +kernel), hk⟩
      · unfold slopeM
        refine (Dy.cs_mul gs1.1).trans ?_
        refine (Dy.cs_sub gs2.1).trans ?_
        refine (Dy.cif_f ((pos_enc bs2.rk).1.trans (decide_eq_false h1))).trans ?_
        refine (Dy.cif_f ((pos_enc bs2.rk).2.trans (decide_eq_false h2))).trans ?_
        refine (Dy.cs_max gs3.1).trans ?_
        refine (Dy.cs_div (x := (0, (Dy.E ss2).2)) (y := Dy.E (Dy.rMax (x, x) (y, y))) gq.1).trans ?_
        exact congrArg (fun r => (r, (0 : Int))) ((congrArg (Dy.clip 13830554455654793216 4607182418800017408) he).trans gk)
end Go.Proofs.Ythmkjnhgialnlaa
