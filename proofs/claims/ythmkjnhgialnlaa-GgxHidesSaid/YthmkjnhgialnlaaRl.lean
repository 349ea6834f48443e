/- Plain facts: microfacets (ggx): values. -/
import Derived.Test.YthmkjnhgialnlaaRi
import Derived.Test.YthmkjnhgialnlaaCe
namespace Go.Proofs.Ythmkjnhgialnlaa
open Go Go.RowKit

theorem sq_le1 {c : Rat} (h0 : 0 < c) (h1 : c ≤ 1) : 0 ≤ (1 - c * c) / (c * c) := by
  have p := Rat.mul_pos h0 h0
  have := Dy.mul_abs_le (x := c) (y := c) (m := 1) (w := 1) (by grind) h1 (by grind) h1
  exact Dy.le_quo p (by grind)
theorem root_ge1 {c a : Rat} {r t : Nat → Rat} (h : ∀ κ, 0 ≤ r κ ∧ r κ ≤ t κ ∧ r κ * r κ ≤ 1 + a * a * ((1 - c * c) / (c * c)) ∧ 1 + a * a * ((1 - c * c) / (c * c)) ≤ t κ * t κ) (h0 : 0 < c) (h1 : c ≤ 1) : ∀ κ, 1 ≤ t κ := fun κ => by
  obtain ⟨x0, x1, _, x2⟩ := h κ
  have q := sq_le1 h0 h1
  have aa : 0 ≤ a * a := by
    by_cases s : 0 ≤ a
    · exact Rat.mul_nonneg s s
    · have := Rat.mul_nonneg (show 0 ≤ -a by grind) (show 0 ≤ -a by grind); grind
  have := Rat.mul_nonneg aa q
  exact Dy.sq_le_sq (by decide +kernel) (by grind) (by grind)
theorem lambda_num {c a : Int} (lc : 4571153621781053440 ≤ c) (uc : c ≤ 4607182418800017408) (la : 4584664420663164928 ≤ a) (ua : a ≤ 4607182418800017408) : ∃ (l : Int × Int) (t : Nat → Rat), lambdaM (Dy.E (c, c)) (Dy.E (a, a)) 0 = (Dy.E l, 0) ∧ Dy.Bd l 0 128 1 ∧ (∀ κ, 1 ≤ t κ ∧ t κ ≤ 257) ∧ Dy.Near (fun κ => t κ * t κ) (fun _ => 1 + Dy.val a * Dy.val a * ((1 - Dy.val c * Dy.val c) / (Dy.val c * Dy.val c))) ∧ Dy.HasS l (fun κ => 1 / 2 * (t κ - 1)) := by
  have cc : Dy.Bd (c, c) (1 / 256) 1 0 := (Dy.bd_in (x := 4571153621781053440) (y := 4607182418800017408) (nx := 1) (dx := 256) (ny := 1) (dy := 1) lc uc (Dy.ok_B (by unfold Dy.B10; omega) (by unfold Dy.B10; omega)) (by decide +kernel)).mono (by decide +kernel)
  have ec : Dy.HasS (c, c) (fun κ => Dy.val c) := fun κ => Dy.Has.pt c
  have ca : Dy.Bd (a, a) (1 / 32) 1 0 := (Dy.bd_in (x := 4584664420663164928) (y := 4607182418800017408) (nx := 1) (dx := 32) (ny := 1) (dy := 1) la ua (Dy.ok_B (by unfold Dy.B10; omega) (by unfold Dy.B10; omega)) (by decide +kernel)).mono (by decide +kernel)
  have ea : Dy.HasS (a, a) (fun κ => Dy.val a) := fun κ => Dy.Has.pt a
  have hc0 : 0 < Dy.val c := by have := cc.lo; grind
  have hc1 : Dy.val c ≤ 1 := cc.hi
  obtain ⟨s1, g1, b1⟩ := Dy.bd_sqr 1 (39614081257123161597517234175 / 40564819207303340847894502572032) (37778931862957170098177 / 37778931862957161709568) (19342813113834066795298817 / 43556142965880123323311949751266331066368) 1 ca (by decide +kernel)
  have h1 : Dy.HasS s1 (fun κ => (Dy.val a) * (Dy.val a)) := fun κ => Dy.has_sqr ca.rk g1 (ea κ)
  obtain ⟨s2, g2, b2⟩ := Dy.bd_sqr 1 (618970019633682938194821119 / 40564819207303340847894502572032) (37778931862957170098177 / 37778931862957161709568) (19342813113834066795298817 / 43556142965880123323311949751266331066368) 1 cc (by decide +kernel)
  have h2 : Dy.HasS s2 (fun κ => (Dy.val c) * (Dy.val c)) := fun κ => Dy.has_sqr cc.rk g2 (ec κ)
  obtain ⟨g3, b3, h3⟩ := Dy.bd_num (x := 4607182418800017408) (z := 4607182418800017408) (num := 1) (den := 1) (Dy.ok_B (by decide) (by decide)) (by decide) (by decide) (by decide +kernel)
  have c3 : Dy.Bd ((4607182418800017408 : Int), (4607182418800017408 : Int)) 1 1 0 := b3.mono (by decide +kernel)
  have e3 : Dy.HasS ((4607182418800017408 : Int), (4607182418800017408 : Int)) (fun κ => (1 : Rat)) := fun κ => (show ((1 : Int) : Rat) / (((1 : Nat) : Int) : Rat) = 1 from by decide +kernel) ▸ h3
  obtain ⟨s4, g4, b4⟩ := Dy.bd_sub (40564200237283707164956307750913 / 40564819207303340847894502572032) (-19342666692802983873216513 / 43556142965880123323311949751266331066368) (10141050059320929043004530884609 / 10141204801825835211973625643008) (19342665539881479266369537 / 21778071482940061661655974875633165533184) c3 b2 (by decide +kernel)
  have h4 : Dy.HasS s4 (fun κ => (1 : Rat) - ((Dy.val c) * (Dy.val c))) := fun κ => Dy.has_sub c3.rk b2.rk g4 (e3 κ) (h2 κ)
  obtain ⟨s5, g5, b5⟩ := Dy.bd_div (2475842299674926939403452429 / 37778931862957161709568) (-1901456633114764252038402479377 / 43556142965880123323311949751266331066368) (1237921149837463744575438859 / 18889465931478580854784) (77373613604800756338180099 / 40564819207303340847894502572032) (-79227562774873934721944916097 / 2722258935367507707706996859454145691648) (2475842299674926939403452429 / 37778931862957161709568) (38686216515597210128113667 / 20282409603651670423947251286016) b4 b2 (by decide +kernel)
  have h5 : Dy.HasS s5 (fun κ => ((1 : Rat) - ((Dy.val c) * (Dy.val c))) / ((Dy.val c) * (Dy.val c))) := fun κ => Dy.has_div b4.rk b2.rk g5 (h4 κ) (h2 κ)
  obtain ⟨g6, b6, h6⟩ := Dy.bd_num (x := 4602678819172646912) (z := 4602678819172646912) (num := 1) (den := 2) (Dy.ok_B (by decide) (by decide)) (by decide) (by decide) (by decide +kernel)
  have c6 : Dy.Bd ((4602678819172646912 : Int), (4602678819172646912 : Int)) (1 / 2) (1 / 2) 0 := b6.mono (by decide +kernel)
  have e6 : Dy.HasS ((4602678819172646912 : Int), (4602678819172646912 : Int)) (fun κ => ((1 / 2) : Rat)) := fun κ => (show ((1 : Int) : Rat) / (((2 : Nat) : Int) : Rat) = (1 / 2) from by decide +kernel) ▸ h6
  obtain ⟨s8, g8, b8⟩ := Dy.bd_mul (1237921149837464019449184271 / 18889465931478580854784) (-633818065457886563051155509829 / 10889035741470030830827987437816582766592) (1237921149837464294322896915 / 18889465931478580854784) (77375974752013445683267561 / 40564819207303340847894502572032) (-71835000582810628936149968644147350883533523307795729 / 1645504557321206042154969182557350504982735865633579863348609024) (46767338771423136289736186672895976321851890860043 / 713623846352979940529142984724747568191373312) (37778931862957170098177 / 37778931862957161709568) (1237921149837463744575438859 / 18889465931478580854784) b1 b5 (by decide +kernel)
  have h8 : Dy.HasS s8 (fun κ => ((Dy.val a) * (Dy.val a)) * (((1 : Rat) - ((Dy.val c) * (Dy.val c))) / ((Dy.val c) * (Dy.val c)))) := fun κ => Dy.has_mul b1.rk b5.rk g8 (h1 κ) (h5 κ)
  obtain ⟨s9, g9, b9⟩ := Dy.bd_add (1237940039303395772903751699 / 18889465931478580854784) (40564819204351888747287043243027 / 40564819207303340847894502572032) (2475880078606792095563317295 / 37778931862957161709568) (38688577671817090137744365 / 20282409603651670423947251286016) c3 b8 (by decide +kernel)
  have h9 : Dy.HasS s9 (fun κ => (1 : Rat) + (((Dy.val a) * (Dy.val a)) * (((1 : Rat) - ((Dy.val c) * (Dy.val c))) / ((Dy.val c) * (Dy.val c))))) := fun κ => Dy.has_add c3.rk b8.rk g9 (e3 κ) (h8 κ)
  obtain ⟨s10, g10, b10⟩ := Dy.bd_sqrt (40564819205825308954554699379717 / 40564819207303340847894502572032) (4835703278493704828977601 / 18889465931478580854784) (19344291142455289001462273 / 20282409603651670423947251286016) (40564819205827614797563929852165 / 40564819207303340847894502572032) (9671406556987407510471553 / 37778931862957161709568) (19344288836612279770989825 / 20282409603651670423947251286016) b9 (by decide +kernel)
  obtain ⟨r10, t10, k10, h10, u10, nr10, nt10⟩ := Dy.root_seq b9.rk g10 h9
  obtain ⟨s12, g12, b12⟩ := Dy.bd_sub (4816813812562226248122817 / 18889465931478580854784) (-1589490869756885591356369764865 / 43556142965880123323311949751266331066368) (9633627625124454635340675 / 37778931862957161709568) (19344293439291098977194241 / 20282409603651670423947251286016) b10 c3 (by decide +kernel)
  have h12 : Dy.HasS s12 (fun κ => (t10 κ) - (1 : Rat)) := fun κ => Dy.has_sub b10.rk c3.rk g12 (u10 κ) (e3 κ)
  obtain ⟨s13, g13, b13⟩ := Dy.bd_mul (2408406906281113658835169 / 18889465931478580854784) (-795978539214458725871508488961 / 43556142965880123323311949751266331066368) (2408406906281114193608929 / 18889465931478580854784) (19344295736126908952926719 / 40564819207303340847894502572032) (-1589490869756885591356369764865 / 87112285931760246646623899502532662132736) (9633627625124454635340675 / 75557863725914323419136) (1 / 2) (9633627625124454635340675 / 37778931862957161709568) c6 b12 (by decide +kernel)
  have h13 : Dy.HasS s13 (fun κ => ((1 / 2) : Rat) * ((t10 κ) - (1 : Rat))) := fun κ => Dy.has_mul c6.rk b12.rk g13 (e6 κ) (h12 κ)
  have pos1 : ∀ κ, 1 ≤ t10 κ := root_ge1 k10 hc0 hc1
  have nn1 : ∀ κ, 0 ≤ 1 / 2 * (t10 κ - 1) := fun κ => by have := pos1 κ; grind
  obtain ⟨g14, b14⟩ := Dy.bd_max0 0 (2408406906281114193608929 / 18889465931478580854784) b13 (by decide +kernel)
  have h14 : Dy.HasS (Dy.rMax0 s13) (fun κ => (((1 / 2) : Rat) * ((t10 κ) - (1 : Rat)))) := fun κ => Dy.has_max0 (h13 κ) (by have := nn1 κ; grind)
  refine ⟨(Dy.rMax0 s13), t10, ?_, b14.mono (by decide +kernel), fun κ => ⟨pos1 κ, ((b10.mono (L' := 0) (H' := 257) (w' := 1) (by decide +kernel)).has (u10 κ)).2⟩, nt10, fun κ => ?_⟩
  · unfold lambdaM hidesM
    refine (Dy.cs_sqr g1.1).trans ?_
    refine (Dy.cs_sqr g2.1).trans ?_
    refine (Dy.cs_num g3.1).trans ?_
    refine (Dy.cs_sub g4.1).trans ?_
    refine (Dy.cs_div g5.1).trans ?_
    refine (Dy.cs_num g6.1).trans ?_
    refine (Dy.cs_num g3.1).trans ?_
    refine (Dy.cs_mul g8.1).trans ?_
    refine (Dy.cs_add g9.1).trans ?_
    refine (Dy.cs_sqrt g10.1).trans ?_
    refine (Dy.cs_num g3.1).trans ?_
    refine (Dy.cs_sub g12.1).trans ?_
    refine (Dy.cs_mul g13.1).trans ?_
    exact congrArg (fun r => (r, (0 : Int))) g14
  · have e : (((1 / 2) : Rat) * ((t10 κ) - (1 : Rat))) = 1 / 2 * (t10 κ - 1) := rfl
    show Dy.Has _ (1 / 2 * (t10 κ - 1))
    rw [← e]; exact h14 κ
theorem dflat_num {c : Int} (lc : 4571153621781053440 ≤ c) (uc : c ≤ 4607182418800017408) : ∃ v : Int × Int, dM (Dy.E (c, c)) (4607182418800017408, 4607182418800017408) 0 = (Dy.E v, 0) ∧ Dy.Rk v ∧ Dy.Has v (1 / Dy.piQ) := by
  have cc : Dy.Bd (c, c) (1 / 256) 1 0 := (Dy.bd_in (x := 4571153621781053440) (y := 4607182418800017408) (nx := 1) (dx := 256) (ny := 1) (dy := 1) lc uc (Dy.ok_B (by unfold Dy.B10; omega) (by unfold Dy.B10; omega)) (by decide +kernel)).mono (by decide +kernel)
  have ec : Dy.Has (c, c) (Dy.val c) := Dy.Has.pt c
  obtain ⟨b1, y1, h1⟩ := Dy.bd_pi
  obtain ⟨g2, b2, h2⟩ := Dy.bd_num (x := 4607182418800017408) (z := 4607182418800017408) (num := 1) (den := 1) (Dy.ok_B (by decide) (by decide)) (by decide) (by decide) (by decide +kernel)
  have c2 : Dy.Bd ((4607182418800017408 : Int), (4607182418800017408 : Int)) 1 1 0 := b2.mono (by decide +kernel)
  have e2 : Dy.Has ((4607182418800017408 : Int), (4607182418800017408 : Int)) ((1 : Rat)) := (show ((1 : Int) : Rat) / (((1 : Nat) : Int) : Rat) = 1 from by decide +kernel) ▸ h2
  obtain ⟨s3, g3, b3⟩ := Dy.bd_sqr 1 (40564819207303331840695247831039 / 40564819207303340847894502572032) (37778931862957170098177 / 37778931862957161709568) (19342813113834066795298817 / 43556142965880123323311949751266331066368) 1 c2 (by decide +kernel)
  have h3 : Dy.Has s3 ((1 : Rat) * (1 : Rat)) := Dy.has_sqr c2.rk g3 e2
  obtain ⟨s5, g5, b5⟩ := Dy.bd_sub (8388609 / 37778931862957161709568) (-9671406556917036618875137 / 43556142965880123323311949751266331066368) (9671407709838540151980289 / 43556142965880123323311949751266331066368) (9671406556917035545133313 / 21778071482940061661655974875633165533184) b3 c2 (by decide +kernel)
  have h5 : Dy.Has s5 (((1 : Rat) * (1 : Rat)) - (1 : Rat)) := Dy.has_sub b3.rk c2.rk g5 h3 e2
  obtain ⟨s6, g6, b6⟩ := Dy.bd_sqr 1 (618970019633682938194821119 / 40564819207303340847894502572032) (37778931862957170098177 / 37778931862957161709568) (19342813113834066795298817 / 43556142965880123323311949751266331066368) 1 cc (by decide +kernel)
  have h6 : Dy.Has s6 ((Dy.val c) * (Dy.val c)) := Dy.has_sqr cc.rk g6 ec
  obtain ⟨s7, g7, b7⟩ := Dy.bd_mul (4835703854919271149732225 / 21778071482940061661655974875633165533184) (-4835703278458520456921473 / 21778071482940061661655974875633165533184) (4835703854919272223474177 / 21778071482940061661655974875633165533184) (19342813113834083975170051 / 43556142965880123323311949751266331066368) (-365375409332725932375036625287847713013594325249 / 1645504557321206042154969182557350504982735865633579863348609024) (365375452888868857690350412704157447723098833153 / 1645504557321206042154969182557350504982735865633579863348609024) (9671407709838540151980289 / 43556142965880123323311949751266331066368) (37778931862957170098177 / 37778931862957161709568) b5 b6 (by decide +kernel)
  have h7 : Dy.Has s7 ((((1 : Rat) * (1 : Rat)) - (1 : Rat)) * ((Dy.val c) * (Dy.val c))) := Dy.has_mul b5.rk b6.rk g7 h5 h6
  obtain ⟨s9, g9, b9⟩ := Dy.bd_add (18889465931478585049089 / 18889465931478580854784) (20282409603651661416747996545019 / 20282409603651670423947251286016) (18889465931478589243393 / 18889465931478580854784) (9671406556917038766359297 / 10889035741470030830827987437816582766592) b7 c2 (by decide +kernel)
  have h9 : Dy.Has s9 (((((1 : Rat) * (1 : Rat)) - (1 : Rat)) * ((Dy.val c) * (Dy.val c))) + (1 : Rat)) := Dy.has_add b7.rk c2.rk g9 h7 e2
  obtain ⟨s10, g10, b10⟩ := Dy.bd_sqr (37778931862957195264005 / 37778931862957161709568) (40564819207303295811898228867051 / 40564819207303340847894502572032) (37778931862957203652613 / 37778931862957161709568) (96714065569170428465787401 / 43556142965880123323311949751266331066368) (18889465931478589243393 / 18889465931478580854784) b9 (by decide +kernel)
  have h10 : Dy.Has s10 ((((((1 : Rat) * (1 : Rat)) - (1 : Rat)) * ((Dy.val c) * (Dy.val c))) + (1 : Rat)) * (((((1 : Rat) * (1 : Rat)) - (1 : Rat)) * ((Dy.val c) * (Dy.val c))) + (1 : Rat))) := Dy.has_sqr b9.rk g10 h9
  obtain ⟨s11, g11, b11⟩ := Dy.bd_mul (118686014801135724568219 / 37778931862957161709568) (1854468981267740904711 / 590295810358705651712) (7417875925070984432613 / 2361183241434822606848) (383946250582922993664591085 / 43556142965880123323311949751266331066368) (35870646930064169100601205895764844842291366305 / 11417981541647679048466287755595961091061972992) (267257146016242011040781543875059966333 / 85070591730234615865843651857942052864) (7074237752028441 / 2251799813685248) (37778931862957203652613 / 37778931862957161709568) b1 b10 (by decide +kernel)
  have h11 : Dy.Has s11 (Dy.piQ * ((((((1 : Rat) * (1 : Rat)) - (1 : Rat)) * ((Dy.val c) * (Dy.val c))) + (1 : Rat)) * (((((1 : Rat) * (1 : Rat)) - (1 : Rat)) * ((Dy.val c) * (Dy.val c))) + (1 : Rat)))) := Dy.has_mul b1.rk b10.rk g11 h1 h10
  obtain ⟨s12, g12, b12⟩ := Dy.bd_div (6456091492471396364267153371295 / 20282409603651670423947251286016) (3228045746235686974270853364191 / 10141204801825835211973625643008) (3228045746235698898903719088481 / 10141204801825835211973625643008) (12803976461394305180254345 / 10889035741470030830827987437816582766592) (6456091492471375382081991534049 / 20282409603651670423947251286016) (6456091492471396364267153371295 / 20282409603651670423947251286016) (22529448602419177737471755 / 21778071482940061661655974875633165533184) b3 b11 (by decide +kernel)
  have h12 : Dy.Has s12 (((1 : Rat) * (1 : Rat)) / (Dy.piQ * ((((((1 : Rat) * (1 : Rat)) - (1 : Rat)) * ((Dy.val c) * (Dy.val c))) + (1 : Rat)) * (((((1 : Rat) * (1 : Rat)) - (1 : Rat)) * ((Dy.val c) * (Dy.val c))) + (1 : Rat))))) := Dy.has_div b3.rk b11.rk g12 h3 h11
  have e : (((1 : Rat) * (1 : Rat)) / (Dy.piQ * ((((((1 : Rat) * (1 : Rat)) - (1 : Rat)) * ((Dy.val c) * (Dy.val c))) + (1 : Rat)) * (((((1 : Rat) * (1 : Rat)) - (1 : Rat)) * ((Dy.val c) * (Dy.val c))) + (1 : Rat))))) = 1 / Dy.piQ := by grind
  refine ⟨s12, ?_, b12.rk, e ▸ h12⟩
  rw [Dy.bd_pi.2.1] at *
  unfold dM leansM
  refine (Dy.cs_sqr g3.1).trans ?_
  refine (Dy.cm_s (x := bentM (Dy.E s3) (Dy.E (c, c))) (a := Dy.E s9) (e' := 0) (by unfold bentM; refine (Dy.cs_num g2.1).trans ?_; refine (Dy.cs_sub g5.1).trans ?_; refine (Dy.cs_sqr g6.1).trans ?_; refine (Dy.cs_mul g7.1).trans ?_; refine (Dy.cs_num g2.1).trans ?_; exact g9.1)).trans ?_
  refine (Dy.cs_sqr g10.1).trans ?_
  refine (Dy.cs_mul g11.1).trans ?_
  exact g12.1
theorem flat_num {c a : Int} {l : Int × Int} {t : Nat → Rat} (lc : 4571153621781053440 ≤ c) (uc : c ≤ 4607182418800017408) (la : 4584664420663164928 ≤ a) (ua : a ≤ 4607182418800017408) (bl : Dy.Bd l 0 128 1) (hl : Dy.HasS l (fun κ => 1 / 2 * (t κ - 1))) : ∃ (m s x c2 d n q p p2 y : Int × Int) (w : Nat → Rat), Dy.Got (Dy.cMul 0 (Dy.E (4611686018427387904, 4611686018427387904)) (Dy.E l)) m ∧ Dy.Got (Dy.cAdd 0 (Dy.E m) (Dy.E (4607182418800017408, 4607182418800017408))) s ∧ Dy.Got (Dy.cSqr 0 (Dy.E s)) x ∧ Dy.Got (Dy.cSqr 0 (Dy.E (c, c))) c2 ∧ Dy.Got (Dy.cSub 0 (Dy.E (4607182418800017408, 4607182418800017408)) (Dy.E c2)) d ∧ Dy.Got (Dy.cSqrt 0 (Dy.E d)) n ∧ Dy.Got (Dy.cDiv 0 (Dy.E n) (Dy.E (c, c))) q ∧ Dy.Got (Dy.cMul 0 (Dy.E (a, a)) (Dy.E q)) p ∧ Dy.Got (Dy.cSqr 0 (Dy.E p)) p2 ∧ Dy.Got (Dy.cAdd 0 (Dy.E (4607182418800017408, 4607182418800017408)) (Dy.E p2)) y ∧ Dy.Rk x ∧ Dy.Rk y ∧ Dy.Near (fun κ => w κ * w κ) (fun _ => 1 - Dy.val c * Dy.val c) ∧ Dy.Bnd w ∧ Dy.HasS x (fun κ => t κ * t κ) ∧ Dy.HasS y (fun κ => 1 + Dy.val a * (w κ / Dy.val c) * (Dy.val a * (w κ / Dy.val c))) := by
  have cc : Dy.Bd (c, c) (1 / 256) 1 0 := (Dy.bd_in (x := 4571153621781053440) (y := 4607182418800017408) (nx := 1) (dx := 256) (ny := 1) (dy := 1) lc uc (Dy.ok_B (by unfold Dy.B10; omega) (by unfold Dy.B10; omega)) (by decide +kernel)).mono (by decide +kernel)
  have ec : Dy.HasS (c, c) (fun κ => Dy.val c) := fun κ => Dy.Has.pt c
  have ca : Dy.Bd (a, a) (1 / 32) 1 0 := (Dy.bd_in (x := 4584664420663164928) (y := 4607182418800017408) (nx := 1) (dx := 32) (ny := 1) (dy := 1) la ua (Dy.ok_B (by unfold Dy.B10; omega) (by unfold Dy.B10; omega)) (by decide +kernel)).mono (by decide +kernel)
  have ea : Dy.HasS (a, a) (fun κ => Dy.val a) := fun κ => Dy.Has.pt a
  obtain ⟨gw1, bw1, hw1⟩ := Dy.bd_num (x := 4611686018427387904) (z := 4611686018427387904) (num := 2) (den := 1) (Dy.ok_B (by decide) (by decide)) (by decide) (by decide) (by decide +kernel)
  have cw1 : Dy.Bd ((4611686018427387904 : Int), (4611686018427387904 : Int)) 2 2 0 := bw1.mono (by decide +kernel)
  have ew1 : Dy.HasS ((4611686018427387904 : Int), (4611686018427387904 : Int)) (fun κ => (2 : Rat)) := fun κ => (show ((2 : Int) : Rat) / (((1 : Nat) : Int) : Rat) = 2 from by decide +kernel) ▸ hw1
  obtain ⟨sw2, gw2, bw2⟩ := Dy.bd_mul 256 0 (9671406556917035545133057 / 37778931862957161709568) (75557863725918618386433 / 37778931862957161709568) 0 256 2 128 cw1 bl (by decide +kernel)
  have hw2 : Dy.HasS sw2 (fun κ => (2 : Rat) * (1 / 2 * (t κ - 1))) := fun κ => Dy.has_mul cw1.rk bl.rk gw2 (ew1 κ) (hl κ)
  obtain ⟨gw3, bw3, hw3⟩ := Dy.bd_num (x := 4607182418800017408) (z := 4607182418800017408) (num := 1) (den := 1) (Dy.ok_B (by decide) (by decide)) (by decide) (by decide) (by decide +kernel)
  have cw3 : Dy.Bd ((4607182418800017408 : Int), (4607182418800017408 : Int)) 1 1 0 := bw3.mono (by decide +kernel)
  have ew3 : Dy.HasS ((4607182418800017408 : Int), (4607182418800017408 : Int)) (fun κ => (1 : Rat)) := fun κ => (show ((1 : Int) : Rat) / (((1 : Nat) : Int) : Rat) = 1 from by decide +kernel) ▸ hw3
  obtain ⟨sw4, gw4, bw4⟩ := Dy.bd_add (9709185488779992706842625 / 37778931862957161709568) (40564819207301025997686034136575 / 40564819207303340847894502572032) (4854592744389997431357441 / 18889465931478580854784) (37778931862961465065473 / 18889465931478580854784) bw2 cw3 (by decide +kernel)
  have hw4 : Dy.HasS sw4 (fun κ => ((2 : Rat) * (1 / 2 * (t κ - 1))) + (1 : Rat)) := fun κ => Dy.has_add bw2.rk cw3.rk gw4 (hw2 κ) (ew3 κ)
  obtain ⟨sw5, gw5, bw5⟩ := Dy.bd_sqr (2495260670616459785680192517 / 37778931862957161709568) (40564819206703794643901177525243 / 40564819207303340847894502572032) (2495260670616460339739362309 / 37778931862957161709568) (38836741955125511419069453 / 37778931862957161709568) (4854592744389997431357441 / 18889465931478580854784) bw4 (by decide +kernel)
  have hw5 : Dy.HasS sw5 (fun κ => (((2 : Rat) * (1 / 2 * (t κ - 1))) + (1 : Rat)) * (((2 : Rat) * (1 / 2 * (t κ - 1))) + (1 : Rat))) := fun κ => Dy.has_sqr bw4.rk gw5 (hw4 κ)
  obtain ⟨sw6, gw6, bw6⟩ := Dy.bd_sqr 1 (618970019633682938194821119 / 40564819207303340847894502572032) (37778931862957170098177 / 37778931862957161709568) (19342813113834066795298817 / 43556142965880123323311949751266331066368) 1 cc (by decide +kernel)
  have hw6 : Dy.HasS sw6 (fun κ => (Dy.val c) * (Dy.val c)) := fun κ => Dy.has_sqr cc.rk gw6 (ec κ)
  obtain ⟨sw7, gw7, bw7⟩ := Dy.bd_sub (40564200237283707164956307750913 / 40564819207303340847894502572032) (-19342666692802983873216513 / 43556142965880123323311949751266331066368) (10141050059320929043004530884609 / 10141204801825835211973625643008) (19342665539881479266369537 / 21778071482940061661655974875633165533184) cw3 bw6 (by decide +kernel)
  have hw7 : Dy.HasS sw7 (fun κ => (1 : Rat) - ((Dy.val c) * (Dy.val c))) := fun κ => Dy.has_sub cw3.rk bw6.rk gw7 (ew3 κ) (hw6 κ)
  obtain ⟨sw8, gw8, bw8⟩ := Dy.bd_sqrt0 (40564509721112936889153001488379 / 40564819207303340847894502572032) (40564509721112927882022466486267 / 40564819207303340847894502572032) bw7 (Dy.one_sub_sqr cc.rk ⟨by dsimp only; omega, uc⟩ gw6 gw7) (by decide +kernel)
  obtain ⟨rw8, tw8, kw8, hw8, uw8, nrw8, ntw8⟩ := Dy.root_seq bw7.rk gw8 hw7
  obtain ⟨sw9, gw9, bw9⟩ := Dy.bd_div (2361165226967594172407 / 9223372036854775808) 0 (2361165226967594696691 / 9223372036854775808) (2361165226967595220975 / 9223372036854775808) 0 (2361165226967594172407 / 9223372036854775808) (2361165226967594172407 / 9223372036854775808) bw8 cc (by decide +kernel)
  have hw9 : Dy.HasS sw9 (fun κ => (rw8 κ) / (Dy.val c)) := fun κ => Dy.has_div bw8.rk cc.rk gw9 (hw8 κ) (ec κ)
  obtain ⟨sw10, gw10, bw10⟩ := Dy.bd_mul (2361165226967594696691 / 9223372036854775808) 0 (2361165226967595220975 / 9223372036854775808) (2361165226967596269543 / 9223372036854775808) 0 (2361165226967594696691 / 9223372036854775808) 1 (2361165226967594696691 / 9223372036854775808) ca bw9 (by decide +kernel)
  have hw10 : Dy.HasS sw10 (fun κ => (Dy.val a) * ((rw8 κ) / (Dy.val c))) := fun κ => Dy.has_mul ca.rk bw9.rk gw10 (ea κ) (hw9 κ)
  obtain ⟨sw11, gw11, bw11⟩ := Dy.bd_sqr (2475842299638901990624329905 / 37778931862957161709568) 0 (2475842299638902540371755185 / 37778931862957161709568) (4951684599277807279733211553 / 37778931862957161709568) (2361165226967595220975 / 9223372036854775808) bw10 (by decide +kernel)
  have hw11 : Dy.HasS sw11 (fun κ => ((Dy.val a) * ((rw8 κ) / (Dy.val c))) * ((Dy.val a) * ((rw8 κ) / (Dy.val c)))) := fun κ => Dy.has_sqr bw10.rk gw11 (hw10 κ)
  obtain ⟨sw12, gw12, bw12⟩ := Dy.bd_add (2475880078570765497533464753 / 37778931862957161709568) (40564819206713045037535795740687 / 40564819207303340847894502572032) (1237940039285383023644639321 / 18889465931478580854784) (2475842299638904189622419665 / 18889465931478580854784) cw3 bw11 (by decide +kernel)
  have hw12 : Dy.HasS sw12 (fun κ => (1 : Rat) + (((Dy.val a) * ((rw8 κ) / (Dy.val c))) * ((Dy.val a) * ((rw8 κ) / (Dy.val c))))) := fun κ => Dy.has_add cw3.rk bw11.rk gw12 (ew3 κ) (hw11 κ)
  refine ⟨sw2, sw4, sw5, sw6, sw7, sw8, sw9, sw10, sw11, sw12, rw8, gw2, gw4, gw5, gw6, gw7, gw8, gw9, gw10, gw11, gw12, bw5.rk, bw12.rk, nrw8, Dy.HasS.bnd hw8, fun κ => ?_, fun κ => ?_⟩
  · have e : ((((2 : Rat) * (1 / 2 * (t κ - 1))) + (1 : Rat)) * (((2 : Rat) * (1 / 2 * (t κ - 1))) + (1 : Rat))) = t κ * t κ := by grind
    show Dy.Has _ (t κ * t κ)
    rw [← e]; exact hw5 κ
  · exact hw12 κ
end Go.Proofs.Ythmkjnhgialnlaa
