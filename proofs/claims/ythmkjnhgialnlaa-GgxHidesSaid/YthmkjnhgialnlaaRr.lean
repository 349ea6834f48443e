/- Plain facts: what is seen (ggx): widths and values. -/
import Derived.Test.YthmkjnhgialnlaaRl
namespace Go.Proofs.Ythmkjnhgialnlaa
open Go Go.RowKit

theorem alpha_num {a : Int} (la : 4584664420663164928 ≤ a) (ua : a ≤ 4607182418800017408) : ∃ s : Int × Int, Dy.Got (Dy.cSqr 0 (Dy.E (a, a))) s ∧ Dy.Bd s (39614081257123161597517234175 / 40564819207303340847894502572032) (37778931862957170098177 / 37778931862957161709568) (19342813113834066795298817 / 43556142965880123323311949751266331066368) ∧ Dy.Has s (Dy.val a * Dy.val a) := by
  have ca : Dy.Bd (a, a) (1 / 32) 1 0 := (Dy.bd_in (x := 4584664420663164928) (y := 4607182418800017408) (nx := 1) (dx := 32) (ny := 1) (dy := 1) la ua (Dy.ok_B (by unfold Dy.B10; omega) (by unfold Dy.B10; omega)) (by decide +kernel)).mono (by decide +kernel)
  have ea : Dy.Has (a, a) (Dy.val a) := Dy.Has.pt a
  obtain ⟨s1, g1, b1⟩ := Dy.bd_sqr 1 (39614081257123161597517234175 / 40564819207303340847894502572032) (37778931862957170098177 / 37778931862957161709568) (19342813113834066795298817 / 43556142965880123323311949751266331066368) 1 ca (by decide +kernel)
  have h1 : Dy.Has s1 ((Dy.val a) * (Dy.val a)) := Dy.has_sqr ca.rk g1 ea
  exact ⟨s1, g1, b1, h1⟩
theorem hides_0 {s : Int × Int} {a c : Int} (bs : Dy.Bd s (39614081257123161597517234175 / 40564819207303340847894502572032) (37778931862957170098177 / 37778931862957161709568) (19342813113834066795298817 / 43556142965880123323311949751266331066368)) (hs : Dy.HasS s (fun _ => Dy.val a * Dy.val a)) (lc : 4571153621781053440 ≤ c) (uc : c ≤ 4580160821035794432) : ∃ (l : Int × Int) (t : Nat → Rat), hidesM (Dy.E s) (Dy.E (c, c)) 0 = (Dy.E l, 0) ∧ Dy.Bd l 0 128 (1 / 4294967296) ∧ (∀ κ, 1 ≤ t κ) ∧ Dy.HasS l (fun κ => 1 / 2 * (t κ - 1)) := by
  have cc : Dy.Bd (c, c) (1 / 256) (1 / 64) 0 := (Dy.bd_in (x := 4571153621781053440) (y := 4580160821035794432) (nx := 1) (dx := 256) (ny := 1) (dy := 64) lc uc (Dy.ok_B (by unfold Dy.B10; omega) (by unfold Dy.B10; omega)) (by decide +kernel)).mono (by decide +kernel)
  have ec : Dy.HasS (c, c) (fun κ => Dy.val c) := fun κ => Dy.Has.pt c
  have hc0 : 0 < Dy.val c := by have := cc.lo; grind
  have hc1 : Dy.val c ≤ 1 := Rat.le_trans cc.hi (by decide +kernel)
  obtain ⟨s1, g1, b1⟩ := Dy.bd_sqr (1 / 4096) (618970019642687938426306559 / 40564819207303340847894502572032) (9903520314283044398216249345 / 40564819207303340847894502572032) (5070602400912917605986812821505 / 46768052394588893382517914646921056628989841375232) (1 / 64) cc (by decide +kernel)
  have h1 : Dy.HasS s1 (fun κ => (Dy.val c) * (Dy.val c)) := fun κ => Dy.has_sqr cc.rk g1 (ec κ)
  obtain ⟨g2, b2, h2⟩ := Dy.bd_num (x := 4607182418800017408) (z := 4607182418800017408) (num := 1) (den := 1) (Dy.ok_B (by decide) (by decide)) (by decide) (by decide) (by decide +kernel)
  have c2 : Dy.Bd ((4607182418800017408 : Int), (4607182418800017408 : Int)) 1 1 0 := b2.mono (by decide +kernel)
  have e2 : Dy.HasS ((4607182418800017408 : Int), (4607182418800017408 : Int)) (fun κ => (1 : Rat)) := fun κ => (show ((1 : Int) : Rat) / (((1 : Nat) : Int) : Rat) = 1 from by decide +kernel) ▸ h2
  obtain ⟨s3, g3, b3⟩ := Dy.bd_sub (40564200237283698159956076265473 / 40564819207303340847894502572032) (20277457843494524398217235267583 / 20282409603651670423947251286016) (20282100118641853583508946026497 / 20282409603651670423947251286016) (19347240332411757088735233 / 43556142965880123323311949751266331066368) c2 b1 (by decide +kernel)
  have h3 : Dy.HasS s3 (fun κ => (1 : Rat) - ((Dy.val c) * (Dy.val c))) := fun κ => Dy.has_sub c2.rk b1.rk g3 (e2 κ) (h1 κ)
  obtain ⟨s4, g4, b4⟩ := Dy.bd_div (2475842299638906938476986373 / 37778931862957161709568) (77352362989404479367151615 / 18889465931478580854784) (1237921149819453744112205827 / 18889465931478580854784) (22817672118482059466195987477541 / 43556142965880123323311949751266331066368) (154704725978809508481728511 / 37778931862957161709568) (2475842299638906938476986373 / 37778931862957161709568) (5387510215266734778423942613641 / 10889035741470030830827987437816582766592) b3 b1 (by decide +kernel)
  have h4 : Dy.HasS s4 (fun κ => ((1 : Rat) - ((Dy.val c) * (Dy.val c))) / ((Dy.val c) * (Dy.val c))) := fun κ => Dy.has_div b3.rk b1.rk g4 (h3 κ) (h1 κ)
  obtain ⟨g5, b5, h5⟩ := Dy.bd_num (x := 4602678819172646912) (z := 4602678819172646912) (num := 1) (den := 2) (Dy.ok_B (by decide) (by decide)) (by decide) (by decide) (by decide +kernel)
  have c5 : Dy.Bd ((4602678819172646912 : Int), (4602678819172646912 : Int)) (1 / 2) (1 / 2) 0 := b5.mono (by decide +kernel)
  have e5 : Dy.HasS ((4602678819172646912 : Int), (4602678819172646912 : Int)) (fun κ => ((1 / 2) : Rat)) := fun κ => (show ((1 : Int) : Rat) / (((2 : Nat) : Int) : Rat) = (1 / 2) from by decide +kernel) ▸ h5
  obtain ⟨s7, g7, b7⟩ := Dy.bd_mul (1237921149819454018985951235 / 18889465931478580854784) (151078833963096524988927 / 37778931862957161709568) (1237921149819454293859663875 / 18889465931478580854784) (3169116829164038260268761901321 / 5444517870735015415413993718908291383296) (3064242792892755316287632048661717156871302342684442625 / 766247770432944429179173513575154591809369561091801088) (46767338770742737709383878886828750161133621477379 / 713623846352979940529142984724747568191373312) (37778931862957170098177 / 37778931862957161709568) (1237921149819453744112205827 / 18889465931478580854784) bs b4 (by decide +kernel)
  have h7 : Dy.HasS s7 (fun κ => (Dy.val a * Dy.val a) * (((1 : Rat) - ((Dy.val c) * (Dy.val c))) / ((Dy.val c) * (Dy.val c)))) := fun κ => Dy.has_mul bs.rk b4.rk g7 (hs κ) (h4 κ)
  obtain ⟨s8, g8, b8⟩ := Dy.bd_add (1237940039285385772440518659 / 18889465931478580854784) (94428882912751965442303 / 18889465931478580854784) (2475880078570772094636851207 / 37778931862957161709568) (26620585233540541113129186317385 / 43556142965880123323311949751266331066368) c2 b7 (by decide +kernel)
  have h8 : Dy.HasS s8 (fun κ => (1 : Rat) + ((Dy.val a * Dy.val a) * (((1 : Rat) - ((Dy.val c) * (Dy.val c))) / ((Dy.val c) * (Dy.val c))))) := fun κ => Dy.has_add c2.rk b7.rk g8 (e2 κ) (h7 κ)
  obtain ⟨s9, g9, b9⟩ := Dy.bd_sqrt (84468009725053128076357 / 37778931862957161709568) (4835703278458529046822977 / 18889465931478580854784) (1489519241687584549269158294339 / 10889035741470030830827987437816582766592) (42234004862527637780003 / 18889465931478580854784) (9671406556917055946162305 / 37778931862957161709568) (5953125206593196664432198077195 / 43556142965880123323311949751266331066368) b8 (by decide +kernel)
  obtain ⟨r9, t9, k9, h9, u9, nr9, nt9⟩ := Dy.root_seq b8.rk g9 h8
  obtain ⟨s11, g11, b11⟩ := Dy.bd_sub (4816813812527050465968193 / 18889465931478580854784) (11672269465523456817937 / 9444732965739290427392) (9633627625054103071031427 / 37778931862957161709568) (5963009384094365896753784606989 / 43556142965880123323311949751266331066368) b9 c2 (by decide +kernel)
  have h11 : Dy.HasS s11 (fun κ => (t9 κ) - (1 : Rat)) := fun κ => Dy.has_sub b9.rk c2.rk g11 (u9 κ) (e2 κ)
  obtain ⟨s12, g12, b12⟩ := Dy.bd_mul (2408406906263525767757857 / 18889465931478580854784) (25066007812260174859048841114497 / 40564819207303340847894502572032) (2408406906263526302531617 / 18889465931478580854784) (2983970900719196798763076349063 / 43556142965880123323311949751266331066368) (11672269465523456817937 / 18889465931478580854784) (9633627625054103071031427 / 75557863725914323419136) (1 / 2) (9633627625054103071031427 / 37778931862957161709568) c5 b11 (by decide +kernel)
  have h12 : Dy.HasS s12 (fun κ => ((1 / 2) : Rat) * ((t9 κ) - (1 : Rat))) := fun κ => Dy.has_mul c5.rk b11.rk g12 (e5 κ) (h11 κ)
  have pos1 : ∀ κ, 1 ≤ t9 κ := root_ge1 k9 hc0 hc1
  have nn1 : ∀ κ, 0 ≤ 1 / 2 * (t9 κ - 1) := fun κ => by have := pos1 κ; grind
  obtain ⟨g13, b13⟩ := Dy.bd_max0 (25066007812260174859048841114497 / 40564819207303340847894502572032) (2408406906263526302531617 / 18889465931478580854784) b12 (by decide +kernel)
  have h13 : Dy.HasS (Dy.rMax0 s12) (fun κ => (((1 / 2) : Rat) * ((t9 κ) - (1 : Rat)))) := fun κ => Dy.has_max0 (h12 κ) (by have := nn1 κ; grind)
  refine ⟨(Dy.rMax0 s12), t9, ?_, b13.mono (by decide +kernel), pos1, h13⟩
  unfold hidesM
  refine (Dy.cs_sqr g1.1).trans ?_
  refine (Dy.cs_num g2.1).trans ?_
  refine (Dy.cs_sub g3.1).trans ?_
  refine (Dy.cs_div g4.1).trans ?_
  refine (Dy.cs_num g5.1).trans ?_
  refine (Dy.cs_num g2.1).trans ?_
  refine (Dy.cs_mul g7.1).trans ?_
  refine (Dy.cs_add g8.1).trans ?_
  refine (Dy.cs_sqrt g9.1).trans ?_
  refine (Dy.cs_num g2.1).trans ?_
  refine (Dy.cs_sub g11.1).trans ?_
  refine (Dy.cs_mul g12.1).trans ?_
  exact congrArg (fun r => (r, (0 : Int))) g13
theorem hides_1 {s : Int × Int} {a c : Int} (bs : Dy.Bd s (39614081257123161597517234175 / 40564819207303340847894502572032) (37778931862957170098177 / 37778931862957161709568) (19342813113834066795298817 / 43556142965880123323311949751266331066368)) (hs : Dy.HasS s (fun _ => Dy.val a * Dy.val a)) (lc : 4580160821035794432 ≤ c) (uc : c ≤ 4593671619917905920) : ∃ (l : Int × Int) (t : Nat → Rat), hidesM (Dy.E s) (Dy.E (c, c)) 0 = (Dy.E l, 0) ∧ Dy.Bd l 0 128 (1 / 4294967296) ∧ (∀ κ, 1 ≤ t κ) ∧ Dy.HasS l (fun κ => 1 / 2 * (t κ - 1)) := by
  have cc : Dy.Bd (c, c) (1 / 64) (1 / 8) 0 := (Dy.bd_in (x := 4580160821035794432) (y := 4593671619917905920) (nx := 1) (dx := 64) (ny := 1) (dy := 8) lc uc (Dy.ok_B (by unfold Dy.B10; omega) (by unfold Dy.B10; omega)) (by decide +kernel)).mono (by decide +kernel)
  have ec : Dy.HasS (c, c) (fun κ => Dy.val c) := fun κ => Dy.Has.pt c
  have hc0 : 0 < Dy.val c := by have := cc.lo; grind
  have hc1 : Dy.val c ≤ 1 := Rat.le_trans cc.hi (by decide +kernel)
  obtain ⟨s1, g1, b1⟩ := Dy.bd_sqr (1 / 64) (9903520314282901461704638463 / 40564819207303340847894502572032) (633825300114114841485839958017 / 40564819207303340847894502572032) (302231454903657293676545 / 43556142965880123323311949751266331066368) (1 / 8) cc (by decide +kernel)
  have h1 : Dy.HasS s1 (fun κ => (Dy.val c) * (Dy.val c)) := fun κ => Dy.has_sqr cc.rk g1 (ec κ)
  obtain ⟨g2, b2, h2⟩ := Dy.bd_num (x := 4607182418800017408) (z := 4607182418800017408) (num := 1) (den := 1) (Dy.ok_B (by decide) (by decide)) (by decide) (by decide) (by decide +kernel)
  have c2 : Dy.Bd ((4607182418800017408 : Int), (4607182418800017408 : Int)) 1 1 0 := b2.mono (by decide +kernel)
  have e2 : Dy.HasS ((4607182418800017408 : Int), (4607182418800017408 : Int)) (fun κ => (1 : Rat)) := fun κ => (show ((1 : Int) : Rat) / (((1 : Nat) : Int) : Rat) = 1 from by decide +kernel) ▸ h2
  obtain ⟨s3, g3, b3⟩ := Dy.bd_sub (40554915686989057946432797933569 / 40564819207303340847894502572032) (19965496953594608500704215564287 / 20282409603651670423947251286016) (20277457843494533475716514709505 / 20282409603651670423947251286016) (9820161101127427255435265 / 21778071482940061661655974875633165533184) c2 b1 (by decide +kernel)
  have h3 : Dy.HasS s3 (fun κ => (1 : Rat) - ((Dy.val c) * (Dy.val c))) := fun κ => Dy.has_sub c2.rk b1.rk g3 (e2 κ) (h1 κ)
  obtain ⟨s4, g4, b4⟩ := Dy.bd_div (154704725978811810575286273 / 37778931862957161709568) (1190036353683132881371135 / 18889465931478580854784) (77352362989405922463318017 / 18889465931478580854784) (5229020040315366123241136495657 / 43556142965880123323311949751266331066368) (2380072707366300114092031 / 37778931862957161709568) (154704725978811810575286273 / 37778931862957161709568) (643726402576776809528323740485 / 5444517870735015415413993718908291383296) b3 b1 (by decide +kernel)
  have h4 : Dy.HasS s4 (fun κ => ((1 : Rat) - ((Dy.val c) * (Dy.val c))) / ((Dy.val c) * (Dy.val c))) := fun κ => Dy.has_div b3.rk b1.rk g4 (h3 κ) (h1 κ)
  obtain ⟨g5, b5, h5⟩ := Dy.bd_num (x := 4602678819172646912) (z := 4602678819172646912) (num := 1) (den := 2) (Dy.ok_B (by decide) (by decide)) (by decide) (by decide) (by decide +kernel)
  have c5 : Dy.Bd ((4602678819172646912 : Int), (4602678819172646912 : Int)) (1 / 2) (1 / 2) 0 := b5.mono (by decide +kernel)
  have e5 : Dy.HasS ((4602678819172646912 : Int), (4602678819172646912 : Int)) (fun κ => ((1 / 2) : Rat)) := fun κ => (show ((1 : Int) : Rat) / (((2 : Nat) : Int) : Rat) = (1 / 2) from by decide +kernel) ▸ h5
  obtain ⟨s7, g7, b7⟩ := Dy.bd_mul (77352362989405939638994945 / 18889465931478580854784) (623921779790459388483006230577 / 10141204801825835211973625643008) (77352362989405956814669825 / 18889465931478580854784) (5387437679717670631109732380745 / 43556142965880123323311949751266331066368) (47142196813734183971387882413566878983613966880538625 / 766247770432944429179173513575154591809369561091801088) (2922289650815496341477739166695077010013062955009 / 713623846352979940529142984724747568191373312) (37778931862957170098177 / 37778931862957161709568) (77352362989405922463318017 / 18889465931478580854784) bs b4 (by decide +kernel)
  have h7 : Dy.HasS s7 (fun κ => (Dy.val a * Dy.val a) * (((1 : Rat) - ((Dy.val c) * (Dy.val c))) / ((Dy.val c) * (Dy.val c)))) := fun κ => Dy.has_mul bs.rk b4.rk g7 (hs κ) (h4 κ)
  obtain ⟨s8, g8, b8⟩ := Dy.bd_add (77371252455337435395524609 / 18889465931478580854784) (40103221616175291048063 / 37778931862957161709568) (154742504910674905150787587 / 37778931862957161709568) (2733332921115968082477374790181 / 21778071482940061661655974875633165533184) c2 b7 (by decide +kernel)
  have h8 : Dy.HasS s8 (fun κ => (1 : Rat) + ((Dy.val a * Dy.val a) * (((1 : Rat) - ((Dy.val c) * (Dy.val c))) / ((Dy.val c) * (Dy.val c))))) := fun κ => Dy.has_add c2.rk b7.rk g8 (e2 κ) (h7 κ)
  obtain ⟨s9, g9, b9⟩ := Dy.bd_sqrt (38923731539030469883805 / 37778931862957161709568) (1208925819614638704033809 / 18889465931478580854784) (2654179836991555438683216968445 / 43556142965880123323311949751266331066368) (19461865769515503377359 / 18889465931478580854784) (2417851639229276871196705 / 37778931862957161709568) (663235474238067512231291063871 / 10889035741470030830827987437816582766592) b8 (by decide +kernel)
  obtain ⟨r9, t9, k9, h9, u9, nr9, nt9⟩ := Dy.root_seq b8.rk g9 h8
  obtain ⟨s11, g11, b11⟩ := Dy.bd_sub (1190036353683160123179025 / 18889465931478580854784) (19206551442203056611973398457 / 633825300114114700748351602688) (2380072707366320774840355 / 37778931862957161709568) (1327699217108863497324676145023 / 21778071482940061661655974875633165533184) b9 c2 (by decide +kernel)
  have h11 : Dy.HasS s11 (fun κ => (t9 κ) - (1 : Rat)) := fun κ => Dy.has_sub b9.rk c2.rk g11 (u9 κ) (e2 κ)
  obtain ⟨s12, g12, b12⟩ := Dy.bd_mul (595018176841580193710089 / 18889465931478580854784) (614609646150214084806624407041 / 40564819207303340847894502572032) (595018176841580325830665 / 18889465931478580854784) (10377410279077728714398713095 / 340282366920938463463374607431768211456) (19206551442203056611973398457 / 1267650600228229401496703205376) (2380072707366320774840355 / 75557863725914323419136) (1 / 2) (2380072707366320774840355 / 37778931862957161709568) c5 b11 (by decide +kernel)
  have h12 : Dy.HasS s12 (fun κ => ((1 / 2) : Rat) * ((t9 κ) - (1 : Rat))) := fun κ => Dy.has_mul c5.rk b11.rk g12 (e5 κ) (h11 κ)
  have pos1 : ∀ κ, 1 ≤ t9 κ := root_ge1 k9 hc0 hc1
  have nn1 : ∀ κ, 0 ≤ 1 / 2 * (t9 κ - 1) := fun κ => by have := pos1 κ; grind
  obtain ⟨g13, b13⟩ := Dy.bd_max0 (614609646150214084806624407041 / 40564819207303340847894502572032) (595018176841580325830665 / 18889465931478580854784) b12 (by decide +kernel)
  have h13 : Dy.HasS (Dy.rMax0 s12) (fun κ => (((1 / 2) : Rat) * ((t9 κ) - (1 : Rat)))) := fun κ => Dy.has_max0 (h12 κ) (by have := nn1 κ; grind)
  refine ⟨(Dy.rMax0 s12), t9, ?_, b13.mono (by decide +kernel), pos1, h13⟩
  unfold hidesM
  refine (Dy.cs_sqr g1.1).trans ?_
  refine (Dy.cs_num g2.1).trans ?_
  refine (Dy.cs_sub g3.1).trans ?_
  refine (Dy.cs_div g4.1).trans ?_
  refine (Dy.cs_num g5.1).trans ?_
  refine (Dy.cs_num g2.1).trans ?_
  refine (Dy.cs_mul g7.1).trans ?_
  refine (Dy.cs_add g8.1).trans ?_
  refine (Dy.cs_sqrt g9.1).trans ?_
  refine (Dy.cs_num g2.1).trans ?_
  refine (Dy.cs_sub g11.1).trans ?_
  refine (Dy.cs_mul g12.1).trans ?_
  exact congrArg (fun r => (r, (0 : Int))) g13
theorem hides_2 {s : Int × Int} {a c : Int} (bs : Dy.Bd s (39614081257123161597517234175 / 40564819207303340847894502572032) (37778931862957170098177 / 37778931862957161709568) (19342813113834066795298817 / 43556142965880123323311949751266331066368)) (hs : Dy.HasS s (fun _ => Dy.val a * Dy.val a)) (lc : 4593671619917905920 ≤ c) (uc : c ≤ 4607182418800017408) : ∃ (l : Int × Int) (t : Nat → Rat), hidesM (Dy.E s) (Dy.E (c, c)) 0 = (Dy.E l, 0) ∧ Dy.Bd l 0 128 (1 / 4294967296) ∧ (∀ κ, 1 ≤ t κ) ∧ Dy.HasS l (fun κ => 1 / 2 * (t κ - 1)) := by
  have cc : Dy.Bd (c, c) (1 / 8) 1 0 := (Dy.bd_in (x := 4593671619917905920) (y := 4607182418800017408) (nx := 1) (dx := 8) (ny := 1) (dy := 1) lc uc (Dy.ok_B (by unfold Dy.B10; omega) (by unfold Dy.B10; omega)) (by decide +kernel)).mono (by decide +kernel)
  have ec : Dy.HasS (c, c) (fun κ => Dy.val c) := fun κ => Dy.Has.pt c
  have hc0 : 0 < Dy.val c := by have := cc.lo; grind
  have hc1 : Dy.val c ≤ 1 := Rat.le_trans cc.hi (by decide +kernel)
  obtain ⟨s1, g1, b1⟩ := Dy.bd_sqr 1 (633825300114105693549096861695 / 40564819207303340847894502572032) (37778931862957170098177 / 37778931862957161709568) (19342813113834066795298817 / 43556142965880123323311949751266331066368) 1 cc (by decide +kernel)
  have h1 : Dy.HasS s1 (fun κ => (Dy.val c) * (Dy.val c)) := fun κ => Dy.has_sqr cc.rk g1 (ec κ)
  obtain ⟨g2, b2, h2⟩ := Dy.bd_num (x := 4607182418800017408) (z := 4607182418800017408) (num := 1) (den := 1) (Dy.ok_B (by decide) (by decide)) (by decide) (by decide) (by decide +kernel)
  have c2 : Dy.Bd ((4607182418800017408 : Int), (4607182418800017408 : Int)) 1 1 0 := b2.mono (by decide +kernel)
  have e2 : Dy.HasS ((4607182418800017408 : Int), (4607182418800017408 : Int)) (fun κ => (1 : Rat)) := fun κ => (show ((1 : Int) : Rat) / (((1 : Nat) : Int) : Rat) = 1 from by decide +kernel) ▸ h2
  obtain ⟨s3, g3, b3⟩ := Dy.bd_sub (39930993907189235154345405710337 / 40564819207303340847894502572032) (-19191698539303744902791169 / 43556142965880123323311949751266331066368) (9982748476797311005201793024001 / 10141204801825835211973625643008) (19191697386382240295944193 / 21778071482940061661655974875633165533184) c2 b1 (by decide +kernel)
  have h3 : Dy.HasS s3 (fun κ => (1 : Rat) - ((Dy.val c) * (Dy.val c))) := fun κ => Dy.has_sub c2.rk b1.rk g3 (e2 κ) (h1 κ)
  obtain ⟨s4, g4, b4⟩ := Dy.bd_div (2380072707366336075923457 / 37778931862957161709568) (-918783659800619581981589665 / 21778071482940061661655974875633165533184) (1190036353683168302202881 / 18889465931478580854784) (40832678483304867290914244913 / 21778071482940061661655974875633165533184) (-1228268706515457128526774337 / 43556142965880123323311949751266331066368) (2380072707366336075923457 / 37778931862957161709568) (80446759740438170510955679841 / 43556142965880123323311949751266331066368) b3 b1 (by decide +kernel)
  have h4 : Dy.HasS s4 (fun κ => ((1 : Rat) - ((Dy.val c) * (Dy.val c))) / ((Dy.val c) * (Dy.val c))) := fun κ => Dy.has_div b3.rk b1.rk g4 (h3 κ) (h1 κ)
  obtain ⟨g5, b5, h5⟩ := Dy.bd_num (x := 4602678819172646912) (z := 4602678819172646912) (num := 1) (den := 2) (Dy.ok_B (by decide) (by decide)) (by decide) (by decide) (by decide +kernel)
  have c5 : Dy.Bd ((4602678819172646912 : Int), (4602678819172646912 : Int)) (1 / 2) (1 / 2) 0 := b5.mono (by decide +kernel)
  have e5 : Dy.HasS ((4602678819172646912 : Int), (4602678819172646912 : Int)) (fun κ => ((1 / 2) : Rat)) := fun κ => (show ((1 : Int) : Rat) / (((2 : Nat) : Int) : Rat) = (1 / 2) from by decide +kernel) ▸ h5
  obtain ⟨s7, g7, b7⟩ := Dy.bd_mul (1190036353683168566444065 / 18889465931478580854784) (-2446865932687021878004498755 / 43556142965880123323311949751266331066368) (1190036353683168830685217 / 18889465931478580854784) (42051275709476440834338523985 / 21778071482940061661655974875633165533184) (-34710665280406027938920181306009153109854578540705 / 822752278660603021077484591278675252491367932816789931674304512) (44958302320238415238689983098466368012142247937 / 713623846352979940529142984724747568191373312) (37778931862957170098177 / 37778931862957161709568) (1190036353683168302202881 / 18889465931478580854784) bs b4 (by decide +kernel)
  have h7 : Dy.HasS s7 (fun κ => (Dy.val a * Dy.val a) * (((1 : Rat) - ((Dy.val c) * (Dy.val c))) / ((Dy.val c) * (Dy.val c)))) := fun κ => Dy.has_mul bs.rk b4.rk g7 (hs κ) (h4 κ)
  obtain ⟨s8, g8, b8⟩ := Dy.bd_add (1208925819614647411540001 / 18889465931478580854784) (40564819207300485565662030158483 / 40564819207303340847894502572032) (2417851639229295359950915 / 37778931862957161709568) (85340491458238280618094008995 / 43556142965880123323311949751266331066368) c2 b7 (by decide +kernel)
  have h8 : Dy.HasS s8 (fun κ => (1 : Rat) + ((Dy.val a * Dy.val a) * (((1 : Rat) - ((Dy.val c) * (Dy.val c))) / ((Dy.val c) * (Dy.val c))))) := fun κ => Dy.has_add c2.rk b7.rk g8 (e2 κ) (h7 κ)
  obtain ⟨s9, g9, b9⟩ := Dy.bd_sqrt (40564819207301841149184228411647 / 40564819207303340847894502572032) (151115727451829836972035 / 18889465931478580854784) (21412494117015657883696393201 / 21778071482940061661655974875633165533184) (40564819207301913206778266340135 / 40564819207303340847894502572032) (302231454903659606835205 / 37778931862957161709568) (42670245729120642048693161441 / 43556142965880123323311949751266331066368) b8 (by decide +kernel)
  obtain ⟨r9, t9, k9, h9, u9, nr9, nt9⟩ := Dy.root_seq b8.rk g9 h8
  obtain ⟨s11, g11, b11⟩ := Dy.bd_sub (132226261520351256117251 / 18889465931478580854784) (-1677989074518644354990474753 / 43556142965880123323311949751266331066368) (264452523040702570954759 / 37778931862957161709568) (42960387925828155453656851427 / 43556142965880123323311949751266331066368) b9 c2 (by decide +kernel)
  have h11 : Dy.HasS s11 (fun κ => (t9 κ) - (1 : Rat)) := fun κ => Dy.has_sub b9.rk c2.rk g11 (u9 κ) (e2 κ)
  obtain ⟨s12, g12, b12⟩ := Dy.bd_mul (33056565380087821369345 / 9444732965739290427392) (-872844460208532106577446657 / 43556142965880123323311949751266331066368) (33056565380087828709377 / 9444732965739290427392) (10773946904406248792496422137 / 21778071482940061661655974875633165533184) (-1677989074518644354990474753 / 87112285931760246646623899502532662132736) (264452523040702570954759 / 75557863725914323419136) (1 / 2) (264452523040702570954759 / 37778931862957161709568) c5 b11 (by decide +kernel)
  have h12 : Dy.HasS s12 (fun κ => ((1 / 2) : Rat) * ((t9 κ) - (1 : Rat))) := fun κ => Dy.has_mul c5.rk b11.rk g12 (e5 κ) (h11 κ)
  have pos1 : ∀ κ, 1 ≤ t9 κ := root_ge1 k9 hc0 hc1
  have nn1 : ∀ κ, 0 ≤ 1 / 2 * (t9 κ - 1) := fun κ => by have := pos1 κ; grind
  obtain ⟨g13, b13⟩ := Dy.bd_max0 0 (33056565380087828709377 / 9444732965739290427392) b12 (by decide +kernel)
  have h13 : Dy.HasS (Dy.rMax0 s12) (fun κ => (((1 / 2) : Rat) * ((t9 κ) - (1 : Rat)))) := fun κ => Dy.has_max0 (h12 κ) (by have := nn1 κ; grind)
  refine ⟨(Dy.rMax0 s12), t9, ?_, b13.mono (by decide +kernel), pos1, h13⟩
  unfold hidesM
  refine (Dy.cs_sqr g1.1).trans ?_
  refine (Dy.cs_num g2.1).trans ?_
  refine (Dy.cs_sub g3.1).trans ?_
  refine (Dy.cs_div g4.1).trans ?_
  refine (Dy.cs_num g5.1).trans ?_
  refine (Dy.cs_num g2.1).trans ?_
  refine (Dy.cs_mul g7.1).trans ?_
  refine (Dy.cs_add g8.1).trans ?_
  refine (Dy.cs_sqrt g9.1).trans ?_
  refine (Dy.cs_num g2.1).trans ?_
  refine (Dy.cs_sub g11.1).trans ?_
  refine (Dy.cs_mul g12.1).trans ?_
  exact congrArg (fun r => (r, (0 : Int))) g13
theorem hides_num {s : Int × Int} {a c : Int} (bs : Dy.Bd s (39614081257123161597517234175 / 40564819207303340847894502572032) (37778931862957170098177 / 37778931862957161709568) (19342813113834066795298817 / 43556142965880123323311949751266331066368)) (hs : Dy.HasS s (fun _ => Dy.val a * Dy.val a)) (lc : 4571153621781053440 ≤ c) (uc : c ≤ 4607182418800017408) : ∃ (l : Int × Int) (t : Nat → Rat), hidesM (Dy.E s) (Dy.E (c, c)) 0 = (Dy.E l, 0) ∧ Dy.Bd l 0 128 (1 / 4294967296) ∧ (∀ κ, 1 ≤ t κ) ∧ Dy.HasS l (fun κ => 1 / 2 * (t κ - 1)) := by
  by_cases h1 : c ≤ 4580160821035794432
  · exact hides_0 bs hs lc h1
  · by_cases h2 : c ≤ 4593671619917905920
    · exact hides_1 bs hs (by omega) h2
    · exact hides_2 bs hs (by omega) uc
theorem seen_num {s l m : Int × Int} {a c d : Int} {t r : Nat → Rat} (ea : Dy.Got (Dy.cSqr 0 (Dy.E (a, a))) s) (el : hidesM (Dy.E s) (Dy.E (c, c)) 0 = (Dy.E l, 0)) (em : hidesM (Dy.E s) (Dy.E (d, d)) 0 = (Dy.E m, 0)) (bl : Dy.Bd l 0 128 (1 / 4294967296)) (bm : Dy.Bd m 0 128 (1 / 4294967296))
    (hl : Dy.HasS l (fun κ => 1 / 2 * (t κ - 1))) (hm : Dy.HasS m (fun κ => 1 / 2 * (r κ - 1))) : ∃ v w : Int × Int, g1M (Dy.E (c, c)) (Dy.E (a, a)) 0 = (Dy.E v, 0) ∧ g2M (Dy.E (c, c)) (Dy.E (d, d)) (Dy.E (a, a)) 0 = (Dy.E w, 0) ∧ Dy.Bd v 0 2 2 ∧ Dy.Bd w 0 2 (1 / 1073741824) ∧ Dy.HasS v (fun κ => 1 / (1 + 1 / 2 * (t κ - 1))) ∧ Dy.HasS w (fun κ => 1 / (1 + 1 / 2 * (t κ - 1) + 1 / 2 * (r κ - 1))) := by
  obtain ⟨g1, b1, h1⟩ := Dy.bd_num (x := 4607182418800017408) (z := 4607182418800017408) (num := 1) (den := 1) (Dy.ok_B (by decide) (by decide)) (by decide) (by decide) (by decide +kernel)
  have c1 : Dy.Bd ((4607182418800017408 : Int), (4607182418800017408 : Int)) 1 1 0 := b1.mono (by decide +kernel)
  have e1 : Dy.HasS ((4607182418800017408 : Int), (4607182418800017408 : Int)) (fun κ => (1 : Rat)) := fun κ => (show ((1 : Int) : Rat) / (((1 : Nat) : Int) : Rat) = 1 from by decide +kernel) ▸ h1
  obtain ⟨s2, g2, b2⟩ := Dy.bd_add 129 (40564819207302178919190640984063 / 40564819207303340847894502572032) (4873482210321474942664705 / 37778931862957161709568) (10143700024717519806590219190273 / 43556142965880123323311949751266331066368) c1 bl (by decide +kernel)
  have h2 : Dy.HasS s2 (fun κ => (1 : Rat) + (1 / 2 * (t κ - 1))) := fun κ => Dy.has_add c1.rk bl.rk g2 (e1 κ) (hl κ)
  obtain ⟨s3, g3, b3⟩ := Dy.bd_div (37778931862958243840001 / 37778931862957161709568) (157227981423651821364307666225 / 20282409603651670423947251286016) (18889465931479126114305 / 18889465931478580854784) (1267964920941401843563545766049 / 5444517870735015415413993718908291383296) (314455962847312649927870073701 / 40564819207303340847894502572032) (37778931862958243840001 / 37778931862957161709568) (10143700024718100913887520047879 / 43556142965880123323311949751266331066368) c1 b2 (by decide +kernel)
  have h3 : Dy.HasS s3 (fun κ => (1 : Rat) / ((1 : Rat) + (1 / 2 * (t κ - 1)))) := fun κ => Dy.has_div c1.rk b2.rk g3 (e1 κ) (h2 κ)
  obtain ⟨s4, g4, b4⟩ := Dy.bd_add (9709185488779991641489409 / 37778931862957161709568) (10141204801824966017245543137215 / 10141204801825835211973625643008) (4854592744389996898680833 / 18889465931478580854784) (10144937964756805187142143705345 / 21778071482940061661655974875633165533184) b2 bm (by decide +kernel)
  have h4 : Dy.HasS s4 (fun κ => ((1 : Rat) + (1 / 2 * (t κ - 1))) + (1 / 2 * (r κ - 1))) := fun κ => Dy.has_add b2.rk bm.rk g4 (h2 κ) (hm κ)
  obtain ⟨s5, g5, b5⟩ := Dy.bd_div (37778931862960399712257 / 37778931862957161709568) (157839763452533122448884861915 / 40564819207303340847894502572032) (18889465931480204050433 / 18889465931478580854784) (20289895272330202268787701945595 / 43556142965880123323311949751266331066368) (4932492607891941551504362615 / 1267650600228229401496703205376) (37778931862960399712257 / 37778931862957161709568) (10144937964758544216531524635005 / 21778071482940061661655974875633165533184) c1 b4 (by decide +kernel)
  have h5 : Dy.HasS s5 (fun κ => (1 : Rat) / (((1 : Rat) + (1 / 2 * (t κ - 1))) + (1 / 2 * (r κ - 1)))) := fun κ => Dy.has_div c1.rk b4.rk g5 (e1 κ) (h4 κ)
  refine ⟨s3, s5, ?_, ?_, b3.mono (by decide +kernel), b5.mono (by decide +kernel), h3, h5⟩
  · unfold g1M seen1M
    refine (Dy.cs_sqr ea.1).trans ?_
    refine (Dy.cs_num g1.1).trans ?_
    refine (Dy.cm_s el).trans ?_
    refine (Dy.cs_add g2.1).trans ?_
    refine (Dy.cs_num g1.1).trans ?_
    exact g3.1
  · unfold g2M seen2M
    refine (Dy.cs_sqr ea.1).trans ?_
    refine (Dy.cs_num g1.1).trans ?_
    refine (Dy.cm_s el).trans ?_
    refine (Dy.cs_add g2.1).trans ?_
    refine (Dy.cm_s em).trans ?_
    refine (Dy.cs_add g4.1).trans ?_
    refine (Dy.cs_num g1.1).trans ?_
    exact g5.1
/-- Bounds by those of the box. -/
theorem wn_in {x y : Nat} {p : Int × Int} {a b : Int} (h : Dy.Wn (x, y) (Dy.E p)) (hp : Dy.Rk p) (hx : Dy.dec x = a) (hy : Dy.dec y = b) : a ≤ p.1 ∧ p.2 ≤ b := by
  obtain ⟨q, q', e1, e2, r1, r2, w⟩ := h
  have e := Dy.E_inj hp r2 e2
  subst e
  have k := Prod.mk.inj e1
  have a1 : Dy.dec x = q.1 := by rw [k.1]; exact Dy.dec_enc r1.lo
  have a2 : Dy.dec y = q.2 := by rw [k.2]; exact Dy.dec_enc r1.hi
  have := w.lo; have := w.hi
  exact ⟨by omega, by omega⟩
theorem wn_box {l h z : Int} {x y : Nat} (hx : x = Dy.enc l) (hy : y = Dy.enc h) (ol : Dy.ok l) (oh : Dy.ok h) (lh : l ≤ h) (h1 : l ≤ z) (h2 : z ≤ h) : Dy.Wn (x, y) (Dy.E (z, z)) := by
  subst hx hy
  have oz : Dy.ok z := by unfold Dy.ok at *; omega
  exact ⟨(l, h), (z, z), rfl, rfl, ⟨ol, oh, lh⟩, ⟨oz, oz, Int.le_refl _⟩, ⟨h1, h2⟩⟩
end Go.Proofs.Ythmkjnhgialnlaa
