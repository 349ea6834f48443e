/- Plain facts: rings of mirrors: what leans in a ring, what faces, a round's sums. -/
import Derived.Test.YtikiegcncliocaaRd
import Derived.Test.YtikiegcncliocaaCe
import Derived.Test.YtikiegcncliocaaSv
namespace Go.Dy
theorem fl_0 (up : Bool) (den : Nat) (hd : 0 < den) : fl 0 den up = 0 := by
  have h := fl_V 0 den hd up
  rw [V_zero, Int.zero_mul] at h; exact h
theorem mulR_0 (x : Int) (up : Bool) : mulR x 0 up = 0 := by unfold mulR; rw [V_zero, Int.mul_zero]; exact fl_0 up _ one_pos
theorem rk_00 : Rk (0, 0) := ⟨ok_zero, ok_zero, Int.le_refl _⟩
theorem mul_00 {p : Int × Int} (hp : Rk p) : Got (cMul 0 (E p) (E (0, 0))) (0, 0) := by
  refine ⟨?_, rk_00⟩
  rw [cMul_E hp rk_00]
  have a : lo4 mulR p (0, 0) = 0 := by unfold lo4; simp only [mulR_0]; rfl
  have b : hi4 mulR p (0, 0) = 0 := by unfold hi4; simp only [mulR_0]; rfl
  rw [a, b]; decide +kernel
theorem div_00 {p : Int × Int} (hp : Rk p) (h : 0 < p.1) : Got (cDiv 0 (E (0, 0)) (E p)) (0, 0) := by
  refine ⟨?_, rk_00⟩
  have l := hp.le
  rw [cDiv_E rk_00 hp (Or.inl h)]
  have k : ∀ y : Int, 0 < y → ∀ up, divR 0 y up = 0 := fun y hy up => by
    rw [divR_pos hy, V_zero, Int.zero_mul]
    exact fl_0 up _ (by have := V_lt_iff.2 hy; rw [V_zero] at this; omega)
  have a : lo4 divR (0, 0) p = 0 := by unfold lo4; simp only [k p.1 h, k p.2 (by omega)]; rfl
  have b : hi4 divR (0, 0) p = 0 := by unfold hi4; simp only [k p.1 h, k p.2 (by omega)]; rfl
  rw [a, b]; decide +kernel
end Go.Dy
namespace Go.Proofs.Ytikiegcncliocaa
open Go Go.RowKit

theorem alpha8 {a : Int} (la : 4593671619917905920 ≤ a) (ua : a ≤ 4607182418800017408) : ∃ s : Int × Int, Dy.Got (Dy.cSqr 0 (Dy.E (a, a))) s ∧ Dy.Bd s (633825300114105693549096861695 / 40564819207303340847894502572032) (37778931862957170098177 / 37778931862957161709568) (19342813113834066795298817 / 43556142965880123323311949751266331066368) ∧ Dy.Has s (Dy.val a * Dy.val a) ∧ 1 / 8 ≤ Dy.val a ∧ Dy.val a ≤ 1 := by
  have l := Dy.val_le.2 la; have u := Dy.val_le.2 ua
  rw [Dy.val_q (z := 4593671619917905920) (num := 1) (den := 8) (by decide) (by decide +kernel)] at l
  rw [Dy.val_q (z := 4607182418800017408) (num := 1) (den := 1) (by decide) (by decide +kernel)] at u
  have u : Dy.val a ≤ 1 := Rat.le_trans u (by decide +kernel)
  have l : 1 / 8 ≤ Dy.val a := Rat.le_trans (by decide +kernel) l
  have oa : Dy.ok a := Dy.ok_B (by unfold Dy.B10; omega) (by unfold Dy.B10; omega)
  have ba : Dy.Bd (a, a) (1 / 8) 1 0 := ⟨Dy.rk_pt oa, l, u, by show Dy.val a - Dy.val a ≤ 0; grind⟩
  have ha := Dy.has_pt a
  obtain ⟨s1, g1, b1⟩ := Dy.bd_sqr 1 (633825300114105693549096861695 / 40564819207303340847894502572032) (37778931862957170098177 / 37778931862957161709568) (19342813113834066795298817 / 43556142965880123323311949751266331066368) 1 ba (by decide +kernel)
  have h1 : Dy.Has s1 (Dy.val a * Dy.val a) := Dy.has_sqr ba.rk g1 ha
  exact ⟨s1, g1, b1, h1, l, u⟩
theorem d_once {s k : Int × Int} {a : Int} {A : Rat} (ea : Dy.Got (Dy.cSqr 0 (Dy.E (a, a))) s) (bs : Dy.Bd s (633825300114105693549096861695 / 40564819207303340847894502572032) (37778931862957170098177 / 37778931862957161709568) (19342813113834066795298817 / 43556142965880123323311949751266331066368)) (hs : Dy.Has s A) (bk : Dy.Bd k 0 1 2) : ∃ v : Int × Int, dM (Dy.E k) (Dy.E (a, a)) 0 = (Dy.E v, 0) ∧ Dy.Bd v 0 2000 4294967296 ∧ ∀ C, Dy.Has k C → Dy.Has v (A / (Dy.piQ * ((((A - (1 : Rat)) * (C * C)) + (1 : Rat)) * (((A - (1 : Rat)) * (C * C)) + (1 : Rat))))) := by
  obtain ⟨b1, y1, h1⟩ := Dy.bd_pi
  obtain ⟨g2, b2, h2⟩ := Dy.bd_num (x := 4607182418800017408) (z := 4607182418800017408) (num := 1) (den := 1) (Dy.ok_B (by decide) (by decide)) (by decide) (by decide) (by decide +kernel)
  have c2 : Dy.Bd ((4607182418800017408 : Int), (4607182418800017408 : Int)) 1 1 0 := b2.mono (by decide +kernel)
  have e2 : Dy.Has ((4607182418800017408 : Int), (4607182418800017408 : Int)) ((1 : Rat)) := (show ((1 : Int) : Rat) / (((1 : Nat) : Int) : Rat) = 1 from by decide +kernel) ▸ h2
  obtain ⟨s3, g3, b3⟩ := Dy.bd_sub (39930993907189235154345405710337 / 40564819207303340847894502572032) (-9982748476797311005201793024001 / 10141204801825835211973625643008) (19191698539303744902791169 / 43556142965880123323311949751266331066368) (19191697386382240295944193 / 21778071482940061661655974875633165533184) bs c2 (by decide +kernel)
  have h3 : Dy.Has s3 (A - (1 : Rat)) := Dy.has_sub bs.rk c2.rk g3 hs e2
  obtain ⟨s4, g4, b4⟩ := Dy.bd_sqr 1 0 (37778931862957170098177 / 37778931862957161709568) (151115727451828663615489 / 37778931862957161709568) 1 bk (by decide +kernel)
  obtain ⟨s5, g5, b5⟩ := Dy.bd_mul (4991374238398656610908749430785 / 5070602400912917605986812821504) (-19965496953594630876865880915975 / 20282409603651670423947251286016) (14355994684384480145179133 / 21778071482940061661655974875633165533184) (148754544210393957138433 / 37778931862957161709568) (-377137574509965088789953645595339312406341470887346177 / 383123885216472214589586756787577295904684780545900544) (725041871450770827579026140268155064553058598913 / 1645504557321206042154969182557350504982735865633579863348609024) (9982748476797311005201793024001 / 10141204801825835211973625643008) (37778931862957170098177 / 37778931862957161709568) b3 b4 (by decide +kernel)
  obtain ⟨s7, g7, b7⟩ := Dy.bd_add (18889465931478593306625 / 18889465931478580854784) (158456325028517521740871499771 / 10141204801825835211973625643008) (18889465931478597500929 / 18889465931478580854784) (74377272105196986957825 / 18889465931478580854784) b5 c2 (by decide +kernel)
  obtain ⟨s8, g8, b8⟩ := Dy.bd_sqr (37778931862957228294149 / 37778931862957161709568) (309485009821020025598787585 / 1267650600228229401496703205376) (37778931862957236682757 / 37778931862957161709568) (74377272105197056696325 / 9444732965739290427392) (18889465931478597500929 / 18889465931478580854784) b7 (by decide +kernel)
  obtain ⟨s9, g9, b9⟩ := Dy.bd_mul (29671503700283957083869 / 9444732965739290427392) (31112826663967910590880613539 / 40564819207303340847894502572032) (59343007400567927344533 / 18889465931478580854784) (467326183279472339819989 / 18889465931478580854784) (273671317520344047739782418595492304864675 / 356811923176489970264571492362373784095686656) (267257146016242244703873183610758291837 / 85070591730234615865843651857942052864) (7074237752028441 / 2251799813685248) (37778931862957236682757 / 37778931862957161709568) b1 b8 (by decide +kernel)
  obtain ⟨s10, g10, b10⟩ := Dy.bd_div (49256069126007386700444601 / 37778931862957161709568) (12609553695498995000113926461 / 2535301200456458802993406410752) (49256069126007397637489011 / 37778931862957161709568) (794401882865805689854000643067 / 18889465931478580854784) (100876429569863741007486922989 / 20282409603651670423947251286016) (49256069126007386700444601 / 37778931862957161709568) (1588803765731611379686127197315 / 37778931862957161709568) bs b9 (by decide +kernel)
  refine ⟨s10, ?_, b10.mono (by decide +kernel), fun C hk => ?_⟩
  · rw [Dy.bd_pi.2.1] at *
    unfold dM leansM
    refine (Dy.cs_sqr ea.1).trans ?_
    refine (Dy.cm_s (x := bentM (Dy.E s) (Dy.E k)) (a := Dy.E s7) (e' := 0) (by unfold bentM; refine (Dy.cs_num g2.1).trans ?_; refine (Dy.cs_sub g3.1).trans ?_; refine (Dy.cs_sqr g4.1).trans ?_; refine (Dy.cs_mul g5.1).trans ?_; refine (Dy.cs_num g2.1).trans ?_; exact g7.1)).trans ?_
    refine (Dy.cs_sqr g8.1).trans ?_
    refine (Dy.cs_mul g9.1).trans ?_
    exact g10.1
  · have h4 : Dy.Has s4 (C * C) := Dy.has_sqr bk.rk g4 hk
    have h5 : Dy.Has s5 ((A - (1 : Rat)) * (C * C)) := Dy.has_mul b3.rk b4.rk g5 h3 h4
    have h7 : Dy.Has s7 (((A - (1 : Rat)) * (C * C)) + (1 : Rat)) := Dy.has_add b5.rk c2.rk g7 h5 e2
    have h8 : Dy.Has s8 ((((A - (1 : Rat)) * (C * C)) + (1 : Rat)) * (((A - (1 : Rat)) * (C * C)) + (1 : Rat))) := Dy.has_sqr b7.rk g8 h7
    have h9 : Dy.Has s9 (Dy.piQ * ((((A - (1 : Rat)) * (C * C)) + (1 : Rat)) * (((A - (1 : Rat)) * (C * C)) + (1 : Rat)))) := Dy.has_mul b1.rk b8.rk g9 h1 h8
    have h10 : Dy.Has s10 (A / (Dy.piQ * ((((A - (1 : Rat)) * (C * C)) + (1 : Rat)) * (((A - (1 : Rat)) * (C * C)) + (1 : Rat))))) := Dy.has_div bs.rk b9.rk g10 hs h9
    exact h10
theorem f_once {s k : Int × Int} {a : Int} {A C : Rat} (ea : Dy.Got (Dy.cSqr 0 (Dy.E (a, a))) s) (bs : Dy.Bd s (633825300114105693549096861695 / 40564819207303340847894502572032) (37778931862957170098177 / 37778931862957161709568) (19342813113834066795298817 / 43556142965880123323311949751266331066368)) (hs : Dy.Has s A) (bk : Dy.Bd k 0 1 2) (hk : Dy.Has k C) : ∃ v : Int × Int, facingM (Dy.E k) (Dy.E (a, a)) 0 = (Dy.E v, 0) ∧ Dy.Rk v ∧ Dy.Has v (((1 : Rat) - (C * C)) / (((A - (1 : Rat)) * (C * C)) + (1 : Rat))) := by
  obtain ⟨g1, b1, h1⟩ := Dy.bd_num (x := 4607182418800017408) (z := 4607182418800017408) (num := 1) (den := 1) (Dy.ok_B (by decide) (by decide)) (by decide) (by decide) (by decide +kernel)
  have c1 : Dy.Bd ((4607182418800017408 : Int), (4607182418800017408 : Int)) 1 1 0 := b1.mono (by decide +kernel)
  have e1 : Dy.Has ((4607182418800017408 : Int), (4607182418800017408 : Int)) ((1 : Rat)) := (show ((1 : Int) : Rat) / (((1 : Nat) : Int) : Rat) = 1 from by decide +kernel) ▸ h1
  obtain ⟨s2, g2, b2⟩ := Dy.bd_sqr 1 0 (37778931862957170098177 / 37778931862957161709568) (151115727451828663615489 / 37778931862957161709568) 1 bk (by decide +kernel)
  have h2 : Dy.Has s2 (C * C) := Dy.has_sqr bk.rk g2 hk
  obtain ⟨s3, g3, b3⟩ := Dy.bd_sub 1 (-19342814266755571402145793 / 43556142965880123323311949751266331066368) (37778931862957170098177 / 37778931862957161709568) (75557863725914340196353 / 18889465931478580854784) c1 b2 (by decide +kernel)
  have h3 : Dy.Has s3 ((1 : Rat) - (C * C)) := Dy.has_sub c1.rk b2.rk g3 e1 h2
  obtain ⟨s4, g4, b4⟩ := Dy.bd_sub (39930993907189235154345405710337 / 40564819207303340847894502572032) (-9982748476797311005201793024001 / 10141204801825835211973625643008) (19191698539303744902791169 / 43556142965880123323311949751266331066368) (19191697386382240295944193 / 21778071482940061661655974875633165533184) bs c1 (by decide +kernel)
  have h4 : Dy.Has s4 (A - (1 : Rat)) := Dy.has_sub bs.rk c1.rk g4 hs e1
  obtain ⟨s5, g5, b5⟩ := Dy.bd_mul (4991374238398656610908749430785 / 5070602400912917605986812821504) (-19965496953594630876865880915975 / 20282409603651670423947251286016) (14355994684384480145179133 / 21778071482940061661655974875633165533184) (148754544210393957138433 / 37778931862957161709568) (-377137574509965088789953645595339312406341470887346177 / 383123885216472214589586756787577295904684780545900544) (725041871450770827579026140268155064553058598913 / 1645504557321206042154969182557350504982735865633579863348609024) (9982748476797311005201793024001 / 10141204801825835211973625643008) (37778931862957170098177 / 37778931862957161709568) b4 b2 (by decide +kernel)
  have h5 : Dy.Has s5 ((A - (1 : Rat)) * (C * C)) := Dy.has_mul b4.rk b2.rk g5 h4 h2
  obtain ⟨s6, g6, b6⟩ := Dy.bd_add (18889465931478593306625 / 18889465931478580854784) (158456325028517521740871499771 / 10141204801825835211973625643008) (18889465931478597500929 / 18889465931478580854784) (74377272105196986957825 / 18889465931478580854784) b5 c1 (by decide +kernel)
  have h6 : Dy.Has s6 (((A - (1 : Rat)) * (C * C)) + (1 : Rat)) := Dy.has_add b5.rk c1.rk g6 h5 e1
  obtain ⟨s7, g7, b7⟩ := Dy.bd_div (2417851639229429074366465 / 37778931862957161709568) (-232113766589397193634863145 / 5444517870735015415413993718908291383296) (1208925819614714805618689 / 18889465931478580854784) (154742504910694336153774177 / 9444732965739290427392) (-1237940113072443706041090119 / 43556142965880123323311949751266331066368) (2417851639229429074366465 / 37778931862957161709568) (618970019642777343541354883 / 37778931862957161709568) b3 b6 (by decide +kernel)
  have h7 : Dy.Has s7 (((1 : Rat) - (C * C)) / (((A - (1 : Rat)) * (C * C)) + (1 : Rat))) := Dy.has_div b3.rk b6.rk g7 h3 h6
  refine ⟨s7, ?_, b7.rk, h7⟩
  unfold facingM facesM
  refine (Dy.cs_sqr ea.1).trans ?_
  refine (Dy.cs_num g1.1).trans ?_
  refine (Dy.cs_sqr g2.1).trans ?_
  refine (Dy.cs_sub g3.1).trans ?_
  refine (Dy.cm_s (x := bentM (Dy.E s) (Dy.E k)) (a := Dy.E s6) (e' := 0) (by unfold bentM; refine (Dy.cs_num g1.1).trans ?_; refine (Dy.cs_sub g4.1).trans ?_; refine (Dy.cs_sqr g2.1).trans ?_; refine (Dy.cs_mul g5.1).trans ?_; refine (Dy.cs_num g1.1).trans ?_; exact g6.1)).trans ?_
  exact g7.1
theorem f_at0 {s : Int × Int} {a : Int} {A : Rat} (ea : Dy.Got (Dy.cSqr 0 (Dy.E (a, a))) s) (bs : Dy.Bd s (633825300114105693549096861695 / 40564819207303340847894502572032) (37778931862957170098177 / 37778931862957161709568) (19342813113834066795298817 / 43556142965880123323311949751266331066368)) (hs : Dy.Has s A) : facingM (Dy.E (0, 0)) (Dy.E (a, a)) 0 = (Dy.E (4607182418800017408, 4607182418800017408), 0) := by
  obtain ⟨g1, b1, h1⟩ := Dy.bd_num (x := 4607182418800017408) (z := 4607182418800017408) (num := 1) (den := 1) (Dy.ok_B (by decide) (by decide)) (by decide) (by decide) (by decide +kernel)
  have c1 : Dy.Bd ((4607182418800017408 : Int), (4607182418800017408 : Int)) 1 1 0 := b1.mono (by decide +kernel)
  have e1 : Dy.Has ((4607182418800017408 : Int), (4607182418800017408 : Int)) ((1 : Rat)) := (show ((1 : Int) : Rat) / (((1 : Nat) : Int) : Rat) = 1 from by decide +kernel) ▸ h1
  obtain ⟨s2, g2, b2⟩ := Dy.bd_sub (39930993907189235154345405710337 / 40564819207303340847894502572032) (-9982748476797311005201793024001 / 10141204801825835211973625643008) (19191698539303744902791169 / 43556142965880123323311949751266331066368) (19191697386382240295944193 / 21778071482940061661655974875633165533184) bs c1 (by decide +kernel)
  have h2 : Dy.Has s2 (A - (1 : Rat)) := Dy.has_sub bs.rk c1.rk g2 hs e1
  have gm := Dy.mul_00 b2.rk
  unfold facingM facesM
  refine (Dy.cs_sqr ea.1).trans ?_
  refine (Dy.cs_num g1.1).trans ?_
  refine (Dy.cs_sqr (show Dy.Got (Dy.cSqr 0 (Dy.E (0, 0))) (0, 0) from ⟨by decide +kernel, ⟨by decide, by decide⟩, ⟨by decide, by decide⟩, by decide⟩).1).trans ?_
  refine (Dy.cs_sub (show Dy.Got (Dy.cSub 0 (Dy.E (4607182418800017408, 4607182418800017408)) (Dy.E (0, 0))) (4607182418800017408, 4607182418800017408) from ⟨by decide +kernel, ⟨by decide, by decide⟩, ⟨by decide, by decide⟩, by decide⟩).1).trans ?_
  refine (Dy.cm_s (x := bentM (Dy.E s) (Dy.E (0, 0))) (a := Dy.E (4607182418800017408, 4607182418800017408)) (e' := 0) (by unfold bentM; refine (Dy.cs_num g1.1).trans ?_; refine (Dy.cs_sub g2.1).trans ?_; refine (Dy.cs_sqr (show Dy.Got (Dy.cSqr 0 (Dy.E (0, 0))) (0, 0) from ⟨by decide +kernel, ⟨by decide, by decide⟩, ⟨by decide, by decide⟩, by decide⟩).1).trans ?_; refine (Dy.cs_mul gm.1).trans ?_; refine (Dy.cs_num g1.1).trans ?_; exact (show Dy.Got (Dy.cAdd 0 (Dy.E (0, 0)) (Dy.E (4607182418800017408, 4607182418800017408))) (4607182418800017408, 4607182418800017408) from ⟨by decide +kernel, ⟨by decide, by decide⟩, ⟨by decide, by decide⟩, by decide⟩).1)).trans ?_
  exact (show Dy.Got (Dy.cDiv 0 (Dy.E (4607182418800017408, 4607182418800017408)) (Dy.E (4607182418800017408, 4607182418800017408))) (4607182418800017408, 4607182418800017408) from ⟨by decide +kernel, ⟨by decide, by decide⟩, ⟨by decide, by decide⟩, by decide⟩).1
theorem f_at1 {s : Int × Int} {a : Int} {A : Rat} (ea : Dy.Got (Dy.cSqr 0 (Dy.E (a, a))) s) (bs : Dy.Bd s (633825300114105693549096861695 / 40564819207303340847894502572032) (37778931862957170098177 / 37778931862957161709568) (19342813113834066795298817 / 43556142965880123323311949751266331066368)) (hs : Dy.Has s A) : facingM (Dy.E (4607182418800017408, 4607182418800017408)) (Dy.E (a, a)) 0 = (Dy.E (0, 0), 0) := by
  obtain ⟨g1, b1, h1⟩ := Dy.bd_num (x := 4607182418800017408) (z := 4607182418800017408) (num := 1) (den := 1) (Dy.ok_B (by decide) (by decide)) (by decide) (by decide) (by decide +kernel)
  have c1 : Dy.Bd ((4607182418800017408 : Int), (4607182418800017408 : Int)) 1 1 0 := b1.mono (by decide +kernel)
  have e1 : Dy.Has ((4607182418800017408 : Int), (4607182418800017408 : Int)) ((1 : Rat)) := (show ((1 : Int) : Rat) / (((1 : Nat) : Int) : Rat) = 1 from by decide +kernel) ▸ h1
  obtain ⟨s2, g2, b2⟩ := Dy.bd_sub (39930993907189235154345405710337 / 40564819207303340847894502572032) (-9982748476797311005201793024001 / 10141204801825835211973625643008) (19191698539303744902791169 / 43556142965880123323311949751266331066368) (19191697386382240295944193 / 21778071482940061661655974875633165533184) bs c1 (by decide +kernel)
  have h2 : Dy.Has s2 (A - (1 : Rat)) := Dy.has_sub bs.rk c1.rk g2 hs e1
  obtain ⟨s3, g3, b3⟩ := Dy.bd_mul (9982748476797311005201793024001 / 10141204801825835211973625643008) (-4991374238398656610908617310209 / 5070602400912917605986812821504) (14355994684384476957507585 / 21778071482940061661655974875633165533184) (57423976431694898616336387 / 43556142965880123323311949751266331066368) (-9982748476797311005201793024001 / 10141204801825835211973625643008) (19191698539303744902791169 / 43556142965880123323311949751266331066368) (9982748476797311005201793024001 / 10141204801825835211973625643008) 1 b2 c1 (by decide +kernel)
  have h3 : Dy.Has s3 ((A - (1 : Rat)) * (1 : Rat)) := Dy.has_mul b2.rk c1.rk g3 h2 e1
  obtain ⟨s4, g4, b4⟩ := Dy.bd_add (18889465931478593306625 / 18889465931478580854784) (316912650057039476713154674681 / 20282409603651670423947251286016) (18889465931478597500929 / 18889465931478580854784) (19191697386382244540580097 / 10889035741470030830827987437816582766592) b3 c1 (by decide +kernel)
  have h4 : Dy.Has s4 (((A - (1 : Rat)) * (1 : Rat)) + (1 : Rat)) := Dy.has_add b3.rk c1.rk g4 h3 e1
  have b0 : 0 < s4.1 := Dy.val_lt.1 (by rw [Dy.val_zero]; have := b4.lo; grind)
  have gd := Dy.div_00 b4.rk b0
  unfold facingM facesM
  refine (Dy.cs_sqr ea.1).trans ?_
  refine (Dy.cs_num g1.1).trans ?_
  refine (Dy.cs_sqr (show Dy.Got (Dy.cSqr 0 (Dy.E (4607182418800017408, 4607182418800017408))) (4607182418800017408, 4607182418800017408) from ⟨by decide +kernel, ⟨by decide, by decide⟩, ⟨by decide, by decide⟩, by decide⟩).1).trans ?_
  refine (Dy.cs_sub (show Dy.Got (Dy.cSub 0 (Dy.E (4607182418800017408, 4607182418800017408)) (Dy.E (4607182418800017408, 4607182418800017408))) (0, 0) from ⟨by decide +kernel, ⟨by decide, by decide⟩, ⟨by decide, by decide⟩, by decide⟩).1).trans ?_
  refine (Dy.cm_s (x := bentM (Dy.E s) (Dy.E (4607182418800017408, 4607182418800017408))) (a := Dy.E s4) (e' := 0) (by unfold bentM; refine (Dy.cs_num g1.1).trans ?_; refine (Dy.cs_sub g2.1).trans ?_; refine (Dy.cs_sqr (show Dy.Got (Dy.cSqr 0 (Dy.E (4607182418800017408, 4607182418800017408))) (4607182418800017408, 4607182418800017408) from ⟨by decide +kernel, ⟨by decide, by decide⟩, ⟨by decide, by decide⟩, by decide⟩).1).trans ?_; refine (Dy.cs_mul g3.1).trans ?_; refine (Dy.cs_num g1.1).trans ?_; exact g4.1)).trans ?_
  exact gd.1
end Go.Proofs.Ytikiegcncliocaa
