/- The law VecCross: walk and plain law joined. -/
import Derived.Test.YtikiegcncliocaaLa16
import Derived.Test.YtikiegcncliocaaSv
namespace Go.Proofs.Ytikiegcncliocaa
open Go Go.RowKit

theorem cross_dot1 (a1 a2 a3 b1 b2 b3 : Rat) : (((((a2) * (b3)) - ((a3) * (b2))) * (a1)) + ((((a3) * (b1)) - ((a1) * (b3))) * (a2))) + ((((a1) * (b2)) - ((a2) * (b1))) * (a3)) = 0 := by grind
theorem cross_dot2 (a1 a2 a3 b1 b2 b3 : Rat) : (((((a2) * (b3)) - ((a3) * (b2))) * (b1)) + ((((a3) * (b1)) - ((a1) * (b3))) * (b2))) + ((((a1) * (b2)) - ((a2) * (b1))) * (b3)) = 0 := by grind
theorem cross_len (a1 a2 a3 b1 b2 b3 : Rat) : ((((((a2) * (b3)) - ((a3) * (b2))) * (((a2) * (b3)) - ((a3) * (b2)))) + ((((a3) * (b1)) - ((a1) * (b3))) * (((a3) * (b1)) - ((a1) * (b3))))) + ((((a1) * (b2)) - ((a2) * (b1))) * (((a1) * (b2)) - ((a2) * (b1))))) + (((((a1) * (b1)) + ((a2) * (b2))) + ((a3) * (b3))) * ((((a1) * (b1)) + ((a2) * (b2))) + ((a3) * (b3)))) = ((((a1) * (a1)) + ((a2) * (a2))) + ((a3) * (a3))) * ((((b1) * (b1)) + ((b2) * (b2))) + ((b3) * (b3))) := by grind
theorem sameIv_refl (a : Nat × Nat) : sameIv a a = true := by unfold sameIv; rw [decide_eq_true rfl, decide_eq_true rfl]; rfl
theorem same3_refl (a b c : Nat × Nat) : same3 a b c a b c = true := by unfold same3; rw [sameIv_refl, sameIv_refl, sameIv_refl]; rfl
set_option maxRecDepth 100000 in
set_option maxHeartbeats 8000000 in
theorem veccross_any (a1 a2 a3 b1 b2 b3 : Nat) (w : World) (w1 : Dy.W a1) (w2 : Dy.W a2) (w3 : Dy.W a3) (w4 : Dy.W b1) (w5 : Dy.W b2) (w6 : Dy.W b3) : Calls Try.prog 7 #[.agg #[.float .f64 a1, .float .f64 a2, .float .f64 a3], .agg #[.float .f64 b1, .float .f64 b2, .float .f64 b3]] w fun e w' => e = .returned (.bool true) ∧ Below w.heap.size w w' := by
  by_cases hs1 : (smallF a1 && (smallF a2 && smallF a3)) = true
  case neg => exact veccross_a a1 a2 a3 b1 b2 b3 w w1 w2 w3 w4 w5 w6 (by simpa using hs1)
  by_cases hs2 : (smallF b1 && (smallF b2 && smallF b3)) = true
  case neg => exact veccross_b a1 a2 a3 b1 b2 b3 w w1 w2 w3 w4 w5 w6 hs1 (by simpa using hs2)
  have hs1' := hs1; have hs2' := hs2
  rw [Bool.and_eq_true, Bool.and_eq_true] at hs1' hs2'
  obtain ⟨a1z, rfl, ka1, l1, m1'⟩ := Dy.small_rk w1 hs1'.1
  obtain ⟨a2z, rfl, ka2, l2, m2'⟩ := Dy.small_rk w2 hs1'.2.1
  obtain ⟨a3z, rfl, ka3, l3, m3'⟩ := Dy.small_rk w3 hs1'.2.2
  obtain ⟨b1z, rfl, kb1, l4, m4'⟩ := Dy.small_rk w4 hs2'.1
  obtain ⟨b2z, rfl, kb2, l5, m5'⟩ := Dy.small_rk w5 hs2'.2.1
  obtain ⟨b3z, rfl, kb3, l6, m6'⟩ := Dy.small_rk w6 hs2'.2.2
  have ra1 := Dy.rk_pt ka1
  have ua1 : Dy.Wi (a1z, a1z) (-4895412794951729152, 4895412794951729152) := Dy.wi_pt l1 m1'
  have ha1 := Dy.has_pt a1z
  have ra2 := Dy.rk_pt ka2
  have ua2 : Dy.Wi (a2z, a2z) (-4895412794951729152, 4895412794951729152) := Dy.wi_pt l2 m2'
  have ha2 := Dy.has_pt a2z
  have ra3 := Dy.rk_pt ka3
  have ua3 : Dy.Wi (a3z, a3z) (-4895412794951729152, 4895412794951729152) := Dy.wi_pt l3 m3'
  have ha3 := Dy.has_pt a3z
  have rb1 := Dy.rk_pt kb1
  have ub1 : Dy.Wi (b1z, b1z) (-4895412794951729152, 4895412794951729152) := Dy.wi_pt l4 m4'
  have hb1 := Dy.has_pt b1z
  have rb2 := Dy.rk_pt kb2
  have ub2 : Dy.Wi (b2z, b2z) (-4895412794951729152, 4895412794951729152) := Dy.wi_pt l5 m5'
  have hb2 := Dy.has_pt b2z
  have rb3 := Dy.rk_pt kb3
  have ub3 : Dy.Wi (b3z, b3z) (-4895412794951729152, 4895412794951729152) := Dy.wi_pt l6 m6'
  have hb3 := Dy.has_pt b3z
  have K0 : Dy.Got (Dy.cMul 0 (Dy.E (-4895412794951729152, 4895412794951729152)) (Dy.E (-4895412794951729152, 4895412794951729152))) (-5183643171103440896, 5183643171103440896) := ⟨by decide +kernel, (⟨⟨by decide, by decide⟩, ⟨by decide, by decide⟩, by decide⟩ : Dy.Rk (-5183643171103440896, 5183643171103440896))⟩
  obtain ⟨s0, g0, u0⟩ := Dy.mono_mul (⟨⟨by decide, by decide⟩, ⟨by decide, by decide⟩, by decide⟩ : Dy.Rk (-4895412794951729152, 4895412794951729152)) (⟨⟨by decide, by decide⟩, ⟨by decide, by decide⟩, by decide⟩ : Dy.Rk (-4895412794951729152, 4895412794951729152)) ra2 rb3 ua2 ub3 K0
  have e0 : Dy.Has s0 ((Dy.val a2z) * (Dy.val b3z)) := Dy.has_mul ra2 rb3 g0 ha2 hb3
  obtain ⟨s1, g1, u1⟩ := Dy.mono_mul (⟨⟨by decide, by decide⟩, ⟨by decide, by decide⟩, by decide⟩ : Dy.Rk (-4895412794951729152, 4895412794951729152)) (⟨⟨by decide, by decide⟩, ⟨by decide, by decide⟩, by decide⟩ : Dy.Rk (-4895412794951729152, 4895412794951729152)) ra3 rb2 ua3 ub2 K0
  have e1 : Dy.Has s1 ((Dy.val a3z) * (Dy.val b2z)) := Dy.has_mul ra3 rb2 g1 ha3 hb2
  have K1 : Dy.Got (Dy.cSub 0 (Dy.E (-5183643171103440896, 5183643171103440896)) (Dy.E (-5183643171103440896, 5183643171103440896))) (-5188146770730811392, 5188146770730811392) := ⟨by decide +kernel, (⟨⟨by decide, by decide⟩, ⟨by decide, by decide⟩, by decide⟩ : Dy.Rk (-5188146770730811392, 5188146770730811392))⟩
  obtain ⟨s2, g2, u2⟩ := Dy.mono_sub (⟨⟨by decide, by decide⟩, ⟨by decide, by decide⟩, by decide⟩ : Dy.Rk (-5183643171103440896, 5183643171103440896)) (⟨⟨by decide, by decide⟩, ⟨by decide, by decide⟩, by decide⟩ : Dy.Rk (-5183643171103440896, 5183643171103440896)) g0.rk g1.rk u0 u1 K1
  have e2 : Dy.Has s2 (((Dy.val a2z) * (Dy.val b3z)) - ((Dy.val a3z) * (Dy.val b2z))) := Dy.has_sub g0.rk g1.rk g2 e0 e1
  obtain ⟨s3, g3, u3⟩ := Dy.mono_mul (⟨⟨by decide, by decide⟩, ⟨by decide, by decide⟩, by decide⟩ : Dy.Rk (-4895412794951729152, 4895412794951729152)) (⟨⟨by decide, by decide⟩, ⟨by decide, by decide⟩, by decide⟩ : Dy.Rk (-4895412794951729152, 4895412794951729152)) ra3 rb1 ua3 ub1 K0
  have e3 : Dy.Has s3 ((Dy.val a3z) * (Dy.val b1z)) := Dy.has_mul ra3 rb1 g3 ha3 hb1
  obtain ⟨s4, g4, u4⟩ := Dy.mono_mul (⟨⟨by decide, by decide⟩, ⟨by decide, by decide⟩, by decide⟩ : Dy.Rk (-4895412794951729152, 4895412794951729152)) (⟨⟨by decide, by decide⟩, ⟨by decide, by decide⟩, by decide⟩ : Dy.Rk (-4895412794951729152, 4895412794951729152)) ra1 rb3 ua1 ub3 K0
  have e4 : Dy.Has s4 ((Dy.val a1z) * (Dy.val b3z)) := Dy.has_mul ra1 rb3 g4 ha1 hb3
  obtain ⟨s5, g5, u5⟩ := Dy.mono_sub (⟨⟨by decide, by decide⟩, ⟨by decide, by decide⟩, by decide⟩ : Dy.Rk (-5183643171103440896, 5183643171103440896)) (⟨⟨by decide, by decide⟩, ⟨by decide, by decide⟩, by decide⟩ : Dy.Rk (-5183643171103440896, 5183643171103440896)) g3.rk g4.rk u3 u4 K1
  have e5 : Dy.Has s5 (((Dy.val a3z) * (Dy.val b1z)) - ((Dy.val a1z) * (Dy.val b3z))) := Dy.has_sub g3.rk g4.rk g5 e3 e4
  obtain ⟨s6, g6, u6⟩ := Dy.mono_mul (⟨⟨by decide, by decide⟩, ⟨by decide, by decide⟩, by decide⟩ : Dy.Rk (-4895412794951729152, 4895412794951729152)) (⟨⟨by decide, by decide⟩, ⟨by decide, by decide⟩, by decide⟩ : Dy.Rk (-4895412794951729152, 4895412794951729152)) ra1 rb2 ua1 ub2 K0
  have e6 : Dy.Has s6 ((Dy.val a1z) * (Dy.val b2z)) := Dy.has_mul ra1 rb2 g6 ha1 hb2
  obtain ⟨s7, g7, u7⟩ := Dy.mono_mul (⟨⟨by decide, by decide⟩, ⟨by decide, by decide⟩, by decide⟩ : Dy.Rk (-4895412794951729152, 4895412794951729152)) (⟨⟨by decide, by decide⟩, ⟨by decide, by decide⟩, by decide⟩ : Dy.Rk (-4895412794951729152, 4895412794951729152)) ra2 rb1 ua2 ub1 K0
  have e7 : Dy.Has s7 ((Dy.val a2z) * (Dy.val b1z)) := Dy.has_mul ra2 rb1 g7 ha2 hb1
  obtain ⟨s8, g8, u8⟩ := Dy.mono_sub (⟨⟨by decide, by decide⟩, ⟨by decide, by decide⟩, by decide⟩ : Dy.Rk (-5183643171103440896, 5183643171103440896)) (⟨⟨by decide, by decide⟩, ⟨by decide, by decide⟩, by decide⟩ : Dy.Rk (-5183643171103440896, 5183643171103440896)) g6.rk g7.rk u6 u7 K1
  have e8 : Dy.Has s8 (((Dy.val a1z) * (Dy.val b2z)) - ((Dy.val a2z) * (Dy.val b1z))) := Dy.has_sub g6.rk g7.rk g8 e6 e7
  have K2 : Dy.Got (Dy.cMul 0 (Dy.E (-5188146770730811392, 5188146770730811392)) (Dy.E (-4895412794951729152, 4895412794951729152))) (-5476377146882523136, 5476377146882523136) := ⟨by decide +kernel, (⟨⟨by decide, by decide⟩, ⟨by decide, by decide⟩, by decide⟩ : Dy.Rk (-5476377146882523136, 5476377146882523136))⟩
  obtain ⟨s9, g9, u9⟩ := Dy.mono_mul (⟨⟨by decide, by decide⟩, ⟨by decide, by decide⟩, by decide⟩ : Dy.Rk (-5188146770730811392, 5188146770730811392)) (⟨⟨by decide, by decide⟩, ⟨by decide, by decide⟩, by decide⟩ : Dy.Rk (-4895412794951729152, 4895412794951729152)) g2.rk ra1 u2 ua1 K2
  have e9 : Dy.Has s9 ((((Dy.val a2z) * (Dy.val b3z)) - ((Dy.val a3z) * (Dy.val b2z))) * (Dy.val a1z)) := Dy.has_mul g2.rk ra1 g9 e2 ha1
  obtain ⟨s10, g10, u10⟩ := Dy.mono_mul (⟨⟨by decide, by decide⟩, ⟨by decide, by decide⟩, by decide⟩ : Dy.Rk (-5188146770730811392, 5188146770730811392)) (⟨⟨by decide, by decide⟩, ⟨by decide, by decide⟩, by decide⟩ : Dy.Rk (-4895412794951729152, 4895412794951729152)) g5.rk ra2 u5 ua2 K2
  have e10 : Dy.Has s10 ((((Dy.val a3z) * (Dy.val b1z)) - ((Dy.val a1z) * (Dy.val b3z))) * (Dy.val a2z)) := Dy.has_mul g5.rk ra2 g10 e5 ha2
  have K3 : Dy.Got (Dy.cAdd 0 (Dy.E (-5476377146882523136, 5476377146882523136)) (Dy.E (-5476377146882523136, 5476377146882523136))) (-5480880746509893632, 5480880746509893632) := ⟨by decide +kernel, (⟨⟨by decide, by decide⟩, ⟨by decide, by decide⟩, by decide⟩ : Dy.Rk (-5480880746509893632, 5480880746509893632))⟩
  obtain ⟨s11, g11, u11⟩ := Dy.mono_add (⟨⟨by decide, by decide⟩, ⟨by decide, by decide⟩, by decide⟩ : Dy.Rk (-5476377146882523136, 5476377146882523136)) (⟨⟨by decide, by decide⟩, ⟨by decide, by decide⟩, by decide⟩ : Dy.Rk (-5476377146882523136, 5476377146882523136)) g9.rk g10.rk u9 u10 K3
  have e11 : Dy.Has s11 (((((Dy.val a2z) * (Dy.val b3z)) - ((Dy.val a3z) * (Dy.val b2z))) * (Dy.val a1z)) + ((((Dy.val a3z) * (Dy.val b1z)) - ((Dy.val a1z) * (Dy.val b3z))) * (Dy.val a2z))) := Dy.has_add g9.rk g10.rk g11 e9 e10
  obtain ⟨s12, g12, u12⟩ := Dy.mono_mul (⟨⟨by decide, by decide⟩, ⟨by decide, by decide⟩, by decide⟩ : Dy.Rk (-5188146770730811392, 5188146770730811392)) (⟨⟨by decide, by decide⟩, ⟨by decide, by decide⟩, by decide⟩ : Dy.Rk (-4895412794951729152, 4895412794951729152)) g8.rk ra3 u8 ua3 K2
  have e12 : Dy.Has s12 ((((Dy.val a1z) * (Dy.val b2z)) - ((Dy.val a2z) * (Dy.val b1z))) * (Dy.val a3z)) := Dy.has_mul g8.rk ra3 g12 e8 ha3
  have K4 : Dy.Got (Dy.cAdd 0 (Dy.E (-5480880746509893632, 5480880746509893632)) (Dy.E (-5476377146882523136, 5476377146882523136))) (-5483132546323578880, 5483132546323578880) := ⟨by decide +kernel, (⟨⟨by decide, by decide⟩, ⟨by decide, by decide⟩, by decide⟩ : Dy.Rk (-5483132546323578880, 5483132546323578880))⟩
  obtain ⟨s13, g13, u13⟩ := Dy.mono_add (⟨⟨by decide, by decide⟩, ⟨by decide, by decide⟩, by decide⟩ : Dy.Rk (-5480880746509893632, 5480880746509893632)) (⟨⟨by decide, by decide⟩, ⟨by decide, by decide⟩, by decide⟩ : Dy.Rk (-5476377146882523136, 5476377146882523136)) g11.rk g12.rk u11 u12 K4
  have e13 : Dy.Has s13 ((((((Dy.val a2z) * (Dy.val b3z)) - ((Dy.val a3z) * (Dy.val b2z))) * (Dy.val a1z)) + ((((Dy.val a3z) * (Dy.val b1z)) - ((Dy.val a1z) * (Dy.val b3z))) * (Dy.val a2z))) + ((((Dy.val a1z) * (Dy.val b2z)) - ((Dy.val a2z) * (Dy.val b1z))) * (Dy.val a3z))) := Dy.has_add g11.rk g12.rk g13 e11 e12
  obtain ⟨s14, g14, u14⟩ := Dy.mono_mul (⟨⟨by decide, by decide⟩, ⟨by decide, by decide⟩, by decide⟩ : Dy.Rk (-5188146770730811392, 5188146770730811392)) (⟨⟨by decide, by decide⟩, ⟨by decide, by decide⟩, by decide⟩ : Dy.Rk (-4895412794951729152, 4895412794951729152)) g2.rk rb1 u2 ub1 K2
  have e14 : Dy.Has s14 ((((Dy.val a2z) * (Dy.val b3z)) - ((Dy.val a3z) * (Dy.val b2z))) * (Dy.val b1z)) := Dy.has_mul g2.rk rb1 g14 e2 hb1
  obtain ⟨s15, g15, u15⟩ := Dy.mono_mul (⟨⟨by decide, by decide⟩, ⟨by decide, by decide⟩, by decide⟩ : Dy.Rk (-5188146770730811392, 5188146770730811392)) (⟨⟨by decide, by decide⟩, ⟨by decide, by decide⟩, by decide⟩ : Dy.Rk (-4895412794951729152, 4895412794951729152)) g5.rk rb2 u5 ub2 K2
  have e15 : Dy.Has s15 ((((Dy.val a3z) * (Dy.val b1z)) - ((Dy.val a1z) * (Dy.val b3z))) * (Dy.val b2z)) := Dy.has_mul g5.rk rb2 g15 e5 hb2
  obtain ⟨s16, g16, u16⟩ := Dy.mono_add (⟨⟨by decide, by decide⟩, ⟨by decide, by decide⟩, by decide⟩ : Dy.Rk (-5476377146882523136, 5476377146882523136)) (⟨⟨by decide, by decide⟩, ⟨by decide, by decide⟩, by decide⟩ : Dy.Rk (-5476377146882523136, 5476377146882523136)) g14.rk g15.rk u14 u15 K3
  have e16 : Dy.Has s16 (((((Dy.val a2z) * (Dy.val b3z)) - ((Dy.val a3z) * (Dy.val b2z))) * (Dy.val b1z)) + ((((Dy.val a3z) * (Dy.val b1z)) - ((Dy.val a1z) * (Dy.val b3z))) * (Dy.val b2z))) := Dy.has_add g14.rk g15.rk g16 e14 e15
  obtain ⟨s17, g17, u17⟩ := Dy.mono_mul (⟨⟨by decide, by decide⟩, ⟨by decide, by decide⟩, by decide⟩ : Dy.Rk (-5188146770730811392, 5188146770730811392)) (⟨⟨by decide, by decide⟩, ⟨by decide, by decide⟩, by decide⟩ : Dy.Rk (-4895412794951729152, 4895412794951729152)) g8.rk rb3 u8 ub3 K2
  have e17 : Dy.Has s17 ((((Dy.val a1z) * (Dy.val b2z)) - ((Dy.val a2z) * (Dy.val b1z))) * (Dy.val b3z)) := Dy.has_mul g8.rk rb3 g17 e8 hb3
  obtain ⟨s18, g18, u18⟩ := Dy.mono_add (⟨⟨by decide, by decide⟩, ⟨by decide, by decide⟩, by decide⟩ : Dy.Rk (-5480880746509893632, 5480880746509893632)) (⟨⟨by decide, by decide⟩, ⟨by decide, by decide⟩, by decide⟩ : Dy.Rk (-5476377146882523136, 5476377146882523136)) g16.rk g17.rk u16 u17 K4
  have e18 : Dy.Has s18 ((((((Dy.val a2z) * (Dy.val b3z)) - ((Dy.val a3z) * (Dy.val b2z))) * (Dy.val b1z)) + ((((Dy.val a3z) * (Dy.val b1z)) - ((Dy.val a1z) * (Dy.val b3z))) * (Dy.val b2z))) + ((((Dy.val a1z) * (Dy.val b2z)) - ((Dy.val a2z) * (Dy.val b1z))) * (Dy.val b3z))) := Dy.has_add g16.rk g17.rk g18 e16 e17
  obtain ⟨s19, g19, u19⟩ := Dy.mono_mul (⟨⟨by decide, by decide⟩, ⟨by decide, by decide⟩, by decide⟩ : Dy.Rk (-4895412794951729152, 4895412794951729152)) (⟨⟨by decide, by decide⟩, ⟨by decide, by decide⟩, by decide⟩ : Dy.Rk (-4895412794951729152, 4895412794951729152)) ra1 rb1 ua1 ub1 K0
  have e19 : Dy.Has s19 ((Dy.val a1z) * (Dy.val b1z)) := Dy.has_mul ra1 rb1 g19 ha1 hb1
  obtain ⟨s20, g20, u20⟩ := Dy.mono_mul (⟨⟨by decide, by decide⟩, ⟨by decide, by decide⟩, by decide⟩ : Dy.Rk (-4895412794951729152, 4895412794951729152)) (⟨⟨by decide, by decide⟩, ⟨by decide, by decide⟩, by decide⟩ : Dy.Rk (-4895412794951729152, 4895412794951729152)) ra2 rb2 ua2 ub2 K0
  have e20 : Dy.Has s20 ((Dy.val a2z) * (Dy.val b2z)) := Dy.has_mul ra2 rb2 g20 ha2 hb2
  have K5 : Dy.Got (Dy.cAdd 0 (Dy.E (-5183643171103440896, 5183643171103440896)) (Dy.E (-5183643171103440896, 5183643171103440896))) (-5188146770730811392, 5188146770730811392) := ⟨by decide +kernel, (⟨⟨by decide, by decide⟩, ⟨by decide, by decide⟩, by decide⟩ : Dy.Rk (-5188146770730811392, 5188146770730811392))⟩
  obtain ⟨s21, g21, u21⟩ := Dy.mono_add (⟨⟨by decide, by decide⟩, ⟨by decide, by decide⟩, by decide⟩ : Dy.Rk (-5183643171103440896, 5183643171103440896)) (⟨⟨by decide, by decide⟩, ⟨by decide, by decide⟩, by decide⟩ : Dy.Rk (-5183643171103440896, 5183643171103440896)) g19.rk g20.rk u19 u20 K5
  have e21 : Dy.Has s21 (((Dy.val a1z) * (Dy.val b1z)) + ((Dy.val a2z) * (Dy.val b2z))) := Dy.has_add g19.rk g20.rk g21 e19 e20
  obtain ⟨s22, g22, u22⟩ := Dy.mono_mul (⟨⟨by decide, by decide⟩, ⟨by decide, by decide⟩, by decide⟩ : Dy.Rk (-4895412794951729152, 4895412794951729152)) (⟨⟨by decide, by decide⟩, ⟨by decide, by decide⟩, by decide⟩ : Dy.Rk (-4895412794951729152, 4895412794951729152)) ra3 rb3 ua3 ub3 K0
  have e22 : Dy.Has s22 ((Dy.val a3z) * (Dy.val b3z)) := Dy.has_mul ra3 rb3 g22 ha3 hb3
  have K6 : Dy.Got (Dy.cAdd 0 (Dy.E (-5188146770730811392, 5188146770730811392)) (Dy.E (-5183643171103440896, 5183643171103440896))) (-5190398570544496640, 5190398570544496640) := ⟨by decide +kernel, (⟨⟨by decide, by decide⟩, ⟨by decide, by decide⟩, by decide⟩ : Dy.Rk (-5190398570544496640, 5190398570544496640))⟩
  obtain ⟨s23, g23, u23⟩ := Dy.mono_add (⟨⟨by decide, by decide⟩, ⟨by decide, by decide⟩, by decide⟩ : Dy.Rk (-5188146770730811392, 5188146770730811392)) (⟨⟨by decide, by decide⟩, ⟨by decide, by decide⟩, by decide⟩ : Dy.Rk (-5183643171103440896, 5183643171103440896)) g21.rk g22.rk u21 u22 K6
  have e23 : Dy.Has s23 ((((Dy.val a1z) * (Dy.val b1z)) + ((Dy.val a2z) * (Dy.val b2z))) + ((Dy.val a3z) * (Dy.val b3z))) := Dy.has_add g21.rk g22.rk g23 e21 e22
  have K7 : Dy.Got (Dy.cMul 0 (Dy.E (-5188146770730811392, 5188146770730811392)) (Dy.E (-5188146770730811392, 5188146770730811392))) (-5769111122661605376, 5769111122661605376) := ⟨by decide +kernel, (⟨⟨by decide, by decide⟩, ⟨by decide, by decide⟩, by decide⟩ : Dy.Rk (-5769111122661605376, 5769111122661605376))⟩
  obtain ⟨s24, g24, u24⟩ := Dy.mono_mul (⟨⟨by decide, by decide⟩, ⟨by decide, by decide⟩, by decide⟩ : Dy.Rk (-5188146770730811392, 5188146770730811392)) (⟨⟨by decide, by decide⟩, ⟨by decide, by decide⟩, by decide⟩ : Dy.Rk (-5188146770730811392, 5188146770730811392)) g2.rk g2.rk u2 u2 K7
  have e24 : Dy.Has s24 ((((Dy.val a2z) * (Dy.val b3z)) - ((Dy.val a3z) * (Dy.val b2z))) * (((Dy.val a2z) * (Dy.val b3z)) - ((Dy.val a3z) * (Dy.val b2z)))) := Dy.has_mul g2.rk g2.rk g24 e2 e2
  obtain ⟨s25, g25, u25⟩ := Dy.mono_mul (⟨⟨by decide, by decide⟩, ⟨by decide, by decide⟩, by decide⟩ : Dy.Rk (-5188146770730811392, 5188146770730811392)) (⟨⟨by decide, by decide⟩, ⟨by decide, by decide⟩, by decide⟩ : Dy.Rk (-5188146770730811392, 5188146770730811392)) g5.rk g5.rk u5 u5 K7
  have e25 : Dy.Has s25 ((((Dy.val a3z) * (Dy.val b1z)) - ((Dy.val a1z) * (Dy.val b3z))) * (((Dy.val a3z) * (Dy.val b1z)) - ((Dy.val a1z) * (Dy.val b3z)))) := Dy.has_mul g5.rk g5.rk g25 e5 e5
  have K8 : Dy.Got (Dy.cAdd 0 (Dy.E (-5769111122661605376, 5769111122661605376)) (Dy.E (-5769111122661605376, 5769111122661605376))) (-5773614722288975872, 5773614722288975872) := ⟨by decide +kernel, (⟨⟨by decide, by decide⟩, ⟨by decide, by decide⟩, by decide⟩ : Dy.Rk (-5773614722288975872, 5773614722288975872))⟩
  obtain ⟨s26, g26, u26⟩ := Dy.mono_add (⟨⟨by decide, by decide⟩, ⟨by decide, by decide⟩, by decide⟩ : Dy.Rk (-5769111122661605376, 5769111122661605376)) (⟨⟨by decide, by decide⟩, ⟨by decide, by decide⟩, by decide⟩ : Dy.Rk (-5769111122661605376, 5769111122661605376)) g24.rk g25.rk u24 u25 K8
  have e26 : Dy.Has s26 (((((Dy.val a2z) * (Dy.val b3z)) - ((Dy.val a3z) * (Dy.val b2z))) * (((Dy.val a2z) * (Dy.val b3z)) - ((Dy.val a3z) * (Dy.val b2z)))) + ((((Dy.val a3z) * (Dy.val b1z)) - ((Dy.val a1z) * (Dy.val b3z))) * (((Dy.val a3z) * (Dy.val b1z)) - ((Dy.val a1z) * (Dy.val b3z))))) := Dy.has_add g24.rk g25.rk g26 e24 e25
  obtain ⟨s27, g27, u27⟩ := Dy.mono_mul (⟨⟨by decide, by decide⟩, ⟨by decide, by decide⟩, by decide⟩ : Dy.Rk (-5188146770730811392, 5188146770730811392)) (⟨⟨by decide, by decide⟩, ⟨by decide, by decide⟩, by decide⟩ : Dy.Rk (-5188146770730811392, 5188146770730811392)) g8.rk g8.rk u8 u8 K7
  have e27 : Dy.Has s27 ((((Dy.val a1z) * (Dy.val b2z)) - ((Dy.val a2z) * (Dy.val b1z))) * (((Dy.val a1z) * (Dy.val b2z)) - ((Dy.val a2z) * (Dy.val b1z)))) := Dy.has_mul g8.rk g8.rk g27 e8 e8
  have K9 : Dy.Got (Dy.cAdd 0 (Dy.E (-5773614722288975872, 5773614722288975872)) (Dy.E (-5769111122661605376, 5769111122661605376))) (-5775866522102661120, 5775866522102661120) := ⟨by decide +kernel, (⟨⟨by decide, by decide⟩, ⟨by decide, by decide⟩, by decide⟩ : Dy.Rk (-5775866522102661120, 5775866522102661120))⟩
  obtain ⟨s28, g28, u28⟩ := Dy.mono_add (⟨⟨by decide, by decide⟩, ⟨by decide, by decide⟩, by decide⟩ : Dy.Rk (-5773614722288975872, 5773614722288975872)) (⟨⟨by decide, by decide⟩, ⟨by decide, by decide⟩, by decide⟩ : Dy.Rk (-5769111122661605376, 5769111122661605376)) g26.rk g27.rk u26 u27 K9
  have e28 : Dy.Has s28 ((((((Dy.val a2z) * (Dy.val b3z)) - ((Dy.val a3z) * (Dy.val b2z))) * (((Dy.val a2z) * (Dy.val b3z)) - ((Dy.val a3z) * (Dy.val b2z)))) + ((((Dy.val a3z) * (Dy.val b1z)) - ((Dy.val a1z) * (Dy.val b3z))) * (((Dy.val a3z) * (Dy.val b1z)) - ((Dy.val a1z) * (Dy.val b3z))))) + ((((Dy.val a1z) * (Dy.val b2z)) - ((Dy.val a2z) * (Dy.val b1z))) * (((Dy.val a1z) * (Dy.val b2z)) - ((Dy.val a2z) * (Dy.val b1z))))) := Dy.has_add g26.rk g27.rk g28 e26 e27
  have K10 : Dy.Got (Dy.cSqr 0 (Dy.E (-5190398570544496640, 5190398570544496640))) (0, 5774177672242397184) := ⟨by decide +kernel, (⟨⟨by decide, by decide⟩, ⟨by decide, by decide⟩, by decide⟩ : Dy.Rk (0, 5774177672242397184))⟩
  obtain ⟨s29, g29, u29⟩ := Dy.mono_sqr (⟨⟨by decide, by decide⟩, ⟨by decide, by decide⟩, by decide⟩ : Dy.Rk (-5190398570544496640, 5190398570544496640)) g23.rk u23 K10
  have e29 : Dy.Has s29 (((((Dy.val a1z) * (Dy.val b1z)) + ((Dy.val a2z) * (Dy.val b2z))) + ((Dy.val a3z) * (Dy.val b3z))) * ((((Dy.val a1z) * (Dy.val b1z)) + ((Dy.val a2z) * (Dy.val b2z))) + ((Dy.val a3z) * (Dy.val b3z)))) := Dy.has_sqr g23.rk g29 e23
  have K11 : Dy.Got (Dy.cAdd 0 (Dy.E (-5775866522102661120, 5775866522102661120)) (Dy.E (0, 5774177672242397184))) (-5775866522102661120, 5779525696799899648) := ⟨by decide +kernel, (⟨⟨by decide, by decide⟩, ⟨by decide, by decide⟩, by decide⟩ : Dy.Rk (-5775866522102661120, 5779525696799899648))⟩
  obtain ⟨s30, g30, u30⟩ := Dy.mono_add (⟨⟨by decide, by decide⟩, ⟨by decide, by decide⟩, by decide⟩ : Dy.Rk (-5775866522102661120, 5775866522102661120)) (⟨⟨by decide, by decide⟩, ⟨by decide, by decide⟩, by decide⟩ : Dy.Rk (0, 5774177672242397184)) g28.rk g29.rk u28 u29 K11
  have e30 : Dy.Has s30 (((((((Dy.val a2z) * (Dy.val b3z)) - ((Dy.val a3z) * (Dy.val b2z))) * (((Dy.val a2z) * (Dy.val b3z)) - ((Dy.val a3z) * (Dy.val b2z)))) + ((((Dy.val a3z) * (Dy.val b1z)) - ((Dy.val a1z) * (Dy.val b3z))) * (((Dy.val a3z) * (Dy.val b1z)) - ((Dy.val a1z) * (Dy.val b3z))))) + ((((Dy.val a1z) * (Dy.val b2z)) - ((Dy.val a2z) * (Dy.val b1z))) * (((Dy.val a1z) * (Dy.val b2z)) - ((Dy.val a2z) * (Dy.val b1z))))) + (((((Dy.val a1z) * (Dy.val b1z)) + ((Dy.val a2z) * (Dy.val b2z))) + ((Dy.val a3z) * (Dy.val b3z))) * ((((Dy.val a1z) * (Dy.val b1z)) + ((Dy.val a2z) * (Dy.val b2z))) + ((Dy.val a3z) * (Dy.val b3z))))) := Dy.has_add g28.rk g29.rk g30 e28 e29
  obtain ⟨s31, g31, u31⟩ := Dy.mono_mul (⟨⟨by decide, by decide⟩, ⟨by decide, by decide⟩, by decide⟩ : Dy.Rk (-4895412794951729152, 4895412794951729152)) (⟨⟨by decide, by decide⟩, ⟨by decide, by decide⟩, by decide⟩ : Dy.Rk (-4895412794951729152, 4895412794951729152)) ra1 ra1 ua1 ua1 K0
  have e31 : Dy.Has s31 ((Dy.val a1z) * (Dy.val a1z)) := Dy.has_mul ra1 ra1 g31 ha1 ha1
  obtain ⟨s32, g32, u32⟩ := Dy.mono_mul (⟨⟨by decide, by decide⟩, ⟨by decide, by decide⟩, by decide⟩ : Dy.Rk (-4895412794951729152, 4895412794951729152)) (⟨⟨by decide, by decide⟩, ⟨by decide, by decide⟩, by decide⟩ : Dy.Rk (-4895412794951729152, 4895412794951729152)) ra2 ra2 ua2 ua2 K0
  have e32 : Dy.Has s32 ((Dy.val a2z) * (Dy.val a2z)) := Dy.has_mul ra2 ra2 g32 ha2 ha2
  obtain ⟨s33, g33, u33⟩ := Dy.mono_add (⟨⟨by decide, by decide⟩, ⟨by decide, by decide⟩, by decide⟩ : Dy.Rk (-5183643171103440896, 5183643171103440896)) (⟨⟨by decide, by decide⟩, ⟨by decide, by decide⟩, by decide⟩ : Dy.Rk (-5183643171103440896, 5183643171103440896)) g31.rk g32.rk u31 u32 K5
  have e33 : Dy.Has s33 (((Dy.val a1z) * (Dy.val a1z)) + ((Dy.val a2z) * (Dy.val a2z))) := Dy.has_add g31.rk g32.rk g33 e31 e32
  obtain ⟨s34, g34, u34⟩ := Dy.mono_mul (⟨⟨by decide, by decide⟩, ⟨by decide, by decide⟩, by decide⟩ : Dy.Rk (-4895412794951729152, 4895412794951729152)) (⟨⟨by decide, by decide⟩, ⟨by decide, by decide⟩, by decide⟩ : Dy.Rk (-4895412794951729152, 4895412794951729152)) ra3 ra3 ua3 ua3 K0
  have e34 : Dy.Has s34 ((Dy.val a3z) * (Dy.val a3z)) := Dy.has_mul ra3 ra3 g34 ha3 ha3
  obtain ⟨s35, g35, u35⟩ := Dy.mono_add (⟨⟨by decide, by decide⟩, ⟨by decide, by decide⟩, by decide⟩ : Dy.Rk (-5188146770730811392, 5188146770730811392)) (⟨⟨by decide, by decide⟩, ⟨by decide, by decide⟩, by decide⟩ : Dy.Rk (-5183643171103440896, 5183643171103440896)) g33.rk g34.rk u33 u34 K6
  have e35 : Dy.Has s35 ((((Dy.val a1z) * (Dy.val a1z)) + ((Dy.val a2z) * (Dy.val a2z))) + ((Dy.val a3z) * (Dy.val a3z))) := Dy.has_add g33.rk g34.rk g35 e33 e34
  obtain ⟨s36, g36, u36⟩ := Dy.mono_mul (⟨⟨by decide, by decide⟩, ⟨by decide, by decide⟩, by decide⟩ : Dy.Rk (-4895412794951729152, 4895412794951729152)) (⟨⟨by decide, by decide⟩, ⟨by decide, by decide⟩, by decide⟩ : Dy.Rk (-4895412794951729152, 4895412794951729152)) rb1 rb1 ub1 ub1 K0
  have e36 : Dy.Has s36 ((Dy.val b1z) * (Dy.val b1z)) := Dy.has_mul rb1 rb1 g36 hb1 hb1
  obtain ⟨s37, g37, u37⟩ := Dy.mono_mul (⟨⟨by decide, by decide⟩, ⟨by decide, by decide⟩, by decide⟩ : Dy.Rk (-4895412794951729152, 4895412794951729152)) (⟨⟨by decide, by decide⟩, ⟨by decide, by decide⟩, by decide⟩ : Dy.Rk (-4895412794951729152, 4895412794951729152)) rb2 rb2 ub2 ub2 K0
  have e37 : Dy.Has s37 ((Dy.val b2z) * (Dy.val b2z)) := Dy.has_mul rb2 rb2 g37 hb2 hb2
  obtain ⟨s38, g38, u38⟩ := Dy.mono_add (⟨⟨by decide, by decide⟩, ⟨by decide, by decide⟩, by decide⟩ : Dy.Rk (-5183643171103440896, 5183643171103440896)) (⟨⟨by decide, by decide⟩, ⟨by decide, by decide⟩, by decide⟩ : Dy.Rk (-5183643171103440896, 5183643171103440896)) g36.rk g37.rk u36 u37 K5
  have e38 : Dy.Has s38 (((Dy.val b1z) * (Dy.val b1z)) + ((Dy.val b2z) * (Dy.val b2z))) := Dy.has_add g36.rk g37.rk g38 e36 e37
  obtain ⟨s39, g39, u39⟩ := Dy.mono_mul (⟨⟨by decide, by decide⟩, ⟨by decide, by decide⟩, by decide⟩ : Dy.Rk (-4895412794951729152, 4895412794951729152)) (⟨⟨by decide, by decide⟩, ⟨by decide, by decide⟩, by decide⟩ : Dy.Rk (-4895412794951729152, 4895412794951729152)) rb3 rb3 ub3 ub3 K0
  have e39 : Dy.Has s39 ((Dy.val b3z) * (Dy.val b3z)) := Dy.has_mul rb3 rb3 g39 hb3 hb3
  obtain ⟨s40, g40, u40⟩ := Dy.mono_add (⟨⟨by decide, by decide⟩, ⟨by decide, by decide⟩, by decide⟩ : Dy.Rk (-5188146770730811392, 5188146770730811392)) (⟨⟨by decide, by decide⟩, ⟨by decide, by decide⟩, by decide⟩ : Dy.Rk (-5183643171103440896, 5183643171103440896)) g38.rk g39.rk u38 u39 K6
  have e40 : Dy.Has s40 ((((Dy.val b1z) * (Dy.val b1z)) + ((Dy.val b2z) * (Dy.val b2z))) + ((Dy.val b3z) * (Dy.val b3z))) := Dy.has_add g38.rk g39.rk g40 e38 e39
  have K12 : Dy.Got (Dy.cMul 0 (Dy.E (-5190398570544496640, 5190398570544496640)) (Dy.E (-5190398570544496640, 5190398570544496640))) (-5774177672242397184, 5774177672242397184) := ⟨by decide +kernel, (⟨⟨by decide, by decide⟩, ⟨by decide, by decide⟩, by decide⟩ : Dy.Rk (-5774177672242397184, 5774177672242397184))⟩
  obtain ⟨s41, g41, u41⟩ := Dy.mono_mul (⟨⟨by decide, by decide⟩, ⟨by decide, by decide⟩, by decide⟩ : Dy.Rk (-5190398570544496640, 5190398570544496640)) (⟨⟨by decide, by decide⟩, ⟨by decide, by decide⟩, by decide⟩ : Dy.Rk (-5190398570544496640, 5190398570544496640)) g35.rk g40.rk u35 u40 K12
  have e41 : Dy.Has s41 (((((Dy.val a1z) * (Dy.val a1z)) + ((Dy.val a2z) * (Dy.val a2z))) + ((Dy.val a3z) * (Dy.val a3z))) * ((((Dy.val b1z) * (Dy.val b1z)) + ((Dy.val b2z) * (Dy.val b2z))) + ((Dy.val b3z) * (Dy.val b3z)))) := Dy.has_mul g35.rk g40.rk g41 e35 e40
  obtain ⟨m1, m2, em⟩ := meet_has g30.rk g41.rk e30 e41 (cross_len _ _ _ _ _ _)
  exact veccross_c _ _ _ _ _ _ w w1 w2 w3 w4 w5 w6 hs1 hs2 g0.1 g1.1 g2.1 g3.1 g4.1 g5.1 g6.1 g7.1 g8.1 (Dy.got_mulc ra3 rb2 g1).1 (Dy.got_mulc ra2 rb3 g0).1 (Dy.got_subc g0.rk g1.rk g2).1 (Dy.got_mulc ra1 rb3 g4).1 (Dy.got_mulc ra3 rb1 g3).1 (Dy.got_subc g3.rk g4.rk g5).1 (Dy.got_mulc ra2 rb1 g7).1 (Dy.got_mulc ra1 rb2 g6).1 (Dy.got_subc g6.rk g7.rk g8).1 (Dy.got_turn g2.rk).1 (Dy.got_turn g5.rk).1 (Dy.got_turn g8.rk).1 g2.rk.turned.E_R g5.rk.turned.E_R g8.rk.turned.E_R g9.1 g10.1 g11.1 g12.1 g13.1 g14.1 g15.1 g16.1 g17.1 g18.1 g19.1 g20.1 g21.1 g22.1 g23.1 g24.1 g25.1 g26.1 g27.1 g28.1 g29.1 g30.1 g31.1 g32.1 g33.1 g34.1 g35.1 g36.1 g37.1 g38.1 g39.1 g40.1 g41.1 em g30.rk.E_R g41.rk.E_R rfl (same3_refl _ _ _) (Dy.has_0 g13.rk e13 (cross_dot1 _ _ _ _ _ _)) (Dy.has_0 g18.rk e18 (cross_dot2 _ _ _ _ _ _)) (Dy.got_mulc ra1 rb1 g19).1 (Dy.got_mulc ra2 rb2 g20).1 g21.1 (Dy.got_mulc ra3 rb3 g22).1 g23.1 (sameIv_refl _)
end Go.Proofs.Ytikiegcncliocaa
