/- The law VecUnit: walk and plain law joined. -/
import Derived.Test.YtiphdhpacklboaaSa
import Derived.Test.YtiphdhpacklboaaVu
import Derived.Test.YtiphdhpacklboaaVb
namespace Go.Dy
theorem width_le {p : Int × Int} {L H w : Rat} {K : Int} (h : Bd p L H w) (oK : ok K) (hw : w ≤ val K) : ∃ d : Int, ok d ∧ d ≤ K ∧ dSub (enc p.2) (enc p.1) true = (enc d, 0) := by
  have v := V_of_val (x := p.2) (y := p.1) (K := K) (by have := h.wd; grind)
  have n := V_le_iff.2 h.rk.le
  have n0 : 0 ≤ fl (V p.2 - V p.1) 1 true := fl_nonneg (by decide) (by omega)
  have n1 : fl (V p.2 - V p.1) 1 true ≤ K := (fl_up (by decide)).2 (by have : V K * ((1 : Nat) : Int) = V K := by simp
                                                                       omega)
  have o : ok (fl (V p.2 - V p.1) 1 true) := by unfold ok at *; omega
  refine ⟨_, o, n1, ?_⟩
  rw [dSub_enc h.rk.hi h.rk.lo, out_hi, if_pos o.2, pin_id o]
theorem val_64 : val 4895412794951729152 = 18446744073709551616 := (val_q (z := 4895412794951729152) (num := 18446744073709551616) (den := 1) (by decide) (by decide +kernel)).trans (by decide +kernel)
theorem val_m64 : val 4318952042648305664 = 1 / 18446744073709551616 := (val_q (z := 4318952042648305664) (num := 1) (den := 18446744073709551616) (by decide) (by decide +kernel)).trans (by decide +kernel)
theorem val_m48 : val 4391009636686233600 = 1 / 281474976710656 := (val_q (z := 4391009636686233600) (num := 1) (den := 281474976710656) (by decide) (by decide +kernel)).trans (by decide +kernel)
theorem sq_low {v m : Rat} (m0 : 0 ≤ m) (h : m ≤ v ∨ v ≤ -m) : m * m ≤ v * v := by
  rcases h with h | h
  · have a := Rat.mul_le_mul_of_nonneg_right h m0
    have b := Rat.mul_le_mul_of_nonneg_left h (show 0 ≤ v by grind)
    grind
  · have h' : m ≤ -v := by grind
    have a := Rat.mul_le_mul_of_nonneg_right h' m0
    have b := Rat.mul_le_mul_of_nonneg_left h' (show 0 ≤ -v by grind)
    grind
end Go.Dy
namespace Go.Proofs.Ytiphdhpacklboaa
open Go Go.RowKit

theorem comp_ok {x : Int} {p : Int × Int} (ox : Dy.ok x) (bp : Dy.Bd p (-1) 1 (1 / 281474976710656)) (sg : (0 ≤ x → 0 ≤ p.1) ∧ (x ≤ 0 → p.2 ≤ 0)) :
    ∃ d : Nat, iWidth (Dy.enc p.1, Dy.enc p.2) = (d, 0) ∧ Dy.fgt d 4391009636686233600 = false ∧ Dy.flt (Dy.enc p.1) 13830554455654793216 = false ∧ Dy.fgt (Dy.enc p.2) 4607182418800017408 = false ∧
      (Dy.fgt (Dy.enc x) 0 = true → Dy.flt (Dy.enc p.1) 0 = false) ∧ (Dy.fgt (Dy.enc x) 0 = true → Dy.flt (Dy.enc x) 0 = false) ∧ (Dy.fgt (Dy.enc x) 0 = true → Dy.feq (Dy.enc x) 0 = false) ∧
      (Dy.fgt (Dy.enc x) 0 = false → Dy.flt (Dy.enc x) 0 = true → Dy.fgt (Dy.enc p.2) 0 = false) ∧ (Dy.fgt (Dy.enc x) 0 = false → Dy.flt (Dy.enc x) 0 = true → Dy.feq (Dy.enc x) 0 = false) ∧
      (Dy.fgt (Dy.enc x) 0 = false → Dy.flt (Dy.enc x) 0 = false → Dy.feq (Dy.enc x) 0 = true) ∧ (Dy.fgt (Dy.enc x) 0 = false → Dy.flt (Dy.enc x) 0 = false → (!(Dy.feq (Dy.enc p.1) 0 && (Dy.feq (Dy.enc p.2) 0 && true))) = false) := by
  have oK : Dy.ok 4391009636686233600 := Dy.ok_B (by decide) (by decide)
  have oI : Dy.ok 4607182418800017408 := Dy.ok_B (by decide) (by decide)
  obtain ⟨d, od, dk, e⟩ := Dy.width_le bp oK (by rw [Dy.val_m48]; exact Rat.le_refl)
  have g1 : Dy.fgt (Dy.enc x) 0 = decide (0 < x) := Dy.fgt_enc ox Dy.ok_zero
  have g2 : Dy.flt (Dy.enc x) 0 = decide (x < 0) := Dy.flt_enc ox Dy.ok_zero
  have g3 : Dy.feq (Dy.enc x) 0 = decide (x = 0) := Dy.feq_enc ox Dy.ok_zero
  have g4 : Dy.flt (Dy.enc p.1) 0 = decide (p.1 < 0) := Dy.flt_enc bp.rk.lo Dy.ok_zero
  have g5 : Dy.fgt (Dy.enc p.2) 0 = decide (0 < p.2) := Dy.fgt_enc bp.rk.hi Dy.ok_zero
  have g6 : Dy.feq (Dy.enc p.1) 0 = decide (p.1 = 0) := Dy.feq_enc bp.rk.lo Dy.ok_zero
  have g7 : Dy.feq (Dy.enc p.2) 0 = decide (p.2 = 0) := Dy.feq_enc bp.rk.hi Dy.ok_zero
  have l1 : -4607182418800017408 ≤ p.1 := Dy.val_le.1 (by rw [Dy.val_neg, Dy.val_one]; exact bp.lo)
  have l2 : p.2 ≤ 4607182418800017408 := Dy.val_le.1 (by rw [Dy.val_one]; exact bp.hi)
  have hl := bp.rk.le
  obtain ⟨s1, s2⟩ := sg
  refine ⟨Dy.enc d, ?_, gt_false (y := 4391009636686233600) od oK dk, lt_false (y := -4607182418800017408) bp.rk.lo (Dy.ok_neg oI) l1, gt_false (y := 4607182418800017408) bp.rk.hi oI l2, ?_⟩
  · unfold iWidth
    rw [if_pos (show Dy.ivR (Dy.enc p.1, Dy.enc p.2) = true from bp.rk.E_R)]
    exact e
  · rw [g1, g2, g3, g4, g5, g6, g7]
    simp only [decide_eq_true_eq, decide_eq_false_iff_not, Bool.and_true, Bool.not_eq_false', Bool.and_eq_true]
    omega
theorem ok_big : Dy.ok 4895412794951729152 := by have t := Dy.top_eq; unfold Dy.ok; omega
theorem small_enc {x : Int} (ox : Dy.ok x) : smallF (Dy.enc x) = decide ((x.natAbs : Int) ≤ 4895412794951729152) := by
  have e : Dy.fgt (Dy.enc (x.natAbs : Int)) 4895412794951729152 = decide ((4895412794951729152 : Int) < (x.natAbs : Int)) := Dy.fgt_enc (z := 4895412794951729152) (Dy.ok_abs ox) ok_big
  unfold smallF
  rw [Dy.right_enc ox, Dy.abs_enc ox, e, Bool.true_and, Bool.eq_iff_iff]
  simp only [Bool.not_eq_true', decide_eq_false_iff_not, decide_eq_true_eq]
  omega
theorem bound64 {x : Int} (h : (x.natAbs : Int) ≤ 4895412794951729152) : -18446744073709551616 ≤ Dy.val x ∧ Dy.val x ≤ 18446744073709551616 := by
  rw [← Dy.val_64, ← Dy.val_neg]
  exact ⟨Dy.val_le.2 (by omega), Dy.val_le.2 (by omega)⟩
theorem sq_64 {x : Int} (h : (x.natAbs : Int) ≤ 4895412794951729152) : Dy.val x * Dy.val x ≤ 340282366920938463463374607431768211456 := by
  obtain ⟨a, b⟩ := bound64 h
  have := Dy.mul_abs_le a b a b
  grind
theorem sq_m64 {x : Int} (h : (4318952042648305664 : Int) ≤ (x.natAbs : Int)) : 1 / 340282366920938463463374607431768211456 ≤ Dy.val x * Dy.val x := by
  have a : 1 / 18446744073709551616 ≤ Dy.val x ∨ Dy.val x ≤ -(1 / 18446744073709551616) := by
    rw [← Dy.val_m64, ← Dy.val_neg]
    by_cases c : 0 ≤ x
    · exact .inl (Dy.val_le.2 (by omega))
    · exact .inr (Dy.val_le.2 (by omega))
  have := Dy.sq_low (by decide +kernel) a
  rwa [show (1 / 18446744073709551616 : Rat) * (1 / 18446744073709551616) = 1 / 340282366920938463463374607431768211456 by decide +kernel] at this
/-- A length of 1, nearly. -/
theorem near_one {x y z s : Rat} {t : Nat → Rat} (hs : s = x * x + y * y + z * z) (s0 : 1 / 340282366920938463463374607431768211456 ≤ s) (τb : ∀ κ, 1 / 73786976294838206464 ≤ t κ) (nt : Dy.Near (fun n => t n * t n) (fun _ => s)) :
    Dy.Near (fun κ => x / t κ * (x / t κ) + y / t κ * (y / t κ) + z / t κ * (z / t κ)) (fun _ => 1) := by
  have e1 : ∀ n, x / t n * (x / t n) + y / t n * (y / t n) + z / t n * (z / t n) = s / (t n * t n) := fun n => by
    have t0 : t n ≠ 0 := by have := τb n; grind
    rw [hs]; generalize t n = τ at *; grind
  have e2 : s / s = 1 := by grind
  have tt : ∀ n, 1 / 5444517870735015415413993718908291383296 ≤ t n * t n := fun n => by
    have := Dy.sq_low (v := t n) (m := 1 / 73786976294838206464) (by decide +kernel) (.inl (τb n))
    rwa [show (1 / 73786976294838206464 : Rat) * (1 / 73786976294838206464) = 1 / 5444517870735015415413993718908291383296 by decide +kernel] at this
  have k := Dy.near_div (d := 1 / 5444517870735015415413993718908291383296) (x := fun _ => s) (x' := fun _ => s) (by decide +kernel) (Dy.Near.refl _) nt tt (fun _ => by grind) (Dy.bnd_const s)
  exact (Dy.near_eq e1).trans (k.trans (Dy.near_eq fun _ => e2))
set_option maxHeartbeats 2000000 in
theorem vecunit_num {x y z : Int} (ox : Dy.ok x) (oy : Dy.ok y) (oz : Dy.ok z) (w : World) :
    Calls Try.prog 5 #[.agg #[.float .f64 (Dy.enc x), .float .f64 (Dy.enc y), .float .f64 (Dy.enc z)]] w fun e w' => e = .returned (.bool true) ∧ Below w.heap.size w w' := by
  have hm := most_enc ox oy oz
  have oM := Dy.ok_max2 (Dy.ok_max2 (Dy.ok_abs ox) (Dy.ok_abs oy)) (Dy.ok_abs oz)
  have n3 : nR3 [.f (Dy.enc x), .f (Dy.enc y), .f (Dy.enc z)] = true := by
    show (Dy.right (Dy.enc x) && Dy.right (Dy.enc y) && Dy.right (Dy.enc z)) = true
    rw [Dy.right_enc ox, Dy.right_enc oy, Dy.right_enc oz]; rfl
  have m3 : rN3 [.f (Dy.abs (Dy.enc x)), .f (Dy.abs (Dy.enc y)), .f (Dy.abs (Dy.enc z))] = true := by
    have a := Dy.right_abs (Dy.right_enc ox); have b := Dy.right_abs (Dy.right_enc oy); have c := Dy.right_abs (Dy.right_enc oz)
    simp [rN3, gF, U.F, a, b, c]
  have lowE : Dy.flt (most3 (Dy.enc x) (Dy.enc y) (Dy.enc z)) 4318952042648305664 = decide (max (max (x.natAbs : Int) y.natAbs) z.natAbs < (4318952042648305664 : Int)) := by
    rw [hm]; exact Dy.flt_enc (z := 4318952042648305664) oM (Dy.ok_B (by decide) (by decide))
  have bigE : Dy.fgt (most3 (Dy.enc x) (Dy.enc y) (Dy.enc z)) 4895412794951729152 = decide ((4895412794951729152 : Int) < max (max (x.natAbs : Int) y.natAbs) z.natAbs) := by
    rw [hm]; exact Dy.fgt_enc (z := 4895412794951729152) oM ok_big
  have sm : (smallF (Dy.enc x) && (smallF (Dy.enc y) && smallF (Dy.enc z))) = decide (max (max (x.natAbs : Int) y.natAbs) z.natAbs ≤ (4895412794951729152 : Int)) := by
    rw [small_enc ox, small_enc oy, small_enc oz, Bool.eq_iff_iff]
    simp only [Bool.and_eq_true, decide_eq_true_eq]
    omega
  by_cases hS : max (max (x.natAbs : Int) y.natAbs) z.natAbs ≤ (4895412794951729152 : Int)
  · by_cases hL : max (max (x.natAbs : Int) y.natAbs) z.natAbs < (4318952042648305664 : Int)
    · have hU : unitG (Dy.enc x) (Dy.enc y) (Dy.enc z) = (((0, 0), (0, 0), (0, 0)), 50) := by
        unfold unitG; rw [if_pos (by rw [lowE]; exact decide_eq_true hL)]
      exact vecunit_c _ _ _ w (Dy.W_enc ox) (Dy.W_enc oy) (Dy.W_enc oz) hU rfl rfl rfl rfl n3 m3 (sm.trans (decide_eq_true hS)) (lowE.trans (decide_eq_true hL)) rfl (by decide)
    · have hS0 : 1 / 340282366920938463463374607431768211456 ≤ Dy.val x * Dy.val x + Dy.val y * Dy.val y + Dy.val z * Dy.val z := by
        have xx := sq0 (Dy.val x); have yy := sq0 (Dy.val y); have zz := sq0 (Dy.val z)
        rcases (by omega : (4318952042648305664 : Int) ≤ (x.natAbs : Int) ∨ (4318952042648305664 : Int) ≤ (y.natAbs : Int) ∨ (4318952042648305664 : Int) ≤ (z.natAbs : Int)) with h | h | h
        all_goals
          have := sq_m64 h
          grind
      have hU0 : Dy.val x * Dy.val x + Dy.val y * Dy.val y + Dy.val z * Dy.val z ≤ 2722258935367507707706996859454145691648 := by
        have a := sq_64 (x := x) (by omega); have b := sq_64 (x := y) (by omega); have c := sq_64 (x := z) (by omega)
        grind
      obtain ⟨p, q, r, t, eM, ⟨bp, bq, br⟩, τb, nt, ⟨hp, hq, hr⟩, sx, sy, sz⟩ := unit_all ox oy oz hS0 hU0
      have hG : unitG (Dy.enc x) (Dy.enc y) (Dy.enc z) = ((Dy.E p, Dy.E q, Dy.E r), 0) := by
        rw [unitG_mid ox oy oz (by omega) hS, eM]
      obtain ⟨sm1, sm2, sm3, sm4, sm5, n, g1, g2, g3, g4, g5, g6, bn, hn⟩ := norm_one bp bq br hp hq hr (near_one rfl hS0 τb nt)
      obtain ⟨d1, u1, u2, u3, u4, u5, u6, u7, u8, u9, u10, u11⟩ := comp_ok ox bp sx
      obtain ⟨d2, v1, v2, v3, v4, v5, v6, v7, v8, v9, v10, v11⟩ := comp_ok oy bq sy
      obtain ⟨d3, y1, y2, y3, y4, y5, y6, y7, y8, y9, y10, y11⟩ := comp_ok oz br sz
      have has : Dy.ivHas (Dy.enc n.1, Dy.enc n.2) 4607182418800017408 = true := by
        have oI : Dy.ok 4607182418800017408 := Dy.ok_B (by decide) (by decide)
        have l1 : n.1 ≤ 4607182418800017408 := Dy.val_le.1 (by rw [Dy.val_one]; exact hn.lo)
        have l2 : (4607182418800017408 : Int) ≤ n.2 := Dy.val_le.1 (by rw [Dy.val_one]; exact hn.hi)
        have e1 : (Dy.fgt 4607182418800017408 (Dy.enc n.1) || Dy.feq 4607182418800017408 (Dy.enc n.1)) = true := ge_true (x := 4607182418800017408) oI bn.rk.lo l1
        have e2 : (Dy.flt 4607182418800017408 (Dy.enc n.2) || Dy.feq 4607182418800017408 (Dy.enc n.2)) = true := le_true (x := 4607182418800017408) oI bn.rk.hi l2
        unfold Dy.ivHas
        rw [show Dy.ivR (Dy.enc n.1, Dy.enc n.2) = true from bn.rk.E_R, e1, e2]; rfl
      exact vecunit_a _ _ _ w (Dy.W_enc ox) (Dy.W_enc oy) (Dy.W_enc oz) hG rfl rfl rfl rfl g1.1 g2.1 g3.1 g4.1 g5.1 g6.1 u1 rfl v1 rfl y1 rfl rfl rfl rfl n3 m3 (sm.trans (decide_eq_true hS)) (lowE.trans (decide_eq_false hL)) rfl rfl has
        bp.rk.E_R u3 u4 rfl u2 br.rk.E_R y3 y4 rfl y2 y5 y6 y7 y8 y9 y10 y11 bq.rk.E_R v3 v4 rfl v2 v5 v6 v7 v8 v9 v10 v11 u5 u6 u7 u8 u9 u10 u11
  · have hU : unitG (Dy.enc x) (Dy.enc y) (Dy.enc z) = (((0, 0), (0, 0), (0, 0)), 50) := by
      unfold unitG
      split
      · rfl
      · rw [if_pos (by rw [bigE]; exact decide_eq_true (by omega))]
    exact vecunit_b _ _ _ w (Dy.W_enc ox) (Dy.W_enc oy) (Dy.W_enc oz) hU rfl rfl rfl rfl n3 m3 (sm.trans (decide_eq_false hS)) rfl (by decide)
theorem vecunit_ok (a1 a2 a3 : Nat) (w : World) (w1 : Dy.W a1) (w2 : Dy.W a2) (w3 : Dy.W a3) :
    Calls Try.prog 5 #[.agg #[.float .f64 a1, .float .f64 a2, .float .f64 a3]] w fun e w' => e = .returned (.bool true) ∧ Below w.heap.size w w' := by
  cases h1 : Dy.right a1 <;> cases h2 : Dy.right a2 <;> cases h3 : Dy.right a3
  case true.true.true =>
    rw [← Dy.enc_of_dec w1 h1, ← Dy.enc_of_dec w2 h2, ← Dy.enc_of_dec w3 h3]
    exact vecunit_num (Dy.ok_dec w1 h1) (Dy.ok_dec w2 h2) (Dy.ok_dec w3 h3) w
  all_goals exact vecunit_d a1 a2 a3 w w1 w2 w3 rfl rfl rfl (by show (!(Dy.right a1 && (Dy.right a2 && Dy.right a3))) = true; rw [h1, h2, h3]; rfl) (by unfold smallF; rw [h1, h2, h3]; simp) (by decide)
end Go.Proofs.Ytiphdhpacklboaa
