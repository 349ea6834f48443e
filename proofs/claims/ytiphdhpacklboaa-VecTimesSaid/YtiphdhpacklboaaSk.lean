/- The law VecTimes: powers of two, triples put otherwise; walk and plain law joined. -/
import Derived.Test.YtiphdhpacklboaaSi
import Derived.Test.YtiphdhpacklboaaVt
namespace Go.Dy
theorem enc_parts {z : Int} (oz : ok z) : enc z % 2 ^ 63 = z.natAbs ∧ sgn (enc z) = decide (z < 0) ∧ z.natAbs < top := by
  have t := top_eq
  unfold ok at oz
  unfold enc sgn
  by_cases c : 0 ≤ z
  · rw [if_pos c]
    refine ⟨by omega, ?_, by omega⟩
    rw [decide_eq_false (by omega), decide_eq_false (by omega)]
  · rw [if_neg c]
    refine ⟨by omega, ?_, by omega⟩
    rw [decide_eq_true (by omega), decide_eq_true (by omega)]
/-- A number times a power of two: just so, or infinite. -/
theorem ldx_pos {z : Int} (oz : ok z) (k : Nat) : (∃ w, ok w ∧ ldx (enc z) (k : Int) = enc w ∧ V w = V z * 2 ^ k) ∨ ∃ s, ldx (enc z) (k : Int) = word s top := by
  have tp := top_eq
  obtain ⟨e1, e2, e3⟩ := enc_parts oz
  obtain ⟨w, w0, hw⟩ := scaled (z := (z.natAbs : Int)) (by omega) k
  obtain ⟨r, rfl⟩ : ∃ r : Nat, w = (r : Int) := ⟨w.toNat, by omega⟩
  have hm : mag r = mag z.natAbs * 2 ^ k := by
    rw [V_nat, V_nat] at hw
    have h2 : ((mag z.natAbs * 2 ^ k : Nat) : Int) = (mag r : Int) := by rw [Int.natCast_mul, Int.natCast_pow, hw]; rfl
    omega
  have hl : ldx (enc z) (k : Int) = word (decide (z < 0)) (min r top) := by
    unfold ldx
    rw [e1, e2, if_pos e3, Int.toNat_natCast, show (-(k : Int)).toNat = 0 by omega, ← hm, nr_zero]
  by_cases c : r < top
  · refine .inl ?_
    rw [hl, Nat.min_eq_left (by omega)]
    by_cases s : z < 0
    · have hr : 0 < r := by
        have h0 : V (r : Int) ≠ 0 := by
          rw [hw]
          have : 0 < V (z.natAbs : Int) := V_pos.2 (by omega)
          have := Int.mul_pos this (pow_pos2 k)
          omega
        rcases Nat.eq_zero_or_pos r with h | h
        · subst h; exact absurd V_zero h0
        · exact h
      refine ⟨-(r : Int), by unfold ok; omega, ?_, ?_⟩
      · rw [decide_eq_true s]; unfold word enc; rw [if_pos rfl, if_neg (by omega)]; omega
      · rw [V_neg, hw, show z = -(z.natAbs : Int) by omega, V_neg, Int.neg_mul, Int.natAbs_neg, Int.natAbs_natCast]
    · refine ⟨(r : Int), by unfold ok; omega, ?_, ?_⟩
      · rw [decide_eq_false s]; unfold word enc; rw [if_neg (by decide), if_pos (by omega)]; omega
      · rw [hw, show (z.natAbs : Int) = z by omega]
  · exact .inr ⟨decide (z < 0), by rw [hl, Nat.min_eq_right (by omega)]⟩
theorem inf_right (s : Bool) : right (word s top) = false := by cases s <;> decide +kernel
theorem inf_feq (s : Bool) {z : Int} (oz : ok z) : feq (word s top) (enc z) = false := by
  have tp := top_eq
  have l : word s top < 2 ^ 64 := by cases s <;> decide +kernel
  rw [feq_eq l (W_enc oz).lt, dec_enc oz]
  have d : dec (word s top) = (top : Int) ∨ dec (word s top) = -(top : Int) := by
    cases s
    · exact .inl (by decide +kernel)
    · exact .inr (by decide +kernel)
  unfold ok at oz
  rw [decide_eq_false (by rcases d with d | d <;> omega), Bool.and_false]
end Go.Dy
namespace Go.Proofs.Ytiphdhpacklboaa
open Go Go.RowKit

/-- A number and the one that it is times a power of two, if it is it again the other way. -/
theorem comp_sc {a t : Int} (oa : Dy.ok a) (rg : Dy.right (Dy.ldx (Dy.enc a) t) = true) (hf : Dy.feq (Dy.ldx (Dy.ldx (Dy.enc a) t) (-t)) (Dy.enc a) = true) :
    ∃ γ, Dy.ok γ ∧ Dy.enc γ = Dy.ldx (Dy.enc a) t ∧ (0 ≤ t → Dy.V γ = Dy.V a * 2 ^ t.toNat) ∧ (t < 0 → Dy.V a = Dy.V γ * 2 ^ (-t).toNat) := by
  by_cases c : 0 ≤ t
  · obtain ⟨k, rfl⟩ : ∃ k : Nat, t = (k : Int) := ⟨t.toNat, by omega⟩
    rcases Dy.ldx_pos oa k with ⟨w, ow, e, v⟩ | ⟨s, e⟩
    · exact ⟨w, ow, e.symm, fun _ => by rw [Int.toNat_natCast]; exact v, fun h => by omega⟩
    · rw [e, Dy.inf_right] at rg; cases rg
  · obtain ⟨k, rfl⟩ : ∃ k : Nat, t = -(k : Int) := ⟨(-t).toNat, by omega⟩
    have wg := W_ldx (Dy.W_enc oa) (-(k : Int))
    refine ⟨Dy.dec (Dy.ldx (Dy.enc a) (-(k : Int))), Dy.ok_dec wg rg, Dy.enc_of_dec wg rg, fun h => by omega, fun _ => ?_⟩
    have eg := Dy.enc_of_dec wg rg
    rw [Int.neg_neg, ← eg] at hf
    rw [Int.neg_neg, Int.toNat_natCast]
    rcases Dy.ldx_pos (Dy.ok_dec wg rg) k with ⟨w, ow, e, v⟩ | ⟨s, e⟩
    · rw [e, Dy.feq_enc ow oa, decide_eq_true_eq] at hf
      rw [hf] at v; exact v
    · rw [e, Dy.inf_feq s oa] at hf; cases hf
theorem wrap_t (k0 : Int) : -100 ≤ (IntKind.i64.wrap k0).tmod 101 ∧ (IntKind.i64.wrap k0).tmod 101 ≤ 100 ∧ IntKind.i64.wrap (0 - (IntKind.i64.wrap k0).tmod 101) = -(IntKind.i64.wrap k0).tmod 101 := by
  generalize IntKind.i64.wrap k0 = a
  have h := Int.natAbs_tmod a 101
  have b : -100 ≤ a.tmod 101 ∧ a.tmod 101 ≤ 100 := by
    have : (a.tmod 101).natAbs < 101 := by rw [h]; exact Nat.mod_lt _ (by decide)
    omega
  refine ⟨b.1, b.2, ?_⟩
  rw [IntKind.wrap_i64]; omega
theorem unitT_E {x y z : Int} (ox : Dy.ok x) (oy : Dy.ok y) (oz : Dy.ok z) : unitT (Dy.enc x) (Dy.enc y) (Dy.enc z) = unitG (Dy.enc x) (Dy.enc y) (Dy.enc z) := by
  unfold unitT; rw [if_pos (nR3_E ox oy oz)]
theorem turn2 (p : Int × Int) : Dy.rTurned (Dy.rTurned p) = p := by unfold Dy.rTurned; simp
theorem neg_turn {p : Int × Int} (hp : Dy.Rk p) : Dy.cNeg 0 (Dy.E (Dy.rTurned p)) = (Dy.E p, 0) := by
  have := (Dy.got_neg hp.turned).1
  rwa [turn2] at this
theorem same3_refl (a b c : Nat × Nat) : same3 a b c a b c = true := by unfold same3 sameIv; simp
theorem zsub {x : Int} (ox : Dy.ok x) : (Ieee.double.sub 0 (Dy.enc x)).getD 0 = Dy.enc (-x) ∧ (fN Ieee.double.sub) [.f 0, .f (Dy.enc x)] = true := by
  have e0 : Dy.nz (Dy.V 0 - Dy.V x) = -x := by rw [Dy.V_zero, Int.zero_sub, ← Dy.V_neg]; exact Int.le_antisymm (Dy.nz_le (Int.le_refl _)) (Dy.le_nz (Int.le_refl _))
  have e := Dy.sub_enc Dy.ok_zero ox (by rw [e0]; exact Dy.ok_neg ox)
  rw [e0] at e
  have e' : Ieee.double.sub 0 (Dy.enc x) = some (Dy.enc (-x)) := e
  exact ⟨by rw [e']; rfl, okF_some e' (Dy.W_enc (Dy.ok_neg ox))⟩
/-- Lower ends of two intervals of the same number. -/
theorem lo_near {p p' : Int × Int} {x s : Rat} {t t' : Nat → Rat} (bp : Dy.Bd p (-1) 1 (1 / 281474976710656)) (bp' : Dy.Bd p' (-1) 1 (1 / 281474976710656)) (hp : Dy.HasS p (fun κ => x / t κ)) (hp' : Dy.HasS p' (fun κ => x / t' κ)) (τ : ∀ κ, 1 / 73786976294838206464 ≤ t κ) (τ' : ∀ κ, 1 / 73786976294838206464 ≤ t' κ)
    (n : Dy.Near (fun n => t n * t n) (fun _ => s)) (n' : Dy.Near (fun n => t' n * t' n) (fun _ => s)) : ∃ d : Int, Dy.ok d ∧ (Ieee.double.sub (Dy.enc p'.1) (Dy.enc p.1)).getD 0 = Dy.enc d ∧ (fN Ieee.double.sub) [.f (Dy.enc p'.1), .f (Dy.enc p.1)] = true ∧ (d.natAbs : Int) ≤ 4391009636686233600 := by
  have nt : Dy.Near t t' := Dy.near_of_sq (fun k => by have := τ k; grind) (fun k => by have := τ' k; grind) (n.trans n'.symm)
  have nd := Dy.near_div (d := 1 / 73786976294838206464) (x := fun _ => x) (x' := fun _ => x) (by decide +kernel) (Dy.Near.refl _) nt τ τ' (Dy.bnd_const x)
  obtain ⟨m1, m2⟩ := Dy.meets_of hp hp' nd
  have v1 := Dy.val_le.2 m1; have v2 := Dy.val_le.2 m2
  have w1 := bp.wd; have w2 := bp'.wd
  have K : Dy.val 4391009636686233600 = 1 / 281474976710656 := (Dy.val_q (z := 4391009636686233600) (num := 1) (den := 281474976710656) (by decide) (by decide +kernel)).trans (by decide +kernel)
  have oK : Dy.ok 4391009636686233600 := Dy.ok_B (by decide) (by decide)
  have d1 := Dy.V_of_val (x := p'.1) (y := p.1) (K := 4391009636686233600) (by rw [K]; grind)
  have d2 := Dy.V_of_val (x := p.1) (y := p'.1) (K := 4391009636686233600) (by rw [K]; grind)
  have n1 : Dy.nz (Dy.V p'.1 - Dy.V p.1) ≤ 4391009636686233600 := Dy.nz_le d1
  have n2 : -4391009636686233600 ≤ Dy.nz (Dy.V p'.1 - Dy.V p.1) := Dy.le_nz (by rw [Dy.V_neg]; omega)
  have o : Dy.ok (Dy.nz (Dy.V p'.1 - Dy.V p.1)) := by unfold Dy.ok at *; omega
  have e := Dy.sub_enc bp'.rk.lo bp.rk.lo o
  exact ⟨_, o, by rw [e]; rfl, okF_some e (Dy.W_enc o), by omega⟩
set_option maxHeartbeats 2000000 in
theorem vectimes_num {x y z : Int} (k0 : Int) (ox : Dy.ok x) (oy : Dy.ok y) (oz : Dy.ok z) (w : World) :
    Calls Try.prog 4 #[.agg #[.float .f64 (Dy.enc x), .float .f64 (Dy.enc y), .float .f64 (Dy.enc z)], .int .i8 k0] w fun e w' => e = .returned (.bool true) ∧ Below w.heap.size w w' := by
  rcases unit_two ox oy oz with h | ⟨p, q, r, t, hm, hG, ⟨bp, bq, br⟩, τb, nt, ⟨hp, hq, hr⟩, st⟩
  · exact vectimes_e _ _ _ k0 w (Dy.W_enc ox) (Dy.W_enc oy) (Dy.W_enc oz) ((unitT_E ox oy oz).trans h) rfl
  · have st' := ((st.turnX ox).turnY oy).turnZ oz
    have hN : unitT (Dy.enc (-x)) (Dy.enc (-y)) (Dy.enc (-z)) = ((Dy.E (Dy.rTurned p), Dy.E (Dy.rTurned q), Dy.E (Dy.rTurned r)), 0) := by
      rw [unitT_E (Dy.ok_neg ox) (Dy.ok_neg oy) (Dy.ok_neg oz), unitG_mid (Dy.ok_neg ox) (Dy.ok_neg oy) (Dy.ok_neg oz) (by rw [Int.natAbs_neg, Int.natAbs_neg, Int.natAbs_neg]; exact hm.1) (by rw [Int.natAbs_neg, Int.natAbs_neg, Int.natAbs_neg]; exact hm.2), unit_of (Dy.ok_neg ox) (Dy.ok_neg oy) (Dy.ok_neg oz) st']
    obtain ⟨p2, q2, r2, t2, _, hG2, ⟨bp2, bq2, br2⟩, τb2, nt2, ⟨hp2, _, _⟩, _⟩ := unit_in ox oz oy (by omega) (by omega)
    rw [show Dy.val x * Dy.val x + Dy.val z * Dy.val z + Dy.val y * Dy.val y = Dy.val x * Dy.val x + Dy.val y * Dy.val y + Dy.val z * Dy.val z by grind] at nt2
    obtain ⟨d, od, d1, d2, d3⟩ := lo_near bp bp2 hp hp2 τb τb2 nt nt2
    obtain ⟨b1, b2, b3⟩ := wrap_t k0
    have z1 := zsub ox; have z2 := zsub oy; have z3 := zsub oz
    have i1 : nIv [.f (Dy.enc (Dy.rTurned p).1), .f (Dy.enc (Dy.rTurned p).2)] = true := bp.rk.turned.E_R
    have i2 : nIv [.f (Dy.enc (Dy.rTurned q).1), .f (Dy.enc (Dy.rTurned q).2)] = true := bq.rk.turned.E_R
    have i3 : nIv [.f (Dy.enc (Dy.rTurned r).1), .f (Dy.enc (Dy.rTurned r).2)] = true := br.rk.turned.E_R
    have ab : (Dy.flt (Dy.abs (Dy.enc d)) 4391009636686233600 || Dy.feq (Dy.abs (Dy.enc d)) 4391009636686233600) = true := by
      rw [Dy.abs_enc od]; exact le_true (y := 4391009636686233600) (Dy.ok_abs od) (Dy.ok_B (by decide) (by decide)) d3
    have tm : nTm [.i ((IntKind.i64.wrap k0).tmod 101)] = true := decide_eq_true (show -1000 ≤ (IntKind.i64.wrap k0).tmod 101 ∧ (IntKind.i64.wrap k0).tmod 101 ≤ 1000 from ⟨by omega, by omega⟩)
    generalize hk : (IntKind.i64.wrap k0).tmod 101 = τ at *
    have sc : (timesG (Dy.enc x) (Dy.enc y) (Dy.enc z) τ).2 = true → (unitT (Dy.ldx (Dy.enc x) τ) (Dy.ldx (Dy.enc y) τ) (Dy.ldx (Dy.enc z) τ)).2 = 0 → unitT (Dy.ldx (Dy.enc x) τ) (Dy.ldx (Dy.enc y) τ) (Dy.ldx (Dy.enc z) τ) = ((Dy.E p, Dy.E q, Dy.E r), 0) := fun h1 h2 => by
      have h1' : (Dy.feq (Dy.ldx (Dy.ldx (Dy.enc x) τ) (IntKind.i64.wrap (0 - τ))) (Dy.enc x) && (Dy.feq (Dy.ldx (Dy.ldx (Dy.enc y) τ) (IntKind.i64.wrap (0 - τ))) (Dy.enc y) && Dy.feq (Dy.ldx (Dy.ldx (Dy.enc z) τ) (IntKind.i64.wrap (0 - τ))) (Dy.enc z))) = true := h1
      rw [b3] at h1'
      simp only [Bool.and_eq_true] at h1'
      have rr : nR3 [.f (Dy.ldx (Dy.enc x) τ), .f (Dy.ldx (Dy.enc y) τ), .f (Dy.ldx (Dy.enc z) τ)] = true := by
        by_cases c : nR3 [.f (Dy.ldx (Dy.enc x) τ), .f (Dy.ldx (Dy.enc y) τ), .f (Dy.ldx (Dy.enc z) τ)] = true
        · exact c
        · unfold unitT at h2; rw [if_neg c] at h2; exact absurd h2 (by decide)
      have rr' : (Dy.right (Dy.ldx (Dy.enc x) τ) && Dy.right (Dy.ldx (Dy.enc y) τ) && Dy.right (Dy.ldx (Dy.enc z) τ)) = true := rr
      simp only [Bool.and_eq_true] at rr'
      obtain ⟨⟨r1, r2'⟩, r3⟩ := rr'
      obtain ⟨x', ox', e1, u1, v1⟩ := comp_sc ox r1 h1'.1
      obtain ⟨y', oy', e2, u2, v2⟩ := comp_sc oy r2' h1'.2.1
      obtain ⟨z', oz', e3, u3, v3⟩ := comp_sc oz r3 h1'.2.2
      rw [← e1, ← e2, ← e3, unitT_E ox' oy' oz'] at h2 ⊢
      rcases unit_two ox' oy' oz' with h | ⟨p', q', r', t', hm', hG', _, _, _, _, stg⟩
      · rw [h] at h2; exact absurd h2 (by decide)
      · rw [hG']
        by_cases c : 0 ≤ τ
        · obtain ⟨rfl, rfl, rfl⟩ := unit_scale (k := τ.toNat) (by omega) ox oy oz ox' oy' oz' (u1 c) (u2 c) (u3 c) hm.1 st stg
          rfl
        · obtain ⟨rfl, rfl, rfl⟩ := unit_scale (k := (-τ).toNat) (by omega) ox' oy' oz' ox oy oz (v1 (by omega)) (v2 (by omega)) (v3 (by omega)) hm'.1 stg st
          rfl
    have hT : timesG (Dy.enc x) (Dy.enc y) (Dy.enc z) τ = ((Dy.ldx (Dy.enc x) τ, Dy.ldx (Dy.enc y) τ, Dy.ldx (Dy.enc z) τ), (timesG (Dy.enc x) (Dy.enc y) (Dy.enc z) τ).2) := rfl
    rcases hU : unitT (Dy.ldx (Dy.enc x) τ) (Dy.ldx (Dy.enc y) τ) (Dy.ldx (Dy.enc z) τ) with ⟨⟨⟨c1, c2⟩, ⟨c3, c4⟩, ⟨c5, c6⟩⟩, c7⟩
    rw [hU] at sc
    have s3 : (timesG (Dy.enc x) (Dy.enc y) (Dy.enc z) τ).2 = true → (c7 == 0) = true → same3 (Dy.E p) (Dy.E q) (Dy.E r) (c1, c2) (c3, c4) (c5, c6) = true := fun h1 h2 => by
      have := sc h1 (by simpa using h2)
      simp only [Prod.mk.injEq] at this
      obtain ⟨⟨e1, e2, e3⟩, _⟩ := this
      have f1 : (c1, c2) = Dy.E p := e1
      have f2 : (c3, c4) = Dy.E q := e2
      have f3 : (c5, c6) = Dy.E r := e3
      rw [f1, f2, f3]; exact same3_refl _ _ _
    exact vectimes_a _ _ _ k0 w (Dy.W_enc ox) (Dy.W_enc oy) (Dy.W_enc oz) ((unitT_E ox oy oz).trans hG) rfl hk hT hU rfl z1.1 z2.1 z3.1 hN (neg_turn bp.rk) (neg_turn bq.rk) (neg_turn br.rk) ((unitT_E ox oz oy).trans hG2) rfl rfl d1 rfl rfl tm s3
      (fun _ _ => z1.2) (fun _ _ => z2.2) (fun _ _ => z3.2) (fun _ _ => i1) (fun _ _ => i2) (fun _ _ => i3) (fun _ _ => by decide) (fun _ _ => same3_refl _ _ _) (fun _ _ => d2) (fun _ _ => ab)
      (fun _ _ => z1.2) (fun _ _ => z2.2) (fun _ _ => z3.2) (fun _ _ => i1) (fun _ _ => i2) (fun _ _ => i3) (fun _ _ => by decide) (fun _ _ => same3_refl _ _ _) (fun _ _ => d2) (fun _ _ => ab)
      (fun _ => z1.2) (fun _ => z2.2) (fun _ => z3.2) (fun _ => i1) (fun _ => i2) (fun _ => i3) (fun _ => by decide) (fun _ => same3_refl _ _ _) (fun _ => d2) (fun _ => ab)
theorem vectimes_ok (a1 a2 a3 : Nat) (k0 : Int) (w : World) (w1 : Dy.W a1) (w2 : Dy.W a2) (w3 : Dy.W a3) :
    Calls Try.prog 4 #[.agg #[.float .f64 a1, .float .f64 a2, .float .f64 a3], .int .i8 k0] w fun e w' => e = .returned (.bool true) ∧ Below w.heap.size w w' := by
  cases h1 : Dy.right a1 <;> cases h2 : Dy.right a2 <;> cases h3 : Dy.right a3
  case true.true.true =>
    rw [← Dy.enc_of_dec w1 h1, ← Dy.enc_of_dec w2 h2, ← Dy.enc_of_dec w3 h3]
    exact vectimes_num k0 (Dy.ok_dec w1 h1) (Dy.ok_dec w2 h2) (Dy.ok_dec w3 h3) w
  all_goals exact vectimes_e a1 a2 a3 k0 w w1 w2 w3 (t0 := 0) (t1 := 0) (t2 := 0) (t3 := 0) (t4 := 0) (t5 := 0) (t6 := 50) (by unfold unitT; rw [if_neg (by show ¬ (Dy.right a1 && Dy.right a2 && Dy.right a3) = true; rw [h1, h2, h3]; decide)]) rfl
end Go.Proofs.Ytiphdhpacklboaa
