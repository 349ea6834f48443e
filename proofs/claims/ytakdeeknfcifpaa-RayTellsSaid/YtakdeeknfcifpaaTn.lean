/- Walks: burnishref01.Add. -/
import Derived.Test.YtakdeeknfcifpaaTm
namespace Go.Proofs.Ytakdeeknfcifpaa
open Go Go.RowKit
set_option linter.unusedSimpArgs false
set_option linter.unusedVariables false
open Dy
theorem rrT_right {b : Nat} (hb : Dy.W b) : rrT b = right b := by
  have e1 : infT b 0 = inf b := by show fgt (abs b) 9218868437227405311 = inf b; exact fgt_abs_max hb.lt
  have e2 : fne b 0 = !feq b 0 := rfl
  unfold rrT
  rw [e1, e2, feq_zero hb.lt, right_parts hb.lt]
  cases nan b <;> cases inf b <;> cases sgn b <;> simp
theorem infT_nrst {z : Int} : infT (nrst z) 0 = !decide (-(top : Int) < z ∧ z < top) := by
  have tp := top_eq
  have e1 : infT (nrst z) 0 = inf (nrst z) := by
    show fgt (abs (nrst z)) 9218868437227405311 = inf (nrst z)
    exact fgt_abs_max (cb_nrst z).W.lt
  rw [e1]
  unfold nrst
  by_cases h1 : (top : Int) ≤ z
  · rw [if_pos h1, decide_eq_false (by omega)]; decide
  · by_cases h2 : z ≤ -(top : Int)
    · rw [if_neg h1, if_pos h2, decide_eq_false (by omega)]; decide
    · rw [if_neg h1, if_neg h2, decide_eq_true (by omega), inf_fin (right_fin (right_enc (by unfold ok; omega)))]; rfl
theorem ldxK : Dy.ldx 4607182418800017408 1000 = enc K1000 := by decide +kernel
theorem K_abs {z : Int} : K1000 ≤ (z.natAbs : Int) ↔ V K1000 ≤ ((V z).natAbs : Int) := by
  rw [V_natAbs, ← V_nat]; exact V_le_iff.symm
theorem radd_mid {x y : Int} (up : Bool) (w : World) (ox : ok x) (oy : ok y) :
    Calls Try.prog 35 #[.float .f64 (enc x), .float .f64 (enc y), .bool up] w fun e w' => e = .returned (.tuple #[.float .f64 (dAdd (enc x) (enc y) up).1, .int .i64 (dAdd (enc x) (enc y) up).2]) ∧ Below w.heap.size w w' := by
  have tp := top_eq
  have ha := W_enc ox
  have hb := W_enc oy
  have ra := right_enc ox
  have rb := right_enc oy
  have ra' := (rrT_right ha).trans ra
  have rb' := (rrT_right hb).trans rb
  have hs := add_near ha hb ra rb
  rw [dec_enc ox, dec_enc oy] at hs
  have hS : V (nz (V x + V y)) = rn (V x + V y) := rfl
  obtain ⟨z, hz⟩ : ∃ z, nz (V x + V y) = z := ⟨_, rfl⟩
  rw [hz] at hs hS
  have hcb := cb_nrst z
  have hW := hcb.W
  have hns : nSideT [.f (nrst z)] = true := by
    show (!nan (nrst z)) = true
    rw [nrst_near]; rfl
  have hi := infT_nrst (z := z)
  by_cases o : -(top : Int) < z ∧ z < top
  · rw [decide_eq_true o] at hi
    have oz : ok z := o
    have en := nrst_ok oz
    have hab : abs (enc z) = z.natAbs := by
      unfold abs enc; unfold ok at oz; split <;> omega
    have oab : ok (z.natAbs : Int) := by unfold ok at *; omega
    have eab : enc (z.natAbs : Int) = z.natAbs := by unfold enc; rw [if_pos (by omega)]; omega
    have oK : ok K1000 := by unfold ok K1000; omega
    have hge : (fgt (abs (enc z)) (enc K1000) || feq (abs (enc z)) (enc K1000)) = decide (K1000 ≤ (z.natAbs : Int)) := by
      have h := fge_dec (W_enc oab) (W_enc oK) (right_enc oab) (right_enc oK)
      rw [dec_enc oab, dec_enc oK, eab] at h
      rw [hab]; exact h
    rw [en] at hs hW hns hi hcb
    have g0 : ((Ieee.double.add (enc x) (enc y)).getD 0) = enc z := by rw [hs]; rfl
    have fn0 := fn_some hs hW
    by_cases hk : K1000 ≤ (z.natAbs : Int)
    · rw [decide_eq_true hk] at hge
      have hf : nFarT [.f (enc x), .f (enc y), .f (enc z)] = true := by
        show (right (enc x) && (right (enc y) && (decide (enc z = nrst (nz (V (dec (enc x)) + V (dec (enc y))))) && (right (enc z) && decide (V K1000 ≤ ((V (dec (enc z))).natAbs : Int)))))) = true
        rw [ra, rb, right_enc oz, dec_enc oz, dec_enc ox, dec_enc oy, hz, en, decide_eq_true rfl, decide_eq_true (K_abs.1 hk)]; rfl
      exact radd_3 _ _ up w ha hb ra' rb' g0 fn0 hi rfl ldxK (by decide) hge rfl hf (dAdd_W _ _ _)
    · rw [decide_eq_false hk] at hge
      have hlt : ¬ V K1000 ≤ ((V z).natAbs : Int) := fun h => hk (K_abs.2 h)
      have hA := V_lt (show x < top from ox.2)
      have hA' := V_lt (show -(top : Int) < x from ox.1)
      have hB := V_lt (show y < top from oy.2)
      have hB' := V_lt (show -(top : Int) < y from oy.1)
      rw [V_neg, V_top] at hA' hB'
      rw [V_top] at hA hB
      obtain ⟨oc, o2, o3, o4, o5⟩ := sum_ranges (Fl.ofV x) (Fl.ofV y) ⟨hA', hA⟩ ⟨hB', hB⟩ hS (by omega) (by omega)
      obtain ⟨k1, k2, k3, k4⟩ := two_sum (Fl.ofV x) (Fl.ofV y) hS rfl
      have s1 := sub_mid oz ox oc
      obtain ⟨c, hc⟩ : ∃ c, nz (V z - V x) = c := ⟨_, rfl⟩
      have hcV : V c = rn (V z - V x) := by rw [← hc]; rfl
      rw [hc] at s1 oc
      rw [← hcV] at k1 k2 k3 k4 o2 o3 o4
      have s2 := sub_mid oz oc o2
      obtain ⟨p, hp⟩ : ∃ p, nz (V z - V c) = p := ⟨_, rfl⟩
      have hpV : V p = V z - V c := by rw [← hp]; exact k1
      rw [hp] at s2 o2
      rw [← hpV] at k2 k4 o3
      have s3 := sub_mid ox o2 o3
      obtain ⟨m, hm⟩ : ∃ m, nz (V x - V p) = m := ⟨_, rfl⟩
      have hmV : V m = V x - V p := by rw [← hm]; exact k2
      rw [hm] at s3 o3
      have s4 := sub_mid oy oc o4
      obtain ⟨n, hn⟩ : ∃ n, nz (V y - V c) = n := ⟨_, rfl⟩
      have hnV : V n = V y - V c := by rw [← hn]; exact k3
      rw [hn] at s4 o4
      rw [← hmV, ← hnV] at k4
      have e5 : V m + V n = V x + V y - V z := by omega
      have o6 : ok (nz (V m + V n)) := by rw [e5]; exact o5
      have s5 := add_mid o3 o4 o6
      obtain ⟨d, hd⟩ : ∃ d, nz (V m + V n) = d := ⟨_, rfl⟩
      have hdV : V d = V x + V y - V z := by rw [← hd]; exact k4
      rw [hd] at s5 o6
      obtain ⟨g1, g2⟩ := sign_enc o6
      have R : sideF (enc z) (enc d) up = dAdd (enc x) (enc y) up := by
        rw [dAdd_enc ox oy]
        refine sum_side (by rw [hz]; exact hcb) (fun _ => ?_) (fun _ => ?_)
        · rw [hz, g1, hdV]; congr 1; rw [eq_iff_iff]; omega
        · rw [hz, g2, hdV]; congr 1; rw [eq_iff_iff]; omega
      exact radd_4 _ _ up w ha hb ra' rb' g0 fn0 hi rfl ldxK (by decide) hge (by rw [s1]; rfl) (fn_some s1 (W_enc oc)) (by rw [s2]; rfl) (fn_some s2 (W_enc o2)) (by rw [s3]; rfl) (fn_some s3 (W_enc o3)) (by rw [s4]; rfl) (fn_some s4 (W_enc o4)) (by rw [s5]; rfl) (fn_some s5 (W_enc o6)) R hns (dAdd_W _ _ _)
  · rw [decide_eq_false o] at hi
    have R : sideF (nrst z) 0 up = dAdd (enc x) (enc y) up := by
      rw [dAdd_enc ox oy]
      rw [← hz] at hcb o ⊢
      exact sum_side hcb (fun h => absurd h o) (fun h => absurd h o)
    exact radd_0 _ _ up w ha hb ra' rb' (by rw [hs]; rfl) (fn_some hs hW) hi R hns (dAdd_W _ _ _)
theorem radd_any (a b : Nat) (up : Bool) (w : World) (ha : Dy.W a) (hb : Dy.W b) :
    Calls Try.prog 35 #[.float .f64 a, .float .f64 b, .bool up] w fun e w' => e = .returned (.tuple #[.float .f64 (dAdd a b up).1, .int .i64 (dAdd a b up).2]) ∧ Below w.heap.size w w' := by
  have ra' := rrT_right ha
  have rb' := rrT_right hb
  cases ra : right a with
  | false =>
    have e : dAdd a b up = (0, 13) := by unfold dAdd; rw [ra]; rfl
    rw [e]
    exact radd_1 a b up w ha hb (by rw [ra', ra])
  | true =>
    cases rb : right b with
    | false =>
      have e : dAdd a b up = (0, 13) := by unfold dAdd; rw [ra, rb]; rfl
      rw [e]
      exact radd_2 a b up w ha hb (by rw [ra', ra]) (by rw [rb', rb])
    | true =>
      obtain ⟨ea, oa⟩ := enc_dec ha.lt ra
      obtain ⟨eb, ob⟩ := enc_dec hb.lt rb
      have h := radd_mid up w oa ob
      rw [ea, eb] at h
      exact h
end Go.Proofs.Ytakdeeknfcifpaa
