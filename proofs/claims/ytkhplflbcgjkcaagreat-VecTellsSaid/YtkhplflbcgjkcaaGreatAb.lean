/- Walks: burnishref01.Add. Walks: burnishref01.near, Next; math.frexp. -/
import Derived.Test.YtkhplflbcgjkcaaGreatTm
/-! Walks: burnishref01.Add. -/
namespace Go.Proofs.YtkhplflbcgjkcaaGreat
open Go Go.RowKit
set_option linter.unusedSimpArgs false
set_option linter.unusedVariables false
open Dy
theorem rrT_right {b : Nat} (hb : Dy.W b) : rrT b = right b := by
 have e1 : infT b 0 = inf b := by show fgt (abs b) 9218868437227405311 = inf b; exact fgt_abs_max hb.lt
 have e2 : fne b 0 = !feq b 0 := rfl
 unfold rrT
 rw [e1, e2, feq_zero hb.lt, right_parts hb.lt]
 cases nan b <;> cases inf b <;> cases sgn b <;> simp
theorem infT_nrst {z : Int} : infT (nrst z) 0 = !decide (-(top : Int) < z ∧ z < top) := by
 have tp := top_eq
 have e1 : infT (nrst z) 0 = inf (nrst z) := by
  show fgt (abs (nrst z)) 9218868437227405311 = inf (nrst z)
  exact fgt_abs_max (cb_nrst z).W.lt
 rw [e1]
 unfold nrst
 by_cases h1 : (top : Int) ≤ z
 ·rw [if_pos h1, decide_eq_false (by omega)]; decide
 ·by_cases h2 : z ≤ -(top : Int)
  ·rw [if_neg h1, if_pos h2, decide_eq_false (by omega)]; decide
  ·rw [if_neg h1, if_neg h2, decide_eq_true (by omega), inf_fin (right_fin (right_enc (by unfold ok; omega)))]; rfl
theorem ldxK : Dy.ldx 4607182418800017408 1000 = enc K1000 := by decide +kernel
theorem K_abs {z : Int} : K1000 ≤ (z.natAbs : Int) ↔ V K1000 ≤ ((V z).natAbs : Int) := by
 rw [V_natAbs, ← V_nat]; exact V_le_iff.symm
theorem radd_mid {x y : Int} (up : Bool) (w : World) (ox : ok x) (oy : ok y) :
  Calls Tryz.prog 119 #[.float .f64 (enc x), .float .f64 (enc y), .bool up] w fun e w' => e = .returned (.tuple #[.float .f64 (dAdd (enc x) (enc y) up).1, .int .i64 (dAdd (enc x) (enc y) up).2]) ∧ Below w.heap.size w w' := by
 have tp := top_eq
 have ha := W_enc ox
 have hb := W_enc oy
 have ra := right_enc ox
 have rb := right_enc oy
 have ra' := (rrT_right ha).trans ra
 have rb' := (rrT_right hb).trans rb
 have hs := add_near ha hb ra rb
 rw [dec_enc ox, dec_enc oy] at hs
 have hS : V (nz (V x + V y)) = rn (V x + V y) := rfl
 obtain ⟨z, hz⟩ : ∃ z, nz (V x + V y) = z := ⟨_, rfl⟩
 rw [hz] at hs hS
 have hcb := cb_nrst z
 have hW := hcb.W
 have hns : nSideT [.f (nrst z)] = true := by
  show (!nan (nrst z)) = true
  rw [nrst_near]; rfl
 have hi := infT_nrst (z := z)
 by_cases o : -(top : Int) < z ∧ z < top
 ·rw [decide_eq_true o] at hi
  have oz : ok z := o
  have en := nrst_ok oz
  have hab : abs (enc z) = z.natAbs := by
   unfold abs enc; unfold ok at oz; split <;> omega
  have oab : ok (z.natAbs : Int) := by unfold ok at *; omega
  have eab : enc (z.natAbs : Int) = z.natAbs := by unfold enc; rw [if_pos (by omega)]; omega
  have oK : ok K1000 := by unfold ok K1000; omega
  have hge : (fgt (abs (enc z)) (enc K1000) || feq (abs (enc z)) (enc K1000)) = decide (K1000 ≤ (z.natAbs : Int)) := by
   have h := fge_dec (W_enc oab) (W_enc oK) (right_enc oab) (right_enc oK)
   rw [dec_enc oab, dec_enc oK, eab] at h
   rw [hab]; exact h
  rw [en] at hs hW hns hi hcb
  have g0 : ((Ieee.double.add (enc x) (enc y)).getD 0) = enc z := by rw [hs]; rfl
  have fn0 := fn_some hs hW
  by_cases hk : K1000 ≤ (z.natAbs : Int)
  ·rw [decide_eq_true hk] at hge
   have hf : nFarT [.f (enc x), .f (enc y), .f (enc z)] = true := by
    show (right (enc x) && (right (enc y) && (decide (enc z = nrst (nz (V (dec (enc x)) + V (dec (enc y))))) && (right (enc z) && decide (V K1000 ≤ ((V (dec (enc z))).natAbs : Int)))))) = true
    rw [ra, rb, right_enc oz, dec_enc oz, dec_enc ox, dec_enc oy, hz, en, decide_eq_true rfl, decide_eq_true (K_abs.1 hk)]; rfl
   exact radd_3 _ _ up w ha hb ra' rb' g0 fn0 hi rfl ldxK (by decide) hge rfl hf (dAdd_W _ _ _)
  ·rw [decide_eq_false hk] at hge
   have hlt : ¬ V K1000 ≤ ((V z).natAbs : Int) := fun h => hk (K_abs.2 h)
   have hA := V_lt (show x < top from ox.2)
   have hA' := V_lt (show -(top : Int) < x from ox.1)
   have hB := V_lt (show y < top from oy.2)
   have hB' := V_lt (show -(top : Int) < y from oy.1)
   rw [V_neg, V_top] at hA' hB'
   rw [V_top] at hA hB
   obtain ⟨oc, o2, o3, o4, o5⟩ := sum_ranges (Fl.ofV x) (Fl.ofV y) ⟨hA', hA⟩ ⟨hB', hB⟩ hS (by omega) (by omega)
   obtain ⟨k1, k2, k3, k4⟩ := two_sum (Fl.ofV x) (Fl.ofV y) hS rfl
   have s1 := sub_mid oz ox oc
   obtain ⟨c, hc⟩ : ∃ c, nz (V z - V x) = c := ⟨_, rfl⟩
   have hcV : V c = rn (V z - V x) := by rw [← hc]; rfl
   rw [hc] at s1 oc
   rw [← hcV] at k1 k2 k3 k4 o2 o3 o4
   have s2 := sub_mid oz oc o2
   obtain ⟨p, hp⟩ : ∃ p, nz (V z - V c) = p := ⟨_, rfl⟩
   have hpV : V p = V z - V c := by rw [← hp]; exact k1
   rw [hp] at s2 o2
   rw [← hpV] at k2 k4 o3
   have s3 := sub_mid ox o2 o3
   obtain ⟨m, hm⟩ : ∃ m, nz (V x - V p) = m := ⟨_, rfl⟩
   have hmV : V m = V x - V p := by rw [← hm]; exact k2
   rw [hm] at s3 o3
   have s4 := sub_mid oy oc o4
   obtain ⟨n, hn⟩ : ∃ n, nz (V y - V c) = n := ⟨_, rfl⟩
   have hnV : V n = V y - V c := by rw [← hn]; exact k3
   rw [hn] at s4 o4
   rw [← hmV, ← hnV] at k4
   have e5 : V m + V n = V x + V y - V z := by omega
   have o6 : ok (nz (V m + V n)) := by rw [e5]; exact o5
   have s5 := add_mid o3 o4 o6
   obtain ⟨d, hd⟩ : ∃ d, nz (V m + V n) = d := ⟨_, rfl⟩
   have hdV : V d = V x + V y - V z := by rw [← hd]; exact k4
   rw [hd] at s5 o6
   obtain ⟨g1, g2⟩ := sign_enc o6
   have R : sideF (enc z) (enc d) up = dAdd (enc x) (enc y) up := by
    rw [dAdd_enc ox oy]
    refine sum_side (by rw [hz]; exact hcb) (fun _ => ?_) (fun _ => ?_)
    ·rw [hz, g1, hdV]; congr 1; rw [eq_iff_iff]; omega
    ·rw [hz, g2, hdV]; congr 1; rw [eq_iff_iff]; omega
   exact radd_4 _ _ up w ha hb ra' rb' g0 fn0 hi rfl ldxK (by decide) hge (by rw [s1]; rfl) (fn_some s1 (W_enc oc)) (by rw [s2]; rfl) (fn_some s2 (W_enc o2)) (by rw [s3]; rfl) (fn_some s3 (W_enc o3)) (by rw [s4]; rfl) (fn_some s4 (W_enc o4)) (by rw [s5]; rfl) (fn_some s5 (W_enc o6)) R hns (dAdd_W _ _ _)
 ·rw [decide_eq_false o] at hi
  have R : sideF (nrst z) 0 up = dAdd (enc x) (enc y) up := by
   rw [dAdd_enc ox oy]
   rw [← hz] at hcb o ⊢
   exact sum_side hcb (fun h => absurd h o) (fun h => absurd h o)
  exact radd_0 _ _ up w ha hb ra' rb' (by rw [hs]; rfl) (fn_some hs hW) hi R hns (dAdd_W _ _ _)
theorem radd_any (a b : Nat) (up : Bool) (w : World) (ha : Dy.W a) (hb : Dy.W b) :
  Calls Tryz.prog 119 #[.float .f64 a, .float .f64 b, .bool up] w fun e w' => e = .returned (.tuple #[.float .f64 (dAdd a b up).1, .int .i64 (dAdd a b up).2]) ∧ Below w.heap.size w w' := by
 have ra' := rrT_right ha
 have rb' := rrT_right hb
 cases ra : right a with
 | false =>
  have e : dAdd a b up = (0, 13) := by unfold dAdd; rw [ra]; rfl
  rw [e]
  exact radd_1 a b up w ha hb (by rw [ra', ra])
 | true =>
  cases rb : right b with
  | false =>
   have e : dAdd a b up = (0, 13) := by unfold dAdd; rw [ra, rb]; rfl
   rw [e]
   exact radd_2 a b up w ha hb (by rw [ra', ra]) (by rw [rb', rb])
  | true =>
   obtain ⟨ea, oa⟩ := enc_dec ha.lt ra
   obtain ⟨eb, ob⟩ := enc_dec hb.lt rb
   have h := radd_mid up w oa ob
   rw [ea, eb] at h
   exact h
end Go.Proofs.YtkhplflbcgjkcaaGreat
/-! Walks: burnishref01.near, Next; math.frexp. -/
namespace Go.Proofs.YtkhplflbcgjkcaaGreat
open Go Go.RowKit
set_option linter.unusedSimpArgs false
set_option linter.unusedVariables false
open Dy
def nearT (a : Nat) (e : Int) : Nat × Nat := (ldx a e, if infT (ldx a e) 0 = true then 0 else ldx (ldx a e) (-e))
theorem near_any (a : Nat) (e : Int) (w : World) (ha : Dy.W a) (h1 : -1000000 ≤ e) (h2 : e ≤ 1000000) :
  Calls Tryz.prog 164 #[.float .f64 a, .int .i64 e] w fun x w' => x = .returned (.tuple #[.float .f64 (nearT a e).1, .float .f64 (nearT a e).2]) ∧ Below w.heap.size w w' := by
 have hL : nLdx [.i e] = true := decide_eq_true ⟨h1, h2⟩
 have hw := W_ldx ha e
 cases hi : infT (ldx a e) 0 with
 | true =>
  have e1 : nearT a e = (ldx a e, 0) := by unfold nearT; rw [hi]; rfl
  rw [e1]
  exact near_0 a e w ha rfl hL hi hw
 | false =>
  have e1 : nearT a e = (ldx a e, ldx (ldx a e) (-e)) := by unfold nearT; rw [hi]; rfl
  rw [e1]
  have hn : IntKind.i64.wrap (0 - e) = -e := by rw [IntKind.wrap_i64]; omega
  have hL2 : nLdx [.i (-e)] = true := decide_eq_true (show -1000000 ≤ -e ∧ -e ≤ 1000000 from ⟨by omega, by omega⟩)
  exact near_1 a e w ha rfl hL hi hn rfl hL2 hw (W_ldx hw _)
def frT (b : Nat) : Nat × Int := (built b (-1), norm2 b + ((field (norm1 b) : Nat) : Int) - 1022)
theorem W_built (b : Nat) : Dy.W (built b (-1)) := by
 unfold Dy.W built word
 have : ((-1 : Int) + 1023).toNat = 1022 := by decide
 rw [this]; split <;> omega
theorem hb1 {a : Nat} (ha : Dy.W a) (hf : fin a) (h0 : a ≠ 0) (ra : right a = true) : bits BinOp.or IntKind.u64 (bits BinOp.andNot IntKind.u64 ((norm1 a : Nat) : Int) 9218868437227405312) 4602678819172646912 = ((built a (-1) : Nat) : Int) := by
 have h := built_bits (E := -1) ha hf (by unfold right at ra; rw [decide_eq_true_eq] at ra; unfold Dy.W at ha; omega) (by omega) (by omega)
 have e : ((-1 : Int) + 1023) * 4503599627370496 = 4602678819172646912 := by decide
 rw [e] at h; exact h
theorem frexp_any (a : Nat) (w : World) (ha : Dy.W a) (ra : right a = true) (h0 : a ≠ 0) :
  Calls Tryz.prog 176 #[.float .f64 a] w fun x w' => x = .returned (.tuple #[.float .f64 (frT a).1, .int .i64 (frT a).2]) ∧ Below w.heap.size w w' := by
 have hf := right_fin ra
 have w1 := W_norm1 ha hf
 have hb := hb1 ha hf h0 ra
 have hlt := field_lt (norm1 a)
 have n2 : norm2 a = -52 ∨ norm2 a = 0 := by unfold norm2; split <;> simp
 have e3 : (((norm1 a : Nat) : Int)).fdiv (2 ^ (min ((52 : Int)).toNat IntKind.u64.bits)) = ((norm1 a : Nat) : Int) / 4503599627370496 := by
  rw [Int.fdiv_eq_ediv_of_nonneg _ (by decide)]; rfl
 refine frexp_0 a w ha ?_ (infT_fin ha hf).2.2 (right_nan ra) rfl (decide_eq_true hf) rfl e3 rfl (and_field w1) (t5 := ((field (norm1 a) : Nat) : Int)) ?_ (t6 := ((field (norm1 a) : Nat) : Int) - 1023) ?_ (t7 := ((field (norm1 a) : Nat) : Int) - 1022) ?_ ?_ rfl hb rfl ?_ (W_built a)
 ·rw [feq_right ha ra]; exact decide_eq_false h0
 ·rw [IntKind.wrap_i64]; omega
 ·rw [IntKind.wrap_i64]; omega
 ·rw [IntKind.wrap_i64]; omega
 ·show IntKind.i64.wrap (norm2 a + _) = norm2 a + _ - 1022
  rw [IntKind.wrap_i64]; omega
 ·exact decide_eq_true (W_built a).lt
def nNzT (us : List U) : Bool := right (gF us 0) && !(gF us 0 == 0)
def ctFrexpT : Ct := ctP 1 [vf 0] (fun us i => widthU (frT (gF us 0)) i) 2 (.tup [vf 1, vi .i64 2]) [⟨nNzT, [.v 0]⟩]
theorem frexpT_ct : CtOk Tryz.prog 176 ctFrexpT := by
 refine ctP_ok (en Tryz.func176 rfl (by decide)) rfl rfl (fun us w vs hl hv hn => ?_) rfl
 match us, hl with
 | [u0], _ =>
  obtain ⟨x, y, hx, hy, rfl⟩ := denL_cons.1 hv
  rw [denL_nil.1 hy]
  obtain ⟨a1, e1, w1, rfl⟩ := den_fl hx
  simp [E.ev] at e1; subst e1
  obtain ⟨xs, h1, h2⟩ := hn _ (List.mem_singleton.2 rfl)
  simp [evs, E.ev] at h1; subst h1
  have h3 : (right a1 && !(a1 == 0)) = true := h2
  simp only [Bool.and_eq_true, Bool.not_eq_true', beq_eq_false_iff_ne] at h3
  refine ⟨.tuple #[.float .f64 (frT a1).1, .int .i64 (frT a1).2], ?_, frexp_any a1 w w1 h3.1 h3.2⟩
  unfold den
  rw [denL_cons.2 ⟨_, _, fl_den (n := (frT a1).1) rfl (W_built a1), denL_cons.2 ⟨_, [], it_den (n := (frT a1).2) rfl, rfl, rfl⟩, rfl⟩]
def ctNearT : Ct := ctP 2 [vf 0, vi .i64 1] (fun us i => ivU (nearT (gF us 0) (gI us 1)) i) 2 (.tup [vf 2, vf 3]) [⟨nLdx, [.v 1]⟩]
theorem W_near {a : Nat} (ha : Dy.W a) (e : Int) : Dy.W (nearT a e).1 ∧ Dy.W (nearT a e).2 := by
 refine ⟨W_ldx ha e, ?_⟩
 unfold nearT
 dsimp only
 split
 ·exact W_zero
 ·exact W_ldx (W_ldx ha e) _
theorem nearT_ct : CtOk Tryz.prog 164 ctNearT := by
 refine ctP_ok (en Tryz.func164 rfl (by decide)) rfl rfl (fun us w vs hl hv hn => ?_) rfl
 match us, hl with
 | [u0, u1], _ =>
  obtain ⟨x, y, hx, hy, rfl⟩ := denL_cons.1 hv
  obtain ⟨x', y', hx', hy', rfl⟩ := denL_cons.1 hy
  rw [denL_nil.1 hy']
  obtain ⟨a1, e1, w1, rfl⟩ := den_fl hx
  obtain ⟨a2, e2, rfl⟩ := den_it hx'
  simp [E.ev] at e1 e2; subst e1 e2
  obtain ⟨xs, h1, h2⟩ := hn _ (List.mem_singleton.2 rfl)
  simp [evs, E.ev] at h1; subst h1
  have h3 : -1000000 ≤ a2 ∧ a2 ≤ 1000000 := of_decide_eq_true h2
  refine ⟨.tuple #[.float .f64 (nearT a1 a2).1, .float .f64 (nearT a1 a2).2], ?_, near_any a1 a2 w w1 h3.1 h3.2⟩
  obtain ⟨k1, k2⟩ := W_near w1 a2
  unfold den
  rw [denL_cons.2 ⟨_, _, fl_den (n := (nearT a1 a2).1) rfl k1, denL_cons.2 ⟨_, [], fl_den (n := (nearT a1 a2).2) rfl k2, rfl, rfl⟩, rfl⟩]
theorem raddT_ct : CtOk Tryz.prog 119 (ctO2 Dy.dAdd) := ctO2_ok (en Tryz.func119 rfl (by decide)) Dy.dAdd_W radd_any
def tO0 : List (Nat × Ct) := (176, ctFrexpT) :: (164, ctNearT) :: (119, ctO2 Dy.dAdd) :: tL0
theorem tO0_ok : AllOk Tryz.prog tO0 := ⟨frexpT_ct, nearT_ct, raddT_ct, tL0_ok⟩
end Go.Proofs.YtkhplflbcgjkcaaGreat
