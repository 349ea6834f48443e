/- Walks: burnishref01.side: the number by one that is next to the real result. -/
import Derived.Test.YtkhplflbcgjkcaaGreatTf
namespace Go.Dy
theorem neg_fin {b : Nat} (h : W b) (hf : fin b) : fin (Op.negFloat .f64 b) := by
 rw [neg_bits h]; unfold W at h; unfold fin at *; split <;> omega
theorem inf_fin {b : Nat} (hf : fin b) : inf b = false := by unfold fin at hf; unfold inf; exact decide_eq_false (by omega)
def Cb (c : Nat) (z : Int) : Prop := ((top : Int) ≤ z ∧ c = pinf) ∨ (z ≤ -(top : Int) ∧ c = ninf) ∨ (ok z ∧ fin c ∧ W c ∧ dec c = z)
theorem Cb.W {c : Nat} {z : Int} (h : Cb c z) : Dy.W c := by
 rcases h with ⟨-, rfl⟩ | ⟨-, rfl⟩ | ⟨-, -, h, -⟩
 ·unfold Dy.W; decide
 ·unfold Dy.W; decide
 ·exact h
theorem cb_nrst (z : Int) : Cb (nrst z) z := by
 unfold nrst
 split
 ·left; exact ⟨by assumption, by decide⟩
 ·split
  ·right; left; exact ⟨by assumption, by decide⟩
  ·have o : ok z := by unfold ok; omega
   right; right; exact ⟨o, right_fin (right_enc o), W_enc o, dec_enc o⟩
end Go.Dy
namespace Go.Proofs.YtkhplflbcgjkcaaGreat
open Go Go.RowKit
set_option linter.unusedSimpArgs false
set_option linter.unusedVariables false
open Dy
theorem infT_fin {b : Nat} (hb : Dy.W b) (hf : fin b) : infT b 1 = false ∧ infT b (-1) = false ∧ infT b 0 = false := by
 refine ⟨?_, ?_, ?_⟩
 ·show fgt b 9218868437227405311 = false
  rw [fgt_max hb.lt, inf_fin hf]; rfl
 ·show fgt (Op.negFloat .f64 b) 9218868437227405311 = false
  rw [fgt_max (neg_W hb).lt, inf_fin (neg_fin hb hf)]; rfl
 ·show fgt (abs b) 9218868437227405311 = false
  rw [fgt_abs_max hb.lt, inf_fin hf]
theorem plain_enc {c : Nat} {z : Int} (hc : Dy.W c) (hf : fin c) (hz : dec c = z) : plainT c = enc z := by
 have o : ok z := by have := dec_fin hc hf; unfold ok; omega
 have n0 : nan 0 = false := by decide
 have e : feq c 0 = decide (z = 0) := by
  rw [feq_eq hc.lt (by decide), fin_nan hf, n0, hz]; simp; rw [show dec 0 = 0 from by decide]
 unfold plainT
 rw [e]
 by_cases h : z = 0
 ·rw [if_pos (decide_eq_true h), h]; rfl
 ·rw [if_neg (by simpa using h), ← hz]
  unfold enc
  have tp := top_eq
  unfold ok at o
  rcases dec_cases hc with ⟨h1, e1⟩ | ⟨h1, e1⟩
  ·rw [e1, if_pos (by omega)]; omega
  ·rw [hz] at e1
   rw [hz, e1, if_neg (by omega)]
   unfold Dy.W at hc; omega
theorem up1_dec {c : Nat} (hc : Dy.W c) (hf : fin c) : dec (up1 c) = dec c + 1 := by
 have tp := top_eq
 unfold fin at hf
 have hc' := hc
 unfold Dy.W at hc'
 unfold up1
 rcases dec_cases hc with ⟨h, e⟩ | ⟨h, e⟩
 ·split
  ·rw [e]; have : c = 0 := by omega
   subst this; decide
  ·(try rw [if_pos h]); rw [e]; unfold dec; rw [if_pos (by omega)]; omega
 ·split
  ·rw [e]; rename_i h0; rw [h0]; decide
  ·rw [if_neg (by omega), e]; unfold dec
   by_cases h1 : c - 1 < 2 ^ 63
   ·rw [if_pos h1]; omega
   ·rw [if_neg h1]; omega
theorem dn1_dec {c : Nat} (hc : Dy.W c) (hf : fin c) : dec (dn1 c) = dec c - 1 := by
 have tp := top_eq
 unfold fin at hf
 have hc' := hc
 unfold Dy.W at hc'
 unfold dn1
 rcases dec_cases hc with ⟨h, e⟩ | ⟨h, e⟩
 ·split
  ·rw [e]; have : c = 0 := by omega
   subst this; decide
  ·(try rw [if_pos h]); rw [e]; unfold dec; rw [if_pos (by omega)]; omega
 ·split
  ·rw [e]; rename_i h0; rw [h0]; decide
  ·rw [if_neg (by omega), e]; unfold dec; rw [if_neg (by omega)]; omega
theorem bits_of_dec {c : Nat} (hc : Dy.W c) : (dec c = (top : Int) → c = pinf) ∧ (dec c = -(top : Int) → c = ninf) ∧ (-(top : Int) < dec c → dec c < top → fin c) := by
 have tp := top_eq
 have hc' := hc
 unfold Dy.W at hc'
 unfold fin
 rcases dec_cases hc with ⟨h, e⟩ | ⟨h, e⟩
 ·rw [e]; refine ⟨fun h1 => ?_, fun h1 => ?_, fun h1 h2 => ?_⟩
  ·unfold pinf; omega
  ·omega
  ·omega
 ·rw [e]; refine ⟨fun h1 => ?_, fun h1 => ?_, fun h1 h2 => ?_⟩
  ·omega
  ·unfold ninf; omega
  ·omega
theorem side_up (c d : Nat) (z hi : Int) (w : World) (hd : Dy.W d) (hz : Cb c z) (h1 : z ≤ hi) (h2 : hi ≤ z + 1) (h3 : ok z → hi = if fgt d 0 = true then z + 1 else z) :
  Calls Tryz.prog 155 #[.float .f64 c, .float .f64 d, .bool true] w fun e w' => e = .returned (.tuple #[.float .f64 (out hi true).1, .int .i64 (out hi true).2]) ∧ Below w.heap.size w w' := by
 have hc := hz.W
 have tp := top_eq
 rcases hz with ⟨k, rfl⟩ | ⟨k, rfl⟩ | ⟨oz, hf, -, dz⟩
 ·have e : out hi true = (0, 10) := by unfold out; rw [if_pos (by omega)]; rfl
  rw [e]
  exact sidet_0 _ d w hc hd (by decide +kernel)
 ·have e : out hi true = (18442240474082181119, 0) := by
   unfold out; rw [if_neg (by omega)]
   by_cases h : hi ≤ -(top : Int)
   ·rw [if_pos h, if_pos rfl]; decide
   ·rw [if_neg h]
    have : hi = 1 - (top : Int) := by omega
    rw [this]; decide
  rw [e]
  exact sidet_1 _ d w hc hd (by decide +kernel) (by decide +kernel)
 ·obtain ⟨i1, i2, i3⟩ := infT_fin hc hf
  have h4 := h3 oz
  cases hd0 : fgt d 0 with
  | false =>
   rw [hd0, if_neg (by decide)] at h4
   subst h4
   rw [out_mid oz, ← plain_enc hc hf dz]
   exact sidet_4 c d w hc hd i1 i2 hd0 i3 rfl (by rw [plain_enc hc hf dz]; exact W_enc oz)
  | true =>
   rw [hd0, if_pos rfl] at h4
   have e0 : infV 1 = pinf := by decide
   have e1 : nxG c pinf = up1 c := by unfold nxG; rw [if_pos rfl]
   have hN : nNx [.f c, .f pinf] = true := decide_eq_true ⟨hf, .inl rfl⟩
   have hw1 := W_up1 hc hf
   have d1 := up1_dec hc hf
   rw [dz] at d1
   obtain ⟨b1, b2, b3⟩ := bits_of_dec hw1
   unfold ok at oz
   by_cases ht : z + 1 = (top : Int)
   ·have e2 := b1 (by omega)
    have e : out hi true = (0, 10) := by unfold out; rw [if_pos (by omega)]; rfl
    rw [e]
    exact sidet_2 c d w hc hd i1 i2 hd0 e0 e1 hN (by rw [e2]; decide +kernel)
   ·have f1 := b3 (by omega) (by omega)
    obtain ⟨j1, j2, j3⟩ := infT_fin hw1 f1
    have o1 : ok (z + 1) := by unfold ok; omega
    rw [h4, out_mid o1, ← plain_enc hw1 f1 d1]
    exact sidet_5 c d w hc hd i1 i2 hd0 e0 e1 hN j3 rfl (by rw [plain_enc hw1 f1 d1]; exact W_enc o1)
theorem side_dn (c d : Nat) (z lo : Int) (w : World) (hd : Dy.W d) (hz : Cb c z) (h1 : lo ≤ z) (h2 : z - 1 ≤ lo) (h3 : ok z → lo = if flt d 0 = true then z - 1 else z) :
  Calls Tryz.prog 155 #[.float .f64 c, .float .f64 d, .bool false] w fun e w' => e = .returned (.tuple #[.float .f64 (out lo false).1, .int .i64 (out lo false).2]) ∧ Below w.heap.size w w' := by
 have hc := hz.W
 have tp := top_eq
 rcases hz with ⟨k, rfl⟩ | ⟨k, rfl⟩ | ⟨oz, hf, -, dz⟩
 ·have e : out lo false = (9218868437227405311, 0) := by
   unfold out
   by_cases h : (top : Int) ≤ lo
   ·rw [if_pos h, if_neg (by decide)]; decide
   ·rw [if_neg h, if_neg (by omega)]
    have : lo = (top : Int) - 1 := by omega
    rw [this]; decide
  rw [e]
  exact sidef_0 _ d w hc hd (by decide +kernel)
 ·have e : out lo false = (0, 10) := by
   unfold out; rw [if_neg (by omega), if_pos (by omega)]; rfl
  rw [e]
  exact sidef_1 _ d w hc hd (by decide +kernel) (by decide +kernel)
 ·obtain ⟨i1, i2, i3⟩ := infT_fin hc hf
  have h4 := h3 oz
  cases hd0 : flt d 0 with
  | false =>
   rw [hd0, if_neg (by decide)] at h4
   subst h4
   rw [out_mid oz, ← plain_enc hc hf dz]
   exact sidef_4 c d w hc hd i1 i2 hd0 i3 rfl (by rw [plain_enc hc hf dz]; exact W_enc oz)
  | true =>
   rw [hd0, if_pos rfl] at h4
   have e0 : infV (-1) = ninf := by decide
   have e1 : nxG c ninf = dn1 c := by unfold nxG; rw [if_neg (by decide)]
   have hN : nNx [.f c, .f ninf] = true := decide_eq_true ⟨hf, .inr rfl⟩
   have hw1 := W_dn1 hc hf
   have d1 := dn1_dec hc hf
   rw [dz] at d1
   obtain ⟨b1, b2, b3⟩ := bits_of_dec hw1
   unfold ok at oz
   by_cases ht : z - 1 = -(top : Int)
   ·have e2 := b2 (by omega)
    have e : out lo false = (0, 10) := by unfold out; rw [if_neg (by omega), if_pos (by omega)]; rfl
    rw [e]
    exact sidef_2 c d w hc hd i1 i2 hd0 e0 e1 hN (by rw [e2]; decide +kernel)
   ·have f1 := b3 (by omega) (by omega)
    obtain ⟨j1, j2, j3⟩ := infT_fin hw1 f1
    have o1 : ok (z - 1) := by unfold ok; omega
    rw [h4, out_mid o1, ← plain_enc hw1 f1 d1]
    exact sidef_5 c d w hc hd i1 i2 hd0 e0 e1 hN j3 rfl (by rw [plain_enc hw1 f1 d1]; exact W_enc o1)
def sideF (c d : Nat) (up : Bool) : Nat × Int := if up = true then out (dec c + (if fgt d 0 = true then 1 else 0)) true else out (dec c - (if flt d 0 = true then 1 else 0)) false
theorem cb_dec {c : Nat} (hc : Dy.W c) (hn : nan c = false) : Cb c (dec c) := by
 have tp := top_eq
 unfold nan at hn
 rw [decide_eq_false_iff_not] at hn
 have hc' := hc
 unfold Dy.W at hc'
 by_cases h : c % 2 ^ 63 = top
 ·rcases dec_cases hc with ⟨h1, e⟩ | ⟨h1, e⟩
  ·left; rw [e]; exact ⟨by omega, by unfold pinf; omega⟩
  ·right; left; rw [e]; exact ⟨by omega, by unfold ninf; omega⟩
 ·right; right
  have hf : fin c := by unfold fin; omega
  have := dec_fin hc hf
  exact ⟨by unfold ok; omega, hf, hc, rfl⟩
theorem side_any (c d : Nat) (up : Bool) (w : World) (hc : Dy.W c) (hd : Dy.W d) (hn : nan c = false) :
  Calls Tryz.prog 155 #[.float .f64 c, .float .f64 d, .bool up] w fun e w' => e = .returned (.tuple #[.float .f64 (sideF c d up).1, .int .i64 (sideF c d up).2]) ∧ Below w.heap.size w w' := by
 have h := cb_dec hc hn
 cases up
 ·refine side_dn c d (dec c) (dec c - (if flt d 0 = true then 1 else 0)) w hd h (by split <;> omega) (by split <;> omega) (fun _ => by split <;> omega)
 ·refine side_up c d (dec c) (dec c + (if fgt d 0 = true then 1 else 0)) w hd h (by split <;> omega) (by split <;> omega) (fun _ => by split <;> omega)
theorem sideF_up {c d : Nat} {z hi : Int} (hz : Cb c z) (h1 : z ≤ hi) (h2 : hi ≤ z + 1) (h3 : ok z → hi = if fgt d 0 = true then z + 1 else z) : sideF c d true = out hi true := by
 have tp := top_eq
 unfold sideF
 rw [if_pos rfl]
 rcases hz with ⟨k, rfl⟩ | ⟨k, rfl⟩ | ⟨oz, hf, -, dz⟩
 ·rw [dec_pinf]
  have e : ∀ y : Int, (top : Int) ≤ y → out y true = (0, 10) := fun y hy => by unfold out; rw [if_pos hy]; rfl
  rw [e _ (by split <;> omega), e _ (by omega)]
 ·rw [dec_ninf]
  have e : ∀ y : Int, y ≤ 1 - (top : Int) → out y true = (enc (1 - (top : Int)), 0) := fun y hy => by
   unfold out; rw [if_neg (by omega)]
   by_cases h : y ≤ -(top : Int)
   ·rw [if_pos h, if_pos rfl]
   ·rw [if_neg h]
    have : y = 1 - (top : Int) := by omega
    rw [this]
  rw [e _ (by split <;> omega), e _ (by omega)]
 ·rw [h3 oz, dz]; congr 1; split <;> omega
theorem sideF_dn {c d : Nat} {z lo : Int} (hz : Cb c z) (h1 : lo ≤ z) (h2 : z - 1 ≤ lo) (h3 : ok z → lo = if flt d 0 = true then z - 1 else z) : sideF c d false = out lo false := by
 have tp := top_eq
 unfold sideF
 rw [if_neg (by decide)]
 rcases hz with ⟨k, rfl⟩ | ⟨k, rfl⟩ | ⟨oz, hf, -, dz⟩
 ·rw [dec_pinf]
  have e : ∀ y : Int, (top : Int) - 1 ≤ y → out y false = (enc ((top : Int) - 1), 0) := fun y hy => by
   unfold out
   by_cases h : (top : Int) ≤ y
   ·rw [if_pos h, if_neg (by decide)]
   ·rw [if_neg h, if_neg (by omega)]
    have : y = (top : Int) - 1 := by omega
    rw [this]
  rw [e ((top : Int) - (if flt d 0 = true then 1 else 0)) (by split <;> omega), e lo (by omega)]
 ·rw [dec_ninf]
  have e : ∀ y : Int, y ≤ -(top : Int) → out y false = (0, 10) := fun y hy => by unfold out; rw [if_neg (by omega), if_pos hy]; rfl
  rw [e (-(top : Int) - (if flt d 0 = true then 1 else 0)) (by split <;> omega), e lo (by omega)]
 ·rw [h3 oz, dz]; congr 1; split <;> omega
theorem out_W (z : Int) (up : Bool) : Dy.W (out z up).1 := by
 have tp := top_eq
 unfold out
 split
 ·split
  ·exact W_zero
  ·exact W_enc (z := (top : Int) - 1) (by unfold ok; omega)
 ·split
  ·split
   ·exact W_enc (z := 1 - (top : Int)) (by unfold ok; omega)
   ·exact W_zero
  ·exact W_enc (by unfold ok; omega)
theorem sideF_W (c d : Nat) (up : Bool) : Dy.W (sideF c d up).1 := by
 unfold sideF; split
 ·exact out_W _ _
 ·exact out_W _ _
def nSideT (us : List U) : Bool := !nan (gF us 0)
def ctSideT : Ct := ctP 3 [vf 0, vf 1, vb 2] (fOp2 sideF) 2 (.tup [vf 3, vi .i64 4]) [⟨nSideT, [.v 0]⟩]
theorem sideT_ct : CtOk Tryz.prog 155 ctSideT := by
 refine ctP_ok (en Tryz.func155 rfl (by decide)) rfl rfl (fun us w vs hl hv hn => ?_) rfl
 match us, hl with
 | [u0, u1, u2], _ =>
  obtain ⟨x, y, hx, hy, rfl⟩ := denL_cons.1 hv
  obtain ⟨x', y', hx', hy', rfl⟩ := denL_cons.1 hy
  obtain ⟨x2, y2, hx2, hy2, rfl⟩ := denL_cons.1 hy'
  rw [denL_nil.1 hy2]
  obtain ⟨a1, e1, w1, rfl⟩ := den_fl hx
  obtain ⟨a2, e2, w2, rfl⟩ := den_fl hx'
  obtain ⟨a3, e3, rfl⟩ := den_bo hx2
  simp [E.ev] at e1 e2 e3; subst e1 e2 e3
  obtain ⟨xs, h1, h2⟩ := hn _ (List.mem_singleton.2 rfl)
  simp [evs, E.ev] at h1; subst h1
  have h3 : nan a1 = false := by
   have : (!nan a1) = true := h2
   simpa using this
  refine ⟨.tuple #[.float .f64 (sideF a1 a2 a3).1, .int .i64 (sideF a1 a2 a3).2], ?_, side_any a1 a2 a3 w w1 w2 h3⟩
  have k0 := sideF_W a1 a2 a3
  unfold den
  rw [denL_cons.2 ⟨_, _, fl_den (n := (sideF a1 a2 a3).1) rfl k0, denL_cons.2 ⟨_, [], it_den (n := (sideF a1 a2 a3).2) rfl, rfl, rfl⟩, rfl⟩]
def tG0 : List (Nat × Ct) := (155, ctSideT) :: tE0
theorem tG0_ok : AllOk Tryz.prog tG0 := ⟨sideT_ct, tE0_ok⟩
end Go.Proofs.YtkhplflbcgjkcaaGreat
