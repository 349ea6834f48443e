/- Plain facts: sums, products, differences of intervals within boxes; order of operands. -/
import Derived.Test.YtikiegcncliocaaRa
import Derived.Test.YtikiegcncliocaaYh
namespace Go.Dy
theorem mulR_comm (x y : Int) (up : Bool) : mulR x y up = mulR y x up := by unfold mulR; rw [Int.mul_comm]
theorem cMul_comm (e : Int) {p q : Int × Int} (hp : Rk p) (hq : Rk q) : cMul e (E p) (E q) = cMul e (E q) (E p) := by
  rw [cMul_E hp hq, cMul_E hq hp]
  have h1 : lo4 mulR p q = lo4 mulR q p := by
    unfold lo4
    rw [mulR_comm q.1 p.1, mulR_comm q.1 p.2, mulR_comm q.2 p.1, mulR_comm q.2 p.2]; omega
  have h2 : hi4 mulR p q = hi4 mulR q p := by
    unfold hi4
    rw [mulR_comm q.1 p.1, mulR_comm q.1 p.2, mulR_comm q.2 p.1, mulR_comm q.2 p.2]; omega
  rw [h1, h2]
theorem got_mulc {p q s : Int × Int} (hp : Rk p) (hq : Rk q) (h : Got (cMul 0 (E p) (E q)) s) : Got (cMul 0 (E q) (E p)) s := by
  rw [cMul_comm 0 hq hp]; exact h
theorem pin_neg (z : Int) : pin (-z) = -pin z := by have := top_eq; unfold pin; omega
theorem got_subc {p q s : Int × Int} (hp : Rk p) (hq : Rk q) (h : Got (cSub 0 (E p) (E q)) s) : Got (cSub 0 (E q) (E p)) (rTurned s) := by
  have h0 := h.e0
  rw [cSub_E hp hq] at h h0
  obtain ⟨_, k1, k2⟩ := res_err h0
  have e : s = (pin (fl (V p.1 - V q.2) 1 false), pin (fl (V p.2 - V q.1) 1 true)) := by
    refine h.uniq (got_of ?_ k1 k2)
    have a := V_le_iff.2 hp.le; have b := V_le_iff.2 hq.le
    exact Int.le_trans (fl_mono (by decide) (by omega)) (fl_le_up (by decide))
  have a := V_le_iff.2 hp.le; have b := V_le_iff.2 hq.le
  have f1 : fl (V q.1 - V p.2) 1 false = -fl (V p.2 - V q.1) 1 true := by rw [show V q.1 - V p.2 = -(V p.2 - V q.1) by omega, fl_neg]; rfl
  have f2 : fl (V q.2 - V p.1) 1 true = -fl (V p.1 - V q.2) 1 false := by rw [show V q.2 - V p.1 = -(V p.1 - V q.2) by omega, fl_neg]; rfl
  have g := got_of (z := fl (V q.1 - V p.2) 1 false) (y := fl (V q.2 - V p.1) 1 true) (by rw [f1, f2]; have := Int.le_trans (fl_mono (up := false) (den := 1) (by decide) (show V p.1 - V q.2 ≤ V p.2 - V q.1 by omega)) (fl_le_up (by decide)); omega) (by rw [f1]; omega) (by rw [f2]; omega)
  rw [cSub_E hq hp, show rTurned s = (pin (fl (V q.1 - V p.2) 1 false), pin (fl (V q.2 - V p.1) 1 true)) by rw [e, f1, f2, pin_neg, pin_neg]; rfl]
  exact g
theorem turned2 (s : Int × Int) : rTurned (rTurned s) = s := by
  show (-(-s.1), -(-s.2)) = s
  rw [Int.neg_neg, Int.neg_neg]
theorem got_turn {s : Int × Int} (h : Rk s) : Got (cNeg 0 (E (rTurned s))) s := by
  have g := got_neg h.turned
  rw [turned2] at g; exact g
theorem dec_absS {c : Nat} (hc : W c) (h : right c = true) : dec (abs c) = ((dec c).natAbs : Int) := by
  have := hc.lt
  unfold right at h; rw [decide_eq_true_eq, top_eq] at h
  unfold dec abs; rw [if_pos (by omega)]; split <;> omega
theorem right_absS {c : Nat} (h : right c = true) : right (abs c) = true := by
  unfold right at h ⊢; rw [decide_eq_true_eq] at h ⊢; rw [top_eq] at *; unfold abs; omega
/-- A number right, and not far off. -/
theorem small_rk {x : Nat} (hx : W x) (h : (right x && !fgt (abs x) 4895412794951729152) = true) : ∃ z : Int, x = enc z ∧ ok z ∧ -4895412794951729152 ≤ z ∧ z ≤ 4895412794951729152 := by
  rw [Bool.and_eq_true] at h
  obtain ⟨r, g⟩ := h
  obtain ⟨e, k⟩ := enc_dec hx.lt r
  refine ⟨dec x, e.symm, k, ?_⟩
  have rm : right 4895412794951729152 = true := by decide +kernel
  have wm : W 4895412794951729152 := by unfold W; decide
  rw [fgt_dec (W_abs x) wm (right_absS r) rm, dec_absS hx r, show dec 4895412794951729152 = 4895412794951729152 by decide +kernel] at g
  have g : ¬ ((4895412794951729152 : Int) < ((dec x).natAbs : Int)) := by simpa using g
  omega
theorem rk_pt {z : Int} (h : ok z) : Rk (z, z) := ⟨h, h, Int.le_refl _⟩
theorem has_pt (z : Int) : Has (z, z) (val z) := ⟨Rat.le_refl, Rat.le_refl⟩
theorem wi_pt {z m : Int} (h1 : -m ≤ z) (h2 : z ≤ m) : Wi (z, z) (-m, m) := ⟨h1, h2⟩
theorem has_0 {s : Int × Int} {x : Rat} (hs : Rk s) (h : Has s x) (e : x = 0) : ivHas (enc s.1, enc s.2) 0 = true := by
  rw [show ivHas (enc s.1, enc s.2) 0 = ivHas (E s) 0 from rfl, has_zero hs]
  have a := h.lo; have b := h.hi
  rw [e, ← val_zero] at a b
  exact decide_eq_true ⟨val_le.1 a, val_le.1 b⟩
end Go.Dy
namespace Go.Proofs.Ytikiegcncliocaa
open Go Go.RowKit

theorem meet_has {p q : Int × Int} {x y : Rat} (hp : Dy.Rk p) (hq : Dy.Rk q) (h : Dy.Has p x) (k : Dy.Has q y) (e : x = y) : ∃ a b : Nat, iMeet (Dy.enc p.1, Dy.enc p.2) (Dy.enc q.1, Dy.enc q.2) = ((a, b), true) := by
  have v1 : p.1 ≤ q.2 := Dy.val_le.1 (by have := h.lo; have := k.hi; grind)
  have v2 : q.1 ≤ p.2 := Dy.val_le.1 (by have := h.hi; have := k.lo; grind)
  have l1 := hp.le; have l2 := hq.le
  unfold iMeet
  rw [show Dy.dmax (Dy.enc p.1, Dy.enc p.2).1 (Dy.enc q.1, Dy.enc q.2).1 = Dy.enc (max p.1 q.1) from Dy.dmax_enc hp.lo hq.lo, show Dy.dmin (Dy.enc p.1, Dy.enc p.2).2 (Dy.enc q.1, Dy.enc q.2).2 = Dy.enc (min p.2 q.2) from Dy.dmin_enc hp.hi hq.hi,
    Dy.fgt_enc (Dy.ok_max2 hp.lo hq.lo) (Dy.ok_min2 hp.hi hq.hi), decide_eq_false (by omega)]
  exact ⟨_, _, rfl⟩
end Go.Proofs.Ytikiegcncliocaa
