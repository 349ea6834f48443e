/- The law LambertParts: walk and plain law joined. -/
import Derived.Test.YthfgdhobldejmaaLr
import Derived.Test.YthfgdhobldejmaaLt
namespace Go.Proofs.Ythfgdhobldejmaa
open Go Go.RowKit

theorem near_fi7 (m : Nat) : FloatKind.f64.nearest (m : Int) = Dy.fi m := by
  unfold FloatKind.nearest Dy.fi
  rw [show decide ((m : Int) < 0) = false by simp, Int.natAbs_natCast]
  rfl
theorem cross_le {x u y v a b : Int} (x0 : 0 ≤ x) (hx : x ≤ u) (hy : y ≤ v) (y0 : 0 < y) (ha : a = Dy.V x * Dy.V y) (hb : b = Dy.V u * Dy.V v) : a ≤ b := by
  have h1 := Dy.V_nonneg.2 x0
  have h2 := Dy.V_le_iff.2 hx
  have h3 := Dy.V_le_iff.2 hy
  have h4 := Dy.V_pos.2 y0
  rw [ha, hb]
  exact Int.mul_le_mul h2 h3 (by omega) (by omega)
/-- What is told of an albedo, end by end. -/
theorem value_eq {p : Int × Int} (h : Un p) : Dy.Got (lamV (Dy.E p)) (Dy.divR p.1 piZ.2 false, Dy.divR p.2 piZ.1 true) := by
  obtain ⟨s, hs, g1, g2⟩ := got_value h
  have a := h.lo; have b := h.hi; have c := h.rk.le
  have i1 : (0 : Int) < piZ.1 := by decide
  have i2 : (0 : Int) < piZ.2 := by decide
  have i3 : piZ.1 ≤ piZ.2 := by decide
  have D := Dy.cDiv_E (err := 0) h.rk pi_Rk pi_nz
  have p2 : 0 ≤ p.2 := by omega
  have eL : Dy.lo4 Dy.divR p piZ = Dy.divR p.1 piZ.2 false := by
    refine Int.le_antisymm (Dy.lo4_le (.inr (.inl (Int.le_refl _)))) (Dy.le_lo4 ?_ (Int.le_refl _) ?_ ?_)
    · exact Dy.divR_cross i2 i1 (cross_le a (Int.le_refl _) i3 i1 rfl rfl)
    · exact Dy.divR_cross i2 i1 (cross_le a c i3 i1 rfl rfl)
    · exact Dy.divR_cross i2 i2 (cross_le a c (Int.le_refl _) i2 rfl rfl)
  have eH : Dy.hi4 Dy.divR p piZ = Dy.divR p.2 piZ.1 true := by
    refine Int.le_antisymm (Dy.hi4_le ?_ ?_ (Int.le_refl _) ?_) (Dy.le_hi4 (.inr (.inr (.inl (Int.le_refl _)))))
    · exact Dy.divR_cross i1 i1 (cross_le a c (Int.le_refl _) i1 rfl rfl)
    · exact Dy.divR_cross i2 i1 (cross_le a c i3 i1 rfl rfl)
    · exact Dy.divR_cross i2 i1 (cross_le p2 (Int.le_refl _) i3 i1 rfl rfl)
  have L := divR_unit (x := p.1) (y := piZ.2) (up := false) a (by have : Dy.I1 ≤ piZ.2 := by decide
                                                                  omega) i2
  have H := divR_unit (x := p.2) (y := piZ.1) (up := true) p2 (by have : Dy.I1 ≤ piZ.1 := by decide
                                                                  omega) i1
  have M := Dy.lo4_hi4_div h.rk.le pi_Rk.le pi_nz
  rw [eL, eH] at M
  have g : Dy.Got (Dy.cDiv 0 (Dy.E p) (Dy.E piZ)) (Dy.divR p.1 piZ.2 false, Dy.divR p.2 piZ.1 true) := by
    rw [D, eL, eH]
    exact Dy.got_ok M (okUn L.1 L.2) (okUn H.1 H.2)
  rw [g.uniq g2]; exact g1

/-- What is known of one number of the law's. -/
structure Prt (u : Nat) (R A : Int) : Prop where
  r0 : R = 0 ∧ A = 0 ∨ (Dy.L32 : Int) ≤ R ∧ A = R - Dy.D52
  r1 : R ≤ Dy.I1
  d1 : Ieee.double.div (Dy.fi u) 4751297606873776128 = some (Dy.enc R)
  d2 : Ieee.double.div (Dy.enc R) Dy.two = some (Dy.enc A)
  d3 : Ieee.double.mul (Dy.enc A) Dy.two = some (Dy.enc R)
  uR : Un (R, R)
  uA : Un (A, A)
  v : 2 * Dy.V A = Dy.V R
theorem L32_eq : (Dy.L32 : Int) = 4463067230724161536 := rfl
theorem prt_of {u : Nat} (hu : u ≤ 4294967295) : ∃ R A, Prt u R A := by
  obtain ⟨r, e, h1, h2⟩ := Dy.frq_low hu
  have i1 := Dy.I1_eq
  have hl := L32_eq
  have hd : Dy.D52 = 4503599627370496 := rfl
  have tp := Dy.top_eq
  rcases h2 with h2 | h2
  · subst h2
    exact ⟨0, 0, .inl ⟨rfl, rfl⟩, by omega, e, Dy.half_zero, Dy.twice_zero, Un.pt (Int.le_refl _) (by omega), Un.pt (Int.le_refl _) (by omega), by rw [Dy.V_zero]; rfl⟩
  · have hr : Dy.enc (r : Int) = r := by rw [Dy.enc_nonneg (by omega)]; omega
    have hl' : (4463067230724161536 : Int) ≤ (r : Int) := by rw [← hl]; exact Int.ofNat_le.2 h2
    have uR : Un ((r : Int), (r : Int)) := Un.pt (by omega) (by omega)
    have hA : (r : Int) - Dy.D52 + Dy.D52 = r := by omega
    have tw := Dy.twice_enc (A := (r : Int) - Dy.D52) (by omega) (by omega)
    rw [hA] at tw
    have dv := Dy.V_dbl (z := (r : Int) - Dy.D52) (by omega)
    rw [hA] at dv
    exact ⟨r, r - Dy.D52, .inr ⟨by omega, rfl⟩, by omega, by rw [hr]; exact e, Dy.half_enc (by omega) uR.rk.lo, tw, uR, Un.pt (by omega) (by omega), dv.symm⟩
theorem W64_enc {z : Int} (h : Dy.ok z) : Dy.enc z < W64 := Dy.W_enc h
theorem fN_some {g : Nat → Nat → Option Nat} {a b r : Nat} (h : g a b = some r) (hr : r < W64) : fN g [.f a, .f b] = true := by
  show okF (g a b) = true
  rw [h]; exact decide_eq_true hr
theorem getD_some {o : Option Nat} {r : Nat} (h : o = some r) : o.getD 0 = r := by rw [h]; rfl
/-- A quotient by pi of what is not too small is not too small. -/
theorem val_low {A : Int} (h : (Dy.L32 : Int) - Dy.D52 ≤ A) : Dy.D52 + 1 < Dy.divR A piZ.2 false ∧ Dy.D52 + 1 < Dy.divR A piZ.1 true := by
  have hd : Dy.D52 = 4503599627370496 := rfl
  have hl := L32_eq
  have i1 : (0 : Int) < piZ.1 := by decide
  have i2 : (0 : Int) < piZ.2 := by decide
  have key : ∀ y : Int, y = piZ.1 ∨ y = piZ.2 → Dy.V (Dy.D52 + 2) * Dy.V y ≤ Dy.V ((Dy.L32 : Int) - Dy.D52) * Dy.one := by
    intro y hy
    rcases hy with rfl | rfl <;> decide +kernel
  have hV := Dy.V_le_iff.2 h
  have op := Dy.one_pos'
  have down : ∀ y : Int, (y = piZ.1 ∨ y = piZ.2) → 0 < y → Dy.D52 + 2 ≤ Dy.divR A y false := fun y hy y0 => by
    have vy := Dy.V_pos.2 y0
    rw [Dy.divR_pos y0]
    refine (Dy.fl_down (by omega)).2 ?_
    rw [show (((Dy.V y).toNat : Nat) : Int) = Dy.V y by omega]
    exact Int.le_trans (key y hy) (Int.mul_le_mul_of_nonneg_right hV (by omega))
  have h1 := down piZ.2 (.inr rfl) i2
  have h2 := down piZ.1 (.inl rfl) i1
  have h3 : Dy.divR A piZ.1 false ≤ Dy.divR A piZ.1 true := by
    rw [Dy.divR_pos i1, Dy.divR_pos i1]; exact Dy.fl_le_up (by have := Dy.V_pos.2 i1; omega)
  exact ⟨by omega, by omega⟩
theorem divR_zero {y : Int} {up : Bool} (hy : 0 < y) : Dy.divR 0 y up = 0 := by
  have vy := Dy.V_pos.2 hy
  have hd : 0 < (Dy.V y).toNat := by omega
  rw [Dy.divR_pos hy]
  have := Dy.fl_V 0 (Dy.V y).toNat hd up
  rwa [Dy.V_zero, Int.zero_mul] at this ⊢
/-- Twice an albedo has twice its value. -/
theorem val_twice {u : Nat} {R A : Int} (h : Prt u R A) {y : Int} {up : Bool} (hy : y = piZ.2 ∧ up = false ∨ y = piZ.1 ∧ up = true) : Ieee.double.mul (Dy.enc (Dy.divR A y up)) Dy.two = some (Dy.enc (Dy.divR R y up)) := by
  have hd : Dy.D52 = 4503599627370496 := rfl
  have hl := L32_eq
  have tp := Dy.top_eq
  have i1 := Dy.I1_eq
  have y0 : 0 < y := by rcases hy with ⟨rfl, _⟩ | ⟨rfl, _⟩ <;> decide
  have yI : Dy.I1 ≤ y := by rcases hy with ⟨rfl, _⟩ | ⟨rfl, _⟩ <;> decide
  rcases h.r0 with ⟨rfl, rfl⟩ | ⟨h1, h2⟩
  · rw [divR_zero y0]; exact Dy.twice_zero
  · have hA : (Dy.L32 : Int) - Dy.D52 ≤ A := by omega
    have low : Dy.D52 + 1 < Dy.divR A y up := by
      rcases hy with ⟨rfl, rfl⟩ | ⟨rfl, rfl⟩
      · exact (val_low hA).1
      · exact (val_low hA).2
    have un := divR_unit (x := A) (y := y) (up := up) h.uA.lo (by have := h.uA.hi; dsimp only at this; omega) y0
    have e := Dy.divR_dbl (x := A) (y := y) (up := up) (by omega) y0 (by omega)
    rw [show A + Dy.D52 = R by omega] at e
    rw [e]
    exact Dy.twice_enc (by omega) (by omega)
end Go.Proofs.Ythfgdhobldejmaa
