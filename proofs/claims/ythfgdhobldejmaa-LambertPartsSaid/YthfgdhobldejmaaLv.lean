/- The law LambertParts: what the parts of a sum come to; joined. -/
import Derived.Test.YthfgdhobldejmaaLu
namespace Go.Proofs.Ythfgdhobldejmaa
open Go Go.RowKit

theorem nN_ok {u : Nat} (h : u ≤ 4294967295) : nN [.i (u : Int)] = true := by
  show decide (FloatKind.f64.nearest (u : Int) < W64) = true
  rw [near_fi7]
  obtain ⟨_, f2, _, _⟩ := Dy.fi_spec (m := u) (by omega)
  exact decide_eq_true f2
theorem fe_refl {y z : Int} (hy : Dy.ok y) (hz : Dy.ok z) : (Dy.feq (Dy.enc y) (Dy.enc y) && (Dy.feq (Dy.enc z) (Dy.enc z) && true)) = true := by
  rw [Dy.feq_enc hy hy, Dy.feq_enc hz hz]; simp
/-- The sum's value and the sum of values. -/
theorem sums_meet {A B c1 c2 d1 d2 x1 x2 y1 y2 m1 m2 p1 p2 : Int} {o : Nat} (op : 0 < (o : Int)) (P1 : 0 < Dy.V p1) (P : p1 ≤ p2) (D0 : 0 ≤ d1) (D2 : 0 ≤ d2)
    (hc1 : Dy.V c1 ≤ Dy.V A + Dy.V B) (hc2 : Dy.V A + Dy.V B ≤ Dy.V c2) (hd1 : Dy.V d1 * Dy.V p2 ≤ Dy.V c1 * o) (hd2 : Dy.V c2 * o ≤ Dy.V d2 * Dy.V p1)
    (hx1 : Dy.V x1 * Dy.V p2 ≤ Dy.V A * o) (hx2 : Dy.V A * o ≤ Dy.V x2 * Dy.V p1) (hy1 : Dy.V y1 * Dy.V p2 ≤ Dy.V B * o) (hy2 : Dy.V B * o ≤ Dy.V y2 * Dy.V p1)
    (hm1 : Dy.V m1 ≤ Dy.V x1 + Dy.V y1) (hm2 : Dy.V x2 + Dy.V y2 ≤ Dy.V m2) : d1 ≤ m2 ∧ m1 ≤ d2 := by
  have vP := Dy.V_le_iff.2 P
  have vd1 := Dy.V_nonneg.2 D0
  have vd2 := Dy.V_nonneg.2 D2
  have k1 : (Dy.V A + Dy.V B) * o = Dy.V A * o + Dy.V B * o := Int.add_mul _ _ _
  have k2 : (Dy.V x2 + Dy.V y2) * Dy.V p1 = Dy.V x2 * Dy.V p1 + Dy.V y2 * Dy.V p1 := Int.add_mul _ _ _
  have k3 : (Dy.V x1 + Dy.V y1) * Dy.V p2 = Dy.V x1 * Dy.V p2 + Dy.V y1 * Dy.V p2 := Int.add_mul _ _ _
  have s1 : Dy.V c1 * o ≤ (Dy.V A + Dy.V B) * o := Int.mul_le_mul_of_nonneg_right hc1 (by omega)
  have s2 : (Dy.V A + Dy.V B) * o ≤ Dy.V c2 * o := Int.mul_le_mul_of_nonneg_right hc2 (by omega)
  have s3 : Dy.V d1 * Dy.V p1 ≤ Dy.V d1 * Dy.V p2 := Int.mul_le_mul_of_nonneg_left vP vd1
  have s4 : Dy.V d2 * Dy.V p1 ≤ Dy.V d2 * Dy.V p2 := Int.mul_le_mul_of_nonneg_left vP vd2
  have e1 : Dy.V d1 * Dy.V p1 ≤ (Dy.V x2 + Dy.V y2) * Dy.V p1 := by rw [k2]; rw [k1] at s1; omega
  have e2 : (Dy.V x1 + Dy.V y1) * Dy.V p2 ≤ Dy.V d2 * Dy.V p2 := by rw [k3]; rw [k1] at s2; omega
  have f1 := Int.le_of_mul_le_mul_right e1 P1
  have f2 := Int.le_of_mul_le_mul_right e2 (by omega)
  exact ⟨Dy.V_le_iff.1 (by omega), Dy.V_le_iff.1 (by omega)⟩
theorem down_le {x y : Int} (hy : 0 < y) : Dy.V (Dy.divR x y false) * Dy.V y ≤ Dy.V x * Dy.one := by
  have vy := Dy.V_pos.2 hy
  rw [Dy.divR_pos hy]
  have := (Dy.fl_down (z := Dy.fl (Dy.V x * Dy.one) (Dy.V y).toNat false) (num := Dy.V x * Dy.one) (den := (Dy.V y).toNat) (by omega)).1 (Int.le_refl _)
  rwa [show (((Dy.V y).toNat : Nat) : Int) = Dy.V y by omega] at this
theorem le_up {x y : Int} (hy : 0 < y) : Dy.V x * Dy.one ≤ Dy.V (Dy.divR x y true) * Dy.V y := by
  have vy := Dy.V_pos.2 hy
  rw [Dy.divR_pos hy]
  have := (Dy.fl_up (z := Dy.fl (Dy.V x * Dy.one) (Dy.V y).toNat true) (num := Dy.V x * Dy.one) (den := (Dy.V y).toNat) (by omega)).1 (Int.le_refl _)
  rwa [show (((Dy.V y).toNat : Nat) : Int) = Dy.V y by omega] at this
theorem sum_down (n : Int) : Dy.V (Dy.fl n 1 false) ≤ n := by
  have := (Dy.fl_down (z := Dy.fl n 1 false) (num := n) (den := 1) (by omega)).1 (Int.le_refl _)
  omega
theorem sum_up (n : Int) : n ≤ Dy.V (Dy.fl n 1 true) := by
  have := (Dy.fl_up (z := Dy.fl n 1 true) (num := n) (den := 1) (by omega)).1 (Int.le_refl _)
  omega
/-- The sum of two intervals within 0 and 1 that together are no more than 1. -/
theorem add_got {p q : Int × Int} (hp : Un p) (hq : Un q) (h : Dy.V p.2 + Dy.V q.2 ≤ Dy.one) : Un (Dy.fl (Dy.V p.1 + Dy.V q.1) 1 false, Dy.fl (Dy.V p.2 + Dy.V q.2) 1 true) ∧ Dy.Got (Dy.cAdd 0 (Dy.E p) (Dy.E q)) (Dy.fl (Dy.V p.1 + Dy.V q.1) 1 false, Dy.fl (Dy.V p.2 + Dy.V q.2) 1 true) := by
  have v1 := Dy.V_le_iff.2 hp.rk.le
  have v2 := Dy.V_le_iff.2 hq.rk.le
  have z1 := Dy.V_nonneg.2 hp.lo
  have z2 := Dy.V_nonneg.2 hq.lo
  have L : 0 ≤ Dy.fl (Dy.V p.1 + Dy.V q.1) 1 false := Dy.fl_nonneg (by omega) (by omega)
  have H : Dy.fl (Dy.V p.2 + Dy.V q.2) 1 true ≤ Dy.I1 := (Dy.fl_up (by omega)).2 (by rw [Dy.V_one]; omega)
  have M : Dy.fl (Dy.V p.1 + Dy.V q.1) 1 false ≤ Dy.fl (Dy.V p.2 + Dy.V q.2) 1 true := Int.le_trans (Dy.fl_mono (by omega) (by omega)) (Dy.fl_le_up (by omega))
  have u := Un.mk' L M H
  refine ⟨u, ?_⟩
  rw [Dy.cAdd_E hp.rk hq.rk]
  exact Dy.got_ok M u.rk.lo u.rk.hi
theorem V_un {p : Int × Int} (h : Un p) : Dy.V p.2 ≤ Dy.one := by
  have := Dy.V_le_iff.2 h.hi
  rwa [Dy.V_one] at this
set_option maxHeartbeats 8000000 in
theorem lparts_any (u v : Nat) (w : World) (hu : u < 4294967296) (hv : v < 4294967296) :
    Calls Try.prog 6 #[.int .u32 u, .int .u32 v] w fun e w' => e = .returned (.bool true) ∧ Below w.heap.size w w' := by
  obtain ⟨R, A, pu⟩ := prt_of (u := u) (by omega)
  obtain ⟨S, B, pv⟩ := prt_of (u := v) (by omega)
  have i1 : (0 : Int) < piZ.1 := by decide
  have i2 : (0 : Int) < piZ.2 := by decide
  have i3 : piZ.1 ≤ piZ.2 := by decide
  have gA := value_eq pu.uA
  have gB := value_eq pv.uA
  have gR := value_eq pu.uR
  have hAB : Dy.V A + Dy.V B ≤ Dy.one := by
    have a := V_un pu.uR; have b := V_un pv.uR; have c := pu.v; have d := pv.v
    dsimp only at a b; omega
  obtain ⟨uc, gc⟩ := add_got pu.uA pv.uA hAB
  dsimp only at gA gB gR uc gc
  have gd := value_eq uc
  dsimp only at gd
  have hI1 : Dy.I1 ≤ piZ.1 := by decide
  have hI2 : Dy.I1 ≤ piZ.2 := by decide
  have a0 := pu.uA.lo; have a1 := pu.uA.hi; have b0 := pv.uA.lo; have b1 := pv.uA.hi
  dsimp only at a0 a1 b0 b1
  have un : ∀ x, 0 ≤ x → x ≤ Dy.I1 → Un (Dy.divR x piZ.2 false, Dy.divR x piZ.1 true) := fun x h0 h1 => by
    have l := divR_unit (x := x) (y := piZ.2) (up := false) h0 (by omega) i2
    have h := divR_unit (x := x) (y := piZ.1) (up := true) h0 (by omega) i1
    have m := (value_eq (Un.pt h0 h1)).rk.le
    exact Un.mk' l.1 m h.2
  have uX := un A a0 a1
  have uY := un B b0 b1
  -- both values together
  have half : ∀ x, 0 ≤ x → 2 * Dy.V x ≤ Dy.one → 2 * Dy.V (Dy.divR x piZ.1 true) ≤ Dy.one := fun x h0 h1 => by
    have key : 2 * Dy.V (Dy.divR 4602678819172646912 piZ.1 true) ≤ Dy.one := by decide +kernel
    have hx : x ≤ 4602678819172646912 := by
      refine Dy.V_le_iff.1 ?_
      have : 2 * Dy.V 4602678819172646912 = (Dy.one : Int) := by decide +kernel
      omega
    have := Dy.divR_cross (x := x) (u := 4602678819172646912) (y := piZ.1) (v := piZ.1) (up := true) i1 i1 (cross_le h0 hx (Int.le_refl _) i1 rfl rfl)
    have := Dy.V_le_iff.2 this
    omega
  have hXY : Dy.V (Dy.divR A piZ.1 true) + Dy.V (Dy.divR B piZ.1 true) ≤ Dy.one := by
    have a := half A a0 (by have a := V_un pu.uR; have c := pu.v; dsimp only at a; omega)
    have b := half B b0 (by have a := V_un pv.uR; have c := pv.v; dsimp only at a; omega)
    omega
  obtain ⟨um, gm⟩ := add_got uX uY hXY
  dsimp only at um gm
  have q16 : lamV (Dy.enc A, Dy.enc A) = ((Dy.enc (Dy.divR A piZ.2 false), Dy.enc (Dy.divR A piZ.1 true)), 0) := gA.1
  have q17 : lamV (Dy.enc B, Dy.enc B) = ((Dy.enc (Dy.divR B piZ.2 false), Dy.enc (Dy.divR B piZ.1 true)), 0) := gB.1
  have q22 : lamV (Dy.enc R, Dy.enc R) = ((Dy.enc (Dy.divR R piZ.2 false), Dy.enc (Dy.divR R piZ.1 true)), 0) := gR.1
  have d1 := divR_unit (x := Dy.fl (Dy.V A + Dy.V B) 1 false) (y := piZ.2) (up := false) uc.lo (by have := uc.rk.le; have := uc.hi; dsimp only at *; omega) i2
  have d2 := divR_unit (x := Dy.fl (Dy.V A + Dy.V B) 1 true) (y := piZ.1) (up := true) (by have := uc.rk.le; have := uc.lo; dsimp only at *; omega) (by have := uc.hi; dsimp only at *; omega) i1
  have meet := sums_meet (A := A) (B := B) (o := Dy.one) Dy.one_pos' (Dy.V_pos.2 i1) i3 d1.1 d2.1 (sum_down _) (sum_up _) (down_le i2) (le_up i1) (down_le i2) (le_up i1) (down_le i2) (le_up i1) (sum_down _) (sum_up _)
  generalize Dy.fl (Dy.V A + Dy.V B) 1 false = C1 at *
  generalize Dy.fl (Dy.V A + Dy.V B) 1 true = C2 at *
  generalize Dy.fl (Dy.V (Dy.divR A piZ.2 false) + Dy.V (Dy.divR B piZ.2 false)) 1 false = M1 at *
  generalize Dy.fl (Dy.V (Dy.divR A piZ.1 true) + Dy.V (Dy.divR B piZ.1 true)) 1 true = M2 at *
  have t1 := val_twice pu (y := piZ.2) (up := false) (.inl ⟨rfl, rfl⟩)
  have t2 := val_twice pu (y := piZ.1) (up := true) (.inr ⟨rfl, rfl⟩)
  generalize Dy.divR C1 piZ.2 false = D1 at *
  generalize Dy.divR C2 piZ.1 true = D2 at *
  generalize Dy.divR R piZ.2 false = R1 at *
  generalize Dy.divR R piZ.1 true = R2 at *
  generalize Dy.divR A piZ.2 false = X1 at *
  generalize Dy.divR A piZ.1 true = X2 at *
  generalize Dy.divR B piZ.2 false = Y1 at *
  generalize Dy.divR B piZ.1 true = Y2 at *
  have q23 : Dy.cAdd 0 (Dy.enc A, Dy.enc A) (Dy.enc B, Dy.enc B) = ((Dy.enc C1, Dy.enc C2), 0) := gc.1
  have q24 : lamV (Dy.enc C1, Dy.enc C2) = ((Dy.enc D1, Dy.enc D2), 0) := gd.1
  have q26 : Dy.cAdd 0 (Dy.enc X1, Dy.enc X2) (Dy.enc Y1, Dy.enc Y2) = ((Dy.enc M1, Dy.enc M2), 0) := gm.1
  have q25 : Dy.fgt (Dy.enc C2) 4607182418800017408 = false := by
    rw [Dy.fgt_right uc.rk.hi Dy.W_one Dy.right_one, Dy.dec_one]
    have := uc.hi
    rw [I1_lit] 
    exact decide_eq_false (by dsimp only at this; omega)
  have q33 : meetsB (Dy.enc D1, Dy.enc D2) (Dy.enc M1, Dy.enc M2) = true := by
    unfold meetsB
    rw [Dy.fle_enc gd.rk.lo gm.rk.hi, Dy.fle_enc gm.rk.lo gd.rk.hi, decide_eq_true meet.1, decide_eq_true meet.2]; rfl
  have oA := pu.uA.rk.lo; have oB := pv.uA.rk.lo; have oR := pu.uR.rk.lo; have oS := pv.uR.rk.lo
  have x1 := gA.rk.lo; have x2 := gA.rk.hi; have r1 := gR.rk.lo; have r2 := gR.rk.hi
  dsimp only at oA oB oR oS x1 x2 r1 r2
  exact parts_ok u v w (near_fi7 u) (getD_some pu.d1) (nN_ok (by omega)) (fN_some pu.d1 (W64_enc oR)) (getD_some pu.d2) (fN_some pu.d2 (W64_enc oA)) (getD_some (Dy.add_zero oA)) (fN_some (Dy.add_zero oA) (W64_enc oA))
    (near_fi7 v) (getD_some pv.d1) (nN_ok (by omega)) (fN_some pv.d1 (W64_enc oS)) (getD_some pv.d2) (fN_some pv.d2 (W64_enc oB)) (getD_some (Dy.add_zero oB)) (fN_some (Dy.add_zero oB) (W64_enc oB))
    q16 q17 (getD_some pu.d3) (fN_some pu.d3 (W64_enc oR)) (getD_some (Dy.add_zero oR)) (fN_some (Dy.add_zero oR) (W64_enc oR)) q22 q23 q24 q25 q26 rfl rfl rfl rfl rfl rfl q33 (fe_refl x1 x2)
    (getD_some t1) (fN_some t1 (W64_enc r1)) (getD_some t2) (fN_some t2 (W64_enc r2)) (fe_refl r1 r2)
end Go.Proofs.Ythfgdhobldejmaa
