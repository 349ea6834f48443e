/- Plain facts: the law LambertFalls. -/
import Derived.Test.YtiphdhpacklboaaN4
import Derived.Test.YtiphdhpacklboaaEc
namespace Go.Proofs.Ytiphdhpacklboaa
open Go.RowKit

/-- Ranks of an interval within 0 and 1. -/
structure Un (p : Int × Int) : Prop where
  rk : Dy.Rk p
  lo : 0 ≤ p.1
  hi : p.2 ≤ Dy.I1
theorem I1_lit : (4607182418800017408 : Int) = Dy.I1 := rfl
theorem okUn {z : Int} (h0 : 0 ≤ z) (h1 : z ≤ Dy.I1) : Dy.ok z := Dy.ok_B (by unfold Dy.B10; omega) (by unfold Dy.B10 Dy.I1 at *; omega)
theorem Un.mk' {x y : Int} (h0 : 0 ≤ x) (h : x ≤ y) (h1 : y ≤ Dy.I1) : Un (x, y) := ⟨⟨okUn h0 (by dsimp only at *; omega), okUn (by dsimp only at *; omega) h1, h⟩, h0, h1⟩
theorem Un.pt {x : Int} (h0 : 0 ≤ x) (h1 : x ≤ Dy.I1) : Un (x, x) := Un.mk' h0 (Int.le_refl _) h1
theorem Un.wi {p q : Int × Int} (h : Un p) (hq : Dy.Rk q) (w : Dy.Wi q p) : Un q := ⟨hq, Int.le_trans h.lo w.lo, Int.le_trans w.hi h.hi⟩
theorem one_enc : (4607182418800017408 : Nat) = Dy.enc Dy.I1 := by decide
theorem one_E : ((4607182418800017408 : Nat), (4607182418800017408 : Nat)) = Dy.E (Dy.I1, Dy.I1) := by decide
theorem un_one : Un (Dy.I1, Dy.I1) := Un.pt (by decide) (Int.le_refl _)

theorem Un.out {p : Int × Int} (h : Un p) : oL (Dy.E p) = false ∧ oH (Dy.E p) = false := by
  have h1 : Dy.flt (Dy.enc p.1) (Dy.enc 0) = decide (p.1 < 0) := Dy.flt_enc h.rk.lo Dy.ok_zero
  have h2 : Dy.fgt (Dy.enc p.2) (Dy.enc Dy.I1) = decide (Dy.I1 < p.2) := Dy.fgt_enc h.rk.hi Dy.ok_I1
  have a := h.lo
  have b := h.hi
  refine ⟨?_, ?_⟩
  · show Dy.flt (Dy.enc p.1) 0 = false
    rw [show (0 : Nat) = Dy.enc 0 from rfl, h1]; exact decide_eq_false (by omega)
  · show Dy.fgt (Dy.enc p.2) 4607182418800017408 = false
    rw [one_enc, h2]; exact decide_eq_false (by omega)
theorem lamRes_got {r : (Nat × Nat) × Int} {s : Int × Int} (h : Dy.Got r s) : Dy.Got (lamRes r) s := by
  have h1 := h.1
  subst h1
  exact h
theorem lam1_got {p : Int × Int} {r : (Nat × Nat) × Int} {s : Int × Int} (h : Un p) (g : Dy.Got r s) : Dy.Got (lam1 (Dy.E p) r) s := by
  unfold lam1
  rw [h.rk.E_R, h.out.1, h.out.2, if_pos rfl, if_neg (by decide)]
  exact lamRes_got g
theorem lam2_got {p q : Int × Int} {r : (Nat × Nat) × Int} {s : Int × Int} (h : Un p) (k : Un q) (g : Dy.Got r s) : Dy.Got (lam2 (Dy.E p) (Dy.E q) r) s := by
  unfold lam2
  rw [h.rk.E_R, h.out.1, h.out.2, k.rk.E_R, k.out.1, k.out.2]
  exact lamRes_got g

/-- Pi, as ranks. -/
def piZ : Int × Int := (4614256656552045848, 4614256656552045849)
theorem pi_E : piIv = Dy.E piZ := by decide
theorem pi_Rk : Dy.Rk piZ := ⟨Dy.ok_B (by decide) (by decide), Dy.ok_B (by decide) (by decide), by decide⟩
theorem pi_nz : Dy.nz0 piZ := Or.inl (by decide)
theorem divR_unit {x y : Int} {up : Bool} (h0 : 0 ≤ x) (h : x ≤ y) (hy : 0 < y) : 0 ≤ Dy.divR x y up ∧ Dy.divR x y up ≤ Dy.I1 := by
  have v0 := Dy.V_nonneg.2 h0
  have vy := Dy.V_pos.2 hy
  have v := Dy.V_le_iff.2 h
  have hd : 0 < (Dy.V y).toNat := by omega
  have e : (((Dy.V y).toNat : Nat) : Int) = Dy.V y := by omega
  have op := Dy.one_pos'
  have lo : 0 ≤ Dy.fl (Dy.V x * Dy.one) (Dy.V y).toNat false := (Dy.fl_down hd).2 (by rw [Dy.V_zero, Int.zero_mul]; exact Int.mul_nonneg v0 (by omega))
  have hi : Dy.fl (Dy.V x * Dy.one) (Dy.V y).toNat true ≤ Dy.I1 := (Dy.fl_up hd).2 (by rw [e, Dy.V_one, Int.mul_comm (Dy.one : Int)]; exact Int.mul_le_mul_of_nonneg_right v (by omega))
  have le := Dy.fl_le_up (num := Dy.V x * Dy.one) hd
  rw [Dy.divR_pos hy]
  cases up
  · exact ⟨lo, Int.le_trans le hi⟩
  · exact ⟨Int.le_trans lo le, hi⟩
theorem got_value {p : Int × Int} (h : Un p) : ∃ s, Un s ∧ Dy.Got (lamV (Dy.E p)) s ∧ Dy.Got (Dy.cDiv 0 (Dy.E p) (Dy.E piZ)) s := by
  have a := h.lo; have b := h.hi; have c := h.rk.le
  have i1 : Dy.I1 ≤ piZ.1 := by decide
  have i2 : Dy.I1 ≤ piZ.2 := by decide
  have i0 : (0 : Int) < Dy.I1 := by decide
  have D : ∀ x y up, (x = p.1 ∨ x = p.2) → (y = piZ.1 ∨ y = piZ.2) → 0 ≤ Dy.divR x y up ∧ Dy.divR x y up ≤ Dy.I1 := by
    intro x y up hx hy
    refine divR_unit ?_ ?_ ?_
    · rcases hx with rfl | rfl <;> omega
    · rcases hx with rfl | rfl <;> rcases hy with rfl | rfl <;> omega
    · rcases hy with rfl | rfl <;> omega
  have L : 0 ≤ Dy.lo4 Dy.divR p piZ := Dy.le_lo4 (D _ _ _ (Or.inl rfl) (Or.inl rfl)).1 (D _ _ _ (Or.inl rfl) (Or.inr rfl)).1 (D _ _ _ (Or.inr rfl) (Or.inl rfl)).1 (D _ _ _ (Or.inr rfl) (Or.inr rfl)).1
  have H : Dy.hi4 Dy.divR p piZ ≤ Dy.I1 := Dy.hi4_le (D _ _ _ (Or.inl rfl) (Or.inl rfl)).2 (D _ _ _ (Or.inl rfl) (Or.inr rfl)).2 (D _ _ _ (Or.inr rfl) (Or.inl rfl)).2 (D _ _ _ (Or.inr rfl) (Or.inr rfl)).2
  have M := Dy.lo4_hi4_div h.rk.le pi_Rk.le pi_nz
  have g : Dy.Got (Dy.cDiv 0 (Dy.E p) (Dy.E piZ)) (Dy.lo4 Dy.divR p piZ, Dy.hi4 Dy.divR p piZ) := by
    rw [Dy.cDiv_E h.rk pi_Rk pi_nz]
    exact Dy.got_ok M (okUn L (by omega)) (okUn (by omega) H)
  refine ⟨_, Un.mk' L M H, ?_, g⟩
  unfold lamV
  rw [pi_E]
  exact lam1_got h g

/-- A cap's ends. -/
def capLo (x y : Int) : Int := Dy.mulR x (Dy.fl (Dy.V Dy.I1 - Dy.V (Dy.mulR y y true)) 1 false) false
def capHi (x y : Int) : Int := Dy.mulR x (Dy.fl (Dy.V Dy.I1 - Dy.V (Dy.mulR y y false)) 1 true) true

theorem sq_un {y : Int} {up : Bool} (h0 : 0 ≤ y) (h1 : y ≤ Dy.I1) : 0 ≤ Dy.mulR y y up ∧ Dy.mulR y y up ≤ Dy.I1 := by
  have v0 := Dy.V_nonneg.2 h0
  have v1 := Dy.V_le_iff.2 h1
  rw [Dy.V_one] at v1
  have lo : 0 ≤ Dy.mulR y y false := (Dy.fl_down Dy.one_pos).2 (by rw [Dy.V_zero, Int.zero_mul]; exact Int.mul_nonneg v0 v0)
  have hi : Dy.mulR y y true ≤ Dy.I1 := (Dy.fl_up Dy.one_pos).2 (by rw [Dy.V_one]; exact Int.mul_le_mul v1 v1 v0 (by omega))
  have le := Dy.mulR_le y y
  cases up
  · exact ⟨lo, Int.le_trans le hi⟩
  · exact ⟨Int.le_trans lo le, hi⟩
theorem rest_un {z : Int} {up : Bool} (h0 : 0 ≤ z) (h1 : z ≤ Dy.I1) : 0 ≤ Dy.fl (Dy.V Dy.I1 - Dy.V z) 1 up ∧ Dy.fl (Dy.V Dy.I1 - Dy.V z) 1 up ≤ Dy.I1 := by
  have v0 := Dy.V_nonneg.2 h0
  have v1 := Dy.V_le_iff.2 h1
  have lo : 0 ≤ Dy.fl (Dy.V Dy.I1 - Dy.V z) 1 false := (Dy.fl_down (by decide)).2 (by rw [Dy.V_zero]; omega)
  have hi : Dy.fl (Dy.V Dy.I1 - Dy.V z) 1 true ≤ Dy.I1 := (Dy.fl_up (by decide)).2 (by omega)
  have le := Dy.fl_le_up (num := Dy.V Dy.I1 - Dy.V z) (den := 1) (by decide)
  cases up
  · exact ⟨lo, Int.le_trans le hi⟩
  · exact ⟨Int.le_trans lo le, hi⟩
theorem mul_un {x t : Int} {up : Bool} (x0 : 0 ≤ x) (t0 : 0 ≤ t) (t1 : t ≤ Dy.I1) : 0 ≤ Dy.mulR x t up ∧ Dy.mulR x t up ≤ x := by
  have v0 := Dy.V_nonneg.2 x0
  have u0 := Dy.V_nonneg.2 t0
  have u1 := Dy.V_le_iff.2 t1
  rw [Dy.V_one] at u1
  have lo : 0 ≤ Dy.mulR x t false := (Dy.fl_down Dy.one_pos).2 (by rw [Dy.V_zero, Int.zero_mul]; exact Int.mul_nonneg v0 u0)
  have hi : Dy.mulR x t true ≤ x := (Dy.fl_up Dy.one_pos).2 (Int.mul_le_mul_of_nonneg_left u1 v0)
  have le := Dy.mulR_le x t
  cases up
  · exact ⟨lo, Int.le_trans le hi⟩
  · exact ⟨Int.le_trans lo le, hi⟩
theorem mul_mono {x x' t t' : Int} {up : Bool} (x0 : 0 ≤ x) (hx : x ≤ x') (t0 : 0 ≤ t) (ht : t ≤ t') : Dy.mulR x t up ≤ Dy.mulR x' t' up := by
  have v0 := Dy.V_nonneg.2 x0
  have u0 := Dy.V_nonneg.2 t0
  have v := Dy.V_le_iff.2 hx
  have u := Dy.V_le_iff.2 ht
  exact Dy.fl_mono Dy.one_pos (Int.mul_le_mul v u u0 (by omega))
theorem rest_mono {y z : Int} {up : Bool} (h : y ≤ z) : Dy.fl (Dy.V Dy.I1 - Dy.V z) 1 up ≤ Dy.fl (Dy.V Dy.I1 - Dy.V y) 1 up := by
  have v := Dy.V_le_iff.2 h
  exact Dy.fl_mono (by decide) (by omega)
theorem capLo_mono {x x' y y' : Int} (x0 : 0 ≤ x) (hx : x ≤ x') (y0 : 0 ≤ y') (hy : y' ≤ y) (y1 : y ≤ Dy.I1) : capLo x y ≤ capLo x' y' := by
  have s := sq_un (up := true) (Int.le_trans y0 hy) y1
  exact mul_mono x0 hx (rest_un s.1 s.2).1 (rest_mono (Dy.sq_mono y0 hy))
theorem capHi_mono {x x' y y' : Int} (x0 : 0 ≤ x) (hx : x ≤ x') (y0 : 0 ≤ y') (hy : y' ≤ y) (y1 : y ≤ Dy.I1) : capHi x y ≤ capHi x' y' := by
  have s := sq_un (up := false) (Int.le_trans y0 hy) y1
  exact mul_mono x0 hx (rest_un s.1 s.2).1 (rest_mono (Dy.sq_mono y0 hy))
theorem capLo_un {x y : Int} (x0 : 0 ≤ x) (y0 : 0 ≤ y) (y1 : y ≤ Dy.I1) : 0 ≤ capLo x y ∧ capLo x y ≤ x := by
  have s := sq_un (up := true) y0 y1
  have t := rest_un (up := false) s.1 s.2
  exact mul_un x0 t.1 t.2
theorem capHi_un {x y : Int} (x0 : 0 ≤ x) (y0 : 0 ≤ y) (y1 : y ≤ Dy.I1) : 0 ≤ capHi x y ∧ capHi x y ≤ x := by
  have s := sq_un (up := false) y0 y1
  have t := rest_un (up := true) s.1 s.2
  exact mul_un x0 t.1 t.2
theorem capLo_one (x : Int) : capLo x Dy.I1 = 0 := by
  unfold capLo Dy.mulR
  have e : Dy.fl (Dy.V Dy.I1 * Dy.V Dy.I1) Dy.one true = Dy.I1 := by
    rw [show Dy.V Dy.I1 * Dy.V Dy.I1 = Dy.V Dy.I1 * (Dy.one : Int) from by rw [Dy.V_one]]; exact Dy.fl_V _ _ Dy.one_pos _
  rw [e, Int.sub_self]
  have e2 : Dy.fl 0 1 false = 0 := by have := Dy.fl_V 0 1 (by decide) false; rw [Dy.V_zero, Int.zero_mul] at this; exact this
  rw [e2, Dy.V_zero, Int.mul_zero]
  have := Dy.fl_V 0 Dy.one Dy.one_pos false
  rw [Dy.V_zero, Int.zero_mul] at this
  exact this
theorem capHi_one (x : Int) : capHi x Dy.I1 = 0 := by
  unfold capHi Dy.mulR
  have e : Dy.fl (Dy.V Dy.I1 * Dy.V Dy.I1) Dy.one false = Dy.I1 := by
    rw [show Dy.V Dy.I1 * Dy.V Dy.I1 = Dy.V Dy.I1 * (Dy.one : Int) from by rw [Dy.V_one]]; exact Dy.fl_V _ _ Dy.one_pos _
  rw [e, Int.sub_self]
  have e2 : Dy.fl 0 1 true = 0 := by have := Dy.fl_V 0 1 (by decide) true; rw [Dy.V_zero, Int.zero_mul] at this; exact this
  rw [e2, Dy.V_zero, Int.mul_zero]
  have := Dy.fl_V 0 Dy.one Dy.one_pos true
  rw [Dy.V_zero, Int.zero_mul] at this
  exact this

/-- A product of what is not below 0. -/
theorem mul_got {p q : Int × Int} (hp : Un p) (hq : Un q) : Dy.Got (Dy.cMul 0 (Dy.E p) (Dy.E q)) (Dy.mulR p.1 q.1 false, Dy.mulR p.2 q.2 true) := by
  have a := hp.rk.le; have b := hq.rk.le; have a0 := hp.lo; have b0 := hq.lo
  have L : Dy.lo4 Dy.mulR p q = Dy.mulR p.1 q.1 false := by
    apply Int.le_antisymm
    · exact Dy.lo4_le (Or.inl (Int.le_refl _))
    · exact Dy.le_lo4 (Int.le_refl _) (mul_mono a0 (Int.le_refl _) b0 b) (mul_mono a0 a b0 (Int.le_refl _)) (mul_mono a0 a b0 b)
  have H : Dy.hi4 Dy.mulR p q = Dy.mulR p.2 q.2 true := by
    apply Int.le_antisymm
    · exact Dy.hi4_le (mul_mono a0 a b0 b) (mul_mono a0 a (by omega) (Int.le_refl _)) (mul_mono (by omega) (Int.le_refl _) b0 b) (Int.le_refl _)
    · exact Dy.le_hi4 (Or.inr (Or.inr (Or.inr (Int.le_refl _))))
  rw [Dy.cMul_E hp.rk hq.rk, L, H]
  have s := mul_un (up := false) a0 b0 (Int.le_trans b hq.hi)
  have t := mul_un (up := true) (Int.le_trans a0 a) (Int.le_trans b0 b) hq.hi
  have i := hp.hi
  exact Dy.got_ok (Int.le_trans (Dy.mulR_le _ _) (mul_mono a0 a b0 b)) (okUn s.1 (by omega)) (okUn t.1 (by omega))

theorem got_cap {p q : Int × Int} (hp : Un p) (hq : Un q) : Dy.Got (lamC (Dy.E p) (Dy.E q)) (capLo p.1 q.2, capHi p.2 q.1) := by
  have a := hp.rk.le; have b := hq.rk.le; have a0 := hp.lo; have b0 := hq.lo; have b1 := hq.hi
  have s1 := sq_un (up := false) b0 (Int.le_trans b b1)
  have s2 := sq_un (up := true) (Int.le_trans b0 b) b1
  have s12 : Dy.mulR q.1 q.1 false ≤ Dy.mulR q.2 q.2 true := Int.le_trans (Dy.mulR_le _ _) (Dy.sq_mono b0 b)
  have hs := Un.mk' s1.1 s12 s2.2
  have gs : Dy.cSqr 0 (Dy.E q) = (Dy.E (Dy.mulR q.1 q.1 false, Dy.mulR q.2 q.2 true), 0) := by
    rw [Dy.cSqr_E hq.rk, show Dy.rBare q = q from by unfold Dy.rBare; rw [if_pos b0]]
    exact (Dy.got_ok s12 hs.rk.lo hs.rk.hi).1
  have t1 := rest_un (up := false) s2.1 s2.2
  have t2 := rest_un (up := true) s1.1 s1.2
  have t12 : Dy.fl (Dy.V Dy.I1 - Dy.V (Dy.mulR q.2 q.2 true)) 1 false ≤ Dy.fl (Dy.V Dy.I1 - Dy.V (Dy.mulR q.1 q.1 false)) 1 true := Int.le_trans (rest_mono s12) (Dy.fl_le_up (by decide))
  have ht := Un.mk' t1.1 t12 t2.2
  have gt : Dy.cSub 0 (Dy.E (Dy.I1, Dy.I1)) (Dy.E (Dy.mulR q.1 q.1 false, Dy.mulR q.2 q.2 true)) = (Dy.E (Dy.fl (Dy.V Dy.I1 - Dy.V (Dy.mulR q.2 q.2 true)) 1 false, Dy.fl (Dy.V Dy.I1 - Dy.V (Dy.mulR q.1 q.1 false)) 1 true), 0) := by
    rw [Dy.cSub_E un_one.rk hs.rk]
    exact (Dy.got_ok t12 ht.rk.lo ht.rk.hi).1
  unfold lamC
  refine lam2_got hp hq ?_
  unfold capF
  rw [gs, one_E]
  dsimp only
  rw [gt]
  exact mul_got hp ht

/-- LambertFalls' numbers. -/
structure Falls (p q r c a i v o l m : Int × Int) : Prop where
  ea : lamC (Dy.E p) (Dy.E q) = (Dy.E a, 0)
  ei : lamC (Dy.E r) (Dy.E c) = (Dy.E i, 0)
  ev : lamV (Dy.E p) = (Dy.E v, 0)
  eo : lamV (Dy.E r) = (Dy.E o, 0)
  et : lamC (Dy.E p) (Dy.E (Dy.I1, Dy.I1)) = (Dy.E (0, 0), 0)
  el : lamC (Dy.E (p.2, p.2)) (Dy.E (q.1, q.1)) = (Dy.E l, 0)
  em : lamC (Dy.E (p.2, p.2)) (Dy.E (q.2, q.2)) = (Dy.E m, 0)
  ra : Dy.Rk a
  ri : Dy.Rk i
  rv : Dy.Rk v
  ro : Dy.Rk o
  rl : Dy.Rk l
  rm : Dy.Rk m
  ia : Dy.Wi i a
  ov : Dy.Wi o v
  mh : m.2 ≤ l.2
  ml : m.1 ≤ l.1
  lp : l.2 ≤ p.2
  a0 : 0 ≤ a.1

theorem falls_of {p q r c : Int × Int} (hp : Un p) (hq : Un q) (hr : Dy.Rk r) (hc : Dy.Rk c) (wr : Dy.Wi r p) (wc : Dy.Wi c q) : ∃ a i v o l m, Falls p q r c a i v o l m := by
  have ur := hp.wi hr wr
  have uc := hq.wi hc wc
  have gp := hp.rk.le; have gq := hq.rk.le
  have p0 := hp.lo; have q0 := hq.lo; have p1 := hp.hi; have q1 := hq.hi
  obtain ⟨v, uv, ev, gv⟩ := got_value hp
  obtain ⟨o, uo, eo, go⟩ := got_value ur
  obtain ⟨o', go', wo⟩ := Dy.mono_div hp.rk pi_Rk hr pi_Rk wr (Dy.Wi.refl _) gv
  have := go.uniq go'
  subst this
  have P := Un.pt (Int.le_trans p0 gp) p1
  have Q1 := Un.pt q0 (Int.le_trans gq q1)
  have Q2 := Un.pt (Int.le_trans q0 gq) q1
  have ga := got_cap hp hq
  have gi := got_cap ur uc
  have gt := got_cap hp un_one
  have gl := got_cap P Q1
  have gm := got_cap P Q2
  rw [capLo_one, capHi_one] at gt
  dsimp only at gl gm
  refine ⟨_, _, v, o, _, _, ga.1, gi.1, ev.1, eo.1, gt.1, gl.1, gm.1, ga.2, gi.2, uv.rk, uo.rk, gl.2, gm.2, ⟨?_, ?_⟩, wo, ?_, ?_, ?_, ?_⟩
  · exact capLo_mono p0 wr.lo (Int.le_trans q0 (Int.le_trans wc.lo hc.le)) wc.hi q1
  · exact capHi_mono (Int.le_trans ur.lo hr.le) wr.hi q0 wc.lo (Int.le_trans hc.le uc.hi)
  · exact capHi_mono (Int.le_trans p0 gp) (Int.le_refl _) q0 gq q1
  · exact capLo_mono (Int.le_trans p0 gp) (Int.le_refl _) q0 gq q1
  · exact (capHi_un (Int.le_trans p0 gp) q0 (Int.le_trans gq q1)).2
  · exact (capLo_un p0 (Int.le_trans q0 gq) q1).1
end Go.Proofs.Ytiphdhpacklboaa
