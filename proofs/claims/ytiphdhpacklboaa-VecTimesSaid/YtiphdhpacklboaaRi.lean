/- Plain facts: sequences that come together and are bounded. -/
import Derived.Test.YtiphdhpacklboaaRd
namespace Go.Dy
structure Nr (x y : Nat → Rat) : Prop where
  n : Near x y
  bx : Bnd x
  by' : Bnd y
section
variable {x y z x' y' : Nat → Rat}
theorem bnd_add (h : Bnd x) (k : Bnd y) : Bnd (fun n => x n + y n) := by
  obtain ⟨A, a0, a⟩ := h
  obtain ⟨B, b0, b⟩ := k
  exact ⟨A + B, by grind, fun n => by have := a n; have := b n; exact ⟨by grind, by grind⟩⟩
theorem bnd_sub (h : Bnd x) (k : Bnd y) : Bnd (fun n => x n - y n) := by
  obtain ⟨A, a0, a⟩ := h
  obtain ⟨B, b0, b⟩ := k
  exact ⟨A + B, by grind, fun n => by have := a n; have := b n; exact ⟨by grind, by grind⟩⟩
theorem bnd_mul (h : Bnd x) (k : Bnd y) : Bnd (fun n => x n * y n) := by
  obtain ⟨A, a0, a⟩ := h
  obtain ⟨B, b0, b⟩ := k
  refine ⟨A * B, Rat.mul_pos a0 b0, fun n => ?_⟩
  obtain ⟨a1, a2⟩ := a n; obtain ⟨b1, b2⟩ := b n
  have t1 := mul_abs_le a1 a2 b1 b2
  have t2 := mul_abs_le (x := -x n) (m := A) (by grind) (by grind) b1 b2
  exact ⟨by grind, by grind⟩
theorem bnd_eq (e : ∀ n, x n = y n) (h : Bnd x) : Bnd y := by
  obtain ⟨A, a0, a⟩ := h
  exact ⟨A, a0, fun n => by rw [← e n]; exact a n⟩
theorem bnd_div {d : Rat} (d0 : 0 < d) (k : ∀ n, d ≤ y n) (h : Bnd x) : Bnd (fun n => x n / y n) :=
  bnd_eq (x := fun n => x n * (1 / y n)) (fun n => by have := k n; grind) (bnd_mul h (bnd_inv d0 k))
theorem bnd_const (a : Rat) : Bnd (fun _ => a) := bnd_of (a := a) (b := a) fun _ => ⟨by grind, by grind⟩
theorem nr_const (a : Rat) : Nr (fun _ => a) (fun _ => a) := ⟨Near.refl _, bnd_const a, bnd_const a⟩
theorem Nr.symm (h : Nr x y) : Nr y x := ⟨h.n.symm, h.by', h.bx⟩
theorem Nr.trans (h : Nr x y) (k : Nr y z) : Nr x z := ⟨h.n.trans k.n, h.bx, k.by'⟩
theorem nr_eq (e : ∀ n, x n = y n) (h : Bnd x) : Nr x y := ⟨near_eq e, h, bnd_eq e h⟩
theorem Nr.eqR (h : Nr x y) (e : ∀ n, y n = z n) : Nr x z := h.trans (nr_eq e h.by')
theorem Nr.eqL (h : Nr y z) (e : ∀ n, y n = x n) : Nr x z := (nr_eq e h.bx).symm.trans h
theorem nr_add (h : Nr x x') (k : Nr y y') : Nr (fun n => x n + y n) (fun n => x' n + y' n) := ⟨near_add h.n k.n, bnd_add h.bx k.bx, bnd_add h.by' k.by'⟩
theorem nr_sub (h : Nr x x') (k : Nr y y') : Nr (fun n => x n - y n) (fun n => x' n - y' n) := ⟨near_sub h.n k.n, bnd_sub h.bx k.bx, bnd_sub h.by' k.by'⟩
theorem nr_mul (h : Nr x x') (k : Nr y y') : Nr (fun n => x n * y n) (fun n => x' n * y' n) := ⟨near_mul h.n k.n h.bx k.by', bnd_mul h.bx k.bx, bnd_mul h.by' k.by'⟩
theorem nr_div {d : Rat} (h : Nr x x') (k : Nr y y') (d0 : 0 < d) (l : ∀ n, d ≤ y n) (l' : ∀ n, d ≤ y' n) : Nr (fun n => x n / y n) (fun n => x' n / y' n) :=
  ⟨near_div d0 h.n k.n l l' h.bx, bnd_div d0 l h.bx, bnd_div d0 l' h.by'⟩
theorem bnd_max (h : Bnd x) (k : Bnd y) : Bnd (fun n => max (x n) (y n)) := by
  obtain ⟨A, a0, a⟩ := h
  obtain ⟨B, b0, b⟩ := k
  exact ⟨A + B, by grind, fun n => by have := a n; have := b n; exact ⟨by grind, by grind⟩⟩
theorem bnd_min (h : Bnd x) (k : Bnd y) : Bnd (fun n => min (x n) (y n)) := by
  obtain ⟨A, a0, a⟩ := h
  obtain ⟨B, b0, b⟩ := k
  exact ⟨A + B, by grind, fun n => by have := a n; have := b n; exact ⟨by grind, by grind⟩⟩
theorem nr_max (h : Nr x x') (k : Nr y y') : Nr (fun n => max (x n) (y n)) (fun n => max (x' n) (y' n)) := ⟨near_max h.n k.n, bnd_max h.bx k.bx, bnd_max h.by' k.by'⟩
theorem nr_min (h : Nr x x') (k : Nr y y') : Nr (fun n => min (x n) (y n)) (fun n => min (x' n) (y' n)) := ⟨near_min h.n k.n, bnd_min h.bx k.bx, bnd_min h.by' k.by'⟩
/-- Roots of what comes together. -/
theorem bnd_root (h : Bnd (fun n => x n * x n)) : Bnd x := by
  obtain ⟨A, a0, a⟩ := h
  refine ⟨A + 1, by grind, fun n => ?_⟩
  obtain ⟨a1, a2⟩ := a n
  have sq : ∀ {u : Rat}, 0 ≤ u → u * u ≤ A → u ≤ A + 1 := fun {u} h k => by
    by_cases c : u ≤ A + 1
    · exact c
    · have := Rat.mul_le_mul_of_nonneg_left (show A + 1 ≤ u by grind) h
      have := Rat.mul_le_mul_of_nonneg_right (show 1 ≤ A + 1 by grind) h
      grind
  by_cases c : 0 ≤ x n
  · exact ⟨by grind, sq c a2⟩
  · have := sq (u := -x n) (by grind) (by grind)
    exact ⟨by grind, by grind⟩
theorem nr_root (hx : ∀ n, 0 ≤ x n) (hy : ∀ n, 0 ≤ y n) (h : Nr (fun n => x n * x n) (fun n => y n * y n)) : Nr x y := ⟨near_of_sq hx hy h.n, bnd_root h.bx, bnd_root h.by'⟩
end
theorem HasS.nr {p : Int × Int} {x y : Nat → Rat} (h : HasS p x) (n : Near x y) (b : Bnd y) : Nr x y := ⟨n, h.bnd, b⟩
end Go.Dy
namespace Go.Dy
section
variable {p q : Int × Int} {L H w : Rat}
/-- A root of what may be 0. -/
theorem bd_sqrt0 (B h : Rat) (hp : Bd p L H w) (h0 : 0 ≤ p.1) (c : 0 ≤ h ∧ H ≤ h * h ∧ h + rr h ≤ B ∧ B ≤ 2037035976334486086268445688409378161051468393665936250636140449354381299763336706183397376) : ∃ s, Got (cSqrt 0 (E p)) s ∧ Bd s 0 B B := by
  obtain ⟨ch, c2, c4, c9⟩ := c
  have p2 := hp.hi
  have hl := hp.rk.le
  rw [cSqrt_E hp.rk h0]
  obtain ⟨a0, a1⟩ := root_dn (a := p.1) h0
  obtain ⟨b0, b1⟩ := root_up (a := p.2) (by omega)
  have hB : val (sqz p.2 true) ≤ B := by
    by_cases bpos : 0 < sqz p.2 true
    · have bp := root_prev (a := p.2) (by omega) bpos
      have u0 : 0 ≤ val (sqz p.2 true - 1) := by rw [← val_zero]; exact val_le.2 (by omega)
      have g2 := gap_pos (z := sqz p.2 true - 1) (by omega)
      rw [show sqz p.2 true - 1 + 1 = sqz p.2 true by omega] at g2
      have uh : val (sqz p.2 true - 1) ≤ h := sq_le_sq u0 ch (by grind)
      have uu0 : 0 ≤ uu := by unfold uu; decide +kernel
      have k1 := Rat.mul_le_mul_of_nonneg_right uh uu0
      have kr := rr_ge h
      grind
    · have e : sqz p.2 true = 0 := by have := sqz_nonneg p.2 true; omega
      have r0 : 0 ≤ rr h := by
        have := rr_ge h
        have uu0 : 0 ≤ uu := by unfold uu; decide +kernel
        have := Rat.mul_nonneg ch uu0
        have e0 : 0 ≤ ee := by unfold ee; rw [Rat.div_def, Rat.one_mul]; have := Rat.inv_pos.2 S1_pos; grind
        grind
      rw [e, val_zero]; grind
  have hle := val_le.2 (Int.le_trans (sqz_mono (up := false) h0 hl) (sqz_le_up p.2))
  exact got_ends (by exact a0) hB hle (by grind) (by decide +kernel) c9
/-- No less than 0. -/
def rMax0 (p : Int × Int) : Int × Int := (max p.1 0, max p.2 0)
theorem bd_max0 (A B : Rat) (hp : Bd p L H w) (c : 0 ≤ B ∧ H ≤ B ∧ (A ≤ L ∨ A ≤ 0)) : (dmax (E p).1 0, dmax (E p).2 0) = E (rMax0 p) ∧ Bd (rMax0 p) A B w := by
  obtain ⟨c1, c2, c3⟩ := c
  have p1 := hp.lo; have p2 := hp.hi; have p3 := hp.wd; have p4 := hp.le
  have l := hp.rk.le
  have e : (dmax (E p).1 0, dmax (E p).2 0) = E (rMax0 p) := by
    show (dmax (enc p.1) (enc 0), dmax (enc p.2) (enc 0)) = _
    rw [dmax_enc hp.rk.lo ok_zero, dmax_enc hp.rk.hi ok_zero]; rfl
  refine ⟨e, ⟨ok_max2 hp.rk.lo ok_zero, ok_max2 hp.rk.hi ok_zero, by unfold rMax0; dsimp only; omega⟩, ?_, ?_, ?_⟩
  · show A ≤ val (max p.1 0); rw [val_max, val_zero]; rcases c3 with c3 | c3 <;> grind
  · show val (max p.2 0) ≤ B; rw [val_max, val_zero]; grind
  · show val (max p.2 0) - val (max p.1 0) ≤ w; rw [val_max, val_max, val_zero]; grind
theorem has_max0 {x : Rat} (h : Has p x) (h0 : 0 ≤ x) : Has (rMax0 p) x := by
  have a := h.lo; have b := h.hi
  constructor
  · show val (max p.1 0) ≤ x; rw [val_max, val_zero]; grind
  · show x ≤ val (max p.2 0); rw [val_max, val_zero]; grind
/-- 1 less a square of what is within 1 is not below 0. -/
theorem one_sub_sqr {c s d : Int × Int} (hc : Rk c) (w : Wi c (0, 4607182418800017408)) (h : Got (cSqr 0 (E c)) s) (k : Got (cSub 0 (E (4607182418800017408, 4607182418800017408)) (E s)) d) : 0 ≤ d.1 := by
  have r1 : Rk (0, 4607182418800017408) := ⟨ok_zero, ok_B (by decide) (by decide), by decide⟩
  have r2 : Rk (4607182418800017408, 4607182418800017408) := ⟨ok_B (by decide) (by decide), ok_B (by decide) (by decide), by decide⟩
  have g1 : Got (cSqr 0 (E (0, 4607182418800017408))) (0, 4607182418800017408) := ⟨by decide +kernel, r1⟩
  have g2 : Got (cSub 0 (E (4607182418800017408, 4607182418800017408)) (E (0, 4607182418800017408))) (0, 4607182418800017408) := ⟨by decide +kernel, r1⟩
  obtain ⟨s', hs', ws⟩ := mono_sqr r1 hc w g1
  have := hs'.uniq h
  subst this
  obtain ⟨d', hd', wd⟩ := mono_sub r2 r1 r2 h.rk (Wi.refl _) ws g2
  have := hd'.uniq k
  subst this
  exact wd.lo
end
end Go.Dy
