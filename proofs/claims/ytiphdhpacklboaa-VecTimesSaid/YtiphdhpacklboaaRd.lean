/- Plain facts: sequences of rational numbers in place of real ones; roots. -/
import Derived.Test.YtiphdhpacklboaaRc
namespace Go.Dy

/-- Two sequences come together. -/
def Near (x y : Nat → Rat) : Prop := ∀ e : Rat, 0 < e → ∃ N : Nat, ∀ n, N ≤ n → -e ≤ x n - y n ∧ x n - y n ≤ e
/-- An interval has each number of a sequence. -/
def HasS (p : Int × Int) (x : Nat → Rat) : Prop := ∀ n, Has p (x n)
def Bnd (x : Nat → Rat) : Prop := ∃ M : Rat, 0 < M ∧ ∀ n, -M ≤ x n ∧ x n ≤ M
section
variable {x y z x' y' : Nat → Rat}
theorem Near.refl (x : Nat → Rat) : Near x x := fun e he => ⟨0, fun n _ => ⟨by grind, by grind⟩⟩
theorem near_eq (h : ∀ n, x n = y n) : Near x y := fun e he => ⟨0, fun n _ => by rw [h n]; exact ⟨by grind, by grind⟩⟩
theorem Near.symm (h : Near x y) : Near y x := fun e he => by
  obtain ⟨N, k⟩ := h e he
  exact ⟨N, fun n hn => by have := k n hn; exact ⟨by grind, by grind⟩⟩
theorem Near.trans (h : Near x y) (k : Near y z) : Near x z := fun e he => by
  obtain ⟨N, a⟩ := h (e / 2) (by grind)
  obtain ⟨M, b⟩ := k (e / 2) (by grind)
  exact ⟨N + M, fun n hn => by have := a n (by omega); have := b n (by omega); exact ⟨by grind, by grind⟩⟩
theorem near_add (h : Near x x') (k : Near y y') : Near (fun n => x n + y n) (fun n => x' n + y' n) := fun e he => by
  obtain ⟨N, a⟩ := h (e / 2) (by grind)
  obtain ⟨M, b⟩ := k (e / 2) (by grind)
  exact ⟨N + M, fun n hn => by have := a n (by omega); have := b n (by omega); exact ⟨by grind, by grind⟩⟩
theorem near_sub (h : Near x x') (k : Near y y') : Near (fun n => x n - y n) (fun n => x' n - y' n) := fun e he => by
  obtain ⟨N, a⟩ := h (e / 2) (by grind)
  obtain ⟨M, b⟩ := k (e / 2) (by grind)
  exact ⟨N + M, fun n hn => by have := a n (by omega); have := b n (by omega); exact ⟨by grind, by grind⟩⟩
theorem near_mul (h : Near x x') (k : Near y y') (bx : Bnd x) (by' : Bnd y') : Near (fun n => x n * y n) (fun n => x' n * y' n) := fun e he => by
  obtain ⟨A, a0, a⟩ := bx
  obtain ⟨B, b0, b⟩ := by'
  have p1 : 0 < e / 2 / A := by rw [Rat.div_def]; exact Rat.mul_pos (by grind) (Rat.inv_pos.2 a0)
  have p2 : 0 < e / 2 / B := by rw [Rat.div_def]; exact Rat.mul_pos (by grind) (Rat.inv_pos.2 b0)
  obtain ⟨N, c⟩ := h (e / 2 / B) p2
  obtain ⟨M, d⟩ := k (e / 2 / A) p1
  refine ⟨N + M, fun n hn => ?_⟩
  obtain ⟨c1, c2⟩ := c n (by omega); obtain ⟨d1, d2⟩ := d n (by omega)
  obtain ⟨a1, a2⟩ := a n; obtain ⟨b1, b2⟩ := b n
  have t1 := mul_abs_le (x := x n) (y := y n - y' n) a1 a2 d1 d2
  have t2 := mul_abs_le (x := y' n) (y := x n - x' n) b1 b2 c1 c2
  have t3 := mul_abs_le (x := -x n) (y := y n - y' n) (m := A) (by grind) (by grind) d1 d2
  have t4 := mul_abs_le (x := -y' n) (y := x n - x' n) (m := B) (by grind) (by grind) c1 c2
  have e1 : A * (e / 2 / A) = e / 2 := by have : e / 2 / A * A = e / 2 := Rat.div_mul_cancel (by grind); grind
  have e2 : B * (e / 2 / B) = e / 2 := by have : e / 2 / B * B = e / 2 := Rat.div_mul_cancel (by grind); grind
  rw [e1] at t1 t3; rw [e2] at t2 t4
  exact ⟨by grind, by grind⟩
/-- A quotient, the divisors away from 0. -/
theorem near_inv {d : Rat} (d0 : 0 < d) (h : Near y y') (k : ∀ n, d ≤ y n) (k' : ∀ n, d ≤ y' n) : Near (fun n => 1 / y n) (fun n => 1 / y' n) := fun e he => by
  have dd := Rat.mul_pos d0 d0
  obtain ⟨N, a⟩ := h (e * (d * d)) (Rat.mul_pos he dd)
  refine ⟨N, fun n hn => ?_⟩
  obtain ⟨a1, a2⟩ := a n hn
  have k1 := k n; have k2 := k' n
  have y0 : 0 < y n := by grind
  have y1 : 0 < y' n := by grind
  have yy := Rat.mul_pos y0 y1
  have l1 := Rat.mul_le_mul_of_nonneg_left k2 (show 0 ≤ y n by grind)
  have l2 := Rat.mul_le_mul_of_nonneg_right k1 (show 0 ≤ d by grind)
  have l3 := Rat.mul_le_mul_of_nonneg_left (show d * d ≤ y n * y' n by grind) (show 0 ≤ e by grind)
  have i1 : 1 / y n * y n = 1 := Rat.div_mul_cancel (by grind)
  have i2 : 1 / y' n * y' n = 1 := Rat.div_mul_cancel (by grind)
  have q : (1 / y n - 1 / y' n) * (y n * y' n) = y' n - y n := by grind
  constructor
  · exact Rat.le_of_mul_le_mul_right (by grind) yy
  · exact Rat.le_of_mul_le_mul_right (by grind) yy
theorem bnd_inv {d : Rat} (d0 : 0 < d) (k : ∀ n, d ≤ y n) : Bnd (fun n => 1 / y n) := by
  refine ⟨1 / d, by rw [Rat.div_def, Rat.one_mul]; exact Rat.inv_pos.2 d0, fun n => ?_⟩
  have k1 := k n
  have y0 : 0 < y n := by grind
  have i1 : 1 / y n * y n = 1 := Rat.div_mul_cancel (by grind)
  have i2 : 1 / d * d = 1 := Rat.div_mul_cancel (by grind)
  have p : 0 < 1 / d := by rw [Rat.div_def, Rat.one_mul]; exact Rat.inv_pos.2 d0
  have p' : 0 < 1 / y n := by rw [Rat.div_def, Rat.one_mul]; exact Rat.inv_pos.2 y0
  refine ⟨by grind, quo_le y0 ?_⟩
  have := Rat.mul_le_mul_of_nonneg_left k1 (show 0 ≤ 1 / d by grind)
  grind
theorem near_div {d : Rat} (d0 : 0 < d) (h : Near x x') (g : Near y y') (k : ∀ n, d ≤ y n) (k' : ∀ n, d ≤ y' n) (bx : Bnd x) : Near (fun n => x n / y n) (fun n => x' n / y' n) := by
  have t := near_mul h (near_inv d0 g k k') bx (bnd_inv d0 k')
  refine (near_eq (fun n => ?_)).trans (t.trans (near_eq (fun n => ?_)))
  · have := k n; grind
  · have := k' n; grind
theorem near_max (h : Near x x') (k : Near y y') : Near (fun n => max (x n) (y n)) (fun n => max (x' n) (y' n)) := fun e he => by
  obtain ⟨N, a⟩ := h e he
  obtain ⟨M, b⟩ := k e he
  exact ⟨N + M, fun n hn => by have := a n (by omega); have := b n (by omega); exact ⟨by grind, by grind⟩⟩
theorem near_min (h : Near x x') (k : Near y y') : Near (fun n => min (x n) (y n)) (fun n => min (x' n) (y' n)) := fun e he => by
  obtain ⟨N, a⟩ := h e he
  obtain ⟨M, b⟩ := k e he
  exact ⟨N + M, fun n hn => by have := a n (by omega); have := b n (by omega); exact ⟨by grind, by grind⟩⟩
/-- What is not above 0 nor below it squares to no less. -/
theorem near_of_sq (hx : ∀ n, 0 ≤ x n) (hy : ∀ n, 0 ≤ y n) (h : Near (fun n => x n * x n) (fun n => y n * y n)) : Near x y := fun e he => by
  obtain ⟨N, a⟩ := h (e * e) (Rat.mul_pos he he)
  refine ⟨N, fun n hn => ?_⟩
  obtain ⟨a1, a2⟩ := a n hn
  have x0 := hx n; have y0 := hy n
  constructor
  · by_cases c : -e ≤ x n - y n
    · exact c
    · have c' : e < y n - x n := by grind
      have t1 := Rat.mul_lt_mul_of_pos_left c' he
      have t2 := Rat.mul_le_mul_of_nonneg_left (show e ≤ y n + x n by grind) (show 0 ≤ y n - x n by grind)
      grind
  · by_cases c : x n - y n ≤ e
    · exact c
    · have c' : e < x n - y n := by grind
      have t1 := Rat.mul_lt_mul_of_pos_left c' he
      have t2 := Rat.mul_le_mul_of_nonneg_left (show e ≤ y n + x n by grind) (show 0 ≤ x n - y n by grind)
      grind
theorem near_le {a b : Rat} (h : Near x y) (ha : ∀ n, x n ≤ a) (hb : ∀ n, b ≤ y n) : b ≤ a := by
  by_cases c : b ≤ a
  · exact c
  · obtain ⟨N, k⟩ := h ((b - a) / 2) (by grind)
    have := k N (Nat.le_refl _); have := ha N; have := hb N
    grind
/-- A sequence that is nearly not above another one. -/
def NLe (x y : Nat → Rat) : Prop := ∀ e : Rat, 0 < e → ∃ N : Nat, ∀ n, N ≤ n → x n - y n ≤ e
theorem nle_of (h : ∀ n, x n ≤ y n) : NLe x y := fun e he => ⟨0, fun n _ => by have := h n; grind⟩
theorem Near.nle (h : Near x y) : NLe x y := fun e he => by obtain ⟨N, k⟩ := h e he; exact ⟨N, fun n hn => (k n hn).2⟩
theorem NLe.trans (h : NLe x y) (k : NLe y z) : NLe x z := fun e he => by
  obtain ⟨N, a⟩ := h (e / 2) (by grind)
  obtain ⟨M, b⟩ := k (e / 2) (by grind)
  exact ⟨N + M, fun n hn => by have := a n (by omega); have := b n (by omega); grind⟩
theorem nle_le {a b : Rat} (h : NLe y x) (ha : ∀ n, x n ≤ a) (hb : ∀ n, b ≤ y n) : b ≤ a := by
  by_cases c : b ≤ a
  · exact c
  · obtain ⟨N, k⟩ := h ((b - a) / 2) (by grind)
    have := k N (Nat.le_refl _); have := ha N; have := hb N
    grind
end
theorem HasS.bnd {p : Int × Int} {x : Nat → Rat} (h : HasS p x) : Bnd x := by
  refine ⟨max (max (-val p.1) (val p.2)) 1, by grind, fun n => ?_⟩
  have := (h n).lo; have := (h n).hi
  exact ⟨by grind, by grind⟩
theorem bnd_of {x : Nat → Rat} {a b : Rat} (h : ∀ n, a ≤ x n ∧ x n ≤ b) : Bnd x :=
  ⟨max (max (-a) b) 1, by grind, fun n => by have := h n; exact ⟨by grind, by grind⟩⟩
theorem hasS_const {p : Int × Int} {x : Rat} (h : Has p x) : HasS p (fun _ => x) := fun _ => h
theorem meets_of {p q : Int × Int} {x y : Nat → Rat} (h : HasS p x) (k : HasS q y) (n : Near x y) : p.1 ≤ q.2 ∧ q.1 ≤ p.2 :=
  ⟨val_le.1 (near_le (x := y) (y := x) n.symm (fun n => (k n).hi) (fun n => (h n).lo)), val_le.1 (near_le n (fun n => (h n).hi) (fun n => (k n).lo))⟩

/-! Roots -/
theorem nat_le {m n : Nat} (h : m ≤ n) : ((m : Nat) : Rat) ≤ ((n : Nat) : Rat) := Rat.intCast_le_intCast.2 (Int.ofNat_le.2 h)
theorem nat_nonneg (n : Nat) : (0 : Rat) ≤ ((n : Nat) : Rat) := nat_le (Nat.zero_le n)
theorem arch {e : Rat} (he : 0 < e) : ∃ N : Nat, 1 ≤ e * ((N : Nat) : Rat) := by
  have i : 0 < 1 / e := by rw [Rat.div_def, Rat.one_mul]; exact Rat.inv_pos.2 he
  have c := Rat.le_ceil (x := 1 / e)
  have c0 : (0 : Int) < (1 / e).ceil := Rat.lt_ceil_iff.2 i
  refine ⟨(1 / e).ceil.toNat, ?_⟩
  have k : (((1 / e).ceil.toNat : Nat) : Rat) = (((1 / e).ceil : Int) : Rat) := congrArg (fun x : Int => (x : Rat)) (show (((1 / e).ceil.toNat : Nat) : Int) = (1 / e).ceil by omega)
  rw [k]
  have m := Rat.mul_le_mul_of_nonneg_left c (show 0 ≤ e by grind)
  have o : 1 / e * e = 1 := Rat.div_mul_cancel (by grind)
  grind
theorem two_pow (k : Nat) : ((k : Nat) : Rat) + 1 ≤ (2 : Rat) ^ k := by
  induction k with
  | zero => simp; decide +kernel
  | succ k ih =>
    rw [Rat.pow_succ]
    have e : ((k + 1 : Nat) : Rat) = ((k : Nat) : Rat) + 1 := by simp
    have : (0 : Rat) ≤ ((k : Nat) : Rat) := by
      exact nat_nonneg k
    rw [e]; grind
theorem bisect {x lo hi : Rat} (_h0 : 0 ≤ lo) (h1 : lo * lo ≤ x) (h2 : x ≤ hi * hi) (h3 : lo ≤ hi) (k : Nat) :
    ∃ a b : Rat, lo ≤ a ∧ b ≤ hi ∧ a ≤ b ∧ a * a ≤ x ∧ x ≤ b * b ∧ (b - a) * (2 : Rat) ^ k = hi - lo := by
  induction k with
  | zero => exact ⟨lo, hi, by grind, by grind, h3, h1, h2, by rw [Rat.pow_zero]; grind⟩
  | succ k ih =>
    obtain ⟨a, b, e1, e2, e3, e4, e5, e6⟩ := ih
    by_cases c : (a + b) / 2 * ((a + b) / 2) ≤ x
    · exact ⟨(a + b) / 2, b, by grind, e2, by grind, c, e5, by rw [Rat.pow_succ, ← e6]; grind⟩
    · exact ⟨a, (a + b) / 2, e1, by grind, by grind, e4, by grind, by rw [Rat.pow_succ, ← e6]; grind⟩
/-- A root but for so little, from below and from above. -/
theorem root_near {x lo hi e : Rat} (h0 : 0 ≤ lo) (h1 : lo * lo ≤ x) (h2 : x ≤ hi * hi) (h3 : lo ≤ hi) (he : 0 < e) :
    ∃ a b : Rat, lo ≤ a ∧ b ≤ hi ∧ a ≤ b ∧ a * a ≤ x ∧ x ≤ b * b ∧ b * b - a * a ≤ e := by
  have C0 : 0 ≤ (hi - lo) * (2 * hi) := Rat.mul_nonneg (by grind) (by grind)
  have C1 : 0 < (hi - lo) * (2 * hi) + 1 := by grind
  have q : 0 < e / ((hi - lo) * (2 * hi) + 1) := by rw [Rat.div_def]; exact Rat.mul_pos he (Rat.inv_pos.2 C1)
  obtain ⟨k, hk⟩ := arch q
  obtain ⟨a, b, e1, e2, e3, e4, e5, e6⟩ := bisect h0 h1 h2 h3 k
  refine ⟨a, b, e1, e2, e3, e4, e5, ?_⟩
  have p := two_pow k
  have kp : (0 : Rat) ≤ ((k : Nat) : Rat) := by
    exact nat_nonneg k
  generalize (2 : Rat) ^ k = P at *
  generalize ((k : Nat) : Rat) = K at *
  have P0 : 0 < P := by grind
  have eq : e / ((hi - lo) * (2 * hi) + 1) * ((hi - lo) * (2 * hi) + 1) = e := Rat.div_mul_cancel (by grind)
  -- C <= e * K <= e * P
  have s1 := Rat.mul_le_mul_of_nonneg_right hk (show 0 ≤ (hi - lo) * (2 * hi) + 1 by grind)
  have s2 := Rat.mul_le_mul_of_nonneg_left (show K ≤ P by grind) (show 0 ≤ e by grind)
  have s3 : (hi - lo) * (2 * hi) ≤ e * P := by
    have r1 : e / ((hi - lo) * (2 * hi) + 1) * K * ((hi - lo) * (2 * hi) + 1) = e * K := by rw [← eq]; grind
    grind
  have s4 : (b - a) * (b + a) * P = (hi - lo) * (b + a) := by rw [← e6]; grind
  have s5 := Rat.mul_le_mul_of_nonneg_left (show b + a ≤ 2 * hi by grind) (show 0 ≤ hi - lo by grind)
  have : (b * b - a * a) * P ≤ e * P := by grind
  exact Rat.le_of_mul_le_mul_right this P0
theorem inv_small {e : Rat} (he : 0 < e) : ∃ N : Nat, ∀ n, N ≤ n → 1 / (((n : Nat) : Rat) + 1) ≤ e := by
  obtain ⟨N, h⟩ := arch he
  refine ⟨N, fun n hn => ?_⟩
  have c : ((N : Nat) : Rat) ≤ ((n : Nat) : Rat) := by
    exact nat_le hn
  have kp : (0 : Rat) ≤ ((N : Nat) : Rat) := by
    exact nat_nonneg N
  have := Rat.mul_le_mul_of_nonneg_left c (show 0 ≤ e by grind)
  exact quo_le (by grind) (by grind)
theorem inv_pos' (n : Nat) : (0 : Rat) < 1 / (((n : Nat) : Rat) + 1) := by
  have kp : (0 : Rat) ≤ ((n : Nat) : Rat) := by
    exact nat_nonneg n
  rw [Rat.div_def, Rat.one_mul]; exact Rat.inv_pos.2 (by grind)
/-- The root of an interval has roots, from below and from above. -/
theorem root_seq {p s : Int × Int} {x : Nat → Rat} (hp : Rk p) (h : Got (cSqrt 0 (E p)) s) (a : HasS p x) :
    ∃ r t : Nat → Rat, (∀ n, 0 ≤ r n ∧ r n ≤ t n ∧ r n * r n ≤ x n ∧ x n ≤ t n * t n) ∧ HasS s r ∧ HasS s t ∧ Near (fun n => r n * r n) x ∧ Near (fun n => t n * t n) x := by
  have h0 : 0 ≤ p.1 := by
    by_cases c : 0 ≤ p.1
    · exact c
    · rw [cSqrt_neg hp (by omega)] at h; exact absurd h.e0 (by decide)
  have hl := hp.le
  have := h.uniq (got_sqrt hp h0)
  subst this
  obtain ⟨r0, r1⟩ := root_dn h0
  obtain ⟨t0, t1⟩ := root_up (a := p.2) (by omega)
  have le := val_le.2 (Int.le_trans (sqz_mono (up := false) h0 hl) (sqz_le_up p.2))
  have k : ∀ n : Nat, ∃ ab : Rat × Rat, val (sqz p.1 false) ≤ ab.1 ∧ ab.2 ≤ val (sqz p.2 true) ∧ ab.1 ≤ ab.2 ∧ ab.1 * ab.1 ≤ x n ∧ x n ≤ ab.2 * ab.2 ∧ ab.2 * ab.2 - ab.1 * ab.1 ≤ 1 / (((n : Nat) : Rat) + 1) := fun n => by
    have a1 := (a n).lo; have a2 := (a n).hi
    obtain ⟨u, v, k⟩ := root_near (x := x n) r0 (by grind) (by grind) le (inv_pos' n)
    exact ⟨(u, v), k⟩
  refine ⟨fun n => (Classical.choose (k n)).1, fun n => (Classical.choose (k n)).2, fun n => ?_, fun n => ?_, fun n => ?_, fun e he => ?_, fun e he => ?_⟩
  · have := Classical.choose_spec (k n); exact ⟨by grind, by grind, by grind, by grind⟩
  · have := Classical.choose_spec (k n); exact ⟨by dsimp only; grind, by dsimp only; grind⟩
  · have := Classical.choose_spec (k n); exact ⟨by dsimp only; grind, by dsimp only; grind⟩
  · obtain ⟨N, hN⟩ := inv_small he
    refine ⟨N, fun n hn => ?_⟩
    have := Classical.choose_spec (k n); have := hN n hn
    exact ⟨by grind, by grind⟩
  · obtain ⟨N, hN⟩ := inv_small he
    refine ⟨N, fun n hn => ?_⟩
    have := Classical.choose_spec (k n); have := hN n hn
    exact ⟨by grind, by grind⟩
end Go.Dy
