/- The law LambertRings: walk and plain law joined. -/
import Derived.Test.YtikiegcncliocaaLa19
import Derived.Test.YtikiegcncliocaaSw
namespace Go.Proofs.Ytikiegcncliocaa
open Go Go.RowKit

theorem le_trueR {x y : Int} (hx : Dy.ok x) (hy : Dy.ok y) (h : x ≤ y) : (Dy.flt (Dy.enc x) (Dy.enc y) || Dy.feq (Dy.enc x) (Dy.enc y)) = true := by
  rw [Dy.fle_enc hx hy]; exact decide_eq_true h
theorem fN_g {g : Nat → Nat → Option Nat} {a b r : Nat} (h : g a b = some r) (hr : r < W64) : fN g [.f a, .f b] = true := okF_some h hr
theorem getD_g {o : Option Nat} {b : Nat} (e : o = some b) : o.getD 0 = b := by rw [e]; rfl
theorem getD_gE {o : Option Nat} {b : Nat} (e : o = some b) : o.getD 0 = Dy.enc (b : Int) := by rw [e, Dy.enc_nat]; rfl
theorem point_R {z : Int} (h : Dy.ok z) : (Ieee.double.add (Dy.enc z) 0).getD 0 = Dy.enc z ∧ (fN Ieee.double.add) [.f (Dy.enc z), .f 0] = true :=
  ⟨by rw [Dy.add_zero h]; rfl, okF_some (Dy.add_zero h) (Dy.W_enc h)⟩
/-- A part of a whole, as a float64. -/
def cfr (i n : Int) : Option Nat := Ieee.double.div (FloatKind.f64.nearest i) (FloatKind.f64.nearest n)
def chkC (n i : Nat) : Bool := decide (FloatKind.f64.nearest (i : Int) < W64) && decide (FloatKind.f64.nearest ((i : Int) + 1) < W64) && match cfr i n, cfr ((i : Int) + 1) n with
  | some b, some b' => decide (b ≤ b') && (decide (b' ≤ 4607182418800017408) && decide ((Dy.V (b' : Int) - Dy.V (b : Int)) * (n : Int) * 4503599627370496 ≤ (Dy.one : Int) * (4503599627370496 + (n : Int))))
  | _, _ => false
def chkN (m : Nat) : Bool := (cfr ((m : Int) + 1) ((m : Int) + 1) == some 4607182418800017408) && (decide (FloatKind.f64.nearest ((m : Int) + 1) ≤ 4634204016564240384) && decide (Dy.V (FloatKind.f64.nearest ((m : Int) + 1) : Int) = ((m : Int) + 1) * (Dy.one : Int)))
theorem chk_all : ((List.range 64).all fun m => (List.range (m + 1)).all (chkC (m + 1)) && chkN m) = true := by decide +kernel
theorem chk_of {n i : Nat} (h : i < n) (hn : n ≤ 64) : chkC n i = true ∧ cfr n n = some 4607182418800017408 ∧ FloatKind.f64.nearest (n : Int) ≤ 4634204016564240384 ∧ Dy.V (FloatKind.f64.nearest (n : Int) : Int) = (n : Int) * (Dy.one : Int) := by
  obtain ⟨m, rfl⟩ : ∃ m, n = m + 1 := ⟨n - 1, by omega⟩
  have a := List.all_eq_true.1 chk_all m (List.mem_range.2 (by omega))
  rw [Bool.and_eq_true] at a
  have b := a.2
  unfold chkN at b
  rw [Bool.and_eq_true, Bool.and_eq_true, beq_iff_eq] at b
  exact ⟨List.all_eq_true.1 a.1 i (List.mem_range.2 h), b.1, of_decide_eq_true b.2.1, of_decide_eq_true b.2.2⟩
theorem ci_of {n i : Nat} (h : i < n) (hn : n ≤ 64) : ∃ b b' : Nat, FloatKind.f64.nearest (i : Int) < W64 ∧ FloatKind.f64.nearest ((i : Int) + 1) < W64 ∧ Ieee.double.div (FloatKind.f64.nearest (i : Int)) (FloatKind.f64.nearest (n : Int)) = some b ∧ Ieee.double.div (FloatKind.f64.nearest ((i : Int) + 1)) (FloatKind.f64.nearest (n : Int)) = some b' ∧ b ≤ b' ∧ b' ≤ 4607182418800017408 ∧ (Dy.V (b' : Int) - Dy.V (b : Int)) * (n : Int) * 4503599627370496 ≤ (Dy.one : Int) * (4503599627370496 + (n : Int)) := by
  have c := (chk_of h hn).1
  unfold chkC at c
  rw [Bool.and_eq_true, Bool.and_eq_true] at c
  obtain ⟨⟨c1, c2⟩, c3⟩ := c
  have w1 := of_decide_eq_true c1; have w2 := of_decide_eq_true c2
  cases e1 : cfr i n with
  | none => rw [e1] at c3; cases c3
  | some b =>
    cases e2 : cfr ((i : Int) + 1) n with
    | none => rw [e1, e2] at c3; cases c3
    | some b' =>
      rw [e1, e2] at c3
      have c3 : (decide (b ≤ b') && (decide (b' ≤ 4607182418800017408) && decide ((Dy.V (b' : Int) - Dy.V (b : Int)) * (n : Int) * 4503599627370496 ≤ (Dy.one : Int) * (4503599627370496 + (n : Int))))) = true := c3
      rw [Bool.and_eq_true, Bool.and_eq_true] at c3
      exact ⟨b, b', w1, w2, e1, e2, of_decide_eq_true c3.1, of_decide_eq_true c3.2.1, of_decide_eq_true c3.2.2⟩
/-- The cosine of a ring's lower edge, its rank. -/
def cz (n i : Nat) : Nat := (Ieee.double.div (FloatKind.f64.nearest (i : Int)) (FloatKind.f64.nearest (n : Int))).getD 0
theorem lt64 {b c : Nat} (h : b ≤ c) (k : c ≤ 4607182418800017408) : b < W64 := by unfold W64; omega
theorem cast_le {b c : Nat} (h : b ≤ c) : (b : Int) ≤ (c : Int) := by omega
theorem cast_le1 {c : Nat} (h : c ≤ 4607182418800017408) : (c : Int) ≤ 4607182418800017408 := by omega
theorem cz_eq {n i b : Nat} (e : Ieee.double.div (FloatKind.f64.nearest (i : Int)) (FloatKind.f64.nearest (n : Int)) = some b) : cz n i = b := getD_g e
theorem cz_eq1 {n i b : Nat} (e : Ieee.double.div (FloatKind.f64.nearest ((i : Int) + 1)) (FloatKind.f64.nearest (n : Int)) = some b) : cz n (i + 1) = b := by
  have k : ((i + 1 : Nat) : Int) = (i : Int) + 1 := by omega
  exact cz_eq (by rw [k]; exact e)
/-- How wide a ring is at most. -/
def dlt (n : Nat) : Rat := 1 / (n : Rat) + 1 / 4503599627370496
theorem dl_of {n : Nat} {b b' : Int} (n0 : 0 < n) (h : (Dy.V b' - Dy.V b) * (n : Int) * 4503599627370496 ≤ (Dy.one : Int) * (4503599627370496 + (n : Int))) : Dy.val b' - Dy.val b ≤ dlt n := by
  have s := Dy.S1_pos
  have nr : (0 : Rat) < (n : Rat) := by exact_mod_cast n0
  have p : (((Dy.V b' - Dy.V b) * (n : Int) * 4503599627370496 : Int) : Rat) ≤ (((Dy.one : Int) * (4503599627370496 + (n : Int)) : Int) : Rat) := Rat.intCast_le_intCast.2 h
  rw [Rat.intCast_mul, Rat.intCast_mul, Rat.intCast_sub, Rat.intCast_mul, Rat.intCast_add, ← Dy.val_mul b', ← Dy.val_mul b] at p
  have p : (Dy.val b' * Dy.S1 - Dy.val b * Dy.S1) * (n : Rat) * 4503599627370496 ≤ Dy.S1 * (4503599627370496 + (n : Rat)) := p
  have np : (0 : Rat) < (n : Rat) * 4503599627370496 := Rat.mul_pos nr (by decide +kernel)
  have q : (Dy.val b' - Dy.val b) * ((n : Rat) * 4503599627370496) ≤ 4503599627370496 + (n : Rat) := by
    have e1 : ((Dy.val b' - Dy.val b) * ((n : Rat) * 4503599627370496)) * Dy.S1 ≤ (4503599627370496 + (n : Rat)) * Dy.S1 := by grind
    exact Rat.le_of_mul_le_mul_right e1 s
  have e : dlt n = (4503599627370496 + (n : Rat)) / ((n : Rat) * 4503599627370496) := by unfold dlt; grind
  rw [e]
  exact Dy.le_quo np q
theorem cz_lt {n i : Nat} (h : i < n) (hn : n ≤ 64) : (Ieee.double.div (FloatKind.f64.nearest (i : Int)) (FloatKind.f64.nearest (n : Int))).getD 0 = Dy.enc (cz n i : Int) ∧ (Ieee.double.div (FloatKind.f64.nearest ((i : Int) + 1)) (FloatKind.f64.nearest (n : Int))).getD 0 = Dy.enc (cz n (i + 1) : Int) ∧ fN Ieee.double.div [.f (FloatKind.f64.nearest (i : Int)), .f (FloatKind.f64.nearest (n : Int))] = true ∧ fN Ieee.double.div [.f (FloatKind.f64.nearest ((i : Int) + 1)), .f (FloatKind.f64.nearest (n : Int))] = true ∧ (cz n i : Int) ≤ (cz n (i + 1) : Int) ∧ (cz n (i + 1) : Int) ≤ 4607182418800017408 ∧ Dy.val (cz n (i + 1) : Int) - Dy.val (cz n i : Int) ≤ dlt n := by
  obtain ⟨b, b', _, _, e1, e2, h1, h2, h3⟩ := ci_of h hn
  rw [cz_eq e1, cz_eq1 e2]
  exact ⟨getD_gE e1, getD_gE e2, fN_g e1 (lt64 h1 h2), fN_g e2 (lt64 (Nat.le_refl _) h2), cast_le h1, cast_le1 h2, dl_of (by omega) h3⟩
theorem nN_lt {n i : Nat} (h : i < n) (hn : n ≤ 64) : nN [.i (i : Int)] = true ∧ nN [.i ((i : Int) + 1)] = true := by
  obtain ⟨b, b', w1, w2, _⟩ := ci_of h hn
  exact ⟨decide_eq_true w1, decide_eq_true w2⟩
theorem wrS {z : Int} (h0 : 0 ≤ z) (h1 : z < 1000) : IntKind.i64.wrap z = z := by rw [IntKind.wrap_i64]; omega
def rB (m : Nat) : Rat := 4 * (m : Rat) + 1
def rW (m : Nat) : Rat := ((m : Rat) + 1) / 2199023255552
theorem ms (m : Nat) : ((m + 1 : Nat) : Rat) = (m : Rat) + 1 := by exact_mod_cast rfl
theorem rB_s (m : Nat) : rB (m + 1) = rB m + 4 := by unfold rB; rw [ms]; grind
theorem rW_s (m : Nat) : rW (m + 1) = rW m + 1 / 2199023255552 := by unfold rW; rw [ms]; grind
theorem m_0 (m : Nat) : (0 : Rat) ≤ (m : Rat) := by exact_mod_cast Nat.zero_le m
theorem m_64 {m : Nat} (h : m ≤ 64) : (m : Rat) ≤ 64 := by exact_mod_cast h
theorem rB_1 (m : Nat) : 1 ≤ rB m := by unfold rB; have := m_0 m; grind
theorem rB_2 {m : Nat} (h : m ≤ 64) : rB m ≤ 300 := by unfold rB; have := m_64 h; grind
theorem rW_2 {m : Nat} (h : m ≤ 64) : rW m ≤ 65 / 2199023255552 := by
  unfold rW
  have := m_64 h
  refine Dy.quo_le (by decide +kernel) ?_
  have e : (65 / 2199023255552 : Rat) * 2199023255552 = 65 := by decide +kernel
  rw [e]; grind
theorem gap_end {r n k : Rat} (r0 : 0 ≤ r) (r1 : r ≤ 1) (n1 : 1 ≤ n) (n2 : n ≤ 64) (k0 : 0 ≤ k) : (n - k) * (2 * r * ((1 / n + 1 / 4503599627370496) * (1 / n + 1 / 4503599627370496))) ≤ 2 * r / n + 1 / 281474976710656 := by
  obtain ⟨y, hy⟩ : ∃ y, y = 1 / n := ⟨_, rfl⟩
  have ny : n * y = 1 := by rw [hy]; grind
  have e : 2 * r / n = 2 * r * y := by rw [hy]; grind
  rw [e, ← hy]
  have y0 : 0 ≤ y := by rw [hy]; exact Dy.le_quo (by grind) (by grind)
  have d0 : 0 ≤ (y + 1 / 4503599627370496) * (y + 1 / 4503599627370496) := sqS _
  have t0 := Rat.mul_nonneg (Rat.mul_nonneg (show (0 : Rat) ≤ 2 by decide +kernel) r0) d0
  have a := Rat.mul_nonneg k0 t0
  have b := Rat.mul_nonneg (show 0 ≤ 1 - r by grind) (show 0 ≤ n by grind)
  have c : n * (2 * r * ((y + 1 / 4503599627370496) * (y + 1 / 4503599627370496))) = 2 * r * y + 4 * r * (1 / 4503599627370496) + 2 * (r * n) * (1 / 4503599627370496 * (1 / 4503599627370496)) := by
    have : n * (y * y) = y := by rw [← Rat.mul_assoc, ny, Rat.one_mul]
    grind
  have f : (n - k) * (2 * r * ((y + 1 / 4503599627370496) * (y + 1 / 4503599627370496))) = n * (2 * r * ((y + 1 / 4503599627370496) * (y + 1 / 4503599627370496))) - k * (2 * r * ((y + 1 / 4503599627370496) * (y + 1 / 4503599627370496))) := by grind
  rw [f, c]
  grind
theorem dbl_of {z : Int} (h0 : 0 ≤ z) (h1 : z ≤ 4607182418800017408) (hz : z = 0 ∨ Dy.D52 ≤ z) : ∃ R : Int, Dy.ok R ∧ 0 ≤ R ∧ Dy.val R = 2 * Dy.val z ∧ Ieee.double.mul (Dy.enc z) 4611686018427387904 = some (Dy.enc R) := by
  have d : Dy.D52 = 4503599627370496 := rfl
  have t := Dy.top_eq
  rcases hz with rfl | hz
  · exact ⟨0, Dy.ok_zero, Int.le_refl _, by rw [Dy.val_zero]; grind, Dy.twice_zero⟩
  · refine ⟨z + Dy.D52, ⟨by omega, by omega⟩, by omega, ?_, Dy.twice_enc hz (by omega)⟩
    unfold Dy.val
    rw [Dy.V_dbl hz, Rat.intCast_mul]
    have := Dy.S1_pos
    show (2 : Rat) * _ / _ = _
    grind
theorem frac_R {u : Nat} (hu : u < 4294967296) : ∃ z : Int, 0 ≤ z ∧ z ≤ 4607182418800017408 ∧ (z = 0 ∨ Dy.D52 ≤ z) ∧ (Ieee.double.div (FloatKind.f64.nearest ((u : Nat) : Int)) 4751297606873776128).getD 0 = Dy.enc z ∧ nN [.i ((u : Nat) : Int)] = true ∧ (fN Ieee.double.div) [.f (FloatKind.f64.nearest ((u : Nat) : Int)), .f 4751297606873776128] = true := by
  obtain ⟨r, er, hr, hl⟩ := Dy.frq_low (u := u) (by omega)
  have w := (Dy.fi_spec (m := u) (by omega)).2.1
  have d : Dy.D52 = 4503599627370496 := rfl
  have l : Dy.L32 = 4463067230724161536 := rfl
  refine ⟨(r : Int), by omega, by omega, by omega, ?_, ?_, ?_⟩
  · rw [near_fiS, er, Dy.enc_nat]; rfl
  · show decide (FloatKind.f64.nearest (u : Int) < W64) = true
    rw [near_fiS]; exact decide_eq_true w
  · rw [near_fiS]; exact fN_g er (by unfold W64; omega)
attribute [local irreducible] lamV lamC
/-- What a round keeps. -/
def ringsJ (r : Rat) (n k : Nat) (i e : Int) (l1 l2 g1 g2 : Nat) : Prop := e = 0 ∧ ∃ (m : Nat) (L H : Int × Int) (sl sh : Rat), i = (m : Int) ∧ k ≤ m ∧ m ≤ n ∧ l1 = Dy.enc L.1 ∧ l2 = Dy.enc L.2 ∧ g1 = Dy.enc H.1 ∧ g2 = Dy.enc H.2 ∧
  Dy.Bd L (-(rB m)) (rB m) (rW m) ∧ Dy.Bd H (-(rB m)) (rB m) (rW m) ∧ Dy.Has L sl ∧ Dy.Has H sh ∧
  sl ≤ r * (Dy.val (cz n m : Int) * Dy.val (cz n m : Int) - Dy.val (cz n k : Int) * Dy.val (cz n k : Int)) ∧ r * (Dy.val (cz n m : Int) * Dy.val (cz n m : Int) - Dy.val (cz n k : Int) * Dy.val (cz n k : Int)) ≤ sh ∧ sh - sl ≤ ((m : Rat) - (k : Rat)) * (2 * r * (dlt n * dlt n))
set_option maxRecDepth 100000 in
set_option maxHeartbeats 4000000 in
theorem rings_any (m0 m1 m2 : Nat) (w : World) (k0 : m0 < 4294967296) (k1 : m1 < 256) (k2 : m2 < 256) : Calls Try.prog 4 #[.int .u32 ((m0 : Nat) : Int), .int .u8 ((m1 : Nat) : Int), .int .u8 ((m2 : Nat) : Int)] w fun e w' => e = .returned (.bool true) ∧ Below w.heap.size w w' := by
  obtain ⟨z, z0, z1, zd, ez, nz, fz⟩ := frac_R k0
  have oz : Dy.ok z := Dy.ok_B (by unfold Dy.B10; omega) (by unfold Dy.B10; omega)
  obtain ⟨pz, qz⟩ := point_R oz
  have ok1 : Dy.ok 4607182418800017408 := Dy.ok_B (by decide) (by decide)
  obtain ⟨f, r1, r0, gf, gr1, gr0, br, hr, v0, v1⟩ := ring_around z0 z1
  obtain ⟨R, oR, R0, vR, eR⟩ := dbl_of z0 z1 zd
  obtain ⟨n, hn⟩ : ∃ n, n = m1 % 64 + 1 := ⟨_, rfl⟩
  obtain ⟨k, hk⟩ : ∃ k, k = m2 % n := ⟨_, rfl⟩
  have n64 : n ≤ 64 := by omega
  have kn : k < n := by rw [hk]; exact Nat.mod_lt _ (by omega)
  have i4 : ((m1 : Nat) : Int).tmod 64 = ((m1 % 64 : Nat) : Int) := by rw [Int.tmod_eq_emod_of_nonneg (by omega)]; omega
  have i5 : IntKind.i64.wrap ((m1 % 64 : Nat) : Int) = ((m1 % 64 : Nat) : Int) := wrS (by omega) (by omega)
  have i6 : IntKind.i64.wrap (1 + ((m1 % 64 : Nat) : Int)) = ((n : Nat) : Int) := by rw [wrS (by omega) (by omega)]; omega
  have i7 : IntKind.i64.wrap ((m2 : Nat) : Int) = ((m2 : Nat) : Int) := wrS (by omega) (by omega)
  have i8 : ((m2 : Nat) : Int).tmod ((n : Nat) : Int) = ((k : Nat) : Int) := by rw [Int.tmod_eq_emod_of_nonneg (by omega), hk]; exact (Int.natCast_emod m2 n).symm
  have i9 : iN [.i ((m2 : Nat) : Int), .i ((n : Nat) : Int)] = true := decide_eq_true (show ((n : Nat) : Int) ≠ 0 by omega)
  obtain ⟨ck, ck1, fk, fk1, ckm, ckh, _⟩ := cz_lt kn n64
  obtain ⟨nk, nk1⟩ := nN_lt kn n64
  obtain ⟨_, cnn, bn, vn⟩ := chk_of kn n64
  have nn : nN [.i ((n : Nat) : Int)] = true := by
    have := (nN_lt (n := n) (i := n - 1) (by omega) n64).2
    rw [show ((n - 1 : Nat) : Int) + 1 = ((n : Nat) : Int) by omega] at this; exact this
  have ok : Dy.ok (cz n k : Int) := Dy.ok_B (by unfold Dy.B10; omega) (by unfold Dy.B10; omega)
  obtain ⟨pk, qk⟩ := point_R ok
  have uz : Un (z, z) := Un.pt z0 z1
  have uk : Un ((cz n k : Int), (cz n k : Int)) := Un.pt (by omega) (show (cz n k : Int) ≤ 4607182418800017408 by omega)
  obtain ⟨pt, gp, hp⟩ := cap_has uz uk (Dy.has_pt z) (Dy.has_pt (cz n k : Int))
  have gw := cap_whole z0 z1
  have piE : Dy.E Dy.piP = (4614256656552045848, 4614256656552045849) := Dy.bd_pi.2.1
  have gr1' := gr1.1
  rw [piE] at gr1'
  have g2 : Dy.cNum 0 4611686018427387904 = ((Dy.enc 4611686018427387904, Dy.enc 4611686018427387904), 0) := by decide +kernel
  have g0 : Dy.cNum 0 0 = ((Dy.enc ((0 : Int), (0 : Int)).1, Dy.enc ((0 : Int), (0 : Int)).2), 0) := by decide +kernel
  have czn : Dy.val (cz n n : Int) = 1 := by
    have c := cnn
    unfold cfr at c
    rw [cz_eq c]
    exact (Dy.val_q (z := 4607182418800017408) (num := 1) (den := 1) (by decide) (by decide +kernel)).trans (by decide +kernel)
  have b00 : ∀ m, Dy.Bd ((0 : Int), (0 : Int)) (-(rB m)) (rB m) (rW m) := fun m => by
    have := rB_1 m
    have w0 : 0 ≤ rW m := by unfold rW; have := m_0 m; exact Dy.le_quo (by decide +kernel) (by grind)
    exact ⟨Dy.rk_00, by show _ ≤ Dy.val 0; rw [Dy.val_zero]; grind, by show Dy.val 0 ≤ _; rw [Dy.val_zero]; grind, by show Dy.val 0 - Dy.val 0 ≤ _; grind⟩
  have h00 : Dy.Has ((0 : Int), (0 : Int)) 0 := ⟨by show Dy.val 0 ≤ _; rw [Dy.val_zero]; exact Rat.le_refl, by show _ ≤ Dy.val 0; rw [Dy.val_zero]; exact Rat.le_refl⟩
  have J0 : ringsJ (Dy.val z) n k ((k : Nat) : Int) 0 (Dy.enc ((0 : Int), (0 : Int)).1) (Dy.enc ((0 : Int), (0 : Int)).2) (Dy.enc ((0 : Int), (0 : Int)).1) (Dy.enc ((0 : Int), (0 : Int)).2) :=
    ⟨rfl, k, (0, 0), (0, 0), 0, 0, rfl, Nat.le_refl _, by omega, rfl, rfl, rfl, rfl, b00 k, b00 k, h00, h00, by grind, by grind, by grind⟩
  refine rings_ok _ _ _ w rfl ez nz fz pz qz i4 i5 i6 i7 i8 i9 gf.1 rfl nk rfl nn ck fk pk qk gp.1
    (show (Ieee.double.add 0 0).getD 0 = Dy.enc 0 from by decide +kernel) (by decide +kernel) gw.1
    rfl rfl rfl (by rw [show Dy.feq (Dy.enc z) (Dy.enc z) = true from by rw [Dy.feq_enc oz oz]; exact decide_eq_true rfl]; rfl) g2 gr1' gr0.1 g0 g0 (ringsJ (Dy.val z) n k) J0 ?_ ?_
  · rintro i e l1 l2 h1 h2 ⟨rfl, m, L, H, sl, sh, rfl, km, mn, rfl, rfl, rfl, rfl, bL, bH, hL, hH, lL, lH, gp'⟩ hc
    have hm : m < n := by have := of_decide_eq_true hc; omega
    obtain ⟨cm, cm1, fm, fm1, cmm, cmh, cd⟩ := cz_lt hm n64
    obtain ⟨nm, nm1⟩ := nN_lt hm n64
    have ox : Dy.ok (cz n m : Int) := Dy.ok_B (by unfold Dy.B10; omega) (by unfold Dy.B10; omega)
    have oy : Dy.ok (cz n (m + 1) : Int) := Dy.ok_B (by unfold Dy.B10; omega) (by unfold Dy.B10; omega)
    obtain ⟨wd, p1, p2, L', p3, p4, H', gwd, gp1, gp2, gL, gp3, gp4, gH, bL', bH', hL', hH', vx, vxy, vy⟩ := rings_step (B := rB m) (W := rW m) br hr (show (0 : Int) ≤ (cz n m : Int) by omega) cmm cmh (rB_1 m) (rB_2 (by omega)) bL bH hL hH
    obtain ⟨py, qy⟩ := point_R oy
    obtain ⟨px, qx⟩ := point_R ox
    have j6 : IntKind.i64.wrap (((m : Nat) : Int) + 1) = ((m : Nat) : Int) + 1 := wrS (by omega) (by omega)
    have a1 := lo_step v0 vx vxy lL
    have a2 := hi_step v0 vx vxy lH
    have a3 := gap_step v0 vxy cd gp'
    refine ⟨_, _, _, _, _, _, _, _, _, _, _, _, _, _, _, _, _, _, _, _, _, _, _, _, _, _, _, _, _, rfl, nm, rfl, nn, cm, fm, px, qx, j6, rfl, nm1, cm1, fm1, py, qy,
      gwd.1, gp1.1, gp2.1, gL.1, gp3.1, gp4.1, gH.1, ⟨rfl, m + 1, L', H', _, _, by omega, by omega, by omega, rfl, rfl, rfl, rfl, by rw [rB_s, rW_s]; exact bL', by rw [rB_s, rW_s]; exact bH', hL', hH', ?_, ?_, ?_⟩, by omega⟩
    · refine Rat.le_trans a1 ?_; grind
    · refine Rat.le_trans ?_ a2; grind
    · rw [ms]; refine Rat.le_trans a3 ?_; grind
  · rintro i e l1 l2 h1 h2 ⟨rfl, m, L, H, sl, sh, rfl, km, mn, rfl, rfl, rfl, rfl, bL, bH, hL, hH, lL, lH, gp'⟩ hc
    have hm : m = n := by have := of_decide_eq_false hc; omega
    subst hm
    rw [czn] at lL lH
    obtain ⟨N, hN⟩ : ∃ N : Nat, N = FloatKind.f64.nearest (m : Int) := ⟨_, rfl⟩
    have eN : FloatKind.f64.nearest (m : Int) = Dy.enc (N : Int) := by rw [Dy.enc_nat, hN]
    rw [← hN] at bn vn
    have oN : Dy.ok (N : Int) := by have t := Dy.top_eq; exact ⟨by omega, by omega⟩
    have vN : Dy.val (N : Int) = (m : Rat) := by
      have s := Dy.S1_pos
      unfold Dy.val
      rw [vn, Rat.intCast_mul]
      show (m : Rat) * Dy.S1 / Dy.S1 = _
      grind
    have m1' : (1 : Rat) ≤ (m : Rat) := by exact_mod_cast (show 1 ≤ m by omega)
    have m2' := m_64 n64
    have ge := gap_end v0 v1 m1' m2' (m_0 k)
    have gp'' : sh - sl ≤ 2 * Dy.val z / (m : Rat) + 1 / 281474976710656 := Rat.le_trans gp' ge
    have wL := bL.wd; have wH := bH.wd
    have a1 := hL.hi; have a2 := hH.lo
    have a3 := hL.lo; have a4 := hH.hi
    have wm := rW_2 n64
    have bLl := bL.lo; have bLh := bL.hi; have bHl := bH.lo; have bHh := bH.hi
    have b3 := rB_2 n64
    have lLH := Dy.val_le.2 bL.rk.le; have lHH := Dy.val_le.2 bH.rk.le
    obtain ⟨q, s, d, oq, os, od, eq, es, ed, ds⟩ := rings_end oR oN bH.rk.hi bL.rk.lo R0 (by rw [vR]; grind) (by rw [vR]; grind) (by rw [vN]; exact m1') (by rw [vN]; exact m2') (by rw [vR, vN]; grind) (by grind)
    rw [show Dy.enc 4472074429978902528 = 4472074429978902528 from by decide +kernel] at es
    have W := fun {z : Int} (h : Dy.ok z) => (Dy.W_enc h : Dy.enc z < W64)
    refine ⟨rfl, le_trueR bL.rk.lo gp.rk.hi (Dy.val_le.1 ?_), le_trueR gp.rk.lo bH.rk.hi (Dy.val_le.1 ?_), fN_g ed (W od), fN_g eR (W oR), nn, ?_, ?_, ?_⟩
    · have := hp.hi; grind
    · have := hp.lo; grind
    · rw [getD_g eR, eN]; exact fN_g eq (W oq)
    · rw [getD_g eR, eN, getD_g eq]; exact fN_g es (W os)
    · rw [getD_g ed, getD_g eR, eN, getD_g eq, getD_g es]; exact le_trueR od os ds
end Go.Proofs.Ytikiegcncliocaa
