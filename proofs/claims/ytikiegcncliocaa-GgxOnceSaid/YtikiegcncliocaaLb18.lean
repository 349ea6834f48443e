/- The law GgxOnce: walk and plain law joined. -/
import Derived.Test.YtikiegcncliocaaLa18
import Derived.Test.YtikiegcncliocaaSp
import Derived.Test.YtikiegcncliocaaJh
import Derived.Test.YtikiegcncliocaaRf
namespace Go.Proofs.Ytikiegcncliocaa
open Go Go.RowKit

/-- A part of a whole, as a float64. -/
def cfr (i n : Int) : Option Nat := Ieee.double.div (FloatKind.f64.nearest i) (FloatKind.f64.nearest n)
def chkC (n i : Nat) : Bool := decide (FloatKind.f64.nearest (i : Int) < W64) && decide (FloatKind.f64.nearest ((i : Int) + 1) < W64) && match cfr i n, cfr ((i : Int) + 1) n with
  | some b, some b' => decide (b ≤ b') && decide (b' ≤ 4607182418800017408)
  | _, _ => false
theorem chk_all : ((List.range 64).all fun m => (List.range (m + 1)).all (chkC (m + 1)) && (cfr ((m : Int) + 1) ((m : Int) + 1) == some 4607182418800017408)) = true := by decide +kernel
theorem chk_of {n i : Nat} (h : i < n) (hn : n ≤ 64) : chkC n i = true ∧ cfr n n = some 4607182418800017408 := by
  obtain ⟨m, rfl⟩ : ∃ m, n = m + 1 := ⟨n - 1, by omega⟩
  have a := List.all_eq_true.1 chk_all m (List.mem_range.2 (by omega))
  rw [Bool.and_eq_true] at a
  exact ⟨List.all_eq_true.1 a.1 i (List.mem_range.2 h), by have b := a.2; rw [beq_iff_eq] at b; exact b⟩
theorem ci_of {n i : Nat} (h : i < n) (hn : n ≤ 64) : ∃ b b' : Nat, FloatKind.f64.nearest (i : Int) < W64 ∧ FloatKind.f64.nearest ((i : Int) + 1) < W64 ∧ Ieee.double.div (FloatKind.f64.nearest (i : Int)) (FloatKind.f64.nearest (n : Int)) = some b ∧ Ieee.double.div (FloatKind.f64.nearest ((i : Int) + 1)) (FloatKind.f64.nearest (n : Int)) = some b' ∧ b ≤ b' ∧ b' ≤ 4607182418800017408 := by
  have c := (chk_of h hn).1
  unfold chkC at c
  rw [Bool.and_eq_true, Bool.and_eq_true] at c
  obtain ⟨⟨c1, c2⟩, c3⟩ := c
  have w1 := of_decide_eq_true c1; have w2 := of_decide_eq_true c2
  cases e1 : cfr i n with
  | none => rw [e1] at c3; cases c3
  | some b =>
    cases e2 : cfr ((i : Int) + 1) n with
    | none => rw [e1, e2] at c3; cases c3
    | some b' =>
      rw [e1, e2] at c3
      have c3 : (decide (b ≤ b') && decide (b' ≤ 4607182418800017408)) = true := c3
      rw [Bool.and_eq_true] at c3
      exact ⟨b, b', w1, w2, e1, e2, of_decide_eq_true c3.1, of_decide_eq_true c3.2⟩
/-- The cosine of a ring's lower edge, its rank. -/
def cz (n i : Nat) : Nat := (Ieee.double.div (FloatKind.f64.nearest (i : Int)) (FloatKind.f64.nearest (n : Int))).getD 0
/-- What faces, less what is beyond. -/
def frC (A : Rat) (n i : Nat) : Rat := (((1 : Rat) - (Dy.val (cz n i : Int) * Dy.val (cz n i : Int))) / (((A - (1 : Rat)) * (Dy.val (cz n i : Int) * Dy.val (cz n i : Int))) + (1 : Rat)))
def ringB (m : Nat) : Rat := 20000 * (m : Rat) + 1
theorem ringB_s (m : Nat) : ringB (m + 1) = ringB m + 20000 := by unfold ringB; rw [show ((m + 1 : Nat) : Rat) = (m : Rat) + 1 from by exact_mod_cast rfl]; grind
theorem ringB_1 (m : Nat) : 1 ≤ ringB m := by
  unfold ringB
  have : (0 : Rat) ≤ (m : Rat) := by exact_mod_cast Nat.zero_le m
  grind
theorem ringB_2 {m : Nat} (h : m ≤ 64) : ringB m ≤ 1500000 := by
  unfold ringB
  have : (m : Rat) ≤ 64 := by exact_mod_cast h
  grind
theorem wrS {z : Int} (h0 : 0 ≤ z) (h1 : z < 1000) : IntKind.i64.wrap z = z := by rw [IntKind.wrap_i64]; omega
theorem told_P {r : (Nat × Nat) × Int} {p : Int × Int} (h : r = (Dy.E p, 0)) : Dy.told r = ((Dy.enc p.1, Dy.enc p.2), 0) := by rw [h]; exact Dy.told_ok rfl
attribute [local irreducible] dM facingM btwF
/-- What a round keeps. -/
def onceJ (A : Rat) (n k : Nat) (i e : Int) (l1 l2 g1 g2 : Nat) : Prop := e = 0 ∧ ∃ (m : Nat) (L H : Int × Int), i = (m : Int) ∧ k ≤ m ∧ m ≤ n ∧ l1 = Dy.enc L.1 ∧ l2 = Dy.enc L.2 ∧ g1 = Dy.enc H.1 ∧ g2 = Dy.enc H.2 ∧
  Dy.Bd L (-(ringB m)) (ringB m) (2 * ringB m) ∧ Dy.Bd H (-(ringB m)) (ringB m) (2 * ringB m) ∧ Dy.val L.1 ≤ frC A n k - frC A n m ∧ frC A n k - frC A n m ≤ Dy.val H.2
theorem fN_of {x y b : Nat} (e : Ieee.double.div x y = some b) (h : b < W64) : fN Ieee.double.div [.f x, .f y] = true := okF_some e h
theorem getD_of {o : Option Nat} {b : Nat} (e : o = some b) : o.getD 0 = b := by rw [e]; rfl
theorem lt64 {b c : Nat} (h : b ≤ c) (k : c ≤ 4607182418800017408) : b < W64 := by unfold W64; omega
theorem cast_le {b c : Nat} (h : b ≤ c) : (b : Int) ≤ (c : Int) := by omega
theorem cast_le1 {c : Nat} (h : c ≤ 4607182418800017408) : (c : Int) ≤ 4607182418800017408 := by omega
theorem getD_enc {o : Option Nat} {b : Nat} (e : o = some b) : o.getD 0 = Dy.enc (b : Int) := by rw [e, Dy.enc_nat]; rfl
theorem cz_eq {n i b : Nat} (e : Ieee.double.div (FloatKind.f64.nearest (i : Int)) (FloatKind.f64.nearest (n : Int)) = some b) : cz n i = b := getD_of e
theorem cz_eq1 {n i b : Nat} (e : Ieee.double.div (FloatKind.f64.nearest ((i : Int) + 1)) (FloatKind.f64.nearest (n : Int)) = some b) : cz n (i + 1) = b := by
  have k : ((i + 1 : Nat) : Int) = (i : Int) + 1 := by omega
  exact cz_eq (by rw [k]; exact e)
theorem cz_lt {n i : Nat} (h : i < n) (hn : n ≤ 64) : (Ieee.double.div (FloatKind.f64.nearest (i : Int)) (FloatKind.f64.nearest (n : Int))).getD 0 = Dy.enc (cz n i : Int) ∧ (Ieee.double.div (FloatKind.f64.nearest ((i : Int) + 1)) (FloatKind.f64.nearest (n : Int))).getD 0 = Dy.enc (cz n (i + 1) : Int) ∧ fN Ieee.double.div [.f (FloatKind.f64.nearest (i : Int)), .f (FloatKind.f64.nearest (n : Int))] = true ∧ fN Ieee.double.div [.f (FloatKind.f64.nearest ((i : Int) + 1)), .f (FloatKind.f64.nearest (n : Int))] = true ∧ (cz n i : Int) ≤ (cz n (i + 1) : Int) ∧ (cz n (i + 1) : Int) ≤ 4607182418800017408 := by
  obtain ⟨b, b', _, _, e1, e2, h1, h2⟩ := ci_of h hn
  rw [cz_eq e1, cz_eq1 e2]
  exact ⟨getD_enc e1, getD_enc e2, fN_of e1 (lt64 h1 h2), fN_of e2 (lt64 (Nat.le_refl _) h2), cast_le h1, cast_le1 h2⟩
theorem nN_lt {n i : Nat} (h : i < n) (hn : n ≤ 64) : nN [.i (i : Int)] = true ∧ nN [.i ((i : Int) + 1)] = true := by
  obtain ⟨b, b', w1, w2, _⟩ := ci_of h hn
  exact ⟨decide_eq_true w1, decide_eq_true w2⟩
set_option maxRecDepth 100000 in
set_option maxHeartbeats 4000000 in
theorem once_any (m0 m1 m2 : Nat) (w : World) (k0 : m0 < 4294967296) (k1 : m1 < 256) (k2 : m2 < 256) : Calls Try.prog 10 #[.int .u32 ((m0 : Nat) : Int), .int .u8 ((m1 : Nat) : Int), .int .u8 ((m2 : Nat) : Int)] w fun e w' => e = .returned (.bool true) ∧ Below w.heap.size w w' := by
  obtain ⟨na, a, la, ua, ea⟩ := btw_F (l := 4593671619917905920) (h := 4607182418800017408) (by decide) (by decide) (by decide) k0
  rw [show Dy.enc 4593671619917905920 = 4593671619917905920 from by decide, show Dy.enc 4607182418800017408 = 4607182418800017408 from by decide] at na ea
  have oa : Dy.ok a := Dy.ok_B (by unfold Dy.B10; omega) (by unfold Dy.B10; omega)
  obtain ⟨pa, qa⟩ := point_all oa
  have ok1 : Dy.ok 4607182418800017408 := Dy.ok_B (by decide) (by decide)
  obtain ⟨s, es, bs, hs, v8, v1⟩ := alpha8 la ua
  have A0 : 0 < Dy.val a * Dy.val a := Rat.mul_pos (by grind) (by grind)
  have A1 : Dy.val a * Dy.val a ≤ 1 := by have := Rat.mul_le_mul_of_nonneg_left v1 (show 0 ≤ Dy.val a by grind); grind
  obtain ⟨r0, gr, br, hr⟩ := around_num
  obtain ⟨n, hn⟩ : ∃ n, n = m1 % 64 + 1 := ⟨_, rfl⟩
  obtain ⟨k, hk⟩ : ∃ k, k = m2 % n := ⟨_, rfl⟩
  have n64 : n ≤ 64 := by omega
  have kn : k < n := by rw [hk]; exact Nat.mod_lt _ (by omega)
  have i4 : ((m1 : Nat) : Int).tmod 64 = ((m1 % 64 : Nat) : Int) := by rw [Int.tmod_eq_emod_of_nonneg (by omega)]; omega
  have i5 : IntKind.i64.wrap ((m1 % 64 : Nat) : Int) = ((m1 % 64 : Nat) : Int) := wrS (by omega) (by omega)
  have i6 : IntKind.i64.wrap (1 + ((m1 % 64 : Nat) : Int)) = ((n : Nat) : Int) := by rw [wrS (by omega) (by omega)]; omega
  have i7 : IntKind.i64.wrap ((m2 : Nat) : Int) = ((m2 : Nat) : Int) := wrS (by omega) (by omega)
  have i8 : ((m2 : Nat) : Int).tmod ((n : Nat) : Int) = ((k : Nat) : Int) := by rw [Int.tmod_eq_emod_of_nonneg (by omega), hk]; exact (Int.natCast_emod m2 n).symm
  have i9 : iN [.i ((m2 : Nat) : Int), .i ((n : Nat) : Int)] = true := decide_eq_true (show ((n : Nat) : Int) ≠ 0 by omega)
  obtain ⟨ck, ck1, fk, fk1, ckm, ckh⟩ := cz_lt kn n64
  obtain ⟨nk, nk1⟩ := nN_lt kn n64
  have nn : nN [.i ((n : Nat) : Int)] = true := by
    have := (nN_lt (n := n) (i := n - 1) (by omega) n64).2
    rw [show ((n - 1 : Nat) : Int) + 1 = ((n : Nat) : Int) by omega] at this; exact this
  have ok : Dy.ok (cz n k : Int) := Dy.ok_B (by unfold Dy.B10; omega) (by unfold Dy.B10; omega)
  obtain ⟨pk, qk⟩ := point_all ok
  have wa : Dy.Wi (a, a) (4584664420663164928, 4607182418800017408) := ⟨by dsimp only; omega, ua⟩
  have ra := Dy.rk_pt oa
  have bd_k : Dy.Bd ((cz n k : Int), (cz n k : Int)) 0 1 2 := by
    have v0 := Dy.val_le.2 (show (0 : Int) ≤ (cz n k : Int) by omega)
    have v1' := Dy.val_le.2 (show (cz n k : Int) ≤ 4607182418800017408 by omega)
    rw [Dy.val_zero] at v0; rw [Dy.val_one] at v1'
    exact ⟨Dy.rk_pt ok, v0, v1', by show Dy.val _ - Dy.val _ ≤ 2; grind⟩
  obtain ⟨f, ef, rf, hf⟩ := f_once es bs hs bd_k (Dy.has_pt _)
  have e0 := f_at0 es bs hs
  have e1 := f_at1 es bs hs
  have frn : frC (Dy.val a * Dy.val a) n n = 0 := by
    have z : cz n n = 4607182418800017408 := by
      have c := (chk_of kn n64).2
      unfold cfr at c
      unfold cz; rw [c]; rfl
    unfold frC
    rw [z, show Dy.val ((4607182418800017408 : Nat) : Int) = 1 from Dy.val_one, show (1 : Rat) - 1 * 1 = 0 from by grind, Rat.div_def, Rat.zero_mul]
  have piE : Dy.E Dy.piP = (4614256656552045848, 4614256656552045849) := Dy.bd_pi.2.1
  have gr1 := gr.1
  rw [piE] at gr1
  have g2 : Dy.cNum 0 4611686018427387904 = ((Dy.enc 4611686018427387904, Dy.enc 4611686018427387904), 0) := by decide +kernel
  have g0 : Dy.cNum 0 0 = ((Dy.enc ((0 : Int), (0 : Int)).1, Dy.enc ((0 : Int), (0 : Int)).2), 0) := by decide +kernel
  have b00 : ∀ m, Dy.Bd ((0 : Int), (0 : Int)) (-(ringB m)) (ringB m) (2 * ringB m) := fun m => by
    have := ringB_1 m
    exact ⟨Dy.rk_00, by show _ ≤ Dy.val 0; rw [Dy.val_zero]; grind, by show Dy.val 0 ≤ _; rw [Dy.val_zero]; grind, by show Dy.val 0 - Dy.val 0 ≤ _; grind⟩
  have J0 : onceJ (Dy.val a * Dy.val a) n k ((k : Nat) : Int) 0 (Dy.enc ((0 : Int), (0 : Int)).1) (Dy.enc ((0 : Int), (0 : Int)).2) (Dy.enc ((0 : Int), (0 : Int)).1) (Dy.enc ((0 : Int), (0 : Int)).2) :=
    ⟨rfl, k, (0, 0), (0, 0), rfl, Nat.le_refl _, by omega, rfl, rfl, rfl, rfl, b00 k, b00 k, by show Dy.val 0 ≤ _; rw [Dy.val_zero]; grind, by show _ ≤ Dy.val 0; rw [Dy.val_zero]; grind⟩
  refine once_ok _ _ _ w ea na pa qa i4 i5 i6 i7 i8 i9 rfl nk rfl nn ck fk pk qk (told_P ef) (nG1_ok (p := (a, a)) (q := ((cz n k : Int), (cz n k : Int))) ra wa bd_k.rk ⟨by dsimp only; omega, by dsimp only; omega⟩)
    (show (Ieee.double.add 0 0).getD 0 = Dy.enc 0 from by decide +kernel) (by decide +kernel) (told_P e0) (nG1_ok (p := (a, a)) (q := (0, 0)) ra wa Dy.rk_00 ⟨by decide, by decide⟩)
    (show (Ieee.double.add 4607182418800017408 0).getD 0 = Dy.enc 4607182418800017408 from by decide +kernel) (by decide +kernel) (told_P e1) (nG1_ok (p := (a, a)) (q := (4607182418800017408, 4607182418800017408)) ra wa (Dy.rk_pt ok1) ⟨by decide, by decide⟩)
    rfl rfl rfl (by rw [eq_true ok1]; rfl) (by decide +kernel) g2 gr1 g0 g0 (onceJ (Dy.val a * Dy.val a) n k) J0 ?_ ?_
  · rintro i e l1 l2 h1 h2 ⟨rfl, m, L, H, rfl, km, mn, rfl, rfl, rfl, rfl, bL, bH, lL, lH⟩ hc
    have hm : m < n := by have := of_decide_eq_true hc; omega
    obtain ⟨cm, cm1, fm, fm1, cmm, cmh⟩ := cz_lt hm n64
    obtain ⟨nm, nm1⟩ := nN_lt hm n64
    have ox : Dy.ok (cz n m : Int) := Dy.ok_B (by unfold Dy.B10; omega) (by unfold Dy.B10; omega)
    have oy : Dy.ok (cz n (m + 1) : Int) := Dy.ok_B (by unfold Dy.B10; omega) (by unfold Dy.B10; omega)
    obtain ⟨v, p1, p2, wd, p3, L', H', ev, gp1, gp2, gw, gp3, gL, gH, r3, bL', bH', lL', lH'⟩ := once_step (B := ringB m) es bs hs A0 A1 br hr (show (0 : Int) ≤ (cz n m : Int) by omega) cmm cmh (ringB_1 m) (ringB_2 (by omega)) bL bH lL lH
    obtain ⟨py, qy⟩ := point_all oy
    obtain ⟨px, qx⟩ := point_all ox
    obtain ⟨pl, ql⟩ := point_all r3.lo
    obtain ⟨ph, qh⟩ := point_all r3.hi
    have rk : Dy.Rk ((cz n m : Int), (cz n (m + 1) : Int)) := ⟨ox, oy, cmm⟩
    have j6 : IntKind.i64.wrap (((m : Nat) : Int) + 1) = ((m : Nat) : Int) + 1 := wrS (by omega) (by omega)
    refine ⟨_, _, _, _, _, _, _, _, _, _, _, _, _, _, _, _, _, _, _, _, _, _, _, _, _, _, _, _, _, _, _, rfl, nm, rfl, nn, cm, fm, j6, rfl, nm1, cm1, fm1, told_P ev, nG1_ok (p := (a, a)) (q := ((cz n m : Int), (cz n (m + 1) : Int))) ra wa rk ⟨by dsimp only; omega, cmh⟩, rfl,
      gp1.1, gp2.1, py, qy, px, qx, gw.1, gp3.1, pl, ql, gL.1, ph, qh, gH.1, ⟨rfl, m + 1, L', H', by omega, by omega, by omega, rfl, rfl, rfl, rfl, ?_, ?_, ?_, ?_⟩, by omega⟩
    · rw [ringB_s]; exact bL'
    · rw [ringB_s]; exact bH'
    · refine Rat.le_trans lL' ?_
      show frC _ n k - frC _ n m + (frC _ n m - frC _ n (m + 1)) ≤ _
      grind
    · refine Rat.le_trans ?_ lH'
      show _ ≤ frC _ n k - frC _ n m + (frC _ n m - frC _ n (m + 1))
      grind
  · rintro i e l1 l2 h1 h2 ⟨rfl, m, L, H, rfl, km, mn, rfl, rfl, rfl, rfl, bL, bH, lL, lH⟩ hc
    have hm : m = n := by have := of_decide_eq_false hc; omega
    subst hm
    rw [frn] at lL lH
    have hf' : Dy.Has f (frC (Dy.val a * Dy.val a) m k) := hf
    refine ⟨rfl, le_true bL.rk.lo rf.hi (Dy.val_le.1 ?_), le_true rf.lo bH.rk.hi (Dy.val_le.1 ?_)⟩
    · have := hf'.hi; grind
    · have := hf'.lo; grind
end Go.Proofs.Ytikiegcncliocaa
