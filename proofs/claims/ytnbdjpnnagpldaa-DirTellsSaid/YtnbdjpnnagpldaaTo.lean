/- Walks: burnishref01.near, Next; math.frexp. -/
import Derived.Test.YtnbdjpnnagpldaaTn
namespace Go.Proofs.Ytnbdjpnnagpldaa
open Go Go.RowKit
set_option linter.unusedSimpArgs false
set_option linter.unusedVariables false
open Dy
def nearT (a : Nat) (e : Int) : Nat × Nat := (ldx a e, if infT (ldx a e) 0 = true then 0 else ldx (ldx a e) (-e))
theorem near_any (a : Nat) (e : Int) (w : World) (ha : Dy.W a) (h1 : -1000000 ≤ e) (h2 : e ≤ 1000000) :
    Calls Try.prog 35 #[.float .f64 a, .int .i64 e] w fun x w' => x = .returned (.tuple #[.float .f64 (nearT a e).1, .float .f64 (nearT a e).2]) ∧ Below w.heap.size w w' := by
  have hL : nLdx [.i e] = true := decide_eq_true ⟨h1, h2⟩
  have hw := W_ldx ha e
  cases hi : infT (ldx a e) 0 with
  | true =>
    have e1 : nearT a e = (ldx a e, 0) := by unfold nearT; rw [hi]; rfl
    rw [e1]
    exact near_0 a e w ha rfl hL hi hw
  | false =>
    have e1 : nearT a e = (ldx a e, ldx (ldx a e) (-e)) := by unfold nearT; rw [hi]; rfl
    rw [e1]
    have hn : IntKind.i64.wrap (0 - e) = -e := by rw [IntKind.wrap_i64]; omega
    have hL2 : nLdx [.i (-e)] = true := decide_eq_true (show -1000000 ≤ -e ∧ -e ≤ 1000000 from ⟨by omega, by omega⟩)
    exact near_1 a e w ha rfl hL hi hn rfl hL2 hw (W_ldx hw _)
theorem rnext_any (a : Nat) (up : Bool) (w : World) (ha : Dy.W a) :
    Calls Try.prog 16 #[.float .f64 a, .bool up] w fun x w' => x = .returned (.tuple #[.float .f64 (dNext a up).1, .int .i64 (dNext a up).2]) ∧ Below w.heap.size w w' := by
  have tp := top_eq
  have ra' := rrT_right ha
  cases ra : right a with
  | false =>
    have e : dNext a up = (0, 13) := by unfold dNext; rw [ra]; rfl
    rw [e]
    cases up
    · exact rnextf_1 a w ha (by rw [ra', ra])
    · exact rnextt_1 a w ha (by rw [ra', ra])
  | true =>
    rw [ra] at ra'
    obtain ⟨ea, oa⟩ := enc_dec ha.lt ra
    have hf := right_fin ra
    unfold ok at oa
    cases up
    · have e0 : infV (-1) = ninf := by decide
      have e1 : nxG a ninf = dn1 a := by unfold nxG; rw [if_neg (by decide)]
      have hN : nNx [.f a, .f ninf] = true := decide_eq_true ⟨hf, .inr rfl⟩
      have hw1 := W_dn1 ha hf
      have d1 := dn1_dec ha hf
      obtain ⟨b1, b2, b3⟩ := bits_of_dec hw1
      have e2 : dNext a false = out (dec a - 1) false := by unfold dNext; rw [ra]; rfl
      rw [e2]
      by_cases ht : dec a - 1 = -(top : Int)
      · have e3 := b2 (by omega)
        have e : out (dec a - 1) false = (0, 10) := by unfold out; rw [if_neg (by omega), if_pos (by omega)]; rfl
        rw [e]
        exact rnextf_0 a w ha ra' e0 e1 hN (by rw [e3]; decide +kernel)
      · have f1 := b3 (by omega) (by omega)
        have o1 : ok (dec a - 1) := by unfold ok; omega
        rw [out_mid o1, ← plain_enc hw1 f1 d1]
        exact rnextf_2 a w ha ra' e0 e1 hN (infT_fin hw1 f1).2.2 rfl (by rw [plain_enc hw1 f1 d1]; exact W_enc o1)
    · have e0 : infV 1 = pinf := by decide
      have e1 : nxG a pinf = up1 a := by unfold nxG; rw [if_pos rfl]
      have hN : nNx [.f a, .f pinf] = true := decide_eq_true ⟨hf, .inl rfl⟩
      have hw1 := W_up1 ha hf
      have d1 := up1_dec ha hf
      obtain ⟨b1, b2, b3⟩ := bits_of_dec hw1
      have e2 : dNext a true = out (dec a + 1) true := by unfold dNext; rw [ra]; rfl
      rw [e2]
      by_cases ht : dec a + 1 = (top : Int)
      · have e3 := b1 (by omega)
        have e : out (dec a + 1) true = (0, 10) := by unfold out; rw [if_pos (by omega)]; rfl
        rw [e]
        exact rnextt_0 a w ha ra' e0 e1 hN (by rw [e3]; decide +kernel)
      · have f1 := b3 (by omega) (by omega)
        have o1 : ok (dec a + 1) := by unfold ok; omega
        rw [out_mid o1, ← plain_enc hw1 f1 d1]
        exact rnextt_2 a w ha ra' e0 e1 hN (infT_fin hw1 f1).2.2 rfl (by rw [plain_enc hw1 f1 d1]; exact W_enc o1)
/-- A fraction from a half to 1, and a power of two. -/
def frT (b : Nat) : Nat × Int := (built b (-1), norm2 b + ((field (norm1 b) : Nat) : Int) - 1022)
theorem W_built (b : Nat) : Dy.W (built b (-1)) := by
  unfold Dy.W built word
  have : ((-1 : Int) + 1023).toNat = 1022 := by decide
  rw [this]; split <;> omega
theorem hb1 {a : Nat} (ha : Dy.W a) (hf : fin a) (h0 : a ≠ 0) (ra : right a = true) : bits BinOp.or IntKind.u64 (bits BinOp.andNot IntKind.u64 ((norm1 a : Nat) : Int) 9218868437227405312) 4602678819172646912 = ((built a (-1) : Nat) : Int) := by
  have h := built_bits (E := -1) ha hf (by unfold right at ra; rw [decide_eq_true_eq] at ra; unfold Dy.W at ha; omega) (by omega) (by omega)
  have e : ((-1 : Int) + 1023) * 4503599627370496 = 4602678819172646912 := by decide
  rw [e] at h; exact h
theorem frexp_any (a : Nat) (w : World) (ha : Dy.W a) (ra : right a = true) (h0 : a ≠ 0) :
    Calls Try.prog 62 #[.float .f64 a] w fun x w' => x = .returned (.tuple #[.float .f64 (frT a).1, .int .i64 (frT a).2]) ∧ Below w.heap.size w w' := by
  have hf := right_fin ra
  have w1 := W_norm1 ha hf
  have hb := hb1 ha hf h0 ra
  have hlt := field_lt (norm1 a)
  have n2 : norm2 a = -52 ∨ norm2 a = 0 := by unfold norm2; split <;> simp
  have e3 : (((norm1 a : Nat) : Int)).fdiv (2 ^ (min ((52 : Int)).toNat IntKind.u64.bits)) = ((norm1 a : Nat) : Int) / 4503599627370496 := by
    rw [Int.fdiv_eq_ediv_of_nonneg _ (by decide)]; rfl
  refine frexp_0 a w ha ?_ (infT_fin ha hf).2.2 (right_nan ra) rfl (decide_eq_true hf) rfl e3 rfl (and_field w1) (t5 := ((field (norm1 a) : Nat) : Int)) ?_ (t6 := ((field (norm1 a) : Nat) : Int) - 1023) ?_ (t7 := ((field (norm1 a) : Nat) : Int) - 1022) ?_ ?_ rfl hb rfl ?_ (W_built a)
  · rw [feq_right ha ra]; exact decide_eq_false h0
  · rw [IntKind.wrap_i64]; omega
  · rw [IntKind.wrap_i64]; omega
  · rw [IntKind.wrap_i64]; omega
  · show IntKind.i64.wrap (norm2 a + _) = norm2 a + _ - 1022
    rw [IntKind.wrap_i64]; omega
  · exact decide_eq_true (W_built a).lt
def nNzT (us : List U) : Bool := right (gF us 0) && !(gF us 0 == 0)
def ctFrexpT : Ct := ctP 1 [vf 0] (fun us i => widthU (frT (gF us 0)) i) 2 (.tup [vf 1, vi .i64 2]) [⟨nNzT, [.v 0]⟩]
theorem frexpT_ct : CtOk Try.prog 62 ctFrexpT := by
  refine ctP_ok (en Try.func62 rfl (by decide)) rfl rfl (fun us w vs hl hv hn => ?_) rfl
  match us, hl with
  | [u0], _ =>
    obtain ⟨x, y, hx, hy, rfl⟩ := denL_cons.1 hv
    rw [denL_nil.1 hy]
    obtain ⟨a1, e1, w1, rfl⟩ := den_fl hx
    simp [E.ev] at e1; subst e1
    obtain ⟨xs, h1, h2⟩ := hn _ (List.mem_singleton.2 rfl)
    simp [evs, E.ev] at h1; subst h1
    have h3 : (right a1 && !(a1 == 0)) = true := h2
    simp only [Bool.and_eq_true, Bool.not_eq_true', beq_eq_false_iff_ne] at h3
    refine ⟨.tuple #[.float .f64 (frT a1).1, .int .i64 (frT a1).2], ?_, frexp_any a1 w w1 h3.1 h3.2⟩
    unfold den
    rw [denL_cons.2 ⟨_, _, fl_den (n := (frT a1).1) rfl (W_built a1), denL_cons.2 ⟨_, [], it_den (n := (frT a1).2) rfl, rfl, rfl⟩, rfl⟩]
def ctNearT : Ct := ctP 2 [vf 0, vi .i64 1] (fun us i => ivU (nearT (gF us 0) (gI us 1)) i) 2 (.tup [vf 2, vf 3]) [⟨nLdx, [.v 1]⟩]
theorem W_near {a : Nat} (ha : Dy.W a) (e : Int) : Dy.W (nearT a e).1 ∧ Dy.W (nearT a e).2 := by
  refine ⟨W_ldx ha e, ?_⟩
  unfold nearT
  dsimp only
  split
  · exact W_zero
  · exact W_ldx (W_ldx ha e) _
theorem nearT_ct : CtOk Try.prog 35 ctNearT := by
  refine ctP_ok (en Try.func35 rfl (by decide)) rfl rfl (fun us w vs hl hv hn => ?_) rfl
  match us, hl with
  | [u0, u1], _ =>
    obtain ⟨x, y, hx, hy, rfl⟩ := denL_cons.1 hv
    obtain ⟨x', y', hx', hy', rfl⟩ := denL_cons.1 hy
    rw [denL_nil.1 hy']
    obtain ⟨a1, e1, w1, rfl⟩ := den_fl hx
    obtain ⟨a2, e2, rfl⟩ := den_it hx'
    simp [E.ev] at e1 e2; subst e1 e2
    obtain ⟨xs, h1, h2⟩ := hn _ (List.mem_singleton.2 rfl)
    simp [evs, E.ev] at h1; subst h1
    have h3 : -1000000 ≤ a2 ∧ a2 ≤ 1000000 := of_decide_eq_true h2
    refine ⟨.tuple #[.float .f64 (nearT a1 a2).1, .float .f64 (nearT a1 a2).2], ?_, near_any a1 a2 w w1 h3.1 h3.2⟩
    obtain ⟨k1, k2⟩ := W_near w1 a2
    unfold den
    rw [denL_cons.2 ⟨_, _, fl_den (n := (nearT a1 a2).1) rfl k1, denL_cons.2 ⟨_, [], fl_den (n := (nearT a1 a2).2) rfl k2, rfl, rfl⟩, rfl⟩]
theorem raddT_ct : CtOk Try.prog 8 (ctO2 Dy.dAdd) := ctO2_ok (en Try.func8 rfl (by decide)) Dy.dAdd_W radd_any
theorem rnextT_ct : CtOk Try.prog 16 (ctO1 Dy.dNext) := ctO1_ok (en Try.func16 rfl (by decide)) (fun x up _ => Dy.dNext_W x up) rnext_any
def tO0 : List (Nat × Ct) := (62, ctFrexpT) :: (35, ctNearT) :: (8, ctO2 Dy.dAdd) :: (16, ctO1 Dy.dNext) :: tL0
theorem tO0_ok : AllOk Try.prog tO0 := ⟨frexpT_ct, nearT_ct, raddT_ct, rnextT_ct, tL0_ok⟩
end Go.Proofs.Ytnbdjpnnagpldaa
