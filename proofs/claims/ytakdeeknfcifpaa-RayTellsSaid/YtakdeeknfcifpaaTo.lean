/- Walks: burnishref01.near, Next; math.frexp. -/
import Derived.Test.YtakdeeknfcifpaaTn
namespace Go.Proofs.Ytakdeeknfcifpaa
open Go Go.RowKit
set_option linter.unusedSimpArgs false
set_option linter.unusedVariables false
open Dy
def nearT (a : Nat) (e : Int) : Nat × Nat := (ldx a e, if infT (ldx a e) 0 = true then 0 else ldx (ldx a e) (-e))
theorem near_any (a : Nat) (e : Int) (w : World) (ha : Dy.W a) (h1 : -1000000 ≤ e) (h2 : e ≤ 1000000) :
    Calls Try.prog 61 #[.float .f64 a, .int .i64 e] w fun x w' => x = .returned (.tuple #[.float .f64 (nearT a e).1, .float .f64 (nearT a e).2]) ∧ Below w.heap.size w w' := by
  have hL : nLdx [.i e] = true := decide_eq_true ⟨h1, h2⟩
  have hw := W_ldx ha e
  cases hi : infT (ldx a e) 0 with
  | true =>
    have e1 : nearT a e = (ldx a e, 0) := by unfold nearT; rw [hi]; rfl
    rw [e1]
    exact near_0 a e w ha rfl hL hi hw
  | false =>
    have e1 : nearT a e = (ldx a e, ldx (ldx a e) (-e)) := by unfold nearT; rw [hi]; rfl
    rw [e1]
    have hn : IntKind.i64.wrap (0 - e) = -e := by rw [IntKind.wrap_i64]; omega
    have hL2 : nLdx [.i (-e)] = true := decide_eq_true (show -1000000 ≤ -e ∧ -e ≤ 1000000 from ⟨by omega, by omega⟩)
    exact near_1 a e w ha rfl hL hi hn rfl hL2 hw (W_ldx hw _)
/-- A fraction from a half to 1, and a power of two. -/
def frT (b : Nat) : Nat × Int := (built b (-1), norm2 b + ((field (norm1 b) : Nat) : Int) - 1022)
theorem W_built (b : Nat) : Dy.W (built b (-1)) := by
  unfold Dy.W built word
  have : ((-1 : Int) + 1023).toNat = 1022 := by decide
  rw [this]; split <;> omega
theorem hb1 {a : Nat} (ha : Dy.W a) (hf : fin a) (h0 : a ≠ 0) (ra : right a = true) : bits BinOp.or IntKind.u64 (bits BinOp.andNot IntKind.u64 ((norm1 a : Nat) : Int) 9218868437227405312) 4602678819172646912 = ((built a (-1) : Nat) : Int) := by
  have h := built_bits (E := -1) ha hf (by unfold right at ra; rw [decide_eq_true_eq] at ra; unfold Dy.W at ha; omega) (by omega) (by omega)
  have e : ((-1 : Int) + 1023) * 4503599627370496 = 4602678819172646912 := by decide
  rw [e] at h; exact h
theorem frexp_any (a : Nat) (w : World) (ha : Dy.W a) (ra : right a = true) (h0 : a ≠ 0) :
    Calls Try.prog 51 #[.float .f64 a] w fun x w' => x = .returned (.tuple #[.float .f64 (frT a).1, .int .i64 (frT a).2]) ∧ Below w.heap.size w w' := by
  have hf := right_fin ra
  have w1 := W_norm1 ha hf
  have hb := hb1 ha hf h0 ra
  have hlt := field_lt (norm1 a)
  have n2 : norm2 a = -52 ∨ norm2 a = 0 := by unfold norm2; split <;> simp
  have e3 : (((norm1 a : Nat) : Int)).fdiv (2 ^ (min ((52 : Int)).toNat IntKind.u64.bits)) = ((norm1 a : Nat) : Int) / 4503599627370496 := by
    rw [Int.fdiv_eq_ediv_of_nonneg _ (by decide)]; rfl
  refine frexp_0 a w ha ?_ (infT_fin ha hf).2.2 (right_nan ra) rfl (decide_eq_true hf) rfl e3 rfl (and_field w1) (t5 := ((field (norm1 a) : Nat) : Int)) ?_ (t6 := ((field (norm1 a) : Nat) : Int) - 1023) ?_ (t7 := ((field (norm1 a) : Nat) : Int) - 1022) ?_ ?_ rfl hb rfl ?_ (W_built a)
  · rw [feq_right ha ra]; exact decide_eq_false h0
  · rw [IntKind.wrap_i64]; omega
  · rw [IntKind.wrap_i64]; omega
  · rw [IntKind.wrap_i64]; omega
  · show IntKind.i64.wrap (norm2 a + _) = norm2 a + _ - 1022
    rw [IntKind.wrap_i64]; omega
  · exact decide_eq_true (W_built a).lt
def nNzT (us : List U) : Bool := right (gF us 0) && !(gF us 0 == 0)
def ctFrexpT : Ct := ctP 1 [vf 0] (fun us i => widthU (frT (gF us 0)) i) 2 (.tup [vf 1, vi .i64 2]) [⟨nNzT, [.v 0]⟩]
theorem frexpT_ct : CtOk Try.prog 51 ctFrexpT := by
  refine ctP_ok (en Try.func51 rfl (by decide)) rfl rfl (fun us w vs hl hv hn => ?_) rfl
  match us, hl with
  | [u0], _ =>
    obtain ⟨x, y, hx, hy, rfl⟩ := denL_cons.1 hv
    rw [denL_nil.1 hy]
    obtain ⟨a1, e1, w1, rfl⟩ := den_fl hx
    simp [E.ev] at e1; subst e1
    obtain ⟨xs, h1, h2⟩ := hn _ (List.mem_singleton.2 rfl)
    simp [evs, E.ev] at h1; subst h1
    have h3 : (right a1 && !(a1 == 0)) = true := h2
    simp only [Bool.and_eq_true, Bool.not_eq_true', beq_eq_false_iff_ne] at h3
    refine ⟨.tuple #[.float .f64 (frT a1).1, .int .i64 (frT a1).2], ?_, frexp_any a1 w w1 h3.1 h3.2⟩
    unfold den
    rw [denL_cons.2 ⟨_, _, fl_den (n := (frT a1).1) rfl (W_built a1), denL_cons.2 ⟨_, [], it_den (n := (frT a1).2) rfl, rfl, rfl⟩, rfl⟩]
def ctNearT : Ct := ctP 2 [vf 0, vi .i64 1] (fun us i => ivU (nearT (gF us 0) (gI us 1)) i) 2 (.tup [vf 2, vf 3]) [⟨nLdx, [.v 1]⟩]
theorem W_near {a : Nat} (ha : Dy.W a) (e : Int) : Dy.W (nearT a e).1 ∧ Dy.W (nearT a e).2 := by
  refine ⟨W_ldx ha e, ?_⟩
  unfold nearT
  dsimp only
  split
  · exact W_zero
  · exact W_ldx (W_ldx ha e) _
theorem nearT_ct : CtOk Try.prog 61 ctNearT := by
  refine ctP_ok (en Try.func61 rfl (by decide)) rfl rfl (fun us w vs hl hv hn => ?_) rfl
  match us, hl with
  | [u0, u1], _ =>
    obtain ⟨x, y, hx, hy, rfl⟩ := denL_cons.1 hv
    obtain ⟨x', y', hx', hy', rfl⟩ := denL_cons.1 hy
    rw [denL_nil.1 hy']
    obtain ⟨a1, e1, w1, rfl⟩ := den_fl hx
    obtain ⟨a2, e2, rfl⟩ := den_it hx'
    simp [E.ev] at e1 e2; subst e1 e2
    obtain ⟨xs, h1, h2⟩ := hn _ (List.mem_singleton.2 rfl)
    simp [evs, E.ev] at h1; subst h1
    have h3 : -1000000 ≤ a2 ∧ a2 ≤ 1000000 := of_decide_eq_true h2
    refine ⟨.tuple #[.float .f64 (nearT a1 a2).1, .float .f64 (nearT a1 a2).2], ?_, near_any a1 a2 w w1 h3.1 h3.2⟩
    obtain ⟨k1, k2⟩ := W_near w1 a2
    unfold den
    rw [denL_cons.2 ⟨_, _, fl_den (n := (nearT a1 a2).1) rfl k1, denL_cons.2 ⟨_, [], fl_den (n := (nearT a1 a2).2) rfl k2, rfl, rfl⟩, rfl⟩]
theorem raddT_ct : CtOk Try.prog 35 (ctO2 Dy.dAdd) := ctO2_ok (en Try.func35 rfl (by decide)) Dy.dAdd_W radd_any
def tO0 : List (Nat × Ct) := (51, ctFrexpT) :: (61, ctNearT) :: (35, ctO2 Dy.dAdd) :: tL0
theorem tO0_ok : AllOk Try.prog tO0 := ⟨frexpT_ct, nearT_ct, raddT_ct, tL0_ok⟩
end Go.Proofs.Ytakdeeknfcifpaa
