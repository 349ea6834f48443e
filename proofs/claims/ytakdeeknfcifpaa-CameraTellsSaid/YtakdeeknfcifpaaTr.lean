/- A reckoning of programs by symbols: math.IsInf, math.Inf. -/
import Derived.Test.YtakdeeknfcifpaaTq
namespace Go.Dy
theorem xor63 {b : Nat} (h : b < 2 ^ 63) : b ^^^ 2 ^ 63 = 2 ^ 63 + b := by
  refine Nat.eq_of_testBit_eq fun j => ?_
  rw [Nat.testBit_xor, Nat.testBit_two_pow]
  rcases Nat.lt_trichotomy j 63 with h1 | h1 | h1
  · rw [Nat.testBit_two_pow_add_gt h1, decide_eq_false (by omega)]; simp
  · subst h1
    rw [Nat.testBit_two_pow_add_eq]; simp
  · have e1 : b.testBit j = false := Nat.testBit_lt_two_pow (Nat.lt_trans h (Nat.pow_lt_pow_right (by omega) h1))
    have e2 : (2 ^ 63 + b).testBit j = false := Nat.testBit_lt_two_pow (Nat.lt_of_lt_of_le (show 2 ^ 63 + b < 2 ^ 64 by omega) (Nat.pow_le_pow_right (by omega) h1))
    rw [e1, e2, decide_eq_false (by omega)]; rfl
theorem neg_bits {b : Nat} (h : W b) : Op.negFloat .f64 b = if b < 2 ^ 63 then 2 ^ 63 + b else b - 2 ^ 63 := by
  have e : Op.negFloat .f64 b = b ^^^ 2 ^ 63 := rfl
  rw [e]
  split
  · rename_i h1; exact xor63 h1
  · obtain ⟨c, rfl⟩ : ∃ c, b = 2 ^ 63 + c := ⟨b - 2 ^ 63, by omega⟩
    have hc : c < 2 ^ 63 := by unfold W at h; omega
    rw [← xor63 hc, Nat.xor_assoc, Nat.xor_self, Nat.xor_zero, xor63 hc]; omega
theorem neg_W {b : Nat} (h : W b) : W (Op.negFloat .f64 b) := by
  rw [neg_bits h]; unfold W at *; split <;> omega
end Go.Dy
namespace Go.Proofs.Ytakdeeknfcifpaa
open Go Go.RowKit
set_option linter.unusedSimpArgs false
set_option linter.unusedVariables false
def bRes (b : Bool) (_ : Nat) : U := .b b
def fRes (r : Nat) (_ : Nat) : U := .f r
def infT (b : Nat) (s : Int) : Bool := if s = 0 then Dy.fgt (Dy.abs b) 9218868437227405311 else if s < 0 then Dy.fgt (Op.negFloat .f64 b) 9218868437227405311 else Dy.fgt b 9218868437227405311
def infV (s : Int) : Nat := if s ≥ 0 then 9218868437227405312 else 18442240474082181120
theorem infT_any (b : Nat) (s : Int) (w : World) (hb : Dy.W b) : Calls Try.prog 64 #[.float .f64 b, .int .i64 s] w fun e w' => e = .returned (.bool (infT b s)) ∧ Below w.heap.size w w' := by
  unfold infT
  by_cases h0 : s = 0
  · rw [if_pos h0]
    exact isinf_0 b s w hb (by rw [h0]; rfl) rfl rfl
  · rw [if_neg h0]
    by_cases h1 : s < 0
    · rw [if_pos h1]
      exact isinf_1 b s w hb (by simp [h0]) (decide_eq_true h1) rfl (decide_eq_true (Dy.neg_W hb).lt) rfl
    · rw [if_neg h1]
      exact isinf_2 b s w hb (by simp [h0]) (decide_eq_false h1) rfl
theorem infV_any (s : Int) (w : World) : Calls Try.prog 75 #[.int .i64 s] w fun e w' => e = .returned (.float .f64 (infV s)) ∧ Below w.heap.size w w' := by
  unfold infV
  by_cases h0 : s ≥ 0
  · rw [if_pos h0]
    exact infv_0 s w (decide_eq_true h0) rfl rfl (by unfold Dy.W; decide)
  · rw [if_neg h0]
    exact infv_1 s w (decide_eq_false h0) rfl rfl (by unfold Dy.W; decide)
def ctInfB : Ct := ctP 2 [vf 0, vi .i64 1] (fun us i => bRes (infT (gF us 0) (gI us 1)) i) 1 (vb 2)
theorem infB_ct : CtOk Try.prog 64 ctInfB := by
  refine ctP_ok (en Try.func64 rfl (by decide)) rfl rfl (fun us w vs hl hv hn => ?_) rfl
  match us, hl with
  | [u0, u1], _ =>
    obtain ⟨x, y, hx, hy, rfl⟩ := denL_cons.1 hv
    obtain ⟨x', y', hx', hy', rfl⟩ := denL_cons.1 hy
    rw [denL_nil.1 hy']
    obtain ⟨a1, e1, w1, rfl⟩ := den_fl hx
    obtain ⟨a2, e2, rfl⟩ := den_it hx'
    simp [E.ev] at e1 e2; subst e1 e2
    exact ⟨.bool (infT a1 a2), bo_den rfl, infT_any a1 a2 w w1⟩
def ctInfV : Ct := ctP 1 [vi .i64 0] (fun us i => fRes (infV (gI us 0)) i) 1 (vf 1)
theorem infV_ct : CtOk Try.prog 75 ctInfV := by
  refine ctP_ok (en Try.func75 rfl (by decide)) rfl rfl (fun us w vs hl hv hn => ?_) rfl
  match us, hl with
  | [u0], _ =>
    obtain ⟨x, y, hx, hy, rfl⟩ := denL_cons.1 hv
    rw [denL_nil.1 hy]
    obtain ⟨a2, e2, rfl⟩ := den_it hx
    simp [E.ev] at e2; subst e2
    exact ⟨.float .f64 (infV a2), fl_den rfl (by unfold infV; split <;> decide), infV_any a2 w⟩
def tR0 : List (Nat × Ct) := (64, ctInfB) :: (75, ctInfV) :: tq1
theorem tR0_ok : AllOk Try.prog tR0 := ⟨infB_ct, infV_ct, tq1_ok⟩
end Go.Proofs.Ytakdeeknfcifpaa
