/- A reckoning of programs by symbols: burnishref01.far, math.normalize. -/
import Derived.Test.YtnbdjpnnagpldaaTk
namespace Go.Proofs.Ytnbdjpnnagpldaa
open Go Go.RowKit
set_option linter.unusedSimpArgs false
set_option linter.unusedVariables false
open Dy
def nFarT (us : List U) : Bool := right (gF us 0) && (right (gF us 1) && (decide (gF us 2 = nrst (nz (V (dec (gF us 0)) + V (dec (gF us 1))))) && (right (gF us 2) && decide (V K1000 ≤ ((V (dec (gF us 2))).natAbs : Int)))))
theorem nrst_right {z : Int} (h : right (nrst z) = true) : ok z ∧ nrst z = enc z := by
  have tp := top_eq
  unfold nrst at h ⊢
  by_cases h1 : (top : Int) ≤ z
  · rw [if_pos h1] at h; exfalso; revert h; decide
  · by_cases h2 : z ≤ -(top : Int)
    · rw [if_neg h1, if_pos h2] at h; exfalso; revert h; decide
    · rw [if_neg h1, if_neg h2]; exact ⟨by unfold ok; omega, rfl⟩
def ctFarT : Ct := ctP 4 [vf 0, vf 1, vf 2, vb 3] (fun us i => widthU (Dy.dAdd (gF us 0) (gF us 1) (gB' us 3)) i) 2 (.tup [vf 4, vi .i64 5]) [⟨nFarT, [.v 0, .v 1, .v 2]⟩]
theorem farT_ct : CtOk Try.prog 32 ctFarT := by
  refine ctP_ok (en Try.func32 rfl (by decide)) rfl rfl (fun us w vs hl hv hn => ?_) rfl
  match us, hl with
  | [u0, u1, u2, u3], _ =>
    obtain ⟨x, y, hx, hy, rfl⟩ := denL_cons.1 hv
    obtain ⟨x', y', hx', hy', rfl⟩ := denL_cons.1 hy
    obtain ⟨x2, y2, hx2, hy2, rfl⟩ := denL_cons.1 hy'
    obtain ⟨x3, y3, hx3, hy3, rfl⟩ := denL_cons.1 hy2
    rw [denL_nil.1 hy3]
    obtain ⟨a1, e1, w1, rfl⟩ := den_fl hx
    obtain ⟨a2, e2, w2, rfl⟩ := den_fl hx'
    obtain ⟨a3, e3, w3, rfl⟩ := den_fl hx2
    obtain ⟨a4, e4, rfl⟩ := den_bo hx3
    simp [E.ev] at e1 e2 e3 e4; subst e1 e2 e3 e4
    obtain ⟨xs, h1, h2⟩ := hn _ (List.mem_singleton.2 rfl)
    simp [evs, E.ev] at h1; subst h1
    have h3 : (right a1 && (right a2 && (decide (a3 = nrst (nz (V (dec a1) + V (dec a2)))) && (right a3 && decide (V K1000 ≤ ((V (dec a3)).natAbs : Int)))))) = true := h2
    simp only [Bool.and_eq_true, decide_eq_true_eq] at h3
    obtain ⟨ra, rb, rfl, rs, hs⟩ := h3
    obtain ⟨os, en⟩ := nrst_right rs
    rw [en, dec_enc os] at hs
    refine ⟨.tuple #[.float .f64 (Dy.dAdd a1 a2 a4).1, .int .i64 (Dy.dAdd a1 a2 a4).2], ?_, ?_⟩
    · have k0 := Dy.dAdd_W a1 a2 a4
      unfold den
      rw [denL_cons.2 ⟨_, _, fl_den (n := (Dy.dAdd a1 a2 a4).1) rfl k0, denL_cons.2 ⟨_, [], it_den (n := (Dy.dAdd a1 a2 a4).2) rfl, rfl, rfl⟩, rfl⟩]
    · rw [en]
      exact far_any a1 a2 a4 w w1 w2 ra rb os hs
def nFinT (us : List U) : Bool := decide (gF us 0 % 2 ^ 63 < Dy.top)
def normT (b : Nat) : Nat × Int := (Dy.norm1 b, Dy.norm2 b)
theorem W_norm1 {b : Nat} (hb : Dy.W b) (hf : fin b) : Dy.W (norm1 b) := by
  by_cases h0 : b % 2 ^ 63 = 0
  · have h : abs b < 2 ^ 52 := by unfold abs; omega
    unfold norm1; rw [if_pos h]
    have e : fmul b 4841369599423283200 = fmul b 4841369599423283200 := rfl
    have hm := mul_eq (x := b) (y := 4841369599423283200) hb (by decide) hf (by decide)
    unfold Dy.W at hb
    rcases Nat.lt_or_ge b (2 ^ 63) with h1 | h1
    · have : b = 0 := by omega
      subst this; unfold Dy.W; decide +kernel
    · have : b = 2 ^ 63 := by omega
      subst this; unfold Dy.W; decide +kernel
  · obtain ⟨r, e, h1, h2, -⟩ := norm_spec hb hf h0
    rw [e]; unfold Dy.W word; have := top_eq; split <;> omega
def ctNormT : Ct := ctP 1 [vf 0] (fun us i => widthU (normT (gF us 0)) i) 2 (.tup [vf 1, vi .i64 2]) [⟨nFinT, [.v 0]⟩]
theorem normT_ct : CtOk Try.prog 66 ctNormT := by
  refine ctP_ok (en Try.func66 rfl (by decide)) rfl rfl (fun us w vs hl hv hn => ?_) rfl
  match us, hl with
  | [u0], _ =>
    obtain ⟨x, y, hx, hy, rfl⟩ := denL_cons.1 hv
    rw [denL_nil.1 hy]
    obtain ⟨a1, e1, w1, rfl⟩ := den_fl hx
    simp [E.ev] at e1; subst e1
    obtain ⟨xs, h1, h2⟩ := hn _ (List.mem_singleton.2 rfl)
    simp [evs, E.ev] at h1; subst h1
    have hf : fin a1 := by
      have h3 : a1 % 2 ^ 63 < Dy.top := of_decide_eq_true h2
      exact h3
    refine ⟨.tuple #[.float .f64 (norm1 a1), .int .i64 (norm2 a1)], ?_, (normalize_any a1 w w1 hf).mono fun e w2 ⟨h1, h2⟩ => ⟨h1, by subst h2; exact Below.refl _ _⟩⟩
    unfold den
    rw [denL_cons.2 ⟨_, _, fl_den (n := norm1 a1) rfl (W_norm1 w1 hf), denL_cons.2 ⟨_, [], it_den (n := norm2 a1) rfl, rfl, rfl⟩, rfl⟩]
def tL0 : List (Nat × Ct) := (32, ctFarT) :: (66, ctNormT) :: tG0
theorem tL0_ok : AllOk Try.prog tL0 := ⟨farT_ct, normT_ct, tG0_ok⟩
end Go.Proofs.Ytnbdjpnnagpldaa
