/- Walks: math.Nextafter toward an infinite number. -/
import Derived.Test.YtkhplflbcgjkcaaGreatTd
namespace Go.Dy
def up1 (c : Nat) : Nat := if c % 2 ^ 63 = 0 then 1 else if c < 2 ^ 63 then c + 1 else c - 1
def dn1 (c : Nat) : Nat := if c % 2 ^ 63 = 0 then 2 ^ 63 + 1 else if c < 2 ^ 63 then c - 1 else c + 1
abbrev pinf : Nat := 9218868437227405312
abbrev ninf : Nat := 18442240474082181120
theorem dec_cases {b : Nat} (hb : W b) : (b < 2 ^ 63 ∧ dec b = (b : Int)) ∨ (2 ^ 63 ≤ b ∧ dec b = -((b % 2 ^ 63 : Nat) : Int)) := by
 unfold W at hb
 unfold dec
 by_cases h : b < 2 ^ 63
 ·left; rw [if_pos h]; exact ⟨h, rfl⟩
 ·right; rw [if_neg h]; refine ⟨by omega, ?_⟩
  have e : b - 2 ^ 63 = b % 2 ^ 63 := by omega
  rw [e]
theorem fin_nan {b : Nat} (hf : fin b) : nan b = false := by
 unfold fin at hf; unfold nan; exact decide_eq_false (by omega)
theorem dec_pinf : dec pinf = (top : Int) := by decide
theorem dec_ninf : dec ninf = -(top : Int) := by decide
theorem dec_fin {b : Nat} (hb : W b) (hf : fin b) : -(top : Int) < dec b ∧ dec b < top := by
 unfold fin at hf
 rcases dec_cases hb with ⟨h, e⟩ | ⟨h, e⟩
 ·rw [e]; unfold W at hb; omega
 ·rw [e]; omega
theorem dec_zero_iff {b : Nat} (hb : W b) : dec b = 0 ↔ b % 2 ^ 63 = 0 := by
 rcases dec_cases hb with ⟨h, e⟩ | ⟨h, e⟩
 ·rw [e]; omega
 ·rw [e]; omega
theorem dec_pos_iff {b : Nat} (hb : W b) (h0 : b % 2 ^ 63 ≠ 0) : 0 < dec b ↔ b < 2 ^ 63 := by
 rcases dec_cases hb with ⟨h, e⟩ | ⟨h, e⟩
 ·rw [e]; omega
 ·rw [e]; omega
theorem W_up1 {c : Nat} (h : W c) (hf : fin c) : W (up1 c) := by
 unfold W at *; unfold up1; unfold fin at hf; have := top_eq; split
 ·omega
 ·split <;> omega
theorem W_dn1 {c : Nat} (h : W c) (hf : fin c) : W (dn1 c) := by
 unfold W at *; unfold dn1; unfold fin at hf; have := top_eq; split
 ·omega
 ·split <;> omega
end Go.Dy
namespace Go.Proofs.YtkhplflbcgjkcaaGreat
open Go Go.RowKit
set_option linter.unusedSimpArgs false
set_option linter.unusedVariables false
open Dy in
theorem nxt_up (b : Nat) (w : World) (hb : Dy.W b) (hf : Dy.fin b) : Calls Tryz.prog 86 #[.float .f64 b, .float .f64 pinf] w fun e w' => e = .returned (.float .f64 (up1 b)) ∧ Below w.heap.size w w' := by
 have hy : Dy.W pinf := by unfold Dy.W; decide
 have n1 := fin_nan hf
 have n2 : nan pinf = false := by decide
 have n0 : nan 0 = false := by decide
 have d := dec_fin hb hf
 have h2 : feq b pinf = false := by rw [feq_eq hb.lt (by decide), n1, n2, dec_pinf]; simp; omega
 have h3 : feq b 0 = decide (b % 2 ^ 63 = 0) := by rw [feq_eq hb.lt (by decide), n1, n0]; simp; rw [show dec 0 = 0 from by decide, dec_zero_iff hb]
 have h4 : fgt pinf b = true := by rw [fgt_eq (by decide) hb.lt, n1, n2, dec_pinf]; simp; omega
 by_cases c0 : b % 2 ^ 63 = 0
 ·rw [decide_eq_true c0] at h3
  have e : up1 b = 1 := by unfold up1; rw [if_pos c0]
  rw [e]
  exact nxt_1 b pinf w hb hy n1 n2 h2 h3 rfl rfl rfl rfl rfl rfl rfl rfl rfl (by unfold Dy.W; decide)
 ·rw [decide_eq_false c0] at h3
  have h5 : fgt b 0 = decide (b < 2 ^ 63) := by rw [fgt_eq hb.lt (by decide), n1, n0]; simp; rw [show dec 0 = 0 from by decide, dec_pos_iff hb c0]
  unfold fin at hf
  have tp := top_eq
  have hb' := hb
  unfold W at hb'
  by_cases c1 : b < 2 ^ 63
  ·rw [decide_eq_true c1] at h5
   have e : up1 b = b + 1 := by unfold up1; rw [if_neg c0, if_pos c1]
   have ew : IntKind.u64.wrap ((b : Int) + 1) = ((b + 1 : Nat) : Int) := by rw [IntKind.wrap_u64]; omega
   rw [e]
   exact nxt_2 b pinf w hb hy n1 n2 h2 h3 h4 h5 rfl ew (by omega) (decide_eq_true (show (((b + 1 : Nat) : Int)).toNat < W64 by unfold W64; omega)) (by unfold W; omega)
  ·rw [decide_eq_false c1] at h5
   have e : up1 b = b - 1 := by unfold up1; rw [if_neg c0, if_neg c1]
   have ew : IntKind.u64.wrap ((b : Int) - 1) = ((b - 1 : Nat) : Int) := by rw [IntKind.wrap_u64]; omega
   rw [e]
   exact nxt_5 b pinf w hb hy n1 n2 h2 h3 h4 h5 rfl ew (by omega) (decide_eq_true (show (((b - 1 : Nat) : Int)).toNat < W64 by unfold W64; omega)) (by unfold W; omega)
open Dy in
theorem nxt_dn (b : Nat) (w : World) (hb : Dy.W b) (hf : Dy.fin b) : Calls Tryz.prog 86 #[.float .f64 b, .float .f64 ninf] w fun e w' => e = .returned (.float .f64 (dn1 b)) ∧ Below w.heap.size w w' := by
 have hy : Dy.W ninf := by unfold Dy.W; decide
 have n1 := fin_nan hf
 have n2 : nan ninf = false := by decide
 have n0 : nan 0 = false := by decide
 have d := dec_fin hb hf
 have h2 : feq b ninf = false := by rw [feq_eq hb.lt (by decide), n1, n2, dec_ninf]; simp; omega
 have h3 : feq b 0 = decide (b % 2 ^ 63 = 0) := by rw [feq_eq hb.lt (by decide), n1, n0]; simp; rw [show dec 0 = 0 from by decide, dec_zero_iff hb]
 have h4 : fgt ninf b = false := by rw [fgt_eq (by decide) hb.lt, n1, n2, dec_ninf]; simp; omega
 by_cases c0 : b % 2 ^ 63 = 0
 ·rw [decide_eq_true c0] at h3
  have e : dn1 b = 2 ^ 63 + 1 := by unfold dn1; rw [if_pos c0]
  rw [e]
  exact nxt_1 b ninf w hb hy n1 n2 h2 h3 rfl rfl rfl rfl rfl rfl rfl rfl rfl (by unfold Dy.W; decide)
 ·rw [decide_eq_false c0] at h3
  have h5 : fgt b 0 = decide (b < 2 ^ 63) := by rw [fgt_eq hb.lt (by decide), n1, n0]; simp; rw [show dec 0 = 0 from by decide, dec_pos_iff hb c0]
  unfold fin at hf
  have tp := top_eq
  have hb' := hb
  unfold W at hb'
  by_cases c1 : b < 2 ^ 63
  ·rw [decide_eq_true c1] at h5
   have e : dn1 b = b - 1 := by unfold dn1; rw [if_neg c0, if_pos c1]
   have ew : IntKind.u64.wrap ((b : Int) - 1) = ((b - 1 : Nat) : Int) := by rw [IntKind.wrap_u64]; omega
   rw [e]
   exact nxt_3 b ninf w hb hy n1 n2 h2 h3 h4 h5 rfl ew (by omega) (decide_eq_true (show (((b - 1 : Nat) : Int)).toNat < W64 by unfold W64; omega)) (by unfold W; omega)
  ·rw [decide_eq_false c1] at h5
   have e : dn1 b = b + 1 := by unfold dn1; rw [if_neg c0, if_neg c1]
   have ew : IntKind.u64.wrap ((b : Int) + 1) = ((b + 1 : Nat) : Int) := by rw [IntKind.wrap_u64]; omega
   rw [e]
   exact nxt_4 b ninf w hb hy n1 n2 h2 h3 h4 h5 rfl ew (by omega) (decide_eq_true (show (((b + 1 : Nat) : Int)).toNat < W64 by unfold W64; omega)) (by unfold W; omega)
def nxG (b y : Nat) : Nat := if y = Dy.pinf then Dy.up1 b else Dy.dn1 b
def nNx (us : List U) : Bool := decide (gF us 0 % 2 ^ 63 < Dy.top ∧ (gF us 1 = Dy.pinf ∨ gF us 1 = Dy.ninf))
def ctNxT : Ct := ctP 2 [vf 0, vf 1] (fun us _ => .f (nxG (gF us 0) (gF us 1))) 1 (vf 2) [⟨nNx, [.v 0, .v 1]⟩]
theorem nxT_ct : CtOk Tryz.prog 86 ctNxT := by
 refine ctP_ok (en Tryz.func86 rfl (by decide)) rfl rfl (fun us w vs hl hv hn => ?_) rfl
 match us, hl with
 | [u0, u1], _ =>
  obtain ⟨x, y, hx, hy, rfl⟩ := denL_cons.1 hv
  obtain ⟨x', y', hx', hy', rfl⟩ := denL_cons.1 hy
  rw [denL_nil.1 hy']
  obtain ⟨a1, e1, w1, rfl⟩ := den_fl hx
  obtain ⟨a2, e2, w2, rfl⟩ := den_fl hx'
  simp [E.ev] at e1 e2; subst e1 e2
  obtain ⟨xs, h1, h2⟩ := hn _ (List.mem_singleton.2 rfl)
  simp [evs, E.ev] at h1; subst h1
  have h3 : a1 % 2 ^ 63 < Dy.top ∧ (a2 = Dy.pinf ∨ a2 = Dy.ninf) := of_decide_eq_true h2
  obtain ⟨hf, h4⟩ := h3
  have hf' : Dy.fin a1 := hf
  rcases h4 with h4 | h4
  ·subst h4
   have e : nxG a1 Dy.pinf = Dy.up1 a1 := by unfold nxG; rw [if_pos rfl]
   exact ⟨.float .f64 (Dy.up1 a1), fl_den (by show some (U.f (nxG a1 Dy.pinf)) = _; rw [e]) (Dy.W_up1 w1 hf'), nxt_up a1 w w1 hf'⟩
  ·subst h4
   have e : nxG a1 Dy.ninf = Dy.dn1 a1 := by unfold nxG; rw [if_neg (by decide)]
   exact ⟨.float .f64 (Dy.dn1 a1), fl_den (by show some (U.f (nxG a1 Dy.ninf)) = _; rw [e]) (Dy.W_dn1 w1 hf'), nxt_dn a1 w w1 hf'⟩
def tE0 : List (Nat × Ct) := (86, ctNxT) :: ta2
theorem tE0_ok : AllOk Tryz.prog tE0 := ⟨nxT_ct, ta2_ok⟩
end Go.Proofs.YtkhplflbcgjkcaaGreat
