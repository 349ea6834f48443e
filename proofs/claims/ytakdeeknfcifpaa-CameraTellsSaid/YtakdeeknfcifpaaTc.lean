/- A reckoning of programs by symbols: functions of package math that answer at once; Ldexp, Abs, IsNaN. -/
import Derived.Test.YtakdeeknfcifpaaTb
import Derived.Test.YtakdeeknfcifpaaTa
namespace Go.Proofs.Ytakdeeknfcifpaa
open Go Go.RowKit
set_option linter.unusedSimpArgs false
set_option linter.unusedVariables false
theorem fma_run (x y z r : Nat) (h : FloatKind.f64.format.fma x y z = some r) : Extern.MathFMA.fma #[.float .f64 x, .float .f64 y, .float .f64 z] = pure (.float .f64 r) := by
  delta Extern.MathFMA.fma
  show (match FloatKind.f64.format.fma x y z with | some r => pure (.float .f64 r) | none => _ : Sem Value) = _
  rw [h]
theorem root_run (x r : Nat) (h : FloatKind.f64.format.sqrt x = some r) : Extern.MathSqrt.sqrt #[.float .f64 x] = pure (.float .f64 r) := by
  delta Extern.MathSqrt.sqrt
  show (match FloatKind.f64.format.sqrt x with | some r => pure (.float .f64 r) | none => _ : Sem Value) = _
  rw [h]
def fmaF (x y z : Nat) : Option Nat := FloatKind.f64.format.fma x y z
def rootF (x : Nat) : Option Nat := FloatKind.f64.format.sqrt x
def nFma (us : List U) : Bool := okF (fmaF (gF us 0) (gF us 1) (gF us 2))
def nRoot (us : List U) : Bool := okF (rootF (gF us 0))
def nLdx (us : List U) : Bool := decide (-1000000 ≤ gI us 0 ∧ gI us 0 ≤ 1000000)
def ctFma : Ct := ctP 3 [vf 0, vf 1, vf 2] (fun us _ => .f ((fmaF (gF us 0) (gF us 1) (gF us 2)).getD 0)) 1 (vf 3) [⟨nFma, [.v 0, .v 1, .v 2]⟩]
theorem fma_ct : CtOk Try.prog 63 ctFma := by
  refine ctX_ok Try.func63 (by decide) rfl (by kernel_rfl) (e := Extern.MathFMA.fma) (by kernel_rfl) rfl rfl (fun us w vs hl hv hn => ?_) rfl
  match us, hl with
  | [u0, u1, u2], _ =>
    obtain ⟨x, y, hx, hy, rfl⟩ := denL_cons.1 hv
    obtain ⟨x', y', hx', hy', rfl⟩ := denL_cons.1 hy
    obtain ⟨x2, y2, hx2, hy2, rfl⟩ := denL_cons.1 hy'
    rw [denL_nil.1 hy2]
    obtain ⟨a1, e1, w1, rfl⟩ := den_fl hx
    obtain ⟨a2, e2, w2, rfl⟩ := den_fl hx'
    obtain ⟨a3, e3, w3, rfl⟩ := den_fl hx2
    simp [E.ev] at e1 e2 e3; subst e1 e2 e3
    obtain ⟨xs, h1, h2⟩ := hn _ (List.mem_singleton.2 rfl)
    simp [evs, E.ev] at h1; subst h1
    obtain ⟨r, hr, hw⟩ := okF_of (show okF (fmaF a1 a2 a3) = true from h2)
    refine ⟨.float .f64 r, fl_den (n := r) ?_ hw, ?_⟩
    · show some (U.f ((fmaF a1 a2 a3).getD 0)) = some (U.f r)
      rw [hr]; rfl
    · have hr' : FloatKind.f64.format.fma a1 a2 a3 = some r := hr
      show (Extern.MathFMA.fma #[.float .f64 a1, .float .f64 a2, .float .f64 a3]).run _ w = _
      rw [fma_run _ _ _ _ hr']; rfl
def ctRoot : Ct := ctP 1 [vf 0] (fun us _ => .f ((rootF (gF us 0)).getD 0)) 1 (vf 1) [⟨nRoot, [.v 0]⟩]
theorem root_ct : CtOk Try.prog 82 ctRoot := by
  refine ctX_ok Try.func82 (by decide) rfl (by kernel_rfl) (e := Extern.MathSqrt.sqrt) (by kernel_rfl) rfl rfl (fun us w vs hl hv hn => ?_) rfl
  match us, hl with
  | [u0], _ =>
    obtain ⟨x, y, hx, hy, rfl⟩ := denL_cons.1 hv
    rw [denL_nil.1 hy]
    obtain ⟨a1, e1, w1, rfl⟩ := den_fl hx
    simp [E.ev] at e1; subst e1
    obtain ⟨xs, h1, h2⟩ := hn _ (List.mem_singleton.2 rfl)
    simp [evs, E.ev] at h1; subst h1
    obtain ⟨r, hr, hw⟩ := okF_of (show okF (rootF a1) = true from h2)
    refine ⟨.float .f64 r, fl_den (n := r) ?_ hw, ?_⟩
    · show some (U.f ((rootF a1).getD 0)) = some (U.f r)
      rw [hr]; rfl
    · have hr' : FloatKind.f64.format.sqrt a1 = some r := hr
      show (Extern.MathSqrt.sqrt #[.float .f64 a1]).run _ w = _
      rw [root_run _ _ hr']; rfl
theorem W_ldx {b : Nat} (hb : Dy.W b) (e : Int) : Dy.W (Dy.ldx b e) := by
  unfold Dy.ldx
  split
  · rename_i h
    unfold Dy.W Dy.word
    have tp := Dy.top_eq
    have := Nat.min_le_right (Dy.nr (Dy.mag (b % 2 ^ 63) * 2 ^ e.toNat) (-e).toNat) Dy.top
    split <;> omega
  · exact hb
def ctLdx : Ct := ctP 2 [vf 0, vi .i64 1] (fun us _ => .f (Dy.ldx (gF us 0) (gI us 1))) 1 (vf 2) [⟨nLdx, [.v 1]⟩]
theorem ldx_ct : CtOk Try.prog 22 ctLdx := by
  refine ctP_ok (en Try.func22 rfl (by decide)) rfl rfl (fun us w vs hl hv hn => ?_) rfl
  match us, hl with
  | [u0, u1], _ =>
    obtain ⟨x, y, hx, hy, rfl⟩ := denL_cons.1 hv
    obtain ⟨x', y', hx', hy', rfl⟩ := denL_cons.1 hy
    rw [denL_nil.1 hy']
    obtain ⟨a1, e1, w1, rfl⟩ := den_fl hx
    obtain ⟨a2, e2, rfl⟩ := den_it hx'
    simp [E.ev] at e1 e2; subst e1 e2
    obtain ⟨xs, h1, h2⟩ := hn _ (List.mem_singleton.2 rfl)
    simp [evs, E.ev] at h1; subst h1
    have h3 : -1000000 ≤ a2 ∧ a2 ≤ 1000000 := of_decide_eq_true h2
    exact ⟨.float .f64 (Dy.ldx a1 a2), fl_den rfl (W_ldx w1 a2), (ldexp_any a1 a2 w w1 h3.1 h3.2).mono fun e w2 ⟨h1, h2⟩ => ⟨h1, by subst h2; exact Below.refl _ _⟩⟩
def ctAbsT : Ct := ctP 1 [vf 0] (fun us _ => .f (Dy.abs (gF us 0))) 1 (vf 1)
theorem absT_ct : CtOk Try.prog 20 ctAbsT := by
  refine ctP_ok (en Try.func20 rfl (by decide)) rfl rfl (fun us w vs hl hv _ => ?_) rfl
  match us, hl with
  | [u0], _ =>
    obtain ⟨x, y, hx, hy, rfl⟩ := denL_cons.1 hv
    rw [denL_nil.1 hy]
    obtain ⟨a1, e1, w1, rfl⟩ := den_fl hx
    simp [E.ev] at e1; subst e1
    exact ⟨.float .f64 (Dy.abs a1), fl_den rfl (Dy.W_abs a1), (abs_any a1 w w1).mono fun e w2 ⟨h1, h2⟩ => ⟨h1, by subst h2; exact Below.refl _ _⟩⟩
def ctNanT : Ct := ctP 1 [vf 0] (fun us _ => .b (Dy.nan (gF us 0))) 1 (vb 1)
theorem nanT_ct : CtOk Try.prog 71 ctNanT := by
  refine ctP_ok (en Try.func71 rfl (by decide)) rfl rfl (fun us w vs hl hv _ => ?_) rfl
  match us, hl with
  | [u0], _ =>
    obtain ⟨x, y, hx, hy, rfl⟩ := denL_cons.1 hv
    rw [denL_nil.1 hy]
    obtain ⟨a1, e1, w1, rfl⟩ := den_fl hx
    simp [E.ev] at e1; subst e1
    exact ⟨.bool (Dy.nan a1), bo_den rfl, (isNaN_any a1 w w1).mono fun e w2 ⟨h1, h2⟩ => ⟨h1, by subst h2; exact Below.refl _ _⟩⟩
def ctSgnT : Ct := ctP 1 [vf 0] (fun us _ => .b (Dy.sgn (gF us 0))) 1 (vb 1)
theorem sgnT_ct : CtOk Try.prog 72 ctSgnT := by
  refine ctP_ok (en Try.func72 rfl (by decide)) rfl rfl (fun us w vs hl hv _ => ?_) rfl
  match us, hl with
  | [u0], _ =>
    obtain ⟨x, y, hx, hy, rfl⟩ := denL_cons.1 hv
    rw [denL_nil.1 hy]
    obtain ⟨a1, e1, w1, rfl⟩ := den_fl hx
    simp [E.ev] at e1; subst e1
    exact ⟨.bool (Dy.sgn a1), bo_den rfl, (signbit_any a1 w w1).mono fun e w2 ⟨h1, h2⟩ => ⟨h1, by subst h2; exact Below.refl _ _⟩⟩
def math0 : List (Nat × Ct) := [(63, ctFma), (82, ctRoot), (22, ctLdx), (20, ctAbsT), (71, ctNanT), (72, ctSgnT), (41, ctBits), (45, ctFrom)]
theorem math0_ok : AllOk Try.prog math0 := ⟨fma_ct, root_ct, ldx_ct, absT_ct, nanT_ct, sgnT_ct, bits_ct, from_ct, trivial⟩
end Go.Proofs.Ytakdeeknfcifpaa
