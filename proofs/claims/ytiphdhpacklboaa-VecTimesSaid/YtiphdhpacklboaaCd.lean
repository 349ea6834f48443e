/- Plain facts: parts of what lies between two numbers; spans. -/
import Derived.Test.YtiphdhpacklboaaYh
import Derived.Test.YtiphdhpacklboaaEc
import Derived.Test.YtiphdhpacklboaaCa
namespace Go.Dy
open Ieee
theorem btw_of2 {l h : Int} {r : Nat} (hl : -B10 ≤ l) (hlh : l ≤ h) (hh : h ≤ B10) (hr : r ≤ 4607182418800017408) :
    ∃ (d m : Nat) (t : Int), d < 9218868437227405312 ∧ m ≤ d ∧ ok t ∧ double.sub (enc h) (enc l) = some d ∧ double.mul d r = some m ∧ double.add (enc l) m = some (enc t) := by
  have tp := top_eq
  have vl := V_le_iff.2 hl
  have vh := V_le_iff.2 hh
  have vlh := V_le_iff.2 hlh
  rw [V_neg, V_B10] at vl
  rw [V_B10] at vh
  have ol : ok l := ok_B (by omega) (by unfold B10 at *; omega)
  have oh : ok h := ok_B (by unfold B10 at *; omega) (by omega)
  have d0 : 0 ≤ nz (V h - V l) := le_nz (by rw [V_zero]; omega)
  have d1 : nz (V h - V l) ≤ B10 + 4503599627370496 := nz_le (by rw [V_B11]; omega)
  have od : ok (nz (V h - V l)) := ok_B (by unfold B10 at *; omega) (by omega)
  have ed := sub_enc oh ol od
  generalize nz (V h - V l) = D at *
  have eD : enc D = D.toNat := enc_nonneg d0
  have bD : D.toNat < 9218868437227405312 := by unfold B10 at *; omega
  obtain ⟨m, em, hm⟩ := fmul_part (d := D.toNat) (r := r) bD hr
  have em2 : (m : Nat) = enc (m : Int) := by unfold enc; rw [if_pos (by omega)]; omega
  have om : ok (m : Int) := ok_B (by unfold B10 at *; omega) (by omega)
  have v0 : 0 ≤ V (m : Int) := V_nonneg.2 (by omega)
  have v1 : V (m : Int) ≤ 2048 * (one : Int) := by rw [← V_B11]; exact V_le_iff.2 (by omega)
  have t0 : -(B10 + 9007199254740992) ≤ nz (V l + V (m : Int)) := le_nz (by rw [V_neg, V_B12]; omega)
  have t1 : nz (V l + V (m : Int)) ≤ B10 + 9007199254740992 := nz_le (by rw [V_B12]; omega)
  have ot := ok_B t0 t1
  refine ⟨D.toNat, m, nz (V l + V (m : Int)), bD, hm, ot, by rw [ed, eD], em, ?_⟩
  have := add_enc ol om ot
  rw [← em2] at this
  exact this
end Go.Dy
namespace Go.Proofs.Ytiphdhpacklboaa
open Go Go.RowKit

theorem near_fiS (m : Nat) : FloatKind.f64.nearest (m : Int) = Dy.fi m := by
  unfold FloatKind.nearest Dy.fi
  rw [show decide ((m : Int) < 0) = false by simp, Int.natAbs_natCast]
  rfl
/-- A part of 1, by 32 bits. -/
def fracF (u : Int) : Nat := (Ieee.double.div (FloatKind.f64.nearest u) 4751297606873776128).getD 0
def btwT (lo hi : Nat) (u : Int) : Nat := (Ieee.double.add lo ((Ieee.double.mul ((Ieee.double.sub hi lo).getD 0) (fracF u)).getD 0)).getD 0
/-- A number between two. -/
def btwF (lo hi : Nat) (u : Int) : Nat := if Dy.flt (btwT lo hi u) lo = true then lo else if Dy.fgt (btwT lo hi u) hi = true then hi else btwT lo hi u
def fracN (u : Int) : Bool := decide (FloatKind.f64.nearest u < W64) && okF (Ieee.double.div (FloatKind.f64.nearest u) 4751297606873776128)
def btwN (lo hi : Nat) (u : Int) : Bool := fracN u && okF (Ieee.double.sub hi lo) && okF (Ieee.double.mul ((Ieee.double.sub hi lo).getD 0) (fracF u)) && okF (Ieee.double.add lo ((Ieee.double.mul ((Ieee.double.sub hi lo).getD 0) (fracF u)).getD 0))
/-- An interval between two. -/
def spanF (lo hi : Nat) (u v : Int) : Nat × Nat := if Dy.fgt (btwF lo hi u) (btwF lo hi v) = true then (btwF lo hi v, btwF lo hi u) else (btwF lo hi u, btwF lo hi v)
def nFrac (us : List U) : Bool := fracN (gI us 0)
def nBtw (us : List U) : Bool := btwN (gF us 0) (gF us 1) (gI us 2)
def nSpan (us : List U) : Bool := btwN (gF us 0) (gF us 1) (gI us 2) && btwN (gF us 0) (gF us 1) (gI us 3)
theorem okF_some {r : Nat} {o : Option Nat} (h : o = some r) (hr : r < W64) : okF o = true := by subst h; exact decide_eq_true hr
theorem btw_F {l h : Int} {u : Nat} (hl : -Dy.B10 ≤ l) (hlh : l ≤ h) (hh : h ≤ Dy.B10) (hu : u < 4294967296) : btwN (Dy.enc l) (Dy.enc h) u = true ∧ ∃ z, l ≤ z ∧ z ≤ h ∧ btwF (Dy.enc l) (Dy.enc h) u = Dy.enc z := by
  obtain ⟨r, er, hr⟩ := Dy.frq_of (u := u) (by omega)
  obtain ⟨d, m, t, bd, bm, ot, e1, e2, e3⟩ := Dy.btw_of2 hl hlh hh hr
  have ol : Dy.ok l := Dy.ok_B (by unfold Dy.B10 at *; omega) (by unfold Dy.B10 at *; omega)
  have oh : Dy.ok h := Dy.ok_B (by unfold Dy.B10 at *; omega) (by unfold Dy.B10 at *; omega)
  obtain ⟨_, f2, _, _⟩ := Dy.fi_spec (m := u) (by omega)
  have k1 : fracF u = r := by unfold fracF; rw [near_fiS, er]; rfl
  have k2 : btwT (Dy.enc l) (Dy.enc h) u = Dy.enc t := by
    unfold btwT
    rw [k1, e1]
    show (Ieee.double.add _ ((Ieee.double.mul d r).getD 0)).getD 0 = _
    rw [e2]
    show (Ieee.double.add _ m).getD 0 = _
    rw [e3]; rfl
  refine ⟨?_, ?_⟩
  · unfold btwN fracN
    rw [k1, near_fiS, e1]
    show (decide (Dy.fi u < W64) && okF _ && okF (some d) && okF (Ieee.double.mul d r) && okF (Ieee.double.add (Dy.enc l) ((Ieee.double.mul d r).getD 0))) = true
    rw [e2]
    show (decide (Dy.fi u < W64) && okF _ && okF (some d) && okF (some m) && okF (Ieee.double.add (Dy.enc l) m)) = true
    rw [e3, decide_eq_true (show Dy.fi u < W64 from f2), okF_some er (by unfold W64; omega), okF_some rfl (by unfold W64; omega), okF_some rfl (by unfold W64; omega), okF_some rfl (Dy.W_enc ot)]; rfl
  · unfold btwF
    rw [k2, Dy.flt_enc ot ol, Dy.fgt_enc ot oh]
    by_cases c1 : t < l
    · exact ⟨l, Int.le_refl _, hlh, by rw [decide_eq_true c1]; rfl⟩
    · by_cases c2 : h < t
      · exact ⟨h, hlh, Int.le_refl _, by rw [decide_eq_false c1, decide_eq_true c2]; rfl⟩
      · exact ⟨t, by omega, by omega, by rw [decide_eq_false c1, decide_eq_false c2]; rfl⟩
theorem span_F {l h : Int} {u v : Nat} (hl : -Dy.B10 ≤ l) (hlh : l ≤ h) (hh : h ≤ Dy.B10) (hu : u < 4294967296) (hv : v < 4294967296) :
    nSpan [.f (Dy.enc l), .f (Dy.enc h), .i (u : Int), .i (v : Int)] = true ∧ ∃ p, Dy.Rk p ∧ Dy.Wi p (l, h) ∧ spanF (Dy.enc l) (Dy.enc h) u v = Dy.E p := by
  obtain ⟨n1, y, y1, y2, ey⟩ := btw_F hl hlh hh hu
  obtain ⟨n2, z, z1, z2, ez⟩ := btw_F hl hlh hh hv
  have oy : Dy.ok y := Dy.ok_B (by unfold Dy.B10 at *; omega) (by unfold Dy.B10 at *; omega)
  have oz : Dy.ok z := Dy.ok_B (by unfold Dy.B10 at *; omega) (by unfold Dy.B10 at *; omega)
  refine ⟨?_, ?_⟩
  · show (btwN (Dy.enc l) (Dy.enc h) u && btwN (Dy.enc l) (Dy.enc h) v) = true
    rw [n1, n2]; rfl
  · unfold spanF
    rw [ey, ez, Dy.fgt_enc oy oz]
    by_cases c : z < y
    · exact ⟨(z, y), ⟨oz, oy, by dsimp only; omega⟩, ⟨z1, y2⟩, by rw [decide_eq_true c]; rfl⟩
    · exact ⟨(y, z), ⟨oy, oz, by dsimp only; omega⟩, ⟨y1, z2⟩, by rw [decide_eq_false c]; rfl⟩
/-- A span between the ends of an interval is a lesser one. -/
theorem span_in {p : Int × Int} (hp : Dy.Rk p) (hl : -Dy.B10 ≤ p.1) (hh : p.2 ≤ Dy.B10) {u v : Nat} (hu : u < 4294967296) (hv : v < 4294967296) :
    nSpan [.f (Dy.enc p.1), .f (Dy.enc p.2), .i (u : Int), .i (v : Int)] = true ∧ ∃ q, Dy.Rk q ∧ Dy.Wi q p ∧ spanF (Dy.enc p.1) (Dy.enc p.2) u v = Dy.E q := span_F hl hp.le hh hu hv
end Go.Proofs.Ytiphdhpacklboaa
