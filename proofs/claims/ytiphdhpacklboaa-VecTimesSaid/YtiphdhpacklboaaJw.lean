/- Plain facts: spans, what is within. -/
import Derived.Test.YtiphdhpacklboaaYq
namespace Go.Proofs.Ytiphdhpacklboaa
open Go Go.RowKit

theorem pair3' (r : (Nat × Nat) × Int) : r = ((r.1.1, r.1.2), r.2) := rfl
theorem spanL {l h : Int} {a b u v : Nat} (ha : a = Dy.enc l) (hb : b = Dy.enc h) (hl : -Dy.B10 ≤ l) (hlh : l ≤ h) (hh : h ≤ Dy.B10) (hu : u < 4294967296) (hv : v < 4294967296) :
    nSpan [.f a, .f b, .i (u : Int), .i (v : Int)] = true ∧ ∃ p, Dy.Rk p ∧ Dy.Wi p (l, h) ∧ spanF a b u v = (Dy.enc p.1, Dy.enc p.2) := by
  subst ha hb; exact span_F hl hlh hh hu hv
theorem inW_of {a a' : Nat × Nat} (h : Dy.Wn a a') : inW a' a = true := by
  obtain ⟨p, p', rfl, rfl, hp, hp', w⟩ := h
  show ((Dy.flt (Dy.enc p.1) (Dy.enc p'.1) || Dy.feq (Dy.enc p.1) (Dy.enc p'.1)) && (Dy.flt (Dy.enc p'.2) (Dy.enc p.2) || Dy.feq (Dy.enc p'.2) (Dy.enc p.2))) = true
  rw [Dy.fle_enc hp.lo hp'.lo, Dy.fle_enc hp'.hi hp.hi, decide_eq_true w.lo, decide_eq_true w.hi]; rfl
theorem wn_mk {p p' : Int × Int} (hp : Dy.Rk p) (hp' : Dy.Rk p') (w : Dy.Wi p' p) : Dy.Wn (Dy.enc p.1, Dy.enc p.2) (Dy.enc p'.1, Dy.enc p'.2) := ⟨p, p', rfl, rfl, hp, hp', w⟩
theorem wi_trans {p q r : Int × Int} (h : Dy.Wi p q) (k : Dy.Wi q r) : Dy.Wi p r := ⟨by have := h.lo; have := k.lo; omega, by have := h.hi; have := k.hi; omega⟩

theorem pair5' (r : ((Nat × Nat) × (Nat × Nat)) × Int) : r = (((r.1.1.1, r.1.1.2), (r.1.2.1, r.1.2.2)), r.2) := rfl
theorem E_inj {p q : Int × Int} (hp : Dy.Rk p) (hq : Dy.Rk q) (h : (Dy.enc p.1, Dy.enc p.2) = Dy.E q) : p = q := by
  obtain ⟨h1, h2⟩ := Prod.mk.inj (show (Dy.enc p.1, Dy.enc p.2) = (Dy.enc q.1, Dy.enc q.2) from h)
  have a := congrArg Dy.dec h1; have b := congrArg Dy.dec h2
  rw [Dy.dec_enc hp.lo, Dy.dec_enc hq.lo] at a
  rw [Dy.dec_enc hp.hi, Dy.dec_enc hq.hi] at b
  exact Prod.ext a b
theorem span_inner {p : Int × Int} {l h : Int} {x y : Nat} (hp : Dy.Rk p) (wp : Dy.Wi p (l, h)) (b1 : -Dy.B10 ≤ l) (b2 : h ≤ Dy.B10) (hx : x < 4294967296) (hy : y < 4294967296) : nSpan [.f (Dy.enc p.1), .f (Dy.enc p.2), .i (x : Int), .i (y : Int)] = true ∧ ∃ p', Dy.Rk p' ∧ Dy.Wi p' p ∧ spanF (Dy.enc p.1) (Dy.enc p.2) x y = (Dy.enc p'.1, Dy.enc p'.2) := by
  have := wp.lo; have := wp.hi
  exact spanL rfl rfl (by dsimp only at *; omega) hp.le (by dsimp only at *; omega) hx hy
end Go.Proofs.Ytiphdhpacklboaa
