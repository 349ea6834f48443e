/- Plain facts: microfacets, of what may be asked. -/
import Derived.Test.YtikiegcncliocaaGa
import Derived.Test.YtikiegcncliocaaJw
namespace Go.Proofs.Ytikiegcncliocaa
open Go Go.RowKit

theorem ge_ok {l y : Int} {a : Nat} (ha : a = Dy.enc l) (ol : Dy.ok l) (oy : Dy.ok y) (h : l ≤ y) : (Dy.fgt (Dy.enc y) a || Dy.feq (Dy.enc y) a) = true := by
  subst ha
  rw [Dy.fgt_enc oy ol, Dy.feq_enc oy ol]
  by_cases c : l < y
  · rw [decide_eq_true c]; rfl
  · rw [decide_eq_false c, decide_eq_true (show y = l by omega)]; rfl
theorem le_ok {l y : Int} {a : Nat} (ha : a = Dy.enc l) (ol : Dy.ok l) (oy : Dy.ok y) (h : y ≤ l) : (Dy.flt (Dy.enc y) a || Dy.feq (Dy.enc y) a) = true := by
  subst ha
  rw [Dy.fle_enc oy ol, decide_eq_true h]
theorem gA_ok {p : Int × Int} (hp : Dy.Rk p) (w : Dy.Wi p (4584664420663164928, 4607182418800017408)) : gA (Dy.enc p.1, Dy.enc p.2) = true := by
  unfold gA
  rw [show Dy.ivR (Dy.enc p.1, Dy.enc p.2) = true from hp.E_R, show (Dy.fgt (Dy.enc p.1) 4584664420663164928 || Dy.feq (Dy.enc p.1) 4584664420663164928) = true from ge_ok (l := 4584664420663164928) (by decide) (Dy.ok_B (by decide) (by decide)) hp.lo w.lo,
    show (Dy.flt (Dy.enc p.2) 4607182418800017408 || Dy.feq (Dy.enc p.2) 4607182418800017408) = true from le_ok (l := 4607182418800017408) (by decide) (Dy.ok_B (by decide) (by decide)) hp.hi w.hi]; rfl
theorem gC_ok {p : Int × Int} (hp : Dy.Rk p) (w : Dy.Wi p (0, 4607182418800017408)) : gC (Dy.enc p.1, Dy.enc p.2) = true := by
  unfold gC
  rw [show Dy.ivR (Dy.enc p.1, Dy.enc p.2) = true from hp.E_R, show (Dy.fgt (Dy.enc p.1) 0 || Dy.feq (Dy.enc p.1) 0) = true from ge_ok (l := 0) rfl Dy.ok_zero hp.lo w.lo,
    show (Dy.flt (Dy.enc p.2) 4607182418800017408 || Dy.feq (Dy.enc p.2) 4607182418800017408) = true from le_ok (l := 4607182418800017408) (by decide) (Dy.ok_B (by decide) (by decide)) hp.hi w.hi]; rfl
theorem nG1_ok {p q : Int × Int} (hp : Dy.Rk p) (w : Dy.Wi p (4584664420663164928, 4607182418800017408)) (hq : Dy.Rk q) (u : Dy.Wi q (0, 4607182418800017408)) : nG1 [.f (Dy.enc p.1), .f (Dy.enc p.2), .f (Dy.enc q.1), .f (Dy.enc q.2)] = true := by
  show (gA (Dy.enc p.1, Dy.enc p.2) && gC (Dy.enc q.1, Dy.enc q.2)) = true
  rw [gA_ok hp w, gC_ok hq u]; rfl
theorem nG2_ok {p q r : Int × Int} (hp : Dy.Rk p) (w : Dy.Wi p (4584664420663164928, 4607182418800017408)) (hq : Dy.Rk q) (u : Dy.Wi q (0, 4607182418800017408)) (hr : Dy.Rk r) (v : Dy.Wi r (0, 4607182418800017408)) : nG2 [.f (Dy.enc p.1), .f (Dy.enc p.2), .f (Dy.enc q.1), .f (Dy.enc q.2), .f (Dy.enc r.1), .f (Dy.enc r.2)] = true := by
  show (gA (Dy.enc p.1, Dy.enc p.2) && gC (Dy.enc q.1, Dy.enc q.2) && gC (Dy.enc r.1, Dy.enc r.2)) = true
  rw [gA_ok hp w, gC_ok hq u, gC_ok hr v]; rfl
end Go.Proofs.Ytikiegcncliocaa
