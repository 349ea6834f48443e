/- Plain facts: spans, what is within. -/
import Derived.Test.YtikiegcncliocaaYq
namespace Go.Proofs.Ytikiegcncliocaa
open Go Go.RowKit

theorem E_inj {p q : Int × Int} (hp : Dy.Rk p) (hq : Dy.Rk q) (h : (Dy.enc p.1, Dy.enc p.2) = Dy.E q) : p = q := by
  obtain ⟨h1, h2⟩ := Prod.mk.inj (show (Dy.enc p.1, Dy.enc p.2) = (Dy.enc q.1, Dy.enc q.2) from h)
  have a := congrArg Dy.dec h1; have b := congrArg Dy.dec h2
  rw [Dy.dec_enc hp.lo, Dy.dec_enc hq.lo] at a
  rw [Dy.dec_enc hp.hi, Dy.dec_enc hq.hi] at b
  exact Prod.ext a b
end Go.Proofs.Ytikiegcncliocaa
