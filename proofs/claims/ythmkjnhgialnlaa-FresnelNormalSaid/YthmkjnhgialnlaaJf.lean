/- Plain facts: what is reflected, of what may be asked. -/
import Derived.Test.YthmkjnhgialnlaaYs
import Derived.Test.YthmkjnhgialnlaaJw
namespace Go.Proofs.Ythmkjnhgialnlaa
open Go Go.RowKit

theorem diel_told : ∀ {p q : Int × Int}, Dy.Rk p → Dy.Rk q → Dy.Wi p (0, 4607182418800017408) → Dy.Wi q (4607463893776728064, 4616189618054758400) → dielG (Dy.enc p.1, Dy.enc p.2) (Dy.enc q.1, Dy.enc q.2) = Dy.told (dielM (Dy.enc p.1, Dy.enc p.2) (Dy.enc q.1, Dy.enc q.2) 0) := by
  intro p q hp hq wp wq
  unfold dielG
  rw [if_pos (by rw [show Dy.ivR (Dy.enc p.1, Dy.enc p.2) = true from hp.E_R, show Dy.ivR (Dy.enc q.1, Dy.enc q.2) = true from hq.E_R]; rfl), if_pos (show wiB 0 4607182418800017408 (Dy.enc p.1, Dy.enc p.2) = true from wiB_ok (l := 0) (h := 4607182418800017408) rfl (by decide) Dy.ok_zero (Dy.ok_B (by decide) (by decide)) hp wp), if_pos (show wiB 4607463893776728064 4616189618054758400 (Dy.enc q.1, Dy.enc q.2) = true from wiB_ok (l := 4607463893776728064) (h := 4616189618054758400) (by decide) (by decide) (Dy.ok_B (by decide) (by decide)) (Dy.ok_B (by decide) (by decide)) hq wq)]
theorem cond_told : ∀ {p q r : Int × Int}, Dy.Rk p → Dy.Rk q → Dy.Rk r → Dy.Wi p (0, 4607182418800017408) → Dy.Wi q (4589168020290535424, 4625196817309499392) → Dy.Wi r (4589168020290535424, 4625196817309499392) → condG (Dy.enc p.1, Dy.enc p.2) (Dy.enc q.1, Dy.enc q.2) (Dy.enc r.1, Dy.enc r.2) = Dy.told (condM (Dy.enc p.1, Dy.enc p.2) (Dy.enc q.1, Dy.enc q.2) (Dy.enc r.1, Dy.enc r.2) 0) := by
  intro p q r hp hq hr wp wq wr
  unfold condG
  rw [if_pos (by rw [show Dy.ivR (Dy.enc p.1, Dy.enc p.2) = true from hp.E_R, show Dy.ivR (Dy.enc q.1, Dy.enc q.2) = true from hq.E_R, show Dy.ivR (Dy.enc r.1, Dy.enc r.2) = true from hr.E_R]; rfl), if_pos (show wiB 0 4607182418800017408 (Dy.enc p.1, Dy.enc p.2) = true from wiB_ok (l := 0) (h := 4607182418800017408) rfl (by decide) Dy.ok_zero (Dy.ok_B (by decide) (by decide)) hp wp),
    if_pos (by rw [show wiB 4589168020290535424 4625196817309499392 (Dy.enc q.1, Dy.enc q.2) = true from wiB_ok (l := 4589168020290535424) (h := 4625196817309499392) (by decide) (by decide) (Dy.ok_B (by decide) (by decide)) (Dy.ok_B (by decide) (by decide)) hq wq, show wiB 4589168020290535424 4625196817309499392 (Dy.enc r.1, Dy.enc r.2) = true from wiB_ok (l := 4589168020290535424) (h := 4625196817309499392) (by decide) (by decide) (Dy.ok_B (by decide) (by decide)) (Dy.ok_B (by decide) (by decide)) hr wr]; rfl)]
end Go.Proofs.Ythmkjnhgialnlaa
