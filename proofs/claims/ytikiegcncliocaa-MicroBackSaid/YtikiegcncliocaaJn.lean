/- Joins' helpers: two looks at microfacets, either way. -/
import Derived.Test.YtikiegcncliocaaJm
import Derived.Test.YtikiegcncliocaaJh
import Derived.Test.YtikiegcncliocaaRy
import Derived.Test.YtikiegcncliocaaRv
namespace Go.Proofs.Ytikiegcncliocaa
open Go Go.RowKit

theorem got_addc {p q s : Int × Int} (hp : Dy.Rk p) (hq : Dy.Rk q) (h : Dy.Got (Dy.cAdd 0 (Dy.E p) (Dy.E q)) s) : Dy.Got (Dy.cAdd 0 (Dy.E q) (Dy.E p)) s :=
  ⟨by rw [Dy.cAdd_E hq hp, Int.add_comm (Dy.V q.1), Int.add_comm (Dy.V q.2), ← Dy.cAdd_E hp hq]; exact h.1, h.2⟩
theorem has_lo {p : Int × Int} (h : Dy.Rk p) : Dy.Has p (Dy.val p.1) := ⟨Rat.le_refl, Dy.val_le.2 h.le⟩
theorem clip_01 (p : Int × Int) : 0 ≤ (Dy.rClip 0 4607182418800017408 p).1 ∧ (Dy.rClip 0 4607182418800017408 p).2 ≤ 4607182418800017408 := ⟨by show 0 ≤ min (max p.1 0) _; omega, by show min (max p.2 0) _ ≤ _; omega⟩
theorem bd_01 {p : Int × Int} (h : Dy.Rk p) (l : 0 ≤ p.1) (u : p.2 ≤ 4607182418800017408) : Dy.Bd p 0 1 2 := by
  have a := Dy.val_le.2 l; have b := Dy.val_le.2 u
  rw [Dy.val_zero] at a; rw [Dy.val_one] at b
  exact ⟨h, a, b, by grind⟩
theorem wi_dir {r : Int × Int} (h : In1 r) (h0 : 0 < r.1) : Dy.Wi r (0, 4607182418800017408) := ⟨by dsimp only; omega, h.wi.hi⟩
theorem rk_pt' {z : Int} (h : Dy.ok z) : Dy.Rk (z, z) := ⟨h, h, Int.le_refl _⟩
theorem told_E {r : (Nat × Nat) × Int} {p : Int × Int} (h : r = (Dy.E p, 0)) : Dy.told r = ((Dy.enc p.1, Dy.enc p.2), 0) := by rw [h]; exact Dy.told_ok rfl
theorem three_inj {p q r p' q' r' : Int × Int} (hp : Dy.Rk p) (hq : Dy.Rk q) (hr : Dy.Rk r) (hp' : Dy.Rk p') (hq' : Dy.Rk q') (hr' : Dy.Rk r') (h : (((Dy.enc p.1, Dy.enc p.2), (Dy.enc q.1, Dy.enc q.2), (Dy.enc r.1, Dy.enc r.2)), (0 : Int)) = ((Dy.E p', Dy.E q', Dy.E r'), 0)) : p = p' ∧ q = q' ∧ r = r' := by
  have h1 := congrArg (·.1.1) h; have h2 := congrArg (·.1.2.1) h; have h3 := congrArg (·.1.2.2) h
  exact ⟨Dy.E_inj hp hp' h1, Dy.E_inj hq hq' h2, Dy.E_inj hr hr' h3⟩
theorem Dir3.wd {u0 u1 u2 : Nat} {x y z : Int} {p q r : Int × Int} {t : Nat → Rat} (h : Dir3 u0 u1 u2 x y z p q r t) : Dy.Bd p (-1) 1 (1 / 70368744177664) ∧ Dy.Bd q (-1) 1 (1 / 70368744177664) ∧ Dy.Bd r (-1) 1 (1 / 70368744177664) := by
  have vm : Dy.val (-4607182418800017408) = -1 := by rw [Dy.val_neg, Dy.val_one]
  have lo : ∀ {x : Int}, -1 ≤ Dy.val x → -4607182418800017408 ≤ x := fun k => Dy.val_le.1 (by rw [vm]; exact k)
  have hi : ∀ {x : Int}, Dy.val x ≤ 1 → x ≤ 4607182418800017408 := fun k => Dy.val_le.1 (by rw [Dy.val_one]; exact k)
  obtain ⟨p', q', r', e, b1, b2, b3⟩ := unit_wd (lo h.x1.1) (hi h.x1.2) (lo h.y1.1) (hi h.y1.2) (Dy.val_le.1 (by rw [val_z6]; exact h.z1.1)) (hi h.z1.2)
  obtain ⟨rfl, rfl, rfl⟩ := three_inj h.bp.rk h.bq.rk h.br.rk b1.rk b2.rk b3.rk (h.eG.symm.trans e)
  exact ⟨b1, b2, b3⟩
theorem ok_part {a l h : Int} (hl : 0 ≤ l) (hh : h ≤ 4607182418800017408) (la : l ≤ a) (ua : a ≤ h) : Dy.ok a := Dy.ok_B (by unfold Dy.B10; omega) (by unfold Dy.B10; omega)
theorem sq_nn (x : Rat) : 0 ≤ x * x := sq0 x
end Go.Proofs.Ytikiegcncliocaa
