/- Joins' helpers: look, clips of a half. -/
import Derived.Test.YtikiegcncliocaaGreatMn
import Derived.Test.YtikiegcncliocaaGreatRp
import Derived.Test.YtikiegcncliocaaGreatRf
namespace Go.Proofs.YtikiegcncliocaaGreat
open Go Go.RowKit

theorem may_in {p : Int × Int} (h : In1 p) : ((Dy.fgt (Dy.enc p.1) 13830554455654793216 || Dy.feq (Dy.enc p.1) 13830554455654793216) && (Dy.flt (Dy.enc p.2) 4607182418800017408 || Dy.feq (Dy.enc p.2) 4607182418800017408)) = true := by
  have o1 : Dy.ok 4607182418800017408 := Dy.ok_B (by decide) (by decide)
  have a := h.wi.lo; have b := h.wi.hi
  rw [show (Dy.fgt (Dy.enc p.1) 13830554455654793216 || Dy.feq (Dy.enc p.1) 13830554455654793216) = true from ge_true (y := -4607182418800017408) h.rk.lo (Dy.ok_neg o1) a, show (Dy.flt (Dy.enc p.2) 4607182418800017408 || Dy.feq (Dy.enc p.2) 4607182418800017408) = true from le_true (y := 4607182418800017408) h.rk.hi o1 b]; rfl
theorem may_in0 {p : Int × Int} (h : In1 p) (h0 : 0 ≤ p.1) : ((Dy.fgt (Dy.enc p.1) 0 || Dy.feq (Dy.enc p.1) 0) && (Dy.flt (Dy.enc p.2) 4607182418800017408 || Dy.feq (Dy.enc p.2) 4607182418800017408)) = true := by
  have o1 : Dy.ok 4607182418800017408 := Dy.ok_B (by decide) (by decide)
  have b := h.wi.hi
  rw [show (Dy.fgt (Dy.enc p.1) 0 || Dy.feq (Dy.enc p.1) 0) = true from ge_true (y := 0) h.rk.lo Dy.ok_zero h0, show (Dy.flt (Dy.enc p.2) 4607182418800017408 || Dy.feq (Dy.enc p.2) 4607182418800017408) = true from le_true (y := 4607182418800017408) h.rk.hi o1 b]; rfl
theorem look_ok {a b c p q r : Int × Int} (ha : In1 a) (hb : In1 b) (hc : In1 c) (hp : In1 p) (hq : In1 q) (hr : In1 r) (c0 : 0 ≤ c.1) (r0 : 0 ≤ r.1) : lookF (Dy.enc a.1) (Dy.enc a.2) (Dy.enc b.1) (Dy.enc b.2) (Dy.enc c.1) (Dy.enc c.2) (Dy.enc p.1) (Dy.enc p.2) (Dy.enc q.1) (Dy.enc q.2) (Dy.enc r.1) (Dy.enc r.2) = 0 := by
  have e : ∀ {p : Int × Int}, In1 p → Dy.ivR (Dy.enc p.1, Dy.enc p.2) = true := fun h => h.rk.E_R
  unfold lookF
  rw [if_pos (by rw [e ha, e hb, e hc, e hp, e hq, e hr]; rfl), if_pos (by rw [may_in ha, may_in hb, may_in0 hc c0, may_in hp, may_in hq, may_in0 hr r0]; rfl)]
end Go.Proofs.YtikiegcncliocaaGreat
