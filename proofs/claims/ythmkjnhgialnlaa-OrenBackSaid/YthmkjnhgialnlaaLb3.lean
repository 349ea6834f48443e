/- The law OrenBack: walk and plain law joined. -/
import Derived.Test.YthmkjnhgialnlaaLa3
import Derived.Test.YthmkjnhgialnlaaJp
import Derived.Test.YthmkjnhgialnlaaRh
namespace Go.Proofs.Ythmkjnhgialnlaa
open Go Go.RowKit

theorem bd_wi {p : Int × Int} (hp : Dy.Rk p) (w : Dy.Wi p (0, 4607182418800017408)) : Dy.Bd p 0 1 1 := by
  have a := Dy.val_le.2 w.lo; have b := Dy.val_le.2 w.hi; have c := Dy.val_le.2 hp.le
  dsimp only at a b
  rw [Dy.val_zero] at a; rw [Dy.val_one] at b
  exact ⟨hp, a, b, by grind⟩
theorem bd_wi2 {p : Int × Int} (hp : Dy.Rk p) (w : Dy.Wi p (-4607182418800017408, 4607182418800017408)) : Dy.Bd p (-1) 1 2 := by
  have a := Dy.val_le.2 w.lo; have b := Dy.val_le.2 w.hi; have c := Dy.val_le.2 hp.le
  dsimp only at a b
  rw [Dy.val_neg, Dy.val_one] at a; rw [Dy.val_one] at b
  exact ⟨hp, a, b, by grind⟩
theorem same_pair {p : Int × Int} (hp : Dy.Rk p) : (!(Dy.feq (Dy.enc p.1) (Dy.enc p.1) && (Dy.feq (Dy.enc p.2) (Dy.enc p.2) && true))) = false := by
  rw [eq_true hp.lo, eq_true hp.hi]; rfl
theorem told_err {r : (Nat × Nat) × Int} (h : r.2 ≠ 0) : Dy.told r = ((0, 0), r.2) := by
  unfold Dy.told; rw [if_pos (bne_iff_ne.2 h)]
set_option maxRecDepth 100000 in
set_option maxHeartbeats 4000000 in
theorem oback_any (u0 u1 u2 u3 u4 u5 u6 u7 u8 u9 : Nat) (w : World) (k0 : u0 < 4294967296) (k1 : u1 < 4294967296) (k2 : u2 < 4294967296) (k3 : u3 < 4294967296) (k4 : u4 < 4294967296) (k5 : u5 < 4294967296) (k6 : u6 < 4294967296) (k7 : u7 < 4294967296) (k8 : u8 < 4294967296) (k9 : u9 < 4294967296) :
    Calls Try.prog 8 #[.agg #[.int .u32 ((u0 : Nat) : Int), .int .u32 ((u1 : Nat) : Int), .int .u32 ((u2 : Nat) : Int), .int .u32 ((u3 : Nat) : Int), .int .u32 ((u4 : Nat) : Int), .int .u32 ((u5 : Nat) : Int), .int .u32 ((u6 : Nat) : Int), .int .u32 ((u7 : Nat) : Int), .int .u32 ((u8 : Nat) : Int), .int .u32 ((u9 : Nat) : Int)]] w fun e w' => e = .returned (.bool true) ∧ Below w.heap.size w w' := by
  obtain ⟨n0, r, hr, wr, er⟩ := spanL (l := 0) (h := 4607182418800017408) (a := 0) (b := 4607182418800017408) rfl (by decide) (by decide) (by decide) (by decide) k0 k1
  obtain ⟨n1, g, hg, wg, eg⟩ := spanL (l := 0) (h := 4607182418800017408) (a := 0) (b := 4607182418800017408) rfl (by decide) (by decide) (by decide) (by decide) k2 k3
  obtain ⟨n2, i, hi, wi, ei⟩ := spanL (l := 0) (h := 4607182418800017408) (a := 0) (b := 4607182418800017408) rfl (by decide) (by decide) (by decide) (by decide) k4 k5
  obtain ⟨n3, o, ho, wo, eo⟩ := spanL (l := 0) (h := 4607182418800017408) (a := 0) (b := 4607182418800017408) rfl (by decide) (by decide) (by decide) (by decide) k6 k7
  obtain ⟨n4, d, hd, wd, ed⟩ := spanL (l := (-4607182418800017408)) (h := 4607182418800017408) (a := 13830554455654793216) (b := 4607182418800017408) (by decide) (by decide) (by decide) (by decide) (by decide) k8 k9
  have o1 : Dy.ok 4607182418800017408 := Dy.ok_B (by decide) (by decide)
  have br := bd_wi hr wr; have bg := bd_wi hg wg; have bi := bd_wi hi wi; have bo := bd_wi ho wo; have bd := bd_wi2 hd wd
  have T1 : oVal (Dy.enc r.1, Dy.enc r.2) (Dy.enc g.1, Dy.enc g.2) (Dy.enc i.1, Dy.enc i.2) (Dy.enc o.1, Dy.enc o.2) (Dy.enc d.1, Dy.enc d.2) = Dy.told (orenM (Dy.E r) (Dy.E g) (Dy.E i) (Dy.E o) (Dy.E d) 0) := oVal_told hr wr hg wg hi wi ho wo hd wd
  have T2 : oVal (Dy.enc r.1, Dy.enc r.2) (Dy.enc g.1, Dy.enc g.2) (Dy.enc o.1, Dy.enc o.2) (Dy.enc i.1, Dy.enc i.2) (Dy.enc d.1, Dy.enc d.2) = Dy.told (orenM (Dy.E r) (Dy.E g) (Dy.E i) (Dy.E o) (Dy.E d) 0) := by
    rw [oren_sw hi ho]; exact oVal_told hr wr hg wg ho wo hi wi hd wd
  have rz : Dy.Rk (0, 0) := ⟨Dy.ok_zero, Dy.ok_zero, Int.le_refl _⟩
  have T3 : oVal (Dy.enc r.1, Dy.enc r.2) (0, 0) (Dy.enc i.1, Dy.enc i.2) (Dy.enc o.1, Dy.enc o.2) (Dy.enc d.1, Dy.enc d.2) = Dy.told (orenM (Dy.E r) (Dy.E (0, 0)) (Dy.E i) (Dy.E o) (Dy.E d) 0) := oVal_told (p1 := (0, 0)) hr wr rz ⟨by decide, by decide⟩ hi wi ho wo hd wd
  have hx : Dy.Has r (Dy.val r.1) := ⟨Rat.le_refl, Dy.val_le.2 hr.le⟩
  obtain ⟨l, gl, hl⟩ := lam_num br hx
  have n17 : (Ieee.double.add 0 0).getD 0 = 0 := (point_all Dy.ok_zero).1
  have n18 : (fN Ieee.double.add) [.f 0, .f 0] = true := (point_all Dy.ok_zero).2
  have r1 := wr.lo; have r2 := wr.hi
  have c21 : Dy.flt (Dy.enc r.1) 0 = false := lt_false (y := 0) hr.lo Dy.ok_zero r1
  have c22 : Dy.fgt (Dy.enc r.2) 4607182418800017408 = false := gt_false (y := 4607182418800017408) hr.hi o1 r2
  by_cases hs : (slopeM (Dy.E i) (Dy.E o) (Dy.E d) 0).2 = 0
  · obtain ⟨s, es, bs⟩ := slope_iv bi bo bd hs
    obtain ⟨v, ev, rv, v0, v1⟩ := value_iv br bg es bs
    have hy : Dy.Has s (Dy.val s.1) := ⟨Rat.le_refl, Dy.val_le.2 bs.rk.le⟩
    obtain ⟨z, ez, kz, hz⟩ := value_zero br hx es bs hy
    rw [ev, Dy.told_ok rfl] at T1 T2
    rw [ez, Dy.told_ok rfl] at T3
    exact oback_o u0 u1 u2 u3 u4 u5 u6 u7 u8 u9 w er eg ei eo ed n0 n1 n2 n3 n4 T1 T2 (same_pair rv) rfl (lt_false (y := 0) rv.lo Dy.ok_zero v0) (gt_false (y := 4607182418800017408) rv.hi o1 v1) (gt_false rv.lo rv.hi rv.le) n17 n18 T3 hr.E_R c21 c22 gl.1 rfl rfl rfl rfl (meets_has kz gl.rk hz hl)
  · have x1 : (orenM (Dy.E r) (Dy.E g) (Dy.E i) (Dy.E o) (Dy.E d) 0).2 ≠ 0 := fun h => hs (oren_slope h)
    have x2 : (orenM (Dy.E r) (Dy.E (0, 0)) (Dy.E i) (Dy.E o) (Dy.E d) 0).2 ≠ 0 := fun h => hs (oren_slope h)
    rw [told_err x1] at T1 T2
    rw [told_err x2] at T3
    exact oback_e u0 u1 u2 u3 u4 u5 u6 u7 u8 u9 w er eg ei eo ed n0 n1 n2 n3 n4 T1 T2 (by decide +kernel) (bne_self_eq_false _) (by decide +kernel) (by decide +kernel) (by decide +kernel) n17 n18 T3 hr.E_R c21 c22 gl.1 rfl (beq_eq_false_iff_ne.2 x2) (beq_eq_false_iff_ne.2 x1) (bne_iff_ne.2 x2)
end Go.Proofs.Ythmkjnhgialnlaa
