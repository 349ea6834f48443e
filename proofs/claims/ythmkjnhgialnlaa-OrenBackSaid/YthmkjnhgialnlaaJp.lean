/- Plain facts: rough surfaces, of what may be asked. -/
import Derived.Test.YthmkjnhgialnlaaYx
import Derived.Test.YthmkjnhgialnlaaJw
namespace Go.Proofs.Ythmkjnhgialnlaa
open Go Go.RowKit

theorem oPair_told {p1 : Int × Int} (hp1 : Dy.Rk p1) (wp1 : Dy.Wi p1 (0, 4607182418800017408)) : oPair (Dy.enc p1.1, Dy.enc p1.2) = told2 (pairM (Dy.enc p1.1, Dy.enc p1.2) 0) := by
  have k : oL1 (Dy.enc p1.1, Dy.enc p1.2) 0 4607182418800017408 = 0 := by
    unfold oL1
    rw [if_pos (by rw [show Dy.ivR (Dy.enc p1.1, Dy.enc p1.2) = true from hp1.E_R]), if_pos (by rw [show wiB 0 4607182418800017408 (Dy.enc p1.1, Dy.enc p1.2) = true from wiB_ok (l := 0) (h := 4607182418800017408) rfl (by decide) Dy.ok_zero (Dy.ok_B (by decide) (by decide)) hp1 wp1])]
  unfold oPair
  rw [if_neg (by rw [k]; decide)]
theorem oSlope_told {p2 : Int × Int} {p3 : Int × Int} {p4 : Int × Int} (hp2 : Dy.Rk p2) (wp2 : Dy.Wi p2 (0, 4607182418800017408)) (hp3 : Dy.Rk p3) (wp3 : Dy.Wi p3 (0, 4607182418800017408)) (hp4 : Dy.Rk p4) (wp4 : Dy.Wi p4 ((-4607182418800017408), 4607182418800017408)) : oSlope (Dy.enc p2.1, Dy.enc p2.2) (Dy.enc p3.1, Dy.enc p3.2) (Dy.enc p4.1, Dy.enc p4.2) = Dy.told (slopeM (Dy.enc p2.1, Dy.enc p2.2) (Dy.enc p3.1, Dy.enc p3.2) (Dy.enc p4.1, Dy.enc p4.2) 0) := by
  have k : oL3 (Dy.enc p2.1, Dy.enc p2.2) (Dy.enc p3.1, Dy.enc p3.2) (Dy.enc p4.1, Dy.enc p4.2) 0 4607182418800017408 0 4607182418800017408 13830554455654793216 4607182418800017408 = 0 := by
    unfold oL3
    rw [if_pos (by rw [show Dy.ivR (Dy.enc p2.1, Dy.enc p2.2) = true from hp2.E_R, show Dy.ivR (Dy.enc p3.1, Dy.enc p3.2) = true from hp3.E_R, show Dy.ivR (Dy.enc p4.1, Dy.enc p4.2) = true from hp4.E_R]; rfl), if_pos (by rw [show wiB 0 4607182418800017408 (Dy.enc p2.1, Dy.enc p2.2) = true from wiB_ok (l := 0) (h := 4607182418800017408) rfl (by decide) Dy.ok_zero (Dy.ok_B (by decide) (by decide)) hp2 wp2, show wiB 0 4607182418800017408 (Dy.enc p3.1, Dy.enc p3.2) = true from wiB_ok (l := 0) (h := 4607182418800017408) rfl (by decide) Dy.ok_zero (Dy.ok_B (by decide) (by decide)) hp3 wp3, show wiB 13830554455654793216 4607182418800017408 (Dy.enc p4.1, Dy.enc p4.2) = true from wiB_ok (l := (-4607182418800017408)) (h := 4607182418800017408) (by decide) (by decide) (Dy.ok_neg (Dy.ok_B (by decide) (by decide))) (Dy.ok_B (by decide) (by decide)) hp4 wp4]; rfl)]
  unfold oSlope
  rw [if_neg (by rw [k]; decide)]
theorem oVal_told {p0 : Int × Int} {p1 : Int × Int} {p2 : Int × Int} {p3 : Int × Int} {p4 : Int × Int} (hp0 : Dy.Rk p0) (wp0 : Dy.Wi p0 (0, 4607182418800017408)) (hp1 : Dy.Rk p1) (wp1 : Dy.Wi p1 (0, 4607182418800017408)) (hp2 : Dy.Rk p2) (wp2 : Dy.Wi p2 (0, 4607182418800017408)) (hp3 : Dy.Rk p3) (wp3 : Dy.Wi p3 (0, 4607182418800017408)) (hp4 : Dy.Rk p4) (wp4 : Dy.Wi p4 ((-4607182418800017408), 4607182418800017408)) : oVal (Dy.enc p0.1, Dy.enc p0.2) (Dy.enc p1.1, Dy.enc p1.2) (Dy.enc p2.1, Dy.enc p2.2) (Dy.enc p3.1, Dy.enc p3.2) (Dy.enc p4.1, Dy.enc p4.2) = Dy.told (orenM (Dy.enc p0.1, Dy.enc p0.2) (Dy.enc p1.1, Dy.enc p1.2) (Dy.enc p2.1, Dy.enc p2.2) (Dy.enc p3.1, Dy.enc p3.2) (Dy.enc p4.1, Dy.enc p4.2) 0) := by
  have k : oL5 (Dy.enc p0.1, Dy.enc p0.2) (Dy.enc p1.1, Dy.enc p1.2) (Dy.enc p2.1, Dy.enc p2.2) (Dy.enc p3.1, Dy.enc p3.2) (Dy.enc p4.1, Dy.enc p4.2) 0 4607182418800017408 0 4607182418800017408 0 4607182418800017408 0 4607182418800017408 13830554455654793216 4607182418800017408 = 0 := by
    unfold oL5
    rw [if_pos (by rw [show Dy.ivR (Dy.enc p0.1, Dy.enc p0.2) = true from hp0.E_R, show Dy.ivR (Dy.enc p1.1, Dy.enc p1.2) = true from hp1.E_R, show Dy.ivR (Dy.enc p2.1, Dy.enc p2.2) = true from hp2.E_R, show Dy.ivR (Dy.enc p3.1, Dy.enc p3.2) = true from hp3.E_R, show Dy.ivR (Dy.enc p4.1, Dy.enc p4.2) = true from hp4.E_R]; rfl), if_pos (by rw [show wiB 0 4607182418800017408 (Dy.enc p0.1, Dy.enc p0.2) = true from wiB_ok (l := 0) (h := 4607182418800017408) rfl (by decide) Dy.ok_zero (Dy.ok_B (by decide) (by decide)) hp0 wp0, show wiB 0 4607182418800017408 (Dy.enc p1.1, Dy.enc p1.2) = true from wiB_ok (l := 0) (h := 4607182418800017408) rfl (by decide) Dy.ok_zero (Dy.ok_B (by decide) (by decide)) hp1 wp1, show wiB 0 4607182418800017408 (Dy.enc p2.1, Dy.enc p2.2) = true from wiB_ok (l := 0) (h := 4607182418800017408) rfl (by decide) Dy.ok_zero (Dy.ok_B (by decide) (by decide)) hp2 wp2, show wiB 0 4607182418800017408 (Dy.enc p3.1, Dy.enc p3.2) = true from wiB_ok (l := 0) (h := 4607182418800017408) rfl (by decide) Dy.ok_zero (Dy.ok_B (by decide) (by decide)) hp3 wp3, show wiB 13830554455654793216 4607182418800017408 (Dy.enc p4.1, Dy.enc p4.2) = true from wiB_ok (l := (-4607182418800017408)) (h := 4607182418800017408) (by decide) (by decide) (Dy.ok_neg (Dy.ok_B (by decide) (by decide))) (Dy.ok_B (by decide) (by decide)) hp4 wp4]; rfl)]
  unfold oVal
  rw [if_neg (by rw [k]; decide)]

theorem told2_ok {r : ((Nat × Nat) × (Nat × Nat)) × Int} (h : r.2 = 0) : told2 r = (r.1, 0) := by
  unfold told2; rw [if_neg (by rw [h]; decide)]
end Go.Proofs.Ythmkjnhgialnlaa
