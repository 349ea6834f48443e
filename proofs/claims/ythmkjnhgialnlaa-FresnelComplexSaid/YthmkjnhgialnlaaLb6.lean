/- The law FresnelComplex: walk and plain law joined. -/
import Derived.Test.YthmkjnhgialnlaaLa6
import Derived.Test.YthmkjnhgialnlaaJf
import Derived.Test.YthmkjnhgialnlaaRn
import Derived.Test.YthmkjnhgialnlaaRf
namespace Go.Proofs.Ythmkjnhgialnlaa
open Go Go.RowKit

theorem rk_ptC {z : Int} (h : Dy.ok z) : Dy.Rk (z, z) := ⟨h, h, Int.le_refl _⟩
theorem val_c8 : Dy.val 4571153621781053440 = 1 / 256 := (Dy.val_q (num := 1) (den := 256) (by decide) (by decide +kernel)).trans (by decide +kernel)
theorem val_m0 : Dy.val 4589168020290535424 = 1 / 16 := (Dy.val_q (num := 1) (den := 16) (by decide) (by decide +kernel)).trans (by decide +kernel)
set_option maxRecDepth 100000 in
set_option maxHeartbeats 4000000 in
theorem fcomplex_any (u0 u1 u2 : Nat) (w : World) (k0 : u0 < 4294967296) (k1 : u1 < 4294967296) (k2 : u2 < 4294967296) : Calls Try.prog 7 #[.int .u32 ((u0 : Nat) : Int), .int .u32 ((u1 : Nat) : Int), .int .u32 ((u2 : Nat) : Int)] w fun e w' => e = .returned (.bool true) ∧ Below w.heap.size w w' := by
  have o1 : Dy.ok 4607182418800017408 := Dy.ok_B (by decide) (by decide)
  obtain ⟨n0, c, lc, uc, ec⟩ := btw_F (l := 4571153621781053440) (h := 4607182418800017408) (by decide) (by decide) (by decide) k0
  obtain ⟨n1, e, le, ue, ee⟩ := btw_F (l := 4589168020290535424) (h := 4625196817309499392) (by decide) (by decide) (by decide) k1
  obtain ⟨n2, m, lm, um, em⟩ := btw_F (l := 4589168020290535424) (h := 4625196817309499392) (by decide) (by decide) (by decide) k2
  rw [show Dy.enc 4571153621781053440 = 4571153621781053440 from by decide, show Dy.enc 4607182418800017408 = 4607182418800017408 from by decide] at n0 ec
  rw [show Dy.enc 4589168020290535424 = 4589168020290535424 from by decide, show Dy.enc 4625196817309499392 = 4625196817309499392 from by decide] at n1 ee n2 em
  have oc : Dy.ok c := Dy.ok_B (by unfold Dy.B10; omega) (by unfold Dy.B10; omega)
  have oe : Dy.ok e := Dy.ok_B (by unfold Dy.B10; omega) (by unfold Dy.B10; omega)
  have om : Dy.ok m := Dy.ok_B (by unfold Dy.B10; omega) (by unfold Dy.B10; omega)
  obtain ⟨pc, qc⟩ := point_all oc
  obtain ⟨pe, qe⟩ := point_all oe
  obtain ⟨pm, qm⟩ := point_all om
  obtain ⟨v, A, a, ev, rv, wv, hA, hA2, nA, ha, na, hv⟩ := cond_num lc uc le ue lm um
  obtain ⟨q_c2, q_s2, q_e2, q_k2, q_re, q_ek, q_im, q_x, q_x2, q_im2, q_u, q_size, q_sx, q_sx2, q_a, q_dx, q_dx2, q_b, q_ca, q_ca2, q_b2, q_n1, q_cpa, q_cpa2, q_d1, q_rs, q_mm, q_nn, q_ma, q_ma2, q_nb, q_nb2, q_n2, q_mpa, q_mpa2, q_npb, q_npb2, q_d2, q_rp, q_sum, q_want, z, α, β, ⟨g_c2, g_s2, g_e2, g_k2, g_re, g_ek, g_im, g_x, g_x2, g_im2, g_u, g_size, g_sx, g_sx2, g_mx, g_a, g_dx, g_dx2, g_my, g_b, g_ca, g_ca2, g_b2, g_n1, g_cpa, g_cpa2, g_d1, g_rs, g_mm, g_nn, g_ma, g_ma2, g_nb, g_nb2, g_n2, g_mpa, g_mpa2, g_npb, g_npb2, g_d2, g_rp, g_sum, g_want⟩, rw', r1, r2, hz, hz2, nz, hα, hα2, nα, hβ, hβ2, nβ, hw⟩ := want_num lc uc le ue lm um
  have C : condG (Dy.enc c, Dy.enc c) (Dy.enc e, Dy.enc e) (Dy.enc m, Dy.enc m) = ((Dy.enc v.1, Dy.enc v.2), 0) := by
    rw [show condG (Dy.enc c, Dy.enc c) (Dy.enc e, Dy.enc e) (Dy.enc m, Dy.enc m) = Dy.told (condM (Dy.E (c, c)) (Dy.E (e, e)) (Dy.E (m, m)) 0) from cond_told (p := (c, c)) (q := (e, e)) (r := (m, m)) (rk_ptC oc) (rk_ptC oe) (rk_ptC om) ⟨by dsimp only; omega, uc⟩ ⟨le, ue⟩ ⟨lm, um⟩, ev]
    exact Dy.told_ok rfl
  have C0 := Dy.val_le.2 lc; have C1 := Dy.val_le.2 uc; have E0 := Dy.val_le.2 le; have M0 := Dy.val_le.2 lm
  rw [val_c8] at C0; rw [Dy.val_one] at C1; rw [val_m0] at E0 M0
  have em0 := mul_ge' E0 M0 (by decide +kernel) (by decide +kernel)
  have e0 : (1 : Rat) / 16 * (1 / 16) = 1 / 256 := by decide +kernel
  rw [e0] at em0
  have U : ∀ x y : Rat, (x * x - y * y - (1 - Dy.val c * Dy.val c)) * (x * x - y * y - (1 - Dy.val c * Dy.val c)) + 4 * (x * x * (y * y)) = (x * x - y * y - (1 - Dy.val c * Dy.val c)) * (x * x - y * y - (1 - Dy.val c * Dy.val c)) + 2 * (x * y) * (2 * (x * y)) := fun x y => by grind
  rw [U] at nA
  have hA2' := fun κ => (U (Dy.val e) (Dy.val m)) ▸ hA2 κ
  have P : Parts (Dy.val c) (Dy.val e * Dy.val e - Dy.val m * Dy.val m - (1 - Dy.val c * Dy.val c)) (2 * (Dy.val e * Dy.val m)) A a z α β :=
    ⟨C0, C1, by grind, hA, hA2', nA, ha, na, hz, hz2, nz, hα, hα2, nα, hβ, hβ2, nβ⟩
  have near := P.near (re := Dy.val e * Dy.val e - Dy.val m * Dy.val m) (by grind)
  have num2 : Dy.cNum 0 4611686018427387904 = ((4611686018427387904, 4611686018427387904), 0) := by decide +kernel
  have num0 : Dy.cNum 0 0 = ((0, 0), 0) := by decide +kernel
  have num1 : Dy.cNum 0 4607182418800017408 = ((4607182418800017408, 4607182418800017408), 0) := by decide +kernel
  have i1 : nIv [.f (Dy.enc q_sx2.1), .f (Dy.enc q_sx2.2)] = true := r1.E_R
  have i2 : nIv [.f 0, .f 0] = true := Dy.ivR_zero
  have i3 : nIv [.f (Dy.enc q_dx2.1), .f (Dy.enc q_dx2.2)] = true := r2.E_R
  exact fcomplex_ok u0 u1 u2 w ec n0 pc qc ee n1 pe qe em n2 pm qm C rfl (lt_false (y := 0) rv.lo Dy.ok_zero wv.lo) (gt_false (y := 4607182418800017408) rv.hi o1 wv.hi) (gt_false rv.lo rv.hi rv.le)
    num2 num0 num1 g_c2.1 g_s2.1 g_e2.1 g_k2.1 g_re.1 g_ek.1 g_im.1 g_x.1 g_x2.1 g_im2.1 g_u.1 g_size.1 g_sx.1 g_sx2.1 g_mx.1 i1 i2 g_a.1 g_dx.1 g_dx2.1 g_my.1 i3 g_b.1 g_ca.1 g_ca2.1 g_b2.1 g_n1.1 g_cpa.1 g_cpa2.1 g_b2.1 g_d1.1 g_rs.1 g_mm.1 g_nn.1 g_ma.1 g_ma2.1 g_nb.1 g_nb2.1 g_n2.1 g_mpa.1 g_mpa2.1 g_npb.1 g_npb2.1 g_d2.1 g_rp.1 g_sum.1 g_want.1 rfl (meets_hasS rv rw' hv hw near)
end Go.Proofs.Ythmkjnhgialnlaa
