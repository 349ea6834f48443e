/- Plain facts: directions out of numbers. -/
import Derived.Test.YtikiegcncliocaaGreatRo
namespace Go.Proofs.YtikiegcncliocaaGreat
open Go Go.RowKit

/-- A direction, its unit vector. -/
structure Dir3 (u0 u1 u2 : Nat) (x y z : Int) (p q r : Int × Int) (t : Nat → Rat) : Prop where
  ex : btwF 13830554455654793216 4607182418800017408 ((u0 : Nat) : Int) = Dy.enc x
  ey : btwF 13830554455654793216 4607182418800017408 ((u1 : Nat) : Int) = Dy.enc y
  ez : btwF 4580160821035794432 4607182418800017408 ((u2 : Nat) : Int) = Dy.enc z
  nx : nBtw [.f 13830554455654793216, .f 4607182418800017408, .i ((u0 : Nat) : Int)] = true
  ny : nBtw [.f 13830554455654793216, .f 4607182418800017408, .i ((u1 : Nat) : Int)] = true
  nz : nBtw [.f 4580160821035794432, .f 4607182418800017408, .i ((u2 : Nat) : Int)] = true
  nr : nR3 [.f (Dy.enc x), .f (Dy.enc y), .f (Dy.enc z)] = true
  eG : unitG (Dy.enc x) (Dy.enc y) (Dy.enc z) = (((Dy.enc p.1, Dy.enc p.2), (Dy.enc q.1, Dy.enc q.2), (Dy.enc r.1, Dy.enc r.2)), 0)
  bp : Dy.Bd p (-1) 1 2
  bq : Dy.Bd q (-1) 1 2
  br : Dy.Bd r (1 / 256) 1 2
  tb : ∀ κ, 1 / 128 ≤ t κ ∧ t κ ≤ 2
  sb : ∀ κ, Dy.val x * Dy.val x + Dy.val y * Dy.val y + Dy.val z * Dy.val z ≤ t κ * t κ
  nt : Dy.Near (fun κ => t κ * t κ) (fun _ => Dy.val x * Dy.val x + Dy.val y * Dy.val y + Dy.val z * Dy.val z)
  hp : Dy.HasS p (fun κ => Dy.val x / t κ)
  hq : Dy.HasS q (fun κ => Dy.val y / t κ)
  hr : Dy.HasS r (fun κ => Dy.val z / t κ)
  x1 : -1 ≤ Dy.val x ∧ Dy.val x ≤ 1
  y1 : -1 ≤ Dy.val y ∧ Dy.val y ≤ 1
  z1 : 1 / 64 ≤ Dy.val z ∧ Dy.val z ≤ 1
theorem val_z6 : Dy.val 4580160821035794432 = 1 / 64 := (Dy.val_q (num := 1) (den := 64) (by decide) (by decide +kernel)).trans (by decide +kernel)
theorem dir3 {u0 u1 u2 : Nat} (k0 : u0 < 4294967296) (k1 : u1 < 4294967296) (k2 : u2 < 4294967296) : ∃ x y z p q r t, Dir3 u0 u1 u2 x y z p q r t := by
  obtain ⟨nx, x, lx, ux, ex⟩ := btw_F (l := -4607182418800017408) (h := 4607182418800017408) (by decide) (by decide) (by decide) k0
  obtain ⟨ny, y, ly, uy, ey⟩ := btw_F (l := -4607182418800017408) (h := 4607182418800017408) (by decide) (by decide) (by decide) k1
  obtain ⟨nz, z, lz, uz, ez⟩ := btw_F (l := 4580160821035794432) (h := 4607182418800017408) (by decide) (by decide) (by decide) k2
  rw [show Dy.enc (-4607182418800017408) = 13830554455654793216 from by decide, show Dy.enc 4607182418800017408 = 4607182418800017408 from by decide] at nx ex ny ey
  rw [show Dy.enc 4580160821035794432 = 4580160821035794432 from by decide, show Dy.enc 4607182418800017408 = 4607182418800017408 from by decide] at nz ez
  obtain ⟨p, q, r, t, eG, bp, bq, br, tb, sb, nt, hp, hq, hr⟩ := unit_num lx ux ly uy lz uz
  have o : ∀ {z : Int}, -4607182418800017408 ≤ z → z ≤ 4607182418800017408 → Dy.ok z := fun h1 h2 => Dy.ok_B (by unfold Dy.B10; omega) (by unfold Dy.B10; omega)
  have b : ∀ {z : Int}, -4607182418800017408 ≤ z → z ≤ 4607182418800017408 → -1 ≤ Dy.val z ∧ Dy.val z ≤ 1 := fun h1 h2 => by
    have a := Dy.val_le.2 h1; have c := Dy.val_le.2 h2
    rw [Dy.val_neg, Dy.val_one] at a; rw [Dy.val_one] at c
    exact ⟨a, c⟩
  have c := Dy.val_le.2 lz
  rw [val_z6] at c
  refine ⟨x, y, z, p, q, r, t, ex, ey, ez, nx, ny, nz, ?_, eG, bp, bq, br, tb, sb, nt, hp, hq, hr, b lx ux, b ly uy, c, (b (by omega) uz).2⟩
  show (Dy.right (Dy.enc x) && Dy.right (Dy.enc y) && Dy.right (Dy.enc z)) = true
  rw [Dy.right_enc (o lx ux), Dy.right_enc (o ly uy), Dy.right_enc (o (by omega) uz)]; rfl
theorem in1_bd {p : Int × Int} {w L : Rat} (h : Dy.Bd p L 1 w) (hL : -1 ≤ L) : In1 p := by
  have a := h.lo; have b := h.hi
  rw [← Dy.val_one] at b
  refine ⟨h.rk, Dy.val_le.1 ?_, Dy.val_le.1 b⟩
  show Dy.val (-4607182418800017408) ≤ _
  rw [Dy.val_neg, Dy.val_one]; grind
section
variable {u0 u1 u2 : Nat} {x y z : Int} {p q r : Int × Int} {t : Nat → Rat}
theorem Dir3.ip (h : Dir3 u0 u1 u2 x y z p q r t) : In1 p := in1_bd h.bp (by decide +kernel)
theorem Dir3.iq (h : Dir3 u0 u1 u2 x y z p q r t) : In1 q := in1_bd h.bq (by decide +kernel)
theorem Dir3.ir (h : Dir3 u0 u1 u2 x y z p q r t) : In1 r := in1_bd h.br (by decide +kernel)
theorem Dir3.r0 (h : Dir3 u0 u1 u2 x y z p q r t) : 0 < r.1 := Dy.val_lt.1 (by rw [Dy.val_zero]; have := h.br.lo; grind)
theorem Dir3.gt (h : Dir3 u0 u1 u2 x y z p q r t) : Dy.fgt (Dy.enc r.1) 0 = true := gt_true (y := 0) h.br.rk.lo Dy.ok_zero h.r0
end
end Go.Proofs.YtikiegcncliocaaGreat
