/- The law FresnelTells: its join. -/
import Derived.Test.YtiphdhpacklboaaGreatUs
namespace Go.Proofs.YtiphdhpacklboaaGreat
open Go Go.RowKit
set_option linter.unusedSimpArgs false
set_option linter.unusedVariables false
open Dy
def GM (x : Cm (Nat × Nat)) : Prop := ∀ e, Dy.Good (x e)
theorem gm_bind {α : Type} {x : Cm α} {k : α → Cm (Nat × Nat)} (h : ∀ a, GM (k a)) : GM (x >>= k) := fun e => h (x e).1 (x e).2
theorem gm_last {x : Cm (Nat × Nat)} {f : Nat × Nat → Nat × Nat} (h : GM x) (hf : ∀ a, WW a → ivR a = true → WW (f a) ∧ ivR (f a) = true) : GM (x >>= fun v => pure (f v)) := fun e => hf (x e).1 (h e).1 (h e).2
theorem dielM_good (cos n : Nat × Nat) : GM (dielM cos n) := by
 unfold dielM
 iterate 21 refine gm_bind fun _ => ?_
 exact gm_last (fun e => good_mul) fun a w r => clip01_good w r
theorem condM_good (cos eta k : Nat × Nat) : GM (condM cos eta k) := by
 unfold condM
 iterate 38 refine gm_bind fun _ => ?_
 exact gm_last (f := fun v => v) (fun e => good_mul) fun a w r => ⟨w, r⟩
theorem good_told {r : (Nat × Nat) × Int} (h : Dy.Good r) : Dy.Good (told r) := by
 unfold told
 split
 ·exact good_no _
 ·exact h
theorem good_diel (a b : Nat × Nat) : Dy.Good (dielG a b) := by
 unfold dielG
 split
 ·split
  ·split
   ·exact good_told (dielM_good _ _ _)
   ·exact good_no _
  ·exact good_no _
 ·exact good_no _
theorem good_cond (a b c : Nat × Nat) : Dy.Good (condG a b c) := by
 unfold condG
 split
 ·split
  ·split
   ·exact good_told (condM_good _ _ _ _)
   ·exact good_no _
  ·exact good_no _
 ·exact good_no _
theorem same_good {r : (Nat × Nat) × Int} (h : Dy.Good r) : (feq r.1.1 r.1.1 && (feq r.1.2 r.1.2 && true)) = true := by
 obtain ⟨⟨w1, w2⟩, hr⟩ := h
 obtain ⟨r1, r2, -⟩ := ivR_of hr
 rw [feq_dec w1 w1 r1 r1, feq_dec w2 w2 r2 r2]; simp
theorem span_any {l h : Nat} (x y : Int) (hl : l = enc x) (hh : h = enc y) (kl : -B10 ≤ x) (kx : x ≤ y) (kh : y ≤ B10) {u v : Nat} (hu : u < 4294967296) (hv : v < 4294967296) : nSpan [.f l, .f h, .i (u : Int), .i (v : Int)] = true := by
 subst hl hh
 exact (span_F kl kx kh hu hv).1
theorem fretells_ok (cos n eta k : Nat × Nat) (m0 m1 m2 m3 m4 m5 : Nat) (w : World) (hc : WW cos) (hn : WW n) (he : WW eta) (hk : WW k) (h0 : m0 < 4294967296) (h1 : m1 < 4294967296) (h2 : m2 < 4294967296) (h3 : m3 < 4294967296) (h4 : m4 < 4294967296) (h5 : m5 < 4294967296) :
  Calls Tryz.prog 4 #[iv cos, iv n, iv eta, iv k, .agg #[.int .u32 (m0 : Int), .int .u32 (m1 : Int), .int .u32 (m2 : Int), .int .u32 (m3 : Int), .int .u32 (m4 : Int), .int .u32 (m5 : Int)]] w fun e w' => e = .returned (.bool true) ∧ Below w.heap.size w w' := by
 obtain ⟨a0, a1⟩ := cos
 obtain ⟨b0, b1⟩ := n
 obtain ⟨c0, c1⟩ := eta
 obtain ⟨d0, d1⟩ := k
 by_cases hc' : ((m0 : Int).tmod 2 == 0) = true
 ·have n1 := span_any (l := 0) (h := 4607182418800017408) 0 4607182418800017408 (by decide) (by decide) (by decide) (by decide) (by decide) h0 h1
  have n2 := span_any (l := 4607463893776728064) (h := 4616189618054758400) 4607463893776728064 4616189618054758400 (by decide) (by decide) (by decide) (by decide) (by decide) h2 h3
  have n3 := span_any (l := 4589168020290535424) (h := 4625196817309499392) 4589168020290535424 4625196817309499392 (by decide) (by decide) (by decide) (by decide) (by decide) h3 h4
  have n4 := span_any (l := 4589168020290535424) (h := 4625196817309499392) 4589168020290535424 4625196817309499392 (by decide) (by decide) (by decide) (by decide) (by decide) h2 h5
  obtain ⟨x1, x2, ex⟩ : ∃ x y, spanF 0 4607182418800017408 (m0 : Int) (m1 : Int) = (x, y) := Dy.ex2 _
  obtain ⟨y1, y2, ey⟩ : ∃ x y, spanF 4607463893776728064 4616189618054758400 (m2 : Int) (m3 : Int) = (x, y) := Dy.ex2 _
  obtain ⟨z1, z2, ez⟩ : ∃ x y, spanF 4589168020290535424 4625196817309499392 (m3 : Int) (m4 : Int) = (x, y) := Dy.ex2 _
  obtain ⟨v1, v2, ev⟩ : ∃ x y, spanF 4589168020290535424 4625196817309499392 (m2 : Int) (m5 : Int) = (x, y) := Dy.ex2 _
  obtain ⟨p1, p2, p3, ep⟩ : ∃ x y z, dielG (x1, x2) (y1, y2) = ((x, y), z) := Dy.ex3 _
  obtain ⟨q1, q2, q3, eq⟩ : ∃ x y z, condG (x1, x2) (z1, z2) (v1, v2) = ((x, y), z) := Dy.ex3 _
  have gp := same_good (good_diel (x1, x2) (y1, y2))
  have gq := same_good (good_cond (x1, x2) (z1, z2) (v1, v2))
  rw [ep] at gp
  rw [eq] at gq
  exact fretells_e a0 a1 b0 b1 c0 c1 d0 d1 m0 m1 m2 m3 m4 m5 w hc.1 hc.2 hn.1 hn.2 he.1 he.2 hk.1 hk.2 rfl hc' ex n1 ey n2 ez n3 ev n4 ep eq gp (beq_self_eq_true _) gq (beq_self_eq_true _)
 ·obtain ⟨p1, p2, p3, ep⟩ : ∃ x y z, dielG (a0, a1) (b0, b1) = ((x, y), z) := Dy.ex3 _
  obtain ⟨q1, q2, q3, eq⟩ : ∃ x y z, condG (a0, a1) (c0, c1) (d0, d1) = ((x, y), z) := Dy.ex3 _
  have gp := same_good (good_diel (a0, a1) (b0, b1))
  have gq := same_good (good_cond (a0, a1) (c0, c1) (d0, d1))
  rw [ep] at gp
  rw [eq] at gq
  exact fretells_o a0 a1 b0 b1 c0 c1 d0 d1 m0 m1 m2 m3 m4 m5 w hc.1 hc.2 hn.1 hn.2 he.1 he.2 hk.1 hk.2 rfl (by simpa using hc') ep eq gp (beq_self_eq_true _) gq (beq_self_eq_true _)
end Go.Proofs.YtiphdhpacklboaaGreat
