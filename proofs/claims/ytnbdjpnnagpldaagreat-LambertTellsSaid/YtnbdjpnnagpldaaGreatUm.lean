/- The law LambertTells: its join. -/
import Derived.Test.YtnbdjpnnagpldaaGreatUl
namespace Go.Proofs.YtnbdjpnnagpldaaGreat
open Go Go.RowKit
set_option linter.unusedSimpArgs false
set_option linter.unusedVariables false
open Dy
theorem good_res {r : (Nat × Nat) × Int} (h : Dy.Good r) : Dy.Good (lamRes r) := by
  unfold lamRes
  split
  · exact h
  · exact good_no _
theorem good_lamV {a : Nat × Nat} : Dy.Good (lamV a) := by
  unfold lamV lam1
  split
  · split
    · exact good_no _
    · exact good_res (good_div (show WW piIv from by rw [pi_E]; exact pi_Rk.E_W))
  · exact good_no _
theorem good_lamC {a b : Nat × Nat} : Dy.Good (lamC a b) := by
  unfold lamC lam2
  split
  · split
    · exact good_no _
    · exact good_res good_mul
  · exact good_no _
theorem same_good {r : (Nat × Nat) × Int} (h : Dy.Good r) : (feq r.1.1 r.1.1 && (feq r.1.2 r.1.2 && true)) = true := by
  obtain ⟨⟨w1, w2⟩, hr⟩ := h
  obtain ⟨r1, r2, -⟩ := ivR_of hr
  rw [feq_dec w1 w1 r1 r1, feq_dec w2 w2 r2 r2]; simp
theorem span01 {u v : Nat} (hu : u < 4294967296) (hv : v < 4294967296) : nSpan [.f 0, .f 4607182418800017408, .i (u : Int), .i (v : Int)] = true ∧ WW (spanF 0 4607182418800017408 u v) := by
  obtain ⟨k1, q, k2, -, k3⟩ := span_in (p := (0, I1)) (show Dy.Rk (0, I1) from ⟨by unfold ok; decide, ok_I1, by decide⟩) (by decide) (by decide) hu hv
  have e0 : enc 0 = 0 := by decide
  have e1 : enc I1 = 4607182418800017408 := by decide
  rw [e0, e1] at k1 k3
  exact ⟨k1, by rw [k3]; exact k2.E_W⟩
theorem lamtells_ok (a b : Nat × Nat) (m0 m1 m2 m3 : Nat) (w : World) (ha : WW a) (hb : WW b) (h0 : m0 < 4294967296) (h1 : m1 < 4294967296) (h2 : m2 < 4294967296) (h3 : m3 < 4294967296) :
    Calls Tryz.prog 3 #[iv a, iv b, .agg #[.int .u32 (m0 : Int), .int .u32 (m1 : Int), .int .u32 (m2 : Int), .int .u32 (m3 : Int)]] w fun e w' => e = .returned (.bool true) ∧ Below w.heap.size w w' := by
  obtain ⟨a0, a1⟩ := a
  obtain ⟨b0, b1⟩ := b
  by_cases hc : ((m0 : Int).tmod 2 == 0) = true
  · obtain ⟨n1, s1⟩ := span01 h0 h1
    obtain ⟨n2, s2⟩ := span01 h2 h3
    obtain ⟨x1, x2, ex⟩ : ∃ x y, spanF 0 4607182418800017408 (m0 : Int) (m1 : Int) = (x, y) := Dy.ex2 _
    obtain ⟨y1, y2, ey⟩ : ∃ x y, spanF 0 4607182418800017408 (m2 : Int) (m3 : Int) = (x, y) := Dy.ex2 _
    obtain ⟨p1, p2, p3, ep⟩ : ∃ x y z, lamV (x1, x2) = ((x, y), z) := Dy.ex3 _
    obtain ⟨q1, q2, q3, eq⟩ : ∃ x y z, lamV (y1, y2) = ((x, y), z) := Dy.ex3 _
    obtain ⟨r1, r2, r3, er⟩ : ∃ x y z, lamC (x1, x2) (y1, y2) = ((x, y), z) := Dy.ex3 _
    have gp := same_good (good_lamV (a := (x1, x2)))
    have gq := same_good (good_lamV (a := (y1, y2)))
    have gr := same_good (good_lamC (a := (x1, x2)) (b := (y1, y2)))
    rw [ep] at gp
    rw [eq] at gq
    rw [er] at gr
    exact lamtells_e a0 a1 b0 b1 m0 m1 m2 m3 w ha.1 ha.2 hb.1 hb.2 rfl hc ex n1 ey n2 ep eq er gp (beq_self_eq_true _) gq (beq_self_eq_true _) gr (beq_self_eq_true _)
  · obtain ⟨p1, p2, p3, ep⟩ : ∃ x y z, lamV (a0, a1) = ((x, y), z) := Dy.ex3 _
    obtain ⟨q1, q2, q3, eq⟩ : ∃ x y z, lamV (b0, b1) = ((x, y), z) := Dy.ex3 _
    obtain ⟨r1, r2, r3, er⟩ : ∃ x y z, lamC (a0, a1) (b0, b1) = ((x, y), z) := Dy.ex3 _
    have gp := same_good (good_lamV (a := (a0, a1)))
    have gq := same_good (good_lamV (a := (b0, b1)))
    have gr := same_good (good_lamC (a := (a0, a1)) (b := (b0, b1)))
    rw [ep] at gp
    rw [eq] at gq
    rw [er] at gr
    exact lamtells_o a0 a1 b0 b1 m0 m1 m2 m3 w ha.1 ha.2 hb.1 hb.2 rfl (by simpa using hc) ep eq er gp (beq_self_eq_true _) gq (beq_self_eq_true _) gr (beq_self_eq_true _)
end Go.Proofs.YtnbdjpnnagpldaaGreat
