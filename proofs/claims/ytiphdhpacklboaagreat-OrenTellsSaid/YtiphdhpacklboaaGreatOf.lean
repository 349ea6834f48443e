/- The law OrenTells: its join. -/
import Derived.Test.YtiphdhpacklboaaGreatOe
namespace Go.Proofs.YtiphdhpacklboaaGreat
open Go Go.RowKit
open Dy
theorem good_told {r : (Nat × Nat) × Int} (h : Dy.Good r) : Dy.Good (told r) := by
 unfold told
 split
 ·exact good_no _
 ·exact h
def GQ (r : (Nat × Nat) × (Nat × Nat)) : Prop := GI r.1 ∧ GI r.2
theorem pair_good (a : Nat × Nat) : GP GQ (pairM a) := by
 unfold pairM
 iterate 7 refine gp_any fun _ => ?_
 refine gp_bind (Q := GI) (fun e => Dy.good_add) fun s hs => ?_
 exact gp_bind (Q := GI) (fun e => Dy.good_div hs.1) fun x hx => gp_bind (Q := GI) (fun e => Dy.good_mul) fun y hy e => ⟨hx, hy⟩
theorem good_pair (a : Nat × Nat) : GQ (oPair a).1 := by
 have z : GQ ((0, 0), (0, 0)) := ⟨⟨WW_zero, ivR_zero⟩, WW_zero, ivR_zero⟩
 unfold oPair told2
 split
 ·exact z
 ·split
  ·exact z
  ·exact pair_good a 0
theorem wn_good {a b : Nat × Nat} (h : Wn a b) : GI b := by
 obtain ⟨p, q, -, rfl, -, hq, -⟩ := h
 exact ⟨hq.E_W, hq.E_R⟩
theorem good_slope (a b c : Nat × Nat) (ha : WW a) (hb : WW b) : Dy.Good (oSlope a b c) := by
 unfold oSlope
 split
 ·exact good_no _
 ·exact good_told (wn_good (slope_in a b c ha hb 0))
theorem oren_good (r s a b c : Nat × Nat) : GP GI (orenM r s a b c) := by
 unfold orenM
 refine gp_any fun _ => gp_any fun _ => gp_any fun _ => gp_any fun _ => ?_
 exact gp_bind (Q := GI) (fun e => Dy.good_mul) fun v hv e => wn_good (wn_kept (l := 0) Dy.ok_zero (by decide) hv)
theorem good_val (r s a b c : Nat × Nat) : Dy.Good (oVal r s a b c) := by
 unfold oVal
 split
 ·exact good_no _
 ·exact good_told (oren_good r s a b c 0)
theorem same_gi {r : Nat × Nat} (h : GI r) : (feq r.1 r.1 && (feq r.2 r.2 && true)) = true := by
 obtain ⟨⟨w1, w2⟩, hr⟩ := h
 obtain ⟨r1, r2, -⟩ := ivR_of hr
 rw [feq_dec w1 w1 r1 r1, feq_dec w2 w2 r2 r2]; simp
theorem span_any {l h : Nat} (x y : Int) (hl : l = enc x) (hh : h = enc y) (kl : -B10 ≤ x) (kx : x ≤ y) (kh : y ≤ B10) {u v : Nat} (hu : u < 4294967296) (hv : v < 4294967296) : nSpan [.f l, .f h, .i (u : Int), .i (v : Int)] = true ∧ WW (spanF l h (u : Int) (v : Int)) := by
 subst hl hh
 obtain ⟨k1, q, k2, -, k3⟩ := span_F kl kx kh hu hv
 exact ⟨k1, by rw [k3]; exact k2.E_W⟩
attribute [local irreducible] oPair oSlope oVal
theorem orentells_ok (a0 a1 a2 a3 a4 a5 a6 a7 a8 a9 : Nat) (m0 m1 m2 m3 m4 m5 m6 m7 m8 m9 : Nat) (w : World) (w0 : Dy.W a0) (w1 : Dy.W a1) (w2 : Dy.W a2) (w3 : Dy.W a3) (w4 : Dy.W a4) (w5 : Dy.W a5) (w6 : Dy.W a6) (w7 : Dy.W a7) (w8 : Dy.W a8) (w9 : Dy.W a9) (h0 : m0 < 4294967296) (h1 : m1 < 4294967296) (h2 : m2 < 4294967296) (h3 : m3 < 4294967296) (h4 : m4 < 4294967296) (h5 : m5 < 4294967296) (h6 : m6 < 4294967296) (h7 : m7 < 4294967296) (h8 : m8 < 4294967296) (h9 : m9 < 4294967296) :
  Calls Tryz.prog 3 #[.agg #[.float .f64 a0, .float .f64 a1, .float .f64 a2, .float .f64 a3, .float .f64 a4, .float .f64 a5, .float .f64 a6, .float .f64 a7, .float .f64 a8, .float .f64 a9], .agg #[.int .u32 (m0 : Int), .int .u32 (m1 : Int), .int .u32 (m2 : Int), .int .u32 (m3 : Int), .int .u32 (m4 : Int), .int .u32 (m5 : Int), .int .u32 (m6 : Int), .int .u32 (m7 : Int), .int .u32 (m8 : Int), .int .u32 (m9 : Int)]] w fun e w' => e = .returned (.bool true) ∧ Below w.heap.size w w' := by
 by_cases hc' : ((m0 : Int).tmod 2 == 0) = true
 ·obtain ⟨n0, s0⟩ := span_any (l := 0) (h := 4607182418800017408) 0 4607182418800017408 (by decide) (by decide) (by decide) (by decide) (by decide) h0 h1
  obtain ⟨x0, y0, e0⟩ : ∃ x y, spanF 0 4607182418800017408 (m0 : Int) (m1 : Int) = (x, y) := Dy.ex2 _
  rw [e0] at s0
  obtain ⟨n1, s1⟩ := span_any (l := 0) (h := 4607182418800017408) 0 4607182418800017408 (by decide) (by decide) (by decide) (by decide) (by decide) h2 h3
  obtain ⟨x1, y1, e1⟩ : ∃ x y, spanF 0 4607182418800017408 (m2 : Int) (m3 : Int) = (x, y) := Dy.ex2 _
  rw [e1] at s1
  obtain ⟨n2, s2⟩ := span_any (l := 0) (h := 4607182418800017408) 0 4607182418800017408 (by decide) (by decide) (by decide) (by decide) (by decide) h4 h5
  obtain ⟨x2, y2, e2⟩ : ∃ x y, spanF 0 4607182418800017408 (m4 : Int) (m5 : Int) = (x, y) := Dy.ex2 _
  rw [e2] at s2
  obtain ⟨n3, s3⟩ := span_any (l := 0) (h := 4607182418800017408) 0 4607182418800017408 (by decide) (by decide) (by decide) (by decide) (by decide) h6 h7
  obtain ⟨x3, y3, e3⟩ : ∃ x y, spanF 0 4607182418800017408 (m6 : Int) (m7 : Int) = (x, y) := Dy.ex2 _
  rw [e3] at s3
  obtain ⟨n4, s4⟩ := span_any (l := 13830554455654793216) (h := 4607182418800017408) (-4607182418800017408) 4607182418800017408 (by decide) (by decide) (by decide) (by decide) (by decide) h8 h9
  obtain ⟨x4, y4, e4⟩ : ∃ x y, spanF 13830554455654793216 4607182418800017408 (m8 : Int) (m9 : Int) = (x, y) := Dy.ex2 _
  rw [e4] at s4
  obtain ⟨p1, p2, p3, p4, p5, ep⟩ : ∃ a b c d e, oPair (x1, y1) = (((a, b), (c, d)), e) := Dy.ex5 _
  obtain ⟨q1, q2, q3, eq⟩ : ∃ x y z, oSlope (x2, y2) (x3, y3) (x4, y4) = ((x, y), z) := Dy.ex3 _
  obtain ⟨r1, r2, r3, er⟩ : ∃ x y z, oVal (x0, y0) (x1, y1) (x2, y2) (x3, y3) (x4, y4) = ((x, y), z) := Dy.ex3 _
  have gp := good_pair (x1, y1)
  have gq := good_slope (x2, y2) (x3, y3) (x4, y4) s2 s3
  have gr := good_val (x0, y0) (x1, y1) (x2, y2) (x3, y3) (x4, y4)
  rw [ep] at gp; rw [eq] at gq; rw [er] at gr
  exact orentells_e a0 a1 a2 a3 a4 a5 a6 a7 a8 a9 m0 m1 m2 m3 m4 m5 m6 m7 m8 m9 w w0 w1 w2 w3 w4 w5 w6 w7 w8 w9 rfl hc' e0 e1 e2 e3 e4 n0 n1 n2 n3 n4 ep eq er (same_gi gp.1) (same_gi gp.2) (beq_self_eq_true _) (same_gi gq) (beq_self_eq_true _) (same_gi gr) (beq_self_eq_true _)
 ·obtain ⟨p1, p2, p3, p4, p5, ep⟩ : ∃ a b c d e, oPair (a2, a3) = (((a, b), (c, d)), e) := Dy.ex5 _
  obtain ⟨q1, q2, q3, eq⟩ : ∃ x y z, oSlope (a4, a5) (a6, a7) (a8, a9) = ((x, y), z) := Dy.ex3 _
  obtain ⟨r1, r2, r3, er⟩ : ∃ x y z, oVal (a0, a1) (a2, a3) (a4, a5) (a6, a7) (a8, a9) = ((x, y), z) := Dy.ex3 _
  have gp := good_pair (a2, a3)
  have gq := good_slope (a4, a5) (a6, a7) (a8, a9) ⟨w4, w5⟩ ⟨w6, w7⟩
  have gr := good_val (a0, a1) (a2, a3) (a4, a5) (a6, a7) (a8, a9)
  rw [ep] at gp; rw [eq] at gq; rw [er] at gr
  exact orentells_o a0 a1 a2 a3 a4 a5 a6 a7 a8 a9 m0 m1 m2 m3 m4 m5 m6 m7 m8 m9 w w0 w1 w2 w3 w4 w5 w6 w7 w8 w9 rfl (by simpa using hc') ep eq er (same_gi gp.1) (same_gi gp.2) (beq_self_eq_true _) (same_gi gq) (beq_self_eq_true _) (same_gi gr) (beq_self_eq_true _)
end Go.Proofs.YtiphdhpacklboaaGreat
