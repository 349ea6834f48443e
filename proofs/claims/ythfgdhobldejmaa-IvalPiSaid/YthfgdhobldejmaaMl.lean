/- Walks: package ival: two.all: where there is no error. -/
import Derived.Test.YthfgdhobldejmaaMk
import Derived.Outline
namespace Go.Proofs.Ythfgdhobldejmaa
open Go.RowKit

theorem A4.set {S : Nat} {b u : Nat × Nat} {w : World} (h : A4 S b u w) (v : Nat × Nat) : A4 S b v ((w.setCell ⟨S + 3, 0, none⟩ (.float .f64 v.1)).setCell ⟨S + 3, 1, none⟩ (.float .f64 v.2)) := by
  obtain ⟨h0, h1, h2, h3, h4, h5, h6, h7, h8, h9, h10⟩ := h
  constructor
  all_goals simp [go_sem, *]

set_option maxRecDepth 100000 in
set_option maxHeartbeats 8000000 in
theorem all_ok (K : Nat) (o : Nat → Nat → Bool → Nat × Int) (a1 a2 b1 b2 : Nat) (w : World) (wa1 : Dy.W a1) (wa2 : Dy.W a2) (wb1 : Dy.W b1) (wb2 : Dy.W b2) (hK : Five K) (H : Hid (OpC K o)) (p q r s : Nat × Nat)
    (ep : Dy.iEnds (o a1 b1 false) (o a1 b1 true) = (p, 0)) (eq : Dy.iEnds (o a1 b2 false) (o a1 b2 true) = (q, 0)) (er : Dy.iEnds (o a2 b1 false) (o a2 b1 true) = (r, 0)) (es : Dy.iEnds (o a2 b2 false) (o a2 b2 true) = (s, 0))
    (gp : Dy.WW p ∧ Dy.ivR p = true) (gq : Dy.WW q ∧ Dy.ivR q = true) (gr : Dy.WW r ∧ Dy.ivR r = true) (gs : Dy.WW s ∧ Dy.ivR s = true) :
    Calls Try.prog 55 #[.func (Fn.func K) #[] #[], iv (a1, a2), iv (b1, b2)] w fun e w' => e = .returned (.tuple #[iv (Dy.iHull (Dy.iHull (Dy.iHull (Dy.iHull p p) q) r) s), .int .i64 0]) ∧ Below w.heap.size w w' := by
  have Ep := hid ep
  have Eq := hid eq
  have Er := hid er
  have Es := hid es
  have gpp := Dy.good_hull gp.1 gp.1 gp.2 gp.2
  have gpq := Dy.good_hull gpp.1 gq.1 gpp.2 gq.2
  have gpr := Dy.good_hull gpq.1 gr.1 gpq.2 gr.2
  have U1 := hid (fun w => ivHull_any p p w gp.1 gp.1 gp.2 gp.2)
  have U2 := hid (fun w => ivHull_any (Dy.iHull p p) q w gpp.1 gq.1 gpp.2 gq.2)
  have U3 := hid (fun w => ivHull_any (Dy.iHull (Dy.iHull p p) q) r w gpq.1 gr.1 gpq.2 gr.2)
  have U4 := hid (fun w => ivHull_any (Dy.iHull (Dy.iHull (Dy.iHull p p) q) r) s w gpr.1 gs.1 gpr.2 gs.2)
  clear ep eq er es gp gq gr gs gpp gpq gpr
  generalize Dy.iHull (Dy.iHull (Dy.iHull (Dy.iHull p p) q) r) s = h4 at *
  generalize Dy.iHull (Dy.iHull (Dy.iHull p p) q) r = h3 at *
  generalize Dy.iHull (Dy.iHull p p) q = h2 at *
  generalize Dy.iHull p p = h1 at *
  obtain ⟨p1, p2⟩ := p
  obtain ⟨q1, q2⟩ := q
  obtain ⟨r1, r2⟩ := r
  obtain ⟨s1, s2⟩ := s
  obtain ⟨h11, h12⟩ := h1
  obtain ⟨h21, h22⟩ := h2
  obtain ⟨h31, h32⟩ := h3
  obtain ⟨h41, h42⟩ := h4
  have i0 : ∀ w, (Instr.index 98 (.agg #[.float .f64 a1, .float .f64 a2]) (.int .i64 0)).run Try.prog w = .ok (.float .f64 a1) w := fun _ => by kernel_rfl
  have i1 : ∀ w, (Instr.index 98 (.agg #[.float .f64 a1, .float .f64 a2]) (.int .i64 1)).run Try.prog w = .ok (.float .f64 a2) w := fun _ => by kernel_rfl
  have j0 : ∀ w, (Instr.index 98 (.agg #[.float .f64 b1, .float .f64 b2]) (.int .i64 0)).run Try.prog w = .ok (.float .f64 b1) w := fun _ => by kernel_rfl
  have j1 : ∀ w, (Instr.index 98 (.agg #[.float .f64 b1, .float .f64 b2]) (.int .i64 1)).run Try.prog w = .ok (.float .f64 b2) w := fun _ => by kernel_rfl
  have st : A4 w.heap.size (b1, b2) (0, 0) ((((w.alloc (.cells #[.float .f64 a1, .float .f64 a2] 26)).alloc (.cells #[.float .f64 b1, .float .f64 b2] 26)).alloc (.cells #[.float .f64 0, .float .f64 0] 26)).alloc (.cells #[.float .f64 0, .float .f64 0] 26)) := ⟨by simp, by simp [go_sem], by simp [go_sem], by simp [go_sem], by simp [go_sem], by simp [go_sem], by simp [go_sem], by simp [go_sem], by simp [go_sem], by simp [go_sem], by simp [go_sem]⟩
  have bT : Below w.heap.size w ((((w.alloc (.cells #[.float .f64 a1, .float .f64 a2] 26)).alloc (.cells #[.float .f64 b1, .float .f64 b2] 26)).alloc (.cells #[.float .f64 0, .float .f64 0] 26)).alloc (.cells #[.float .f64 0, .float .f64 0] 26)) := (((Below.refl _ _).alloc (Nat.le_refl _) _).alloc (by simp) _).alloc (by simp; omega) _ |>.alloc (by simp; omega) _
  go_enter Try.func55, Try.ntmps55
  go_wp2_with fail
  refine wp_loop_rounds 3 ?_
  rw [rounds_succ]
  go_wp2_with fail
  refine wp_loop_rounds 3 ?_
  rw [rounds_succ]
  go_wp2_with fail
  refine (ivOf2_any _ _ _ _).mono ?_
  rintro e va0 ⟨rfl, hb1, hk1⟩
  have st1 := st.keep hb1
  go_wp2_with fail
  refine (ivOf2_any _ _ _ _).mono ?_
  rintro e vb0 ⟨rfl, hb2, hk2⟩
  have st2 := st1.keep hb2
  have hk3 := hk1.keep hb2
  go_wp2_with fail
  refine (ends_eq _ _ K a1 b1 o _ Ep.out hK (by first | exact hk3 | (simpa using hk3)) hk2 wa1 wb1 H).mono ?_
  rintro e v0 ⟨rfl, hb3⟩
  have st3 := st2.keep hb3
  have bU0 : Below w.heap.size w v0 := bT.trans ((hb1.trans ((hb2.trans (hb3.mono hb2.size)).mono hb1.size)).mono bT.size)
  have u0 := st3.u0
  have u1 := st3.u1
  have x0 := st3.v0
  have x1 := st3.v1
  have hl := st3.lt
  have hl3 : w.heap.size + 3 ≠ v0.heap.size := by omega
  have st4 := (st3.set (p1, p2)).keep ((Below.refl _ _).alloc (Nat.le_refl _) (.cells #[.float .f64 p1, .float .f64 p2] 26))
  clear hb1 hb2 hb3 hk1 hk2 hk3 st1 st2
  go_wp2_with fail
  refine (U1.out _).mono ?_
  rintro e vh0 ⟨rfl, hb4⟩
  have st5 := st4.keep hb4
  have bV0 : Below w.heap.size w vh0 := (((bU0.setCell (p := ⟨w.heap.size + 3, 0, none⟩) (Nat.le_add_right _ _) (.float .f64 p1)).setCell (p := ⟨w.heap.size + 3, 1, none⟩) (Nat.le_add_right _ _) (.float .f64 p2)).alloc (by first | exact bU0.size | (simp; exact bU0.size)) _).trans (hb4.mono (by first | (have := bU0.size; simp; omega) | skip))
  have bT0 := (bV0.setCell (p := ⟨w.heap.size + 3, 0, none⟩) (Nat.le_add_right _ _) (.float .f64 h11)).setCell (p := ⟨w.heap.size + 3, 1, none⟩) (Nat.le_add_right _ _) (.float .f64 h12)
  have st6 := st5.set (h11, h12)
  clear u0 u1 x0 x1 hl hl3 hb4
  have u0 := st5.u0
  have u1 := st5.u1
  have x0 := st5.v0
  have x1 := st5.v1
  go_wp2_with fail
  clear u0 u1 x0 x1 st3 st4 st5
  rw [rounds_succ]
  go_wp2_with fail
  refine (ivOf2_any _ _ _ _).mono ?_
  rintro e va1 ⟨rfl, hb1, hk1⟩
  have st1 := st6.keep hb1
  go_wp2_with fail
  refine (ivOf2_any _ _ _ _).mono ?_
  rintro e vb1 ⟨rfl, hb2, hk2⟩
  have st2 := st1.keep hb2
  have hk3 := hk1.keep hb2
  go_wp2_with fail
  refine (ends_eq _ _ K a1 b2 o _ Eq.out hK (by first | exact hk3 | (simpa using hk3)) hk2 wa1 wb2 H).mono ?_
  rintro e v1 ⟨rfl, hb3⟩
  have st3 := st2.keep hb3
  have bU1 : Below w.heap.size w v1 := bT0.trans ((hb1.trans ((hb2.trans (hb3.mono hb2.size)).mono hb1.size)).mono bT0.size)
  have u0 := st3.u0
  have u1 := st3.u1
  have x0 := st3.v0
  have x1 := st3.v1
  have hl := st3.lt
  have hl3 : w.heap.size + 3 ≠ v1.heap.size := by omega
  have st4 := st3.keep ((Below.refl _ _).alloc (Nat.le_refl _) (.cells #[.float .f64 q1, .float .f64 q2] 26))
  clear hb1 hb2 hb3 hk1 hk2 hk3 st1 st2
  go_wp2_with fail
  refine (U2.out _).mono ?_
  rintro e vh1 ⟨rfl, hb4⟩
  have st5 := st4.keep hb4
  have bV1 : Below w.heap.size w vh1 := ((bU1).alloc (by first | exact bU1.size | (simp; exact bU1.size)) _).trans (hb4.mono (by first | (have := bU1.size; simp; omega) | skip))
  have bT1 := (bV1.setCell (p := ⟨w.heap.size + 3, 0, none⟩) (Nat.le_add_right _ _) (.float .f64 h21)).setCell (p := ⟨w.heap.size + 3, 1, none⟩) (Nat.le_add_right _ _) (.float .f64 h22)
  have st6 := st5.set (h21, h22)
  clear u0 u1 x0 x1 hl hl3 hb4
  have u0 := st5.u0
  have u1 := st5.u1
  have x0 := st5.v0
  have x1 := st5.v1
  go_wp2_with fail
  clear u0 u1 x0 x1 st3 st4 st5
  rw [rounds_succ]
  have c0 := st6.b0
  have c1 := st6.b1
  go_wp2_with fail
  rw [rounds_succ]
  go_wp2_with fail
  clear c0 c1
  refine wp_loop_rounds 3 ?_
  rw [rounds_succ]
  go_wp2_with fail
  refine (ivOf2_any _ _ _ _).mono ?_
  rintro e va2 ⟨rfl, hb1, hk1⟩
  have st1 := st6.keep hb1
  go_wp2_with fail
  refine (ivOf2_any _ _ _ _).mono ?_
  rintro e vb2 ⟨rfl, hb2, hk2⟩
  have st2 := st1.keep hb2
  have hk3 := hk1.keep hb2
  go_wp2_with fail
  refine (ends_eq _ _ K a2 b1 o _ Er.out hK (by first | exact hk3 | (simpa using hk3)) hk2 wa2 wb1 H).mono ?_
  rintro e v2 ⟨rfl, hb3⟩
  have st3 := st2.keep hb3
  have bU2 : Below w.heap.size w v2 := bT1.trans ((hb1.trans ((hb2.trans (hb3.mono hb2.size)).mono hb1.size)).mono bT1.size)
  have u0 := st3.u0
  have u1 := st3.u1
  have x0 := st3.v0
  have x1 := st3.v1
  have hl := st3.lt
  have hl3 : w.heap.size + 3 ≠ v2.heap.size := by omega
  have st4 := st3.keep ((Below.refl _ _).alloc (Nat.le_refl _) (.cells #[.float .f64 r1, .float .f64 r2] 26))
  clear hb1 hb2 hb3 hk1 hk2 hk3 st1 st2
  go_wp2_with fail
  refine (U3.out _).mono ?_
  rintro e vh2 ⟨rfl, hb4⟩
  have st5 := st4.keep hb4
  have bV2 : Below w.heap.size w vh2 := ((bU2).alloc (by first | exact bU2.size | (simp; exact bU2.size)) _).trans (hb4.mono (by first | (have := bU2.size; simp; omega) | skip))
  have bT2 := (bV2.setCell (p := ⟨w.heap.size + 3, 0, none⟩) (Nat.le_add_right _ _) (.float .f64 h31)).setCell (p := ⟨w.heap.size + 3, 1, none⟩) (Nat.le_add_right _ _) (.float .f64 h32)
  have st6 := st5.set (h31, h32)
  clear u0 u1 x0 x1 hl hl3 hb4
  have u0 := st5.u0
  have u1 := st5.u1
  have x0 := st5.v0
  have x1 := st5.v1
  go_wp2_with fail
  clear u0 u1 x0 x1 st3 st4 st5
  rw [rounds_succ]
  go_wp2_with fail
  refine (ivOf2_any _ _ _ _).mono ?_
  rintro e va3 ⟨rfl, hb1, hk1⟩
  have st1 := st6.keep hb1
  go_wp2_with fail
  refine (ivOf2_any _ _ _ _).mono ?_
  rintro e vb3 ⟨rfl, hb2, hk2⟩
  have st2 := st1.keep hb2
  have hk3 := hk1.keep hb2
  go_wp2_with fail
  refine (ends_eq _ _ K a2 b2 o _ Es.out hK (by first | exact hk3 | (simpa using hk3)) hk2 wa2 wb2 H).mono ?_
  rintro e v3 ⟨rfl, hb3⟩
  have st3 := st2.keep hb3
  have bU3 : Below w.heap.size w v3 := bT2.trans ((hb1.trans ((hb2.trans (hb3.mono hb2.size)).mono hb1.size)).mono bT2.size)
  have u0 := st3.u0
  have u1 := st3.u1
  have x0 := st3.v0
  have x1 := st3.v1
  have hl := st3.lt
  have hl3 : w.heap.size + 3 ≠ v3.heap.size := by omega
  have st4 := st3.keep ((Below.refl _ _).alloc (Nat.le_refl _) (.cells #[.float .f64 s1, .float .f64 s2] 26))
  clear hb1 hb2 hb3 hk1 hk2 hk3 st1 st2
  go_wp2_with fail
  refine (U4.out _).mono ?_
  rintro e vh3 ⟨rfl, hb4⟩
  have st5 := st4.keep hb4
  have bV3 : Below w.heap.size w vh3 := ((bU3).alloc (by first | exact bU3.size | (simp; exact bU3.size)) _).trans (hb4.mono (by first | (have := bU3.size; simp; omega) | skip))
  have bT3 := (bV3.setCell (p := ⟨w.heap.size + 3, 0, none⟩) (Nat.le_add_right _ _) (.float .f64 h41)).setCell (p := ⟨w.heap.size + 3, 1, none⟩) (Nat.le_add_right _ _) (.float .f64 h42)
  have st6 := st5.set (h41, h42)
  clear u0 u1 x0 x1 hl hl3 hb4
  have u0 := st5.u0
  have u1 := st5.u1
  have x0 := st5.v0
  have x1 := st5.v1
  go_wp2_with fail
  clear u0 u1 x0 x1 st3 st4 st5
  rw [rounds_succ]
  go_wp2_with fail
  rw [rounds_succ]
  have z0 := st6.z0
  have z1 := st6.z1
  have y0 := st6.y0
  have y1 := st6.y1
  have u0 := st6.u0
  have u1 := st6.u1
  go_wp2_with fail
  refine bodyPost_ret (v := .tuple #[iv (h41, h42), .int .i64 0]) (by simp [results, Try.results55, go_sem, *]) rfl ⟨rfl, ?_⟩
  exact (bT3.setCell (p := ⟨w.heap.size + 2, 0, none⟩) (Nat.le_add_right _ _) _).setCell (p := ⟨w.heap.size + 2, 1, none⟩) (Nat.le_add_right _ _) _
end Go.Proofs.Ythfgdhobldejmaa
