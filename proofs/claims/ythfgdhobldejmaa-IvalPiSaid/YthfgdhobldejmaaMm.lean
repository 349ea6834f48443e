/- Walks: package ival: two.all: where a pair of ends has an error. -/
import Derived.Test.YthfgdhobldejmaaMl
namespace Go.Proofs.Ythfgdhobldejmaa
open Go.RowKit

set_option maxRecDepth 100000 in
set_option maxHeartbeats 8000000 in
theorem all_e1 (K : Nat) (o : Nat → Nat → Bool → Nat × Int) (a1 a2 b1 b2 : Nat) (w : World) (wa1 : Dy.W a1) (_wa2 : Dy.W a2) (wb1 : Dy.W b1) (wb2 : Dy.W b2) (hK : Five K) (H : Hid (OpC K o)) (p : Nat × Nat) (f1 f2 : Nat) (fe : Int)
    (ep : Dy.iEnds (o a1 b1 false) (o a1 b1 true) = (p, 0)) (ef : Dy.iEnds (o a1 b2 false) (o a1 b2 true) = ((f1, f2), fe)) (hf : fe ≠ 0)
    (gp : Dy.WW p ∧ Dy.ivR p = true) :
    Calls Try.prog 55 #[.func (Fn.func K) #[] #[], iv (a1, a2), iv (b1, b2)] w fun e w' => e = .returned (.tuple #[iv (0, 0), .int .i64 fe]) ∧ Below w.heap.size w w' := by
  have EF := hid ef
  have hf1 : (fe != 0) = true := by simpa using hf
  clear ef hf
  have Ep := hid ep
  have gh1 := Dy.good_hull gp.1 gp.1 gp.2 gp.2
  have U1 := hid (fun w => ivHull_any p p w gp.1 gp.1 gp.2 gp.2)
  clear ep gp gh1
  generalize Dy.iHull p p = h1 at *
  obtain ⟨p1, p2⟩ := p
  obtain ⟨h11, h12⟩ := h1
  have i0 : ∀ w, (Instr.index 98 (.agg #[.float .f64 a1, .float .f64 a2]) (.int .i64 0)).run Try.prog w = .ok (.float .f64 a1) w := fun _ => by kernel_rfl
  have i1 : ∀ w, (Instr.index 98 (.agg #[.float .f64 a1, .float .f64 a2]) (.int .i64 1)).run Try.prog w = .ok (.float .f64 a2) w := fun _ => by kernel_rfl
  have j0 : ∀ w, (Instr.index 98 (.agg #[.float .f64 b1, .float .f64 b2]) (.int .i64 0)).run Try.prog w = .ok (.float .f64 b1) w := fun _ => by kernel_rfl
  have j1 : ∀ w, (Instr.index 98 (.agg #[.float .f64 b1, .float .f64 b2]) (.int .i64 1)).run Try.prog w = .ok (.float .f64 b2) w := fun _ => by kernel_rfl
  have st : A4 w.heap.size (b1, b2) (0, 0) ((((w.alloc (.cells #[.float .f64 a1, .float .f64 a2] 26)).alloc (.cells #[.float .f64 b1, .float .f64 b2] 26)).alloc (.cells #[.float .f64 0, .float .f64 0] 26)).alloc (.cells #[.float .f64 0, .float .f64 0] 26)) := ⟨by simp, by simp [go_sem], by simp [go_sem], by simp [go_sem], by simp [go_sem], by simp [go_sem], by simp [go_sem], by simp [go_sem], by simp [go_sem], by simp [go_sem], by simp [go_sem]⟩
  have bT : Below w.heap.size w ((((w.alloc (.cells #[.float .f64 a1, .float .f64 a2] 26)).alloc (.cells #[.float .f64 b1, .float .f64 b2] 26)).alloc (.cells #[.float .f64 0, .float .f64 0] 26)).alloc (.cells #[.float .f64 0, .float .f64 0] 26)) := (((Below.refl _ _).alloc (Nat.le_refl _) _).alloc (by simp) _).alloc (by simp; omega) _ |>.alloc (by simp; omega) _
  go_enter Try.func55, Try.ntmps55
  go_wp2_with fail
  refine wp_loop_rounds 3 ?_
  rw [rounds_succ]
  go_wp2_with fail
  refine wp_loop_rounds 3 ?_
  rw [rounds_succ]
  go_wp2_with fail
  refine (ivOf2_any _ _ _ _).mono ?_
  rintro e va0 ⟨rfl, hb1, hk1⟩
  have st1 := st.keep hb1
  go_wp2_with fail
  refine (ivOf2_any _ _ _ _).mono ?_
  rintro e vb0 ⟨rfl, hb2, hk2⟩
  have st2 := st1.keep hb2
  have hk3 := hk1.keep hb2
  go_wp2_with fail
  refine (ends_eq _ _ K a1 b1 o _ Ep.out hK (by first | exact hk3 | (simpa using hk3)) hk2 wa1 wb1 H).mono ?_
  rintro e v0 ⟨rfl, hb3⟩
  have st3 := st2.keep hb3
  have bU0 : Below w.heap.size w v0 := bT.trans ((hb1.trans ((hb2.trans (hb3.mono hb2.size)).mono hb1.size)).mono bT.size)
  have u0 := st3.u0
  have u1 := st3.u1
  have x0 := st3.v0
  have x1 := st3.v1
  have hl := st3.lt
  have hl3 : w.heap.size + 3 ≠ v0.heap.size := by omega
  have st4 := (st3.set (p1, p2)).keep ((Below.refl _ _).alloc (Nat.le_refl _) (.cells #[.float .f64 p1, .float .f64 p2] 26))
  clear hb1 hb2 hb3 hk1 hk2 hk3 st1 st2
  go_wp2_with fail
  refine (U1.out _).mono ?_
  rintro e vh0 ⟨rfl, hb4⟩
  have st5 := st4.keep hb4
  have bV0 : Below w.heap.size w vh0 := (((bU0.setCell (p := ⟨w.heap.size + 3, 0, none⟩) (Nat.le_add_right _ _) (.float .f64 p1)).setCell (p := ⟨w.heap.size + 3, 1, none⟩) (Nat.le_add_right _ _) (.float .f64 p2)).alloc (by first | exact bU0.size | (simp; exact bU0.size)) _).trans (hb4.mono (by first | (have := bU0.size; simp; omega) | skip))
  have bT0 := (bV0.setCell (p := ⟨w.heap.size + 3, 0, none⟩) (Nat.le_add_right _ _) (.float .f64 h11)).setCell (p := ⟨w.heap.size + 3, 1, none⟩) (Nat.le_add_right _ _) (.float .f64 h12)
  have st6 := st5.set (h11, h12)
  clear u0 u1 x0 x1 hl hl3 hb4
  have u0 := st5.u0
  have u1 := st5.u1
  have x0 := st5.v0
  have x1 := st5.v1
  go_wp2_with fail
  clear u0 u1 x0 x1 st3 st4 st5
  rw [rounds_succ]
  go_wp2_with fail
  refine (ivOf2_any _ _ _ _).mono ?_
  rintro e va ⟨rfl, hb1, hk1⟩
  have st1 := st6.keep hb1
  go_wp2_with fail
  refine (ivOf2_any _ _ _ _).mono ?_
  rintro e vb ⟨rfl, hb2, hk2⟩
  have st2 := st1.keep hb2
  have hk3 := hk1.keep hb2
  go_wp2_with fail
  refine (ends_eq _ _ K a1 b2 o _ EF.out hK (by first | exact hk3 | (simpa using hk3)) hk2 wa1 wb2 H).mono ?_
  rintro e v ⟨rfl, hb3⟩
  have st3 := st2.keep hb3
  have z0 := st3.z0
  have z1 := st3.z1
  have y0 := st3.y0
  have y1 := st3.y1
  have hl := st3.lt
  have hl2 : w.heap.size + 2 < v.heap.size := by omega
  have hl3 : w.heap.size + 2 ≠ v.heap.size := by omega
  have bE : Below w.heap.size w v := bT0.trans ((hb1.trans ((hb2.trans (hb3.mono hb2.size)).mono hb1.size)).mono bT0.size)
  clear hb1 hb2 hb3 hk1 hk2 hk3 st1 st2
  go_wp2_with fail
  refine bodyPost_ret (v := .tuple #[iv (0, 0), .int .i64 fe]) (by simp [results, Try.results55, go_sem, *]) rfl ⟨rfl, ?_⟩
  first | exact ((bE.setCell (p := ⟨w.heap.size + 2, 0, none⟩) (Nat.le_add_right _ _) _).setCell (p := ⟨w.heap.size + 2, 1, none⟩) (Nat.le_add_right _ _) _).alloc (by simp; omega) _ | exact ((bE.alloc (by omega) _).setCell (p := ⟨w.heap.size + 2, 0, none⟩) (Nat.le_add_right _ _) _).setCell (p := ⟨w.heap.size + 2, 1, none⟩) (Nat.le_add_right _ _) _

set_option maxRecDepth 100000 in
set_option maxHeartbeats 8000000 in
theorem all_e2 (K : Nat) (o : Nat → Nat → Bool → Nat × Int) (a1 a2 b1 b2 : Nat) (w : World) (wa1 : Dy.W a1) (wa2 : Dy.W a2) (wb1 : Dy.W b1) (wb2 : Dy.W b2) (hK : Five K) (H : Hid (OpC K o)) (p q : Nat × Nat) (f1 f2 : Nat) (fe : Int)
    (ep : Dy.iEnds (o a1 b1 false) (o a1 b1 true) = (p, 0)) (eq : Dy.iEnds (o a1 b2 false) (o a1 b2 true) = (q, 0)) (ef : Dy.iEnds (o a2 b1 false) (o a2 b1 true) = ((f1, f2), fe)) (hf : fe ≠ 0)
    (gp : Dy.WW p ∧ Dy.ivR p = true) (gq : Dy.WW q ∧ Dy.ivR q = true) :
    Calls Try.prog 55 #[.func (Fn.func K) #[] #[], iv (a1, a2), iv (b1, b2)] w fun e w' => e = .returned (.tuple #[iv (0, 0), .int .i64 fe]) ∧ Below w.heap.size w w' := by
  have EF := hid ef
  have hf1 : (fe != 0) = true := by simpa using hf
  clear ef hf
  have Ep := hid ep
  have Eq := hid eq
  have gh1 := Dy.good_hull gp.1 gp.1 gp.2 gp.2
  have U1 := hid (fun w => ivHull_any p p w gp.1 gp.1 gp.2 gp.2)
  have gh2 := Dy.good_hull gh1.1 gq.1 gh1.2 gq.2
  have U2 := hid (fun w => ivHull_any (Dy.iHull p p) q w gh1.1 gq.1 gh1.2 gq.2)
  clear ep gp eq gq gh1 gh2
  generalize Dy.iHull (Dy.iHull p p) q = h2 at *
  generalize Dy.iHull p p = h1 at *
  obtain ⟨p1, p2⟩ := p
  obtain ⟨q1, q2⟩ := q
  obtain ⟨h11, h12⟩ := h1
  obtain ⟨h21, h22⟩ := h2
  have i0 : ∀ w, (Instr.index 98 (.agg #[.float .f64 a1, .float .f64 a2]) (.int .i64 0)).run Try.prog w = .ok (.float .f64 a1) w := fun _ => by kernel_rfl
  have i1 : ∀ w, (Instr.index 98 (.agg #[.float .f64 a1, .float .f64 a2]) (.int .i64 1)).run Try.prog w = .ok (.float .f64 a2) w := fun _ => by kernel_rfl
  have j0 : ∀ w, (Instr.index 98 (.agg #[.float .f64 b1, .float .f64 b2]) (.int .i64 0)).run Try.prog w = .ok (.float .f64 b1) w := fun _ => by kernel_rfl
  have j1 : ∀ w, (Instr.index 98 (.agg #[.float .f64 b1, .float .f64 b2]) (.int .i64 1)).run Try.prog w = .ok (.float .f64 b2) w := fun _ => by kernel_rfl
  have st : A4 w.heap.size (b1, b2) (0, 0) ((((w.alloc (.cells #[.float .f64 a1, .float .f64 a2] 26)).alloc (.cells #[.float .f64 b1, .float .f64 b2] 26)).alloc (.cells #[.float .f64 0, .float .f64 0] 26)).alloc (.cells #[.float .f64 0, .float .f64 0] 26)) := ⟨by simp, by simp [go_sem], by simp [go_sem], by simp [go_sem], by simp [go_sem], by simp [go_sem], by simp [go_sem], by simp [go_sem], by simp [go_sem], by simp [go_sem], by simp [go_sem]⟩
  have bT : Below w.heap.size w ((((w.alloc (.cells #[.float .f64 a1, .float .f64 a2] 26)).alloc (.cells #[.float .f64 b1, .float .f64 b2] 26)).alloc (.cells #[.float .f64 0, .float .f64 0] 26)).alloc (.cells #[.float .f64 0, .float .f64 0] 26)) := (((Below.refl _ _).alloc (Nat.le_refl _) _).alloc (by simp) _).alloc (by simp; omega) _ |>.alloc (by simp; omega) _
  go_enter Try.func55, Try.ntmps55
  go_wp2_with fail
  refine wp_loop_rounds 3 ?_
  rw [rounds_succ]
  go_wp2_with fail
  refine wp_loop_rounds 3 ?_
  rw [rounds_succ]
  go_wp2_with fail
  refine (ivOf2_any _ _ _ _).mono ?_
  rintro e va0 ⟨rfl, hb1, hk1⟩
  have st1 := st.keep hb1
  go_wp2_with fail
  refine (ivOf2_any _ _ _ _).mono ?_
  rintro e vb0 ⟨rfl, hb2, hk2⟩
  have st2 := st1.keep hb2
  have hk3 := hk1.keep hb2
  go_wp2_with fail
  refine (ends_eq _ _ K a1 b1 o _ Ep.out hK (by first | exact hk3 | (simpa using hk3)) hk2 wa1 wb1 H).mono ?_
  rintro e v0 ⟨rfl, hb3⟩
  have st3 := st2.keep hb3
  have bU0 : Below w.heap.size w v0 := bT.trans ((hb1.trans ((hb2.trans (hb3.mono hb2.size)).mono hb1.size)).mono bT.size)
  have u0 := st3.u0
  have u1 := st3.u1
  have x0 := st3.v0
  have x1 := st3.v1
  have hl := st3.lt
  have hl3 : w.heap.size + 3 ≠ v0.heap.size := by omega
  have st4 := (st3.set (p1, p2)).keep ((Below.refl _ _).alloc (Nat.le_refl _) (.cells #[.float .f64 p1, .float .f64 p2] 26))
  clear hb1 hb2 hb3 hk1 hk2 hk3 st1 st2
  go_wp2_with fail
  refine (U1.out _).mono ?_
  rintro e vh0 ⟨rfl, hb4⟩
  have st5 := st4.keep hb4
  have bV0 : Below w.heap.size w vh0 := (((bU0.setCell (p := ⟨w.heap.size + 3, 0, none⟩) (Nat.le_add_right _ _) (.float .f64 p1)).setCell (p := ⟨w.heap.size + 3, 1, none⟩) (Nat.le_add_right _ _) (.float .f64 p2)).alloc (by first | exact bU0.size | (simp; exact bU0.size)) _).trans (hb4.mono (by first | (have := bU0.size; simp; omega) | skip))
  have bT0 := (bV0.setCell (p := ⟨w.heap.size + 3, 0, none⟩) (Nat.le_add_right _ _) (.float .f64 h11)).setCell (p := ⟨w.heap.size + 3, 1, none⟩) (Nat.le_add_right _ _) (.float .f64 h12)
  have st6 := st5.set (h11, h12)
  clear u0 u1 x0 x1 hl hl3 hb4
  have u0 := st5.u0
  have u1 := st5.u1
  have x0 := st5.v0
  have x1 := st5.v1
  go_wp2_with fail
  clear u0 u1 x0 x1 st3 st4 st5
  rw [rounds_succ]
  go_wp2_with fail
  refine (ivOf2_any _ _ _ _).mono ?_
  rintro e va1 ⟨rfl, hb1, hk1⟩
  have st1 := st6.keep hb1
  go_wp2_with fail
  refine (ivOf2_any _ _ _ _).mono ?_
  rintro e vb1 ⟨rfl, hb2, hk2⟩
  have st2 := st1.keep hb2
  have hk3 := hk1.keep hb2
  go_wp2_with fail
  refine (ends_eq _ _ K a1 b2 o _ Eq.out hK (by first | exact hk3 | (simpa using hk3)) hk2 wa1 wb2 H).mono ?_
  rintro e v1 ⟨rfl, hb3⟩
  have st3 := st2.keep hb3
  have bU1 : Below w.heap.size w v1 := bT0.trans ((hb1.trans ((hb2.trans (hb3.mono hb2.size)).mono hb1.size)).mono bT0.size)
  have u0 := st3.u0
  have u1 := st3.u1
  have x0 := st3.v0
  have x1 := st3.v1
  have hl := st3.lt
  have hl3 : w.heap.size + 3 ≠ v1.heap.size := by omega
  have st4 := st3.keep ((Below.refl _ _).alloc (Nat.le_refl _) (.cells #[.float .f64 q1, .float .f64 q2] 26))
  clear hb1 hb2 hb3 hk1 hk2 hk3 st1 st2
  go_wp2_with fail
  refine (U2.out _).mono ?_
  rintro e vh1 ⟨rfl, hb4⟩
  have st5 := st4.keep hb4
  have bV1 : Below w.heap.size w vh1 := ((bU1).alloc (by first | exact bU1.size | (simp; exact bU1.size)) _).trans (hb4.mono (by first | (have := bU1.size; simp; omega) | skip))
  have bT1 := (bV1.setCell (p := ⟨w.heap.size + 3, 0, none⟩) (Nat.le_add_right _ _) (.float .f64 h21)).setCell (p := ⟨w.heap.size + 3, 1, none⟩) (Nat.le_add_right _ _) (.float .f64 h22)
  have st6 := st5.set (h21, h22)
  clear u0 u1 x0 x1 hl hl3 hb4
  have u0 := st5.u0
  have u1 := st5.u1
  have x0 := st5.v0
  have x1 := st5.v1
  go_wp2_with fail
  clear u0 u1 x0 x1 st3 st4 st5
  rw [rounds_succ]
  have c0 := st6.b0
  have c1 := st6.b1
  go_wp2_with fail
  rw [rounds_succ]
  go_wp2_with fail
  clear c0 c1
  refine wp_loop_rounds 3 ?_
  rw [rounds_succ]
  go_wp2_with fail
  refine (ivOf2_any _ _ _ _).mono ?_
  rintro e va ⟨rfl, hb1, hk1⟩
  have st1 := st6.keep hb1
  go_wp2_with fail
  refine (ivOf2_any _ _ _ _).mono ?_
  rintro e vb ⟨rfl, hb2, hk2⟩
  have st2 := st1.keep hb2
  have hk3 := hk1.keep hb2
  go_wp2_with fail
  refine (ends_eq _ _ K a2 b1 o _ EF.out hK (by first | exact hk3 | (simpa using hk3)) hk2 wa2 wb1 H).mono ?_
  rintro e v ⟨rfl, hb3⟩
  have st3 := st2.keep hb3
  have z0 := st3.z0
  have z1 := st3.z1
  have y0 := st3.y0
  have y1 := st3.y1
  have hl := st3.lt
  have hl2 : w.heap.size + 2 < v.heap.size := by omega
  have hl3 : w.heap.size + 2 ≠ v.heap.size := by omega
  have bE : Below w.heap.size w v := bT1.trans ((hb1.trans ((hb2.trans (hb3.mono hb2.size)).mono hb1.size)).mono bT1.size)
  clear hb1 hb2 hb3 hk1 hk2 hk3 st1 st2
  go_wp2_with fail
  refine bodyPost_ret (v := .tuple #[iv (0, 0), .int .i64 fe]) (by simp [results, Try.results55, go_sem, *]) rfl ⟨rfl, ?_⟩
  first | exact ((bE.setCell (p := ⟨w.heap.size + 2, 0, none⟩) (Nat.le_add_right _ _) _).setCell (p := ⟨w.heap.size + 2, 1, none⟩) (Nat.le_add_right _ _) _).alloc (by simp; omega) _ | exact ((bE.alloc (by omega) _).setCell (p := ⟨w.heap.size + 2, 0, none⟩) (Nat.le_add_right _ _) _).setCell (p := ⟨w.heap.size + 2, 1, none⟩) (Nat.le_add_right _ _) _

set_option maxRecDepth 100000 in
set_option maxHeartbeats 8000000 in
theorem all_e3 (K : Nat) (o : Nat → Nat → Bool → Nat × Int) (a1 a2 b1 b2 : Nat) (w : World) (wa1 : Dy.W a1) (wa2 : Dy.W a2) (wb1 : Dy.W b1) (wb2 : Dy.W b2) (hK : Five K) (H : Hid (OpC K o)) (p q r : Nat × Nat) (f1 f2 : Nat) (fe : Int)
    (ep : Dy.iEnds (o a1 b1 false) (o a1 b1 true) = (p, 0)) (eq : Dy.iEnds (o a1 b2 false) (o a1 b2 true) = (q, 0)) (er : Dy.iEnds (o a2 b1 false) (o a2 b1 true) = (r, 0)) (ef : Dy.iEnds (o a2 b2 false) (o a2 b2 true) = ((f1, f2), fe)) (hf : fe ≠ 0)
    (gp : Dy.WW p ∧ Dy.ivR p = true) (gq : Dy.WW q ∧ Dy.ivR q = true) (gr : Dy.WW r ∧ Dy.ivR r = true) :
    Calls Try.prog 55 #[.func (Fn.func K) #[] #[], iv (a1, a2), iv (b1, b2)] w fun e w' => e = .returned (.tuple #[iv (0, 0), .int .i64 fe]) ∧ Below w.heap.size w w' := by
  have EF := hid ef
  have hf1 : (fe != 0) = true := by simpa using hf
  clear ef hf
  have Ep := hid ep
  have Eq := hid eq
  have Er := hid er
  have gh1 := Dy.good_hull gp.1 gp.1 gp.2 gp.2
  have U1 := hid (fun w => ivHull_any p p w gp.1 gp.1 gp.2 gp.2)
  have gh2 := Dy.good_hull gh1.1 gq.1 gh1.2 gq.2
  have U2 := hid (fun w => ivHull_any (Dy.iHull p p) q w gh1.1 gq.1 gh1.2 gq.2)
  have gh3 := Dy.good_hull gh2.1 gr.1 gh2.2 gr.2
  have U3 := hid (fun w => ivHull_any (Dy.iHull (Dy.iHull p p) q) r w gh2.1 gr.1 gh2.2 gr.2)
  clear ep gp eq gq er gr gh1 gh2 gh3
  generalize Dy.iHull (Dy.iHull (Dy.iHull p p) q) r = h3 at *
  generalize Dy.iHull (Dy.iHull p p) q = h2 at *
  generalize Dy.iHull p p = h1 at *
  obtain ⟨p1, p2⟩ := p
  obtain ⟨q1, q2⟩ := q
  obtain ⟨r1, r2⟩ := r
  obtain ⟨h11, h12⟩ := h1
  obtain ⟨h21, h22⟩ := h2
  obtain ⟨h31, h32⟩ := h3
  have i0 : ∀ w, (Instr.index 98 (.agg #[.float .f64 a1, .float .f64 a2]) (.int .i64 0)).run Try.prog w = .ok (.float .f64 a1) w := fun _ => by kernel_rfl
  have i1 : ∀ w, (Instr.index 98 (.agg #[.float .f64 a1, .float .f64 a2]) (.int .i64 1)).run Try.prog w = .ok (.float .f64 a2) w := fun _ => by kernel_rfl
  have j0 : ∀ w, (Instr.index 98 (.agg #[.float .f64 b1, .float .f64 b2]) (.int .i64 0)).run Try.prog w = .ok (.float .f64 b1) w := fun _ => by kernel_rfl
  have j1 : ∀ w, (Instr.index 98 (.agg #[.float .f64 b1, .float .f64 b2]) (.int .i64 1)).run Try.prog w = .ok (.float .f64 b2) w := fun _ => by kernel_rfl
  have st : A4 w.heap.size (b1, b2) (0, 0) ((((w.alloc (.cells #[.float .f64 a1, .float .f64 a2] 26)).alloc (.cells #[.float .f64 b1, .float .f64 b2] 26)).alloc (.cells #[.float .f64 0, .float .f64 0] 26)).alloc (.cells #[.float .f64 0, .float .f64 0] 26)) := ⟨by simp, by simp [go_sem], by simp [go_sem], by simp [go_sem], by simp [go_sem], by simp [go_sem], by simp [go_sem], by simp [go_sem], by simp [go_sem], by simp [go_sem], by simp [go_sem]⟩
  have bT : Below w.heap.size w ((((w.alloc (.cells #[.float .f64 a1, .float .f64 a2] 26)).alloc (.cells #[.float .f64 b1, .float .f64 b2] 26)).alloc (.cells #[.float .f64 0, .float .f64 0] 26)).alloc (.cells #[.float .f64 0, .float .f64 0] 26)) := (((Below.refl _ _).alloc (Nat.le_refl _) _).alloc (by simp) _).alloc (by simp; omega) _ |>.alloc (by simp; omega) _
  go_enter Try.func55, Try.ntmps55
  go_wp2_with fail
  refine wp_loop_rounds 3 ?_
  rw [rounds_succ]
  go_wp2_with fail
  refine wp_loop_rounds 3 ?_
  rw [rounds_succ]
  go_wp2_with fail
  refine (ivOf2_any _ _ _ _).mono ?_
  rintro e va0 ⟨rfl, hb1, hk1⟩
  have st1 := st.keep hb1
  go_wp2_with fail
  refine (ivOf2_any _ _ _ _).mono ?_
  rintro e vb0 ⟨rfl, hb2, hk2⟩
  have st2 := st1.keep hb2
  have hk3 := hk1.keep hb2
  go_wp2_with fail
  refine (ends_eq _ _ K a1 b1 o _ Ep.out hK (by first | exact hk3 | (simpa using hk3)) hk2 wa1 wb1 H).mono ?_
  rintro e v0 ⟨rfl, hb3⟩
  have st3 := st2.keep hb3
  have bU0 : Below w.heap.size w v0 := bT.trans ((hb1.trans ((hb2.trans (hb3.mono hb2.size)).mono hb1.size)).mono bT.size)
  have u0 := st3.u0
  have u1 := st3.u1
  have x0 := st3.v0
  have x1 := st3.v1
  have hl := st3.lt
  have hl3 : w.heap.size + 3 ≠ v0.heap.size := by omega
  have st4 := (st3.set (p1, p2)).keep ((Below.refl _ _).alloc (Nat.le_refl _) (.cells #[.float .f64 p1, .float .f64 p2] 26))
  clear hb1 hb2 hb3 hk1 hk2 hk3 st1 st2
  go_wp2_with fail
  refine (U1.out _).mono ?_
  rintro e vh0 ⟨rfl, hb4⟩
  have st5 := st4.keep hb4
  have bV0 : Below w.heap.size w vh0 := (((bU0.setCell (p := ⟨w.heap.size + 3, 0, none⟩) (Nat.le_add_right _ _) (.float .f64 p1)).setCell (p := ⟨w.heap.size + 3, 1, none⟩) (Nat.le_add_right _ _) (.float .f64 p2)).alloc (by first | exact bU0.size | (simp; exact bU0.size)) _).trans (hb4.mono (by first | (have := bU0.size; simp; omega) | skip))
  have bT0 := (bV0.setCell (p := ⟨w.heap.size + 3, 0, none⟩) (Nat.le_add_right _ _) (.float .f64 h11)).setCell (p := ⟨w.heap.size + 3, 1, none⟩) (Nat.le_add_right _ _) (.float .f64 h12)
  have st6 := st5.set (h11, h12)
  clear u0 u1 x0 x1 hl hl3 hb4
  have u0 := st5.u0
  have u1 := st5.u1
  have x0 := st5.v0
  have x1 := st5.v1
  go_wp2_with fail
  clear u0 u1 x0 x1 st3 st4 st5
  rw [rounds_succ]
  go_wp2_with fail
  refine (ivOf2_any _ _ _ _).mono ?_
  rintro e va1 ⟨rfl, hb1, hk1⟩
  have st1 := st6.keep hb1
  go_wp2_with fail
  refine (ivOf2_any _ _ _ _).mono ?_
  rintro e vb1 ⟨rfl, hb2, hk2⟩
  have st2 := st1.keep hb2
  have hk3 := hk1.keep hb2
  go_wp2_with fail
  refine (ends_eq _ _ K a1 b2 o _ Eq.out hK (by first | exact hk3 | (simpa using hk3)) hk2 wa1 wb2 H).mono ?_
  rintro e v1 ⟨rfl, hb3⟩
  have st3 := st2.keep hb3
  have bU1 : Below w.heap.size w v1 := bT0.trans ((hb1.trans ((hb2.trans (hb3.mono hb2.size)).mono hb1.size)).mono bT0.size)
  have u0 := st3.u0
  have u1 := st3.u1
  have x0 := st3.v0
  have x1 := st3.v1
  have hl := st3.lt
  have hl3 : w.heap.size + 3 ≠ v1.heap.size := by omega
  have st4 := st3.keep ((Below.refl _ _).alloc (Nat.le_refl _) (.cells #[.float .f64 q1, .float .f64 q2] 26))
  clear hb1 hb2 hb3 hk1 hk2 hk3 st1 st2
  go_wp2_with fail
  refine (U2.out _).mono ?_
  rintro e vh1 ⟨rfl, hb4⟩
  have st5 := st4.keep hb4
  have bV1 : Below w.heap.size w vh1 := ((bU1).alloc (by first | exact bU1.size | (simp; exact bU1.size)) _).trans (hb4.mono (by first | (have := bU1.size; simp; omega) | skip))
  have bT1 := (bV1.setCell (p := ⟨w.heap.size + 3, 0, none⟩) (Nat.le_add_right _ _) (.float .f64 h21)).setCell (p := ⟨w.heap.size + 3, 1, none⟩) (Nat.le_add_right _ _) (.float .f64 h22)
  have st6 := st5.set (h21, h22)
  clear u0 u1 x0 x1 hl hl3 hb4
  have u0 := st5.u0
  have u1 := st5.u1
  have x0 := st5.v0
  have x1 := st5.v1
  go_wp2_with fail
  clear u0 u1 x0 x1 st3 st4 st5
  rw [rounds_succ]
  have c0 := st6.b0
  have c1 := st6.b1
  go_wp2_with fail
  rw [rounds_succ]
  go_wp2_with fail
  clear c0 c1
  refine wp_loop_rounds 3 ?_
  rw [rounds_succ]
  go_wp2_with fail
  refine (ivOf2_any _ _ _ _).mono ?_
  rintro e va2 ⟨rfl, hb1, hk1⟩
  have st1 := st6.keep hb1
  go_wp2_with fail
  refine (ivOf2_any _ _ _ _).mono ?_
  rintro e vb2 ⟨rfl, hb2, hk2⟩
  have st2 := st1.keep hb2
  have hk3 := hk1.keep hb2
  go_wp2_with fail
  refine (ends_eq _ _ K a2 b1 o _ Er.out hK (by first | exact hk3 | (simpa using hk3)) hk2 wa2 wb1 H).mono ?_
  rintro e v2 ⟨rfl, hb3⟩
  have st3 := st2.keep hb3
  have bU2 : Below w.heap.size w v2 := bT1.trans ((hb1.trans ((hb2.trans (hb3.mono hb2.size)).mono hb1.size)).mono bT1.size)
  have u0 := st3.u0
  have u1 := st3.u1
  have x0 := st3.v0
  have x1 := st3.v1
  have hl := st3.lt
  have hl3 : w.heap.size + 3 ≠ v2.heap.size := by omega
  have st4 := st3.keep ((Below.refl _ _).alloc (Nat.le_refl _) (.cells #[.float .f64 r1, .float .f64 r2] 26))
  clear hb1 hb2 hb3 hk1 hk2 hk3 st1 st2
  go_wp2_with fail
  refine (U3.out _).mono ?_
  rintro e vh2 ⟨rfl, hb4⟩
  have st5 := st4.keep hb4
  have bV2 : Below w.heap.size w vh2 := ((bU2).alloc (by first | exact bU2.size | (simp; exact bU2.size)) _).trans (hb4.mono (by first | (have := bU2.size; simp; omega) | skip))
  have bT2 := (bV2.setCell (p := ⟨w.heap.size + 3, 0, none⟩) (Nat.le_add_right _ _) (.float .f64 h31)).setCell (p := ⟨w.heap.size + 3, 1, none⟩) (Nat.le_add_right _ _) (.float .f64 h32)
  have st6 := st5.set (h31, h32)
  clear u0 u1 x0 x1 hl hl3 hb4
  have u0 := st5.u0
  have u1 := st5.u1
  have x0 := st5.v0
  have x1 := st5.v1
  go_wp2_with fail
  clear u0 u1 x0 x1 st3 st4 st5
  rw [rounds_succ]
  go_wp2_with fail
  refine (ivOf2_any _ _ _ _).mono ?_
  rintro e va ⟨rfl, hb1, hk1⟩
  have st1 := st6.keep hb1
  go_wp2_with fail
  refine (ivOf2_any _ _ _ _).mono ?_
  rintro e vb ⟨rfl, hb2, hk2⟩
  have st2 := st1.keep hb2
  have hk3 := hk1.keep hb2
  go_wp2_with fail
  refine (ends_eq _ _ K a2 b2 o _ EF.out hK (by first | exact hk3 | (simpa using hk3)) hk2 wa2 wb2 H).mono ?_
  rintro e v ⟨rfl, hb3⟩
  have st3 := st2.keep hb3
  have z0 := st3.z0
  have z1 := st3.z1
  have y0 := st3.y0
  have y1 := st3.y1
  have hl := st3.lt
  have hl2 : w.heap.size + 2 < v.heap.size := by omega
  have hl3 : w.heap.size + 2 ≠ v.heap.size := by omega
  have bE : Below w.heap.size w v := bT2.trans ((hb1.trans ((hb2.trans (hb3.mono hb2.size)).mono hb1.size)).mono bT2.size)
  clear hb1 hb2 hb3 hk1 hk2 hk3 st1 st2
  go_wp2_with fail
  refine bodyPost_ret (v := .tuple #[iv (0, 0), .int .i64 fe]) (by simp [results, Try.results55, go_sem, *]) rfl ⟨rfl, ?_⟩
  first | exact ((bE.setCell (p := ⟨w.heap.size + 2, 0, none⟩) (Nat.le_add_right _ _) _).setCell (p := ⟨w.heap.size + 2, 1, none⟩) (Nat.le_add_right _ _) _).alloc (by simp; omega) _ | exact ((bE.alloc (by omega) _).setCell (p := ⟨w.heap.size + 2, 0, none⟩) (Nat.le_add_right _ _) _).setCell (p := ⟨w.heap.size + 2, 1, none⟩) (Nat.le_add_right _ _) _

end Go.Proofs.Ythfgdhobldejmaa
