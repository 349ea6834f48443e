/- Walks: package ival: Pi, turned, bare; what is known. Walks: package ival: two.all: of all ends of two intervals. Walks: package ival: two.all: where there is no error. Walks: package ival: two.all: where a pair of ends has an error. Walks: package ival: two.all, of any two intervals whose ends' results are right. Walks: package ival: a calculator's Mul. Walks: package ival: a calculator's Div. -/
import Derived.Test.YtinhbebjlbnejaaDoorN1
import Derived.Test.YtinhbebjlbnejaaDoorDc
import Derived.LoopN
import Derived.Outline
/-! Walks: package ival: Pi, turned, bare; what is known. -/
namespace Go.Proofs.YtinhbebjlbnejaaDoor
open Go.RowKit

theorem piUp : Dy.dNext 4614256656552045848 true = (4614256656552045849, 0) := by decide +kernel
/-- The interval of pi. -/
def piIv : Nat × Nat := (4614256656552045848, 4614256656552045849)

end Go.Proofs.YtinhbebjlbnejaaDoor
/-! Walks: package ival: two.all: of all ends of two intervals. -/
namespace Go.Proofs.YtinhbebjlbnejaaDoor
open Go.RowKit

theorem ends_eq {r : (Nat × Nat) × Int} (B C K x y : Nat) (o : Nat → Nat → Bool → Nat × Int) (w : World) (hr : Dy.iEnds (o x y false) (o x y true) = r) (hK : Five K) (h : Clo B K x y w) (h' : Clo C K x y w) (hx : Dy.W x) (hy : Dy.W y) (H : Hid (OpC K o)) :
    Calls Tryd.prog 62 #[clo B, clo C] w fun e w' => e = .returned (.tuple #[iv r.1, .int .i64 r.2]) ∧ Below w.heap.size w w' := by
  subst hr; exact ends_any B C K x y x y o w hK h h' hx hy hx hy H

/-- The state of 'all': the second interval, the result's variable, and what there is so far. -/
structure A4 (S : Nat) (b u : Nat × Nat) (w : World) : Prop where
  lt : S + 3 < w.heap.size
  b0 : w.cell? ⟨S + 1, 0, none⟩ = some (.float .f64 b.1)
  b1 : w.cell? ⟨S + 1, 1, none⟩ = some (.float .f64 b.2)
  z0 : w.cell? ⟨S + 2, 0, none⟩ = some (.float .f64 0)
  z1 : w.cell? ⟨S + 2, 1, none⟩ = some (.float .f64 0)
  y0 : w.frozen? ⟨S + 2, 0, none⟩ = false
  y1 : w.frozen? ⟨S + 2, 1, none⟩ = false
  u0 : w.cell? ⟨S + 3, 0, none⟩ = some (.float .f64 u.1)
  u1 : w.cell? ⟨S + 3, 1, none⟩ = some (.float .f64 u.2)
  v0 : w.frozen? ⟨S + 3, 0, none⟩ = false
  v1 : w.frozen? ⟨S + 3, 1, none⟩ = false
theorem A4.keep {S : Nat} {b u : Nat × Nat} {w w' : World} (h : A4 S b u w) (hb : Below w.heap.size w w') : A4 S b u w' := by
  have hl := h.lt
  exact ⟨Nat.lt_of_lt_of_le hl hb.size, carry hb (by omega) h.b0, carry hb (by omega) h.b1, carry hb (by omega) h.z0, carry hb (by omega) h.z1,
    (hb.frozen (p := ⟨S + 2, 0, none⟩) (show S + 2 < w.heap.size by omega)).trans h.y0, (hb.frozen (p := ⟨S + 2, 1, none⟩) (show S + 2 < w.heap.size by omega)).trans h.y1, carry hb (by omega) h.u0, carry hb (by omega) h.u1,
    (hb.frozen (p := ⟨S + 3, 0, none⟩) (show S + 3 < w.heap.size by omega)).trans h.v0, (hb.frozen (p := ⟨S + 3, 1, none⟩) (show S + 3 < w.heap.size by omega)).trans h.v1⟩

set_option maxRecDepth 100000 in
set_option maxHeartbeats 4000000 in
theorem all_p (K : Nat) (o : Nat → Nat → Bool → Nat × Int) (a b : Nat × Nat) (w : World) (ha : Dy.WW a) (hb : Dy.WW b) (hK : Five K) (H : Hid (OpC K o)) (p : (Nat × Nat) × Int) (ep : Dy.iEnds (o a.1 b.1 false) (o a.1 b.1 true) = p) (hp : p.2 ≠ 0) :
    Calls Tryd.prog 64 #[.func (Fn.func K) #[] #[], iv a, iv b] w fun e w' => e = .returned (.tuple #[iv (0, 0), .int .i64 p.2]) ∧ Below w.heap.size w w' := by
  have EP := hid ep
  clear ep
  obtain ⟨⟨p1, p2⟩, pe⟩ := p
  have h1 : (pe != 0) = true := by simpa using hp
  clear hp
  obtain ⟨a1, a2⟩ := a
  obtain ⟨b1, b2⟩ := b
  obtain ⟨wa1, wa2⟩ := ha
  obtain ⟨wb1, wb2⟩ := hb
  dsimp only at *
  have i0 : ∀ w, (Instr.index 131 (.agg #[.float .f64 a1, .float .f64 a2]) (.int .i64 0)).run Tryd.prog w = .ok (.float .f64 a1) w := fun _ => by kernel_rfl
  have j0 : ∀ w, (Instr.index 131 (.agg #[.float .f64 b1, .float .f64 b2]) (.int .i64 0)).run Tryd.prog w = .ok (.float .f64 b1) w := fun _ => by kernel_rfl
  have st : A4 w.heap.size (b1, b2) (0, 0) ((((w.alloc (.cells #[.float .f64 a1, .float .f64 a2] 38)).alloc (.cells #[.float .f64 b1, .float .f64 b2] 38)).alloc (.cells #[.float .f64 0, .float .f64 0] 38)).alloc (.cells #[.float .f64 0, .float .f64 0] 38)) := ⟨by simp <;> omega, by simp [go_sem], by simp [go_sem], by simp [go_sem], by simp [go_sem], by simp [go_sem], by simp [go_sem], by simp [go_sem], by simp [go_sem], by simp [go_sem], by simp [go_sem]⟩
  have bW : Below w.heap.size w ((((w.alloc (.cells #[.float .f64 a1, .float .f64 a2] 38)).alloc (.cells #[.float .f64 b1, .float .f64 b2] 38)).alloc (.cells #[.float .f64 0, .float .f64 0] 38)).alloc (.cells #[.float .f64 0, .float .f64 0] 38)) := (((Below.refl _ _).alloc (Nat.le_refl _) _).alloc (by simp) _).alloc (by simp; omega) _ |>.alloc (by simp; omega) _
  go_enter Tryd.func64, Tryd.ntmps64
  go_wp2_with fail
  refine wp_loop_rounds 3 ?_
  rw [rounds_succ]
  go_wp2_with fail
  refine wp_loop_rounds 3 ?_
  rw [rounds_succ]
  go_wp2_with fail
  refine (ivOf2_any _ _ _ _).mono ?_
  rintro e v1 ⟨rfl, hb1, hk1⟩
  have st1 := st.keep hb1
  go_wp2_with fail
  refine (ivOf2_any _ _ _ _).mono ?_
  rintro e v2 ⟨rfl, hb2, hk2⟩
  have st2 := st1.keep hb2
  have hk3 := hk1.keep hb2
  go_wp2_with fail
  refine (ends_eq _ _ K a1 b1 o _ EP.out hK (by first | exact hk3 | (simpa using hk3)) hk2 wa1 wb1 H).mono ?_
  rintro e v3 ⟨rfl, hb3⟩
  have st3 := st2.keep hb3
  have z0 := st3.z0
  have z1 := st3.z1
  have y0 := st3.y0
  have y1 := st3.y1
  have hl := st3.lt
  have hl2 : w.heap.size + 2 < v3.heap.size := by omega
  have hl3 : w.heap.size + 2 ≠ v3.heap.size := by omega
  have bT : Below w.heap.size w v3 := bW.trans ((hb1.trans ((hb2.trans (hb3.mono hb2.size)).mono hb1.size)).mono (by simp; omega))
  go_wp2_with fail
  refine bodyPost_ret (v := .tuple #[iv (0, 0), .int .i64 pe]) (by simp [results, Tryd.results64, go_sem, *]) rfl ⟨rfl, ?_⟩
  first | exact ((bT.setCell (p := ⟨w.heap.size + 2, 0, none⟩) (Nat.le_add_right _ _) _).setCell (p := ⟨w.heap.size + 2, 1, none⟩) (Nat.le_add_right _ _) _).alloc (by simp; omega) _ | exact ((bT.alloc (by omega) _).setCell (p := ⟨w.heap.size + 2, 0, none⟩) (Nat.le_add_right _ _) _).setCell (p := ⟨w.heap.size + 2, 1, none⟩) (Nat.le_add_right _ _) _
end Go.Proofs.YtinhbebjlbnejaaDoor
/-! Walks: package ival: two.all: where there is no error. -/
namespace Go.Proofs.YtinhbebjlbnejaaDoor
open Go.RowKit

theorem A4.set {S : Nat} {b u : Nat × Nat} {w : World} (h : A4 S b u w) (v : Nat × Nat) : A4 S b v ((w.setCell ⟨S + 3, 0, none⟩ (.float .f64 v.1)).setCell ⟨S + 3, 1, none⟩ (.float .f64 v.2)) := by
  obtain ⟨h0, h1, h2, h3, h4, h5, h6, h7, h8, h9, h10⟩ := h
  constructor
  all_goals simp [go_sem, *]

set_option maxRecDepth 100000 in
set_option maxHeartbeats 8000000 in
theorem all_ok (K : Nat) (o : Nat → Nat → Bool → Nat × Int) (a1 a2 b1 b2 : Nat) (w : World) (wa1 : Dy.W a1) (wa2 : Dy.W a2) (wb1 : Dy.W b1) (wb2 : Dy.W b2) (hK : Five K) (H : Hid (OpC K o)) (p q r s : Nat × Nat)
    (ep : Dy.iEnds (o a1 b1 false) (o a1 b1 true) = (p, 0)) (eq : Dy.iEnds (o a1 b2 false) (o a1 b2 true) = (q, 0)) (er : Dy.iEnds (o a2 b1 false) (o a2 b1 true) = (r, 0)) (es : Dy.iEnds (o a2 b2 false) (o a2 b2 true) = (s, 0))
    (gp : Dy.WW p ∧ Dy.ivR p = true) (gq : Dy.WW q ∧ Dy.ivR q = true) (gr : Dy.WW r ∧ Dy.ivR r = true) (gs : Dy.WW s ∧ Dy.ivR s = true) :
    Calls Tryd.prog 64 #[.func (Fn.func K) #[] #[], iv (a1, a2), iv (b1, b2)] w fun e w' => e = .returned (.tuple #[iv (Dy.iHull (Dy.iHull (Dy.iHull (Dy.iHull p p) q) r) s), .int .i64 0]) ∧ Below w.heap.size w w' := by
  have Ep := hid ep
  have Eq := hid eq
  have Er := hid er
  have Es := hid es
  have gpp := Dy.good_hull gp.1 gp.1 gp.2 gp.2
  have gpq := Dy.good_hull gpp.1 gq.1 gpp.2 gq.2
  have gpr := Dy.good_hull gpq.1 gr.1 gpq.2 gr.2
  have U1 := hid (fun w => ivHull_any p p w gp.1 gp.1 gp.2 gp.2)
  have U2 := hid (fun w => ivHull_any (Dy.iHull p p) q w gpp.1 gq.1 gpp.2 gq.2)
  have U3 := hid (fun w => ivHull_any (Dy.iHull (Dy.iHull p p) q) r w gpq.1 gr.1 gpq.2 gr.2)
  have U4 := hid (fun w => ivHull_any (Dy.iHull (Dy.iHull (Dy.iHull p p) q) r) s w gpr.1 gs.1 gpr.2 gs.2)
  clear ep eq er es gp gq gr gs gpp gpq gpr
  generalize Dy.iHull (Dy.iHull (Dy.iHull (Dy.iHull p p) q) r) s = h4 at *
  generalize Dy.iHull (Dy.iHull (Dy.iHull p p) q) r = h3 at *
  generalize Dy.iHull (Dy.iHull p p) q = h2 at *
  generalize Dy.iHull p p = h1 at *
  obtain ⟨p1, p2⟩ := p
  obtain ⟨q1, q2⟩ := q
  obtain ⟨r1, r2⟩ := r
  obtain ⟨s1, s2⟩ := s
  obtain ⟨h11, h12⟩ := h1
  obtain ⟨h21, h22⟩ := h2
  obtain ⟨h31, h32⟩ := h3
  obtain ⟨h41, h42⟩ := h4
  have i0 : ∀ w, (Instr.index 131 (.agg #[.float .f64 a1, .float .f64 a2]) (.int .i64 0)).run Tryd.prog w = .ok (.float .f64 a1) w := fun _ => by kernel_rfl
  have i1 : ∀ w, (Instr.index 131 (.agg #[.float .f64 a1, .float .f64 a2]) (.int .i64 1)).run Tryd.prog w = .ok (.float .f64 a2) w := fun _ => by kernel_rfl
  have j0 : ∀ w, (Instr.index 131 (.agg #[.float .f64 b1, .float .f64 b2]) (.int .i64 0)).run Tryd.prog w = .ok (.float .f64 b1) w := fun _ => by kernel_rfl
  have j1 : ∀ w, (Instr.index 131 (.agg #[.float .f64 b1, .float .f64 b2]) (.int .i64 1)).run Tryd.prog w = .ok (.float .f64 b2) w := fun _ => by kernel_rfl
  have st : A4 w.heap.size (b1, b2) (0, 0) ((((w.alloc (.cells #[.float .f64 a1, .float .f64 a2] 38)).alloc (.cells #[.float .f64 b1, .float .f64 b2] 38)).alloc (.cells #[.float .f64 0, .float .f64 0] 38)).alloc (.cells #[.float .f64 0, .float .f64 0] 38)) := ⟨by simp, by simp [go_sem], by simp [go_sem], by simp [go_sem], by simp [go_sem], by simp [go_sem], by simp [go_sem], by simp [go_sem], by simp [go_sem], by simp [go_sem], by simp [go_sem]⟩
  have bT : Below w.heap.size w ((((w.alloc (.cells #[.float .f64 a1, .float .f64 a2] 38)).alloc (.cells #[.float .f64 b1, .float .f64 b2] 38)).alloc (.cells #[.float .f64 0, .float .f64 0] 38)).alloc (.cells #[.float .f64 0, .float .f64 0] 38)) := (((Below.refl _ _).alloc (Nat.le_refl _) _).alloc (by simp) _).alloc (by simp; omega) _ |>.alloc (by simp; omega) _
  go_enter Tryd.func64, Tryd.ntmps64
  go_wp2_with fail
  refine wp_loop_rounds 3 ?_
  rw [rounds_succ]
  go_wp2_with fail
  refine wp_loop_rounds 3 ?_
  rw [rounds_succ]
  go_wp2_with fail
  refine (ivOf2_any _ _ _ _).mono ?_
  rintro e va0 ⟨rfl, hb1, hk1⟩
  have st1 := st.keep hb1
  go_wp2_with fail
  refine (ivOf2_any _ _ _ _).mono ?_
  rintro e vb0 ⟨rfl, hb2, hk2⟩
  have st2 := st1.keep hb2
  have hk3 := hk1.keep hb2
  go_wp2_with fail
  refine (ends_eq _ _ K a1 b1 o _ Ep.out hK (by first | exact hk3 | (simpa using hk3)) hk2 wa1 wb1 H).mono ?_
  rintro e v0 ⟨rfl, hb3⟩
  have st3 := st2.keep hb3
  have bU0 : Below w.heap.size w v0 := bT.trans ((hb1.trans ((hb2.trans (hb3.mono hb2.size)).mono hb1.size)).mono bT.size)
  have u0 := st3.u0
  have u1 := st3.u1
  have x0 := st3.v0
  have x1 := st3.v1
  have hl := st3.lt
  have hl3 : w.heap.size + 3 ≠ v0.heap.size := by omega
  have st4 := (st3.set (p1, p2)).keep ((Below.refl _ _).alloc (Nat.le_refl _) (.cells #[.float .f64 p1, .float .f64 p2] 38))
  clear hb1 hb2 hb3 hk1 hk2 hk3 st1 st2
  go_wp2_with fail
  refine (U1.out _).mono ?_
  rintro e vh0 ⟨rfl, hb4⟩
  have st5 := st4.keep hb4
  have bV0 : Below w.heap.size w vh0 := (((bU0.setCell (p := ⟨w.heap.size + 3, 0, none⟩) (Nat.le_add_right _ _) (.float .f64 p1)).setCell (p := ⟨w.heap.size + 3, 1, none⟩) (Nat.le_add_right _ _) (.float .f64 p2)).alloc (by first | exact bU0.size | (simp; exact bU0.size)) _).trans (hb4.mono (by first | (have := bU0.size; simp; omega) | skip))
  have bT0 := (bV0.setCell (p := ⟨w.heap.size + 3, 0, none⟩) (Nat.le_add_right _ _) (.float .f64 h11)).setCell (p := ⟨w.heap.size + 3, 1, none⟩) (Nat.le_add_right _ _) (.float .f64 h12)
  have st6 := st5.set (h11, h12)
  clear u0 u1 x0 x1 hl hl3 hb4
  have u0 := st5.u0
  have u1 := st5.u1
  have x0 := st5.v0
  have x1 := st5.v1
  go_wp2_with fail
  clear u0 u1 x0 x1 st3 st4 st5
  rw [rounds_succ]
  go_wp2_with fail
  refine (ivOf2_any _ _ _ _).mono ?_
  rintro e va1 ⟨rfl, hb1, hk1⟩
  have st1 := st6.keep hb1
  go_wp2_with fail
  refine (ivOf2_any _ _ _ _).mono ?_
  rintro e vb1 ⟨rfl, hb2, hk2⟩
  have st2 := st1.keep hb2
  have hk3 := hk1.keep hb2
  go_wp2_with fail
  refine (ends_eq _ _ K a1 b2 o _ Eq.out hK (by first | exact hk3 | (simpa using hk3)) hk2 wa1 wb2 H).mono ?_
  rintro e v1 ⟨rfl, hb3⟩
  have st3 := st2.keep hb3
  have bU1 : Below w.heap.size w v1 := bT0.trans ((hb1.trans ((hb2.trans (hb3.mono hb2.size)).mono hb1.size)).mono bT0.size)
  have u0 := st3.u0
  have u1 := st3.u1
  have x0 := st3.v0
  have x1 := st3.v1
  have hl := st3.lt
  have hl3 : w.heap.size + 3 ≠ v1.heap.size := by omega
  have st4 := st3.keep ((Below.refl _ _).alloc (Nat.le_refl _) (.cells #[.float .f64 q1, .float .f64 q2] 38))
  clear hb1 hb2 hb3 hk1 hk2 hk3 st1 st2
  go_wp2_with fail
  refine (U2.out _).mono ?_
  rintro e vh1 ⟨rfl, hb4⟩
  have st5 := st4.keep hb4
  have bV1 : Below w.heap.size w vh1 := ((bU1).alloc (by first | exact bU1.size | (simp; exact bU1.size)) _).trans (hb4.mono (by first | (have := bU1.size; simp; omega) | skip))
  have bT1 := (bV1.setCell (p := ⟨w.heap.size + 3, 0, none⟩) (Nat.le_add_right _ _) (.float .f64 h21)).setCell (p := ⟨w.heap.size + 3, 1, none⟩) (Nat.le_add_right _ _) (.float .f64 h22)
  have st6 := st5.set (h21, h22)
  clear u0 u1 x0 x1 hl hl3 hb4
  have u0 := st5.u0
  have u1 := st5.u1
  have x0 := st5.v0
  have x1 := st5.v1
  go_wp2_with fail
  clear u0 u1 x0 x1 st3 st4 st5
  rw [rounds_succ]
  have c0 := st6.b0
  have c1 := st6.b1
  go_wp2_with fail
  rw [rounds_succ]
  go_wp2_with fail
  clear c0 c1
  refine wp_loop_rounds 3 ?_
  rw [rounds_succ]
  go_wp2_with fail
  refine (ivOf2_any _ _ _ _).mono ?_
  rintro e va2 ⟨rfl, hb1, hk1⟩
  have st1 := st6.keep hb1
  go_wp2_with fail
  refine (ivOf2_any _ _ _ _).mono ?_
  rintro e vb2 ⟨rfl, hb2, hk2⟩
  have st2 := st1.keep hb2
  have hk3 := hk1.keep hb2
  go_wp2_with fail
  refine (ends_eq _ _ K a2 b1 o _ Er.out hK (by first | exact hk3 | (simpa using hk3)) hk2 wa2 wb1 H).mono ?_
  rintro e v2 ⟨rfl, hb3⟩
  have st3 := st2.keep hb3
  have bU2 : Below w.heap.size w v2 := bT1.trans ((hb1.trans ((hb2.trans (hb3.mono hb2.size)).mono hb1.size)).mono bT1.size)
  have u0 := st3.u0
  have u1 := st3.u1
  have x0 := st3.v0
  have x1 := st3.v1
  have hl := st3.lt
  have hl3 : w.heap.size + 3 ≠ v2.heap.size := by omega
  have st4 := st3.keep ((Below.refl _ _).alloc (Nat.le_refl _) (.cells #[.float .f64 r1, .float .f64 r2] 38))
  clear hb1 hb2 hb3 hk1 hk2 hk3 st1 st2
  go_wp2_with fail
  refine (U3.out _).mono ?_
  rintro e vh2 ⟨rfl, hb4⟩
  have st5 := st4.keep hb4
  have bV2 : Below w.heap.size w vh2 := ((bU2).alloc (by first | exact bU2.size | (simp; exact bU2.size)) _).trans (hb4.mono (by first | (have := bU2.size; simp; omega) | skip))
  have bT2 := (bV2.setCell (p := ⟨w.heap.size + 3, 0, none⟩) (Nat.le_add_right _ _) (.float .f64 h31)).setCell (p := ⟨w.heap.size + 3, 1, none⟩) (Nat.le_add_right _ _) (.float .f64 h32)
  have st6 := st5.set (h31, h32)
  clear u0 u1 x0 x1 hl hl3 hb4
  have u0 := st5.u0
  have u1 := st5.u1
  have x0 := st5.v0
  have x1 := st5.v1
  go_wp2_with fail
  clear u0 u1 x0 x1 st3 st4 st5
  rw [rounds_succ]
  go_wp2_with fail
  refine (ivOf2_any _ _ _ _).mono ?_
  rintro e va3 ⟨rfl, hb1, hk1⟩
  have st1 := st6.keep hb1
  go_wp2_with fail
  refine (ivOf2_any _ _ _ _).mono ?_
  rintro e vb3 ⟨rfl, hb2, hk2⟩
  have st2 := st1.keep hb2
  have hk3 := hk1.keep hb2
  go_wp2_with fail
  refine (ends_eq _ _ K a2 b2 o _ Es.out hK (by first | exact hk3 | (simpa using hk3)) hk2 wa2 wb2 H).mono ?_
  rintro e v3 ⟨rfl, hb3⟩
  have st3 := st2.keep hb3
  have bU3 : Below w.heap.size w v3 := bT2.trans ((hb1.trans ((hb2.trans (hb3.mono hb2.size)).mono hb1.size)).mono bT2.size)
  have u0 := st3.u0
  have u1 := st3.u1
  have x0 := st3.v0
  have x1 := st3.v1
  have hl := st3.lt
  have hl3 : w.heap.size + 3 ≠ v3.heap.size := by omega
  have st4 := st3.keep ((Below.refl _ _).alloc (Nat.le_refl _) (.cells #[.float .f64 s1, .float .f64 s2] 38))
  clear hb1 hb2 hb3 hk1 hk2 hk3 st1 st2
  go_wp2_with fail
  refine (U4.out _).mono ?_
  rintro e vh3 ⟨rfl, hb4⟩
  have st5 := st4.keep hb4
  have bV3 : Below w.heap.size w vh3 := ((bU3).alloc (by first | exact bU3.size | (simp; exact bU3.size)) _).trans (hb4.mono (by first | (have := bU3.size; simp; omega) | skip))
  have bT3 := (bV3.setCell (p := ⟨w.heap.size + 3, 0, none⟩) (Nat.le_add_right _ _) (.float .f64 h41)).setCell (p := ⟨w.heap.size + 3, 1, none⟩) (Nat.le_add_right _ _) (.float .f64 h42)
  have st6 := st5.set (h41, h42)
  clear u0 u1 x0 x1 hl hl3 hb4
  have u0 := st5.u0
  have u1 := st5.u1
  have x0 := st5.v0
  have x1 := st5.v1
  go_wp2_with fail
  clear u0 u1 x0 x1 st3 st4 st5
  rw [rounds_succ]
  go_wp2_with fail
  rw [rounds_succ]
  have z0 := st6.z0
  have z1 := st6.z1
  have y0 := st6.y0
  have y1 := st6.y1
  have u0 := st6.u0
  have u1 := st6.u1
  go_wp2_with fail
  refine bodyPost_ret (v := .tuple #[iv (h41, h42), .int .i64 0]) (by simp [results, Tryd.results64, go_sem, *]) rfl ⟨rfl, ?_⟩
  exact (bT3.setCell (p := ⟨w.heap.size + 2, 0, none⟩) (Nat.le_add_right _ _) _).setCell (p := ⟨w.heap.size + 2, 1, none⟩) (Nat.le_add_right _ _) _
end Go.Proofs.YtinhbebjlbnejaaDoor
/-! Walks: package ival: two.all: where a pair of ends has an error. -/
namespace Go.Proofs.YtinhbebjlbnejaaDoor
open Go.RowKit

set_option maxRecDepth 100000 in
set_option maxHeartbeats 8000000 in
theorem all_e1 (K : Nat) (o : Nat → Nat → Bool → Nat × Int) (a1 a2 b1 b2 : Nat) (w : World) (wa1 : Dy.W a1) (_wa2 : Dy.W a2) (wb1 : Dy.W b1) (wb2 : Dy.W b2) (hK : Five K) (H : Hid (OpC K o)) (p : Nat × Nat) (f1 f2 : Nat) (fe : Int)
    (ep : Dy.iEnds (o a1 b1 false) (o a1 b1 true) = (p, 0)) (ef : Dy.iEnds (o a1 b2 false) (o a1 b2 true) = ((f1, f2), fe)) (hf : fe ≠ 0)
    (gp : Dy.WW p ∧ Dy.ivR p = true) :
    Calls Tryd.prog 64 #[.func (Fn.func K) #[] #[], iv (a1, a2), iv (b1, b2)] w fun e w' => e = .returned (.tuple #[iv (0, 0), .int .i64 fe]) ∧ Below w.heap.size w w' := by
  have EF := hid ef
  have hf1 : (fe != 0) = true := by simpa using hf
  clear ef hf
  have Ep := hid ep
  have gh1 := Dy.good_hull gp.1 gp.1 gp.2 gp.2
  have U1 := hid (fun w => ivHull_any p p w gp.1 gp.1 gp.2 gp.2)
  clear ep gp gh1
  generalize Dy.iHull p p = h1 at *
  obtain ⟨p1, p2⟩ := p
  obtain ⟨h11, h12⟩ := h1
  have i0 : ∀ w, (Instr.index 131 (.agg #[.float .f64 a1, .float .f64 a2]) (.int .i64 0)).run Tryd.prog w = .ok (.float .f64 a1) w := fun _ => by kernel_rfl
  have i1 : ∀ w, (Instr.index 131 (.agg #[.float .f64 a1, .float .f64 a2]) (.int .i64 1)).run Tryd.prog w = .ok (.float .f64 a2) w := fun _ => by kernel_rfl
  have j0 : ∀ w, (Instr.index 131 (.agg #[.float .f64 b1, .float .f64 b2]) (.int .i64 0)).run Tryd.prog w = .ok (.float .f64 b1) w := fun _ => by kernel_rfl
  have j1 : ∀ w, (Instr.index 131 (.agg #[.float .f64 b1, .float .f64 b2]) (.int .i64 1)).run Tryd.prog w = .ok (.float .f64 b2) w := fun _ => by kernel_rfl
  have st : A4 w.heap.size (b1, b2) (0, 0) ((((w.alloc (.cells #[.float .f64 a1, .float .f64 a2] 38)).alloc (.cells #[.float .f64 b1, .float .f64 b2] 38)).alloc (.cells #[.float .f64 0, .float .f64 0] 38)).alloc (.cells #[.float .f64 0, .float .f64 0] 38)) := ⟨by simp, by simp [go_sem], by simp [go_sem], by simp [go_sem], by simp [go_sem], by simp [go_sem], by simp [go_sem], by simp [go_sem], by simp [go_sem], by simp [go_sem], by simp [go_sem]⟩
  have bT : Below w.heap.size w ((((w.alloc (.cells #[.float .f64 a1, .float .f64 a2] 38)).alloc (.cells #[.float .f64 b1, .float .f64 b2] 38)).alloc (.cells #[.float .f64 0, .float .f64 0] 38)).alloc (.cells #[.float .f64 0, .float .f64 0] 38)) := (((Below.refl _ _).alloc (Nat.le_refl _) _).alloc (by simp) _).alloc (by simp; omega) _ |>.alloc (by simp; omega) _
  go_enter Tryd.func64, Tryd.ntmps64
  go_wp2_with fail
  refine wp_loop_rounds 3 ?_
  rw [rounds_succ]
  go_wp2_with fail
  refine wp_loop_rounds 3 ?_
  rw [rounds_succ]
  go_wp2_with fail
  refine (ivOf2_any _ _ _ _).mono ?_
  rintro e va0 ⟨rfl, hb1, hk1⟩
  have st1 := st.keep hb1
  go_wp2_with fail
  refine (ivOf2_any _ _ _ _).mono ?_
  rintro e vb0 ⟨rfl, hb2, hk2⟩
  have st2 := st1.keep hb2
  have hk3 := hk1.keep hb2
  go_wp2_with fail
  refine (ends_eq _ _ K a1 b1 o _ Ep.out hK (by first | exact hk3 | (simpa using hk3)) hk2 wa1 wb1 H).mono ?_
  rintro e v0 ⟨rfl, hb3⟩
  have st3 := st2.keep hb3
  have bU0 : Below w.heap.size w v0 := bT.trans ((hb1.trans ((hb2.trans (hb3.mono hb2.size)).mono hb1.size)).mono bT.size)
  have u0 := st3.u0
  have u1 := st3.u1
  have x0 := st3.v0
  have x1 := st3.v1
  have hl := st3.lt
  have hl3 : w.heap.size + 3 ≠ v0.heap.size := by omega
  have st4 := (st3.set (p1, p2)).keep ((Below.refl _ _).alloc (Nat.le_refl _) (.cells #[.float .f64 p1, .float .f64 p2] 38))
  clear hb1 hb2 hb3 hk1 hk2 hk3 st1 st2
  go_wp2_with fail
  refine (U1.out _).mono ?_
  rintro e vh0 ⟨rfl, hb4⟩
  have st5 := st4.keep hb4
  have bV0 : Below w.heap.size w vh0 := (((bU0.setCell (p := ⟨w.heap.size + 3, 0, none⟩) (Nat.le_add_right _ _) (.float .f64 p1)).setCell (p := ⟨w.heap.size + 3, 1, none⟩) (Nat.le_add_right _ _) (.float .f64 p2)).alloc (by first | exact bU0.size | (simp; exact bU0.size)) _).trans (hb4.mono (by first | (have := bU0.size; simp; omega) | skip))
  have bT0 := (bV0.setCell (p := ⟨w.heap.size + 3, 0, none⟩) (Nat.le_add_right _ _) (.float .f64 h11)).setCell (p := ⟨w.heap.size + 3, 1, none⟩) (Nat.le_add_right _ _) (.float .f64 h12)
  have st6 := st5.set (h11, h12)
  clear u0 u1 x0 x1 hl hl3 hb4
  have u0 := st5.u0
  have u1 := st5.u1
  have x0 := st5.v0
  have x1 := st5.v1
  go_wp2_with fail
  clear u0 u1 x0 x1 st3 st4 st5
  rw [rounds_succ]
  go_wp2_with fail
  refine (ivOf2_any _ _ _ _).mono ?_
  rintro e va ⟨rfl, hb1, hk1⟩
  have st1 := st6.keep hb1
  go_wp2_with fail
  refine (ivOf2_any _ _ _ _).mono ?_
  rintro e vb ⟨rfl, hb2, hk2⟩
  have st2 := st1.keep hb2
  have hk3 := hk1.keep hb2
  go_wp2_with fail
  refine (ends_eq _ _ K a1 b2 o _ EF.out hK (by first | exact hk3 | (simpa using hk3)) hk2 wa1 wb2 H).mono ?_
  rintro e v ⟨rfl, hb3⟩
  have st3 := st2.keep hb3
  have z0 := st3.z0
  have z1 := st3.z1
  have y0 := st3.y0
  have y1 := st3.y1
  have hl := st3.lt
  have hl2 : w.heap.size + 2 < v.heap.size := by omega
  have hl3 : w.heap.size + 2 ≠ v.heap.size := by omega
  have bE : Below w.heap.size w v := bT0.trans ((hb1.trans ((hb2.trans (hb3.mono hb2.size)).mono hb1.size)).mono bT0.size)
  clear hb1 hb2 hb3 hk1 hk2 hk3 st1 st2
  go_wp2_with fail
  refine bodyPost_ret (v := .tuple #[iv (0, 0), .int .i64 fe]) (by simp [results, Tryd.results64, go_sem, *]) rfl ⟨rfl, ?_⟩
  first | exact ((bE.setCell (p := ⟨w.heap.size + 2, 0, none⟩) (Nat.le_add_right _ _) _).setCell (p := ⟨w.heap.size + 2, 1, none⟩) (Nat.le_add_right _ _) _).alloc (by simp; omega) _ | exact ((bE.alloc (by omega) _).setCell (p := ⟨w.heap.size + 2, 0, none⟩) (Nat.le_add_right _ _) _).setCell (p := ⟨w.heap.size + 2, 1, none⟩) (Nat.le_add_right _ _) _

set_option maxRecDepth 100000 in
set_option maxHeartbeats 8000000 in
theorem all_e2 (K : Nat) (o : Nat → Nat → Bool → Nat × Int) (a1 a2 b1 b2 : Nat) (w : World) (wa1 : Dy.W a1) (wa2 : Dy.W a2) (wb1 : Dy.W b1) (wb2 : Dy.W b2) (hK : Five K) (H : Hid (OpC K o)) (p q : Nat × Nat) (f1 f2 : Nat) (fe : Int)
    (ep : Dy.iEnds (o a1 b1 false) (o a1 b1 true) = (p, 0)) (eq : Dy.iEnds (o a1 b2 false) (o a1 b2 true) = (q, 0)) (ef : Dy.iEnds (o a2 b1 false) (o a2 b1 true) = ((f1, f2), fe)) (hf : fe ≠ 0)
    (gp : Dy.WW p ∧ Dy.ivR p = true) (gq : Dy.WW q ∧ Dy.ivR q = true) :
    Calls Tryd.prog 64 #[.func (Fn.func K) #[] #[], iv (a1, a2), iv (b1, b2)] w fun e w' => e = .returned (.tuple #[iv (0, 0), .int .i64 fe]) ∧ Below w.heap.size w w' := by
  have EF := hid ef
  have hf1 : (fe != 0) = true := by simpa using hf
  clear ef hf
  have Ep := hid ep
  have Eq := hid eq
  have gh1 := Dy.good_hull gp.1 gp.1 gp.2 gp.2
  have U1 := hid (fun w => ivHull_any p p w gp.1 gp.1 gp.2 gp.2)
  have gh2 := Dy.good_hull gh1.1 gq.1 gh1.2 gq.2
  have U2 := hid (fun w => ivHull_any (Dy.iHull p p) q w gh1.1 gq.1 gh1.2 gq.2)
  clear ep gp eq gq gh1 gh2
  generalize Dy.iHull (Dy.iHull p p) q = h2 at *
  generalize Dy.iHull p p = h1 at *
  obtain ⟨p1, p2⟩ := p
  obtain ⟨q1, q2⟩ := q
  obtain ⟨h11, h12⟩ := h1
  obtain ⟨h21, h22⟩ := h2
  have i0 : ∀ w, (Instr.index 131 (.agg #[.float .f64 a1, .float .f64 a2]) (.int .i64 0)).run Tryd.prog w = .ok (.float .f64 a1) w := fun _ => by kernel_rfl
  have i1 : ∀ w, (Instr.index 131 (.agg #[.float .f64 a1, .float .f64 a2]) (.int .i64 1)).run Tryd.prog w = .ok (.float .f64 a2) w := fun _ => by kernel_rfl
  have j0 : ∀ w, (Instr.index 131 (.agg #[.float .f64 b1, .float .f64 b2]) (.int .i64 0)).run Tryd.prog w = .ok (.float .f64 b1) w := fun _ => by kernel_rfl
  have j1 : ∀ w, (Instr.index 131 (.agg #[.float .f64 b1, .float .f64 b2]) (.int .i64 1)).run Tryd.prog w = .ok (.float .f64 b2) w := fun _ => by kernel_rfl
  have st : A4 w.heap.size (b1, b2) (0, 0) ((((w.alloc (.cells #[.float .f64 a1, .float .f64 a2] 38)).alloc (.cells #[.float .f64 b1, .float .f64 b2] 38)).alloc (.cells #[.float .f64 0, .float .f64 0] 38)).alloc (.cells #[.float .f64 0, .float .f64 0] 38)) := ⟨by simp, by simp [go_sem], by simp [go_sem], by simp [go_sem], by simp [go_sem], by simp [go_sem], by simp [go_sem], by simp [go_sem], by simp [go_sem], by simp [go_sem], by simp [go_sem]⟩
  have bT : Below w.heap.size w ((((w.alloc (.cells #[.float .f64 a1, .float .f64 a2] 38)).alloc (.cells #[.float .f64 b1, .float .f64 b2] 38)).alloc (.cells #[.float .f64 0, .float .f64 0] 38)).alloc (.cells #[.float .f64 0, .float .f64 0] 38)) := (((Below.refl _ _).alloc (Nat.le_refl _) _).alloc (by simp) _).alloc (by simp; omega) _ |>.alloc (by simp; omega) _
  go_enter Tryd.func64, Tryd.ntmps64
  go_wp2_with fail
  refine wp_loop_rounds 3 ?_
  rw [rounds_succ]
  go_wp2_with fail
  refine wp_loop_rounds 3 ?_
  rw [rounds_succ]
  go_wp2_with fail
  refine (ivOf2_any _ _ _ _).mono ?_
  rintro e va0 ⟨rfl, hb1, hk1⟩
  have st1 := st.keep hb1
  go_wp2_with fail
  refine (ivOf2_any _ _ _ _).mono ?_
  rintro e vb0 ⟨rfl, hb2, hk2⟩
  have st2 := st1.keep hb2
  have hk3 := hk1.keep hb2
  go_wp2_with fail
  refine (ends_eq _ _ K a1 b1 o _ Ep.out hK (by first | exact hk3 | (simpa using hk3)) hk2 wa1 wb1 H).mono ?_
  rintro e v0 ⟨rfl, hb3⟩
  have st3 := st2.keep hb3
  have bU0 : Below w.heap.size w v0 := bT.trans ((hb1.trans ((hb2.trans (hb3.mono hb2.size)).mono hb1.size)).mono bT.size)
  have u0 := st3.u0
  have u1 := st3.u1
  have x0 := st3.v0
  have x1 := st3.v1
  have hl := st3.lt
  have hl3 : w.heap.size + 3 ≠ v0.heap.size := by omega
  have st4 := (st3.set (p1, p2)).keep ((Below.refl _ _).alloc (Nat.le_refl _) (.cells #[.float .f64 p1, .float .f64 p2] 38))
  clear hb1 hb2 hb3 hk1 hk2 hk3 st1 st2
  go_wp2_with fail
  refine (U1.out _).mono ?_
  rintro e vh0 ⟨rfl, hb4⟩
  have st5 := st4.keep hb4
  have bV0 : Below w.heap.size w vh0 := (((bU0.setCell (p := ⟨w.heap.size + 3, 0, none⟩) (Nat.le_add_right _ _) (.float .f64 p1)).setCell (p := ⟨w.heap.size + 3, 1, none⟩) (Nat.le_add_right _ _) (.float .f64 p2)).alloc (by first | exact bU0.size | (simp; exact bU0.size)) _).trans (hb4.mono (by first | (have := bU0.size; simp; omega) | skip))
  have bT0 := (bV0.setCell (p := ⟨w.heap.size + 3, 0, none⟩) (Nat.le_add_right _ _) (.float .f64 h11)).setCell (p := ⟨w.heap.size + 3, 1, none⟩) (Nat.le_add_right _ _) (.float .f64 h12)
  have st6 := st5.set (h11, h12)
  clear u0 u1 x0 x1 hl hl3 hb4
  have u0 := st5.u0
  have u1 := st5.u1
  have x0 := st5.v0
  have x1 := st5.v1
  go_wp2_with fail
  clear u0 u1 x0 x1 st3 st4 st5
  rw [rounds_succ]
  go_wp2_with fail
  refine (ivOf2_any _ _ _ _).mono ?_
  rintro e va1 ⟨rfl, hb1, hk1⟩
  have st1 := st6.keep hb1
  go_wp2_with fail
  refine (ivOf2_any _ _ _ _).mono ?_
  rintro e vb1 ⟨rfl, hb2, hk2⟩
  have st2 := st1.keep hb2
  have hk3 := hk1.keep hb2
  go_wp2_with fail
  refine (ends_eq _ _ K a1 b2 o _ Eq.out hK (by first | exact hk3 | (simpa using hk3)) hk2 wa1 wb2 H).mono ?_
  rintro e v1 ⟨rfl, hb3⟩
  have st3 := st2.keep hb3
  have bU1 : Below w.heap.size w v1 := bT0.trans ((hb1.trans ((hb2.trans (hb3.mono hb2.size)).mono hb1.size)).mono bT0.size)
  have u0 := st3.u0
  have u1 := st3.u1
  have x0 := st3.v0
  have x1 := st3.v1
  have hl := st3.lt
  have hl3 : w.heap.size + 3 ≠ v1.heap.size := by omega
  have st4 := st3.keep ((Below.refl _ _).alloc (Nat.le_refl _) (.cells #[.float .f64 q1, .float .f64 q2] 38))
  clear hb1 hb2 hb3 hk1 hk2 hk3 st1 st2
  go_wp2_with fail
  refine (U2.out _).mono ?_
  rintro e vh1 ⟨rfl, hb4⟩
  have st5 := st4.keep hb4
  have bV1 : Below w.heap.size w vh1 := ((bU1).alloc (by first | exact bU1.size | (simp; exact bU1.size)) _).trans (hb4.mono (by first | (have := bU1.size; simp; omega) | skip))
  have bT1 := (bV1.setCell (p := ⟨w.heap.size + 3, 0, none⟩) (Nat.le_add_right _ _) (.float .f64 h21)).setCell (p := ⟨w.heap.size + 3, 1, none⟩) (Nat.le_add_right _ _) (.float .f64 h22)
  have st6 := st5.set (h21, h22)
  clear u0 u1 x0 x1 hl hl3 hb4
  have u0 := st5.u0
  have u1 := st5.u1
  have x0 := st5.v0
  have x1 := st5.v1
  go_wp2_with fail
  clear u0 u1 x0 x1 st3 st4 st5
  rw [rounds_succ]
  have c0 := st6.b0
  have c1 := st6.b1
  go_wp2_with fail
  rw [rounds_succ]
  go_wp2_with fail
  clear c0 c1
  refine wp_loop_rounds 3 ?_
  rw [rounds_succ]
  go_wp2_with fail
  refine (ivOf2_any _ _ _ _).mono ?_
  rintro e va ⟨rfl, hb1, hk1⟩
  have st1 := st6.keep hb1
  go_wp2_with fail
  refine (ivOf2_any _ _ _ _).mono ?_
  rintro e vb ⟨rfl, hb2, hk2⟩
  have st2 := st1.keep hb2
  have hk3 := hk1.keep hb2
  go_wp2_with fail
  refine (ends_eq _ _ K a2 b1 o _ EF.out hK (by first | exact hk3 | (simpa using hk3)) hk2 wa2 wb1 H).mono ?_
  rintro e v ⟨rfl, hb3⟩
  have st3 := st2.keep hb3
  have z0 := st3.z0
  have z1 := st3.z1
  have y0 := st3.y0
  have y1 := st3.y1
  have hl := st3.lt
  have hl2 : w.heap.size + 2 < v.heap.size := by omega
  have hl3 : w.heap.size + 2 ≠ v.heap.size := by omega
  have bE : Below w.heap.size w v := bT1.trans ((hb1.trans ((hb2.trans (hb3.mono hb2.size)).mono hb1.size)).mono bT1.size)
  clear hb1 hb2 hb3 hk1 hk2 hk3 st1 st2
  go_wp2_with fail
  refine bodyPost_ret (v := .tuple #[iv (0, 0), .int .i64 fe]) (by simp [results, Tryd.results64, go_sem, *]) rfl ⟨rfl, ?_⟩
  first | exact ((bE.setCell (p := ⟨w.heap.size + 2, 0, none⟩) (Nat.le_add_right _ _) _).setCell (p := ⟨w.heap.size + 2, 1, none⟩) (Nat.le_add_right _ _) _).alloc (by simp; omega) _ | exact ((bE.alloc (by omega) _).setCell (p := ⟨w.heap.size + 2, 0, none⟩) (Nat.le_add_right _ _) _).setCell (p := ⟨w.heap.size + 2, 1, none⟩) (Nat.le_add_right _ _) _

set_option maxRecDepth 100000 in
set_option maxHeartbeats 8000000 in
theorem all_e3 (K : Nat) (o : Nat → Nat → Bool → Nat × Int) (a1 a2 b1 b2 : Nat) (w : World) (wa1 : Dy.W a1) (wa2 : Dy.W a2) (wb1 : Dy.W b1) (wb2 : Dy.W b2) (hK : Five K) (H : Hid (OpC K o)) (p q r : Nat × Nat) (f1 f2 : Nat) (fe : Int)
    (ep : Dy.iEnds (o a1 b1 false) (o a1 b1 true) = (p, 0)) (eq : Dy.iEnds (o a1 b2 false) (o a1 b2 true) = (q, 0)) (er : Dy.iEnds (o a2 b1 false) (o a2 b1 true) = (r, 0)) (ef : Dy.iEnds (o a2 b2 false) (o a2 b2 true) = ((f1, f2), fe)) (hf : fe ≠ 0)
    (gp : Dy.WW p ∧ Dy.ivR p = true) (gq : Dy.WW q ∧ Dy.ivR q = true) (gr : Dy.WW r ∧ Dy.ivR r = true) :
    Calls Tryd.prog 64 #[.func (Fn.func K) #[] #[], iv (a1, a2), iv (b1, b2)] w fun e w' => e = .returned (.tuple #[iv (0, 0), .int .i64 fe]) ∧ Below w.heap.size w w' := by
  have EF := hid ef
  have hf1 : (fe != 0) = true := by simpa using hf
  clear ef hf
  have Ep := hid ep
  have Eq := hid eq
  have Er := hid er
  have gh1 := Dy.good_hull gp.1 gp.1 gp.2 gp.2
  have U1 := hid (fun w => ivHull_any p p w gp.1 gp.1 gp.2 gp.2)
  have gh2 := Dy.good_hull gh1.1 gq.1 gh1.2 gq.2
  have U2 := hid (fun w => ivHull_any (Dy.iHull p p) q w gh1.1 gq.1 gh1.2 gq.2)
  have gh3 := Dy.good_hull gh2.1 gr.1 gh2.2 gr.2
  have U3 := hid (fun w => ivHull_any (Dy.iHull (Dy.iHull p p) q) r w gh2.1 gr.1 gh2.2 gr.2)
  clear ep gp eq gq er gr gh1 gh2 gh3
  generalize Dy.iHull (Dy.iHull (Dy.iHull p p) q) r = h3 at *
  generalize Dy.iHull (Dy.iHull p p) q = h2 at *
  generalize Dy.iHull p p = h1 at *
  obtain ⟨p1, p2⟩ := p
  obtain ⟨q1, q2⟩ := q
  obtain ⟨r1, r2⟩ := r
  obtain ⟨h11, h12⟩ := h1
  obtain ⟨h21, h22⟩ := h2
  obtain ⟨h31, h32⟩ := h3
  have i0 : ∀ w, (Instr.index 131 (.agg #[.float .f64 a1, .float .f64 a2]) (.int .i64 0)).run Tryd.prog w = .ok (.float .f64 a1) w := fun _ => by kernel_rfl
  have i1 : ∀ w, (Instr.index 131 (.agg #[.float .f64 a1, .float .f64 a2]) (.int .i64 1)).run Tryd.prog w = .ok (.float .f64 a2) w := fun _ => by kernel_rfl
  have j0 : ∀ w, (Instr.index 131 (.agg #[.float .f64 b1, .float .f64 b2]) (.int .i64 0)).run Tryd.prog w = .ok (.float .f64 b1) w := fun _ => by kernel_rfl
  have j1 : ∀ w, (Instr.index 131 (.agg #[.float .f64 b1, .float .f64 b2]) (.int .i64 1)).run Tryd.prog w = .ok (.float .f64 b2) w := fun _ => by kernel_rfl
  have st : A4 w.heap.size (b1, b2) (0, 0) ((((w.alloc (.cells #[.float .f64 a1, .float .f64 a2] 38)).alloc (.cells #[.float .f64 b1, .float .f64 b2] 38)).alloc (.cells #[.float .f64 0, .float .f64 0] 38)).alloc (.cells #[.float .f64 0, .float .f64 0] 38)) := ⟨by simp, by simp [go_sem], by simp [go_sem], by simp [go_sem], by simp [go_sem], by simp [go_sem], by simp [go_sem], by simp [go_sem], by simp [go_sem], by simp [go_sem], by simp [go_sem]⟩
  have bT : Below w.heap.size w ((((w.alloc (.cells #[.float .f64 a1, .float .f64 a2] 38)).alloc (.cells #[.float .f64 b1, .float .f64 b2] 38)).alloc (.cells #[.float .f64 0, .float .f64 0] 38)).alloc (.cells #[.float .f64 0, .float .f64 0] 38)) := (((Below.refl _ _).alloc (Nat.le_refl _) _).alloc (by simp) _).alloc (by simp; omega) _ |>.alloc (by simp; omega) _
  go_enter Tryd.func64, Tryd.ntmps64
  go_wp2_with fail
  refine wp_loop_rounds 3 ?_
  rw [rounds_succ]
  go_wp2_with fail
  refine wp_loop_rounds 3 ?_
  rw [rounds_succ]
  go_wp2_with fail
  refine (ivOf2_any _ _ _ _).mono ?_
  rintro e va0 ⟨rfl, hb1, hk1⟩
  have st1 := st.keep hb1
  go_wp2_with fail
  refine (ivOf2_any _ _ _ _).mono ?_
  rintro e vb0 ⟨rfl, hb2, hk2⟩
  have st2 := st1.keep hb2
  have hk3 := hk1.keep hb2
  go_wp2_with fail
  refine (ends_eq _ _ K a1 b1 o _ Ep.out hK (by first | exact hk3 | (simpa using hk3)) hk2 wa1 wb1 H).mono ?_
  rintro e v0 ⟨rfl, hb3⟩
  have st3 := st2.keep hb3
  have bU0 : Below w.heap.size w v0 := bT.trans ((hb1.trans ((hb2.trans (hb3.mono hb2.size)).mono hb1.size)).mono bT.size)
  have u0 := st3.u0
  have u1 := st3.u1
  have x0 := st3.v0
  have x1 := st3.v1
  have hl := st3.lt
  have hl3 : w.heap.size + 3 ≠ v0.heap.size := by omega
  have st4 := (st3.set (p1, p2)).keep ((Below.refl _ _).alloc (Nat.le_refl _) (.cells #[.float .f64 p1, .float .f64 p2] 38))
  clear hb1 hb2 hb3 hk1 hk2 hk3 st1 st2
  go_wp2_with fail
  refine (U1.out _).mono ?_
  rintro e vh0 ⟨rfl, hb4⟩
  have st5 := st4.keep hb4
  have bV0 : Below w.heap.size w vh0 := (((bU0.setCell (p := ⟨w.heap.size + 3, 0, none⟩) (Nat.le_add_right _ _) (.float .f64 p1)).setCell (p := ⟨w.heap.size + 3, 1, none⟩) (Nat.le_add_right _ _) (.float .f64 p2)).alloc (by first | exact bU0.size | (simp; exact bU0.size)) _).trans (hb4.mono (by first | (have := bU0.size; simp; omega) | skip))
  have bT0 := (bV0.setCell (p := ⟨w.heap.size + 3, 0, none⟩) (Nat.le_add_right _ _) (.float .f64 h11)).setCell (p := ⟨w.heap.size + 3, 1, none⟩) (Nat.le_add_right _ _) (.float .f64 h12)
  have st6 := st5.set (h11, h12)
  clear u0 u1 x0 x1 hl hl3 hb4
  have u0 := st5.u0
  have u1 := st5.u1
  have x0 := st5.v0
  have x1 := st5.v1
  go_wp2_with fail
  clear u0 u1 x0 x1 st3 st4 st5
  rw [rounds_succ]
  go_wp2_with fail
  refine (ivOf2_any _ _ _ _).mono ?_
  rintro e va1 ⟨rfl, hb1, hk1⟩
  have st1 := st6.keep hb1
  go_wp2_with fail
  refine (ivOf2_any _ _ _ _).mono ?_
  rintro e vb1 ⟨rfl, hb2, hk2⟩
  have st2 := st1.keep hb2
  have hk3 := hk1.keep hb2
  go_wp2_with fail
  refine (ends_eq _ _ K a1 b2 o _ Eq.out hK (by first | exact hk3 | (simpa using hk3)) hk2 wa1 wb2 H).mono ?_
  rintro e v1 ⟨rfl, hb3⟩
  have st3 := st2.keep hb3
  have bU1 : Below w.heap.size w v1 := bT0.trans ((hb1.trans ((hb2.trans (hb3.mono hb2.size)).mono hb1.size)).mono bT0.size)
  have u0 := st3.u0
  have u1 := st3.u1
  have x0 := st3.v0
  have x1 := st3.v1
  have hl := st3.lt
  have hl3 : w.heap.size + 3 ≠ v1.heap.size := by omega
  have st4 := st3.keep ((Below.refl _ _).alloc (Nat.le_refl _) (.cells #[.float .f64 q1, .float .f64 q2] 38))
  clear hb1 hb2 hb3 hk1 hk2 hk3 st1 st2
  go_wp2_with fail
  refine (U2.out _).mono ?_
  rintro e vh1 ⟨rfl, hb4⟩
  have st5 := st4.keep hb4
  have bV1 : Below w.heap.size w vh1 := ((bU1).alloc (by first | exact bU1.size | (simp; exact bU1.size)) _).trans (hb4.mono (by first | (have := bU1.size; simp; omega) | skip))
  have bT1 := (bV1.setCell (p := ⟨w.heap.size + 3, 0, none⟩) (Nat.le_add_right _ _) (.float .f64 h21)).setCell (p := ⟨w.heap.size + 3, 1, none⟩) (Nat.le_add_right _ _) (.float .f64 h22)
  have st6 := st5.set (h21, h22)
  clear u0 u1 x0 x1 hl hl3 hb4
  have u0 := st5.u0
  have u1 := st5.u1
  have x0 := st5.v0
  have x1 := st5.v1
  go_wp2_with fail
  clear u0 u1 x0 x1 st3 st4 st5
  rw [rounds_succ]
  have c0 := st6.b0
  have c1 := st6.b1
  go_wp2_with fail
  rw [rounds_succ]
  go_wp2_with fail
  clear c0 c1
  refine wp_loop_rounds 3 ?_
  rw [rounds_succ]
  go_wp2_with fail
  refine (ivOf2_any _ _ _ _).mono ?_
  rintro e va2 ⟨rfl, hb1, hk1⟩
  have st1 := st6.keep hb1
  go_wp2_with fail
  refine (ivOf2_any _ _ _ _).mono ?_
  rintro e vb2 ⟨rfl, hb2, hk2⟩
  have st2 := st1.keep hb2
  have hk3 := hk1.keep hb2
  go_wp2_with fail
  refine (ends_eq _ _ K a2 b1 o _ Er.out hK (by first | exact hk3 | (simpa using hk3)) hk2 wa2 wb1 H).mono ?_
  rintro e v2 ⟨rfl, hb3⟩
  have st3 := st2.keep hb3
  have bU2 : Below w.heap.size w v2 := bT1.trans ((hb1.trans ((hb2.trans (hb3.mono hb2.size)).mono hb1.size)).mono bT1.size)
  have u0 := st3.u0
  have u1 := st3.u1
  have x0 := st3.v0
  have x1 := st3.v1
  have hl := st3.lt
  have hl3 : w.heap.size + 3 ≠ v2.heap.size := by omega
  have st4 := st3.keep ((Below.refl _ _).alloc (Nat.le_refl _) (.cells #[.float .f64 r1, .float .f64 r2] 38))
  clear hb1 hb2 hb3 hk1 hk2 hk3 st1 st2
  go_wp2_with fail
  refine (U3.out _).mono ?_
  rintro e vh2 ⟨rfl, hb4⟩
  have st5 := st4.keep hb4
  have bV2 : Below w.heap.size w vh2 := ((bU2).alloc (by first | exact bU2.size | (simp; exact bU2.size)) _).trans (hb4.mono (by first | (have := bU2.size; simp; omega) | skip))
  have bT2 := (bV2.setCell (p := ⟨w.heap.size + 3, 0, none⟩) (Nat.le_add_right _ _) (.float .f64 h31)).setCell (p := ⟨w.heap.size + 3, 1, none⟩) (Nat.le_add_right _ _) (.float .f64 h32)
  have st6 := st5.set (h31, h32)
  clear u0 u1 x0 x1 hl hl3 hb4
  have u0 := st5.u0
  have u1 := st5.u1
  have x0 := st5.v0
  have x1 := st5.v1
  go_wp2_with fail
  clear u0 u1 x0 x1 st3 st4 st5
  rw [rounds_succ]
  go_wp2_with fail
  refine (ivOf2_any _ _ _ _).mono ?_
  rintro e va ⟨rfl, hb1, hk1⟩
  have st1 := st6.keep hb1
  go_wp2_with fail
  refine (ivOf2_any _ _ _ _).mono ?_
  rintro e vb ⟨rfl, hb2, hk2⟩
  have st2 := st1.keep hb2
  have hk3 := hk1.keep hb2
  go_wp2_with fail
  refine (ends_eq _ _ K a2 b2 o _ EF.out hK (by first | exact hk3 | (simpa using hk3)) hk2 wa2 wb2 H).mono ?_
  rintro e v ⟨rfl, hb3⟩
  have st3 := st2.keep hb3
  have z0 := st3.z0
  have z1 := st3.z1
  have y0 := st3.y0
  have y1 := st3.y1
  have hl := st3.lt
  have hl2 : w.heap.size + 2 < v.heap.size := by omega
  have hl3 : w.heap.size + 2 ≠ v.heap.size := by omega
  have bE : Below w.heap.size w v := bT2.trans ((hb1.trans ((hb2.trans (hb3.mono hb2.size)).mono hb1.size)).mono bT2.size)
  clear hb1 hb2 hb3 hk1 hk2 hk3 st1 st2
  go_wp2_with fail
  refine bodyPost_ret (v := .tuple #[iv (0, 0), .int .i64 fe]) (by simp [results, Tryd.results64, go_sem, *]) rfl ⟨rfl, ?_⟩
  first | exact ((bE.setCell (p := ⟨w.heap.size + 2, 0, none⟩) (Nat.le_add_right _ _) _).setCell (p := ⟨w.heap.size + 2, 1, none⟩) (Nat.le_add_right _ _) _).alloc (by simp; omega) _ | exact ((bE.alloc (by omega) _).setCell (p := ⟨w.heap.size + 2, 0, none⟩) (Nat.le_add_right _ _) _).setCell (p := ⟨w.heap.size + 2, 1, none⟩) (Nat.le_add_right _ _) _

end Go.Proofs.YtinhbebjlbnejaaDoor
/-! Walks: package ival: two.all, of any two intervals whose ends' results are right. -/
namespace Go.Proofs.YtinhbebjlbnejaaDoor
open Go.RowKit

theorem all_any (K : Nat) (o : Nat → Nat → Bool → Nat × Int) (a b : Nat × Nat) (w : World) (ha : Dy.WW a) (hb : Dy.WW b) (hK : Five K) (H : Hid (OpC K o))
    (G : ∀ x y, (x = a.1 ∨ x = a.2) → (y = b.1 ∨ y = b.2) → (Dy.iEnds (o x y false) (o x y true)).2 = 0 → Dy.Good (Dy.iEnds (o x y false) (o x y true))) :
    Calls Tryd.prog 64 #[.func (Fn.func K) #[] #[], iv a, iv b] w fun e w' => e = .returned (.tuple #[iv (Dy.iAll o a b).1, .int .i64 (Dy.iAll o a b).2]) ∧ Below w.heap.size w w' := by
  have gp := G a.1 b.1 (Or.inl rfl) (Or.inl rfl)
  have gq := G a.1 b.2 (Or.inl rfl) (Or.inr rfl)
  have gr := G a.2 b.1 (Or.inr rfl) (Or.inl rfl)
  have gs := G a.2 b.2 (Or.inr rfl) (Or.inr rfl)
  have A0 := all_p K o a b w ha hb hK H
  have A1 := all_e1 K o a.1 a.2 b.1 b.2 w ha.1 ha.2 hb.1 hb.2 hK H
  have A2 := all_e2 K o a.1 a.2 b.1 b.2 w ha.1 ha.2 hb.1 hb.2 hK H
  have A3 := all_e3 K o a.1 a.2 b.1 b.2 w ha.1 ha.2 hb.1 hb.2 hK H
  have A4 := all_ok K o a.1 a.2 b.1 b.2 w ha.1 ha.2 hb.1 hb.2 hK H
  unfold Dy.iAll
  dsimp only
  generalize Dy.iEnds (o a.1 b.1 false) (o a.1 b.1 true) = p at *
  generalize Dy.iEnds (o a.1 b.2 false) (o a.1 b.2 true) = q at *
  generalize Dy.iEnds (o a.2 b.1 false) (o a.2 b.1 true) = r at *
  generalize Dy.iEnds (o a.2 b.2 false) (o a.2 b.2 true) = s at *
  obtain ⟨p, pe⟩ := p
  obtain ⟨q, qe⟩ := q
  obtain ⟨r, re⟩ := r
  obtain ⟨s, se⟩ := s
  dsimp only at *
  by_cases p0 : pe = 0
  · subst p0
    by_cases q0 : qe = 0
    · subst q0
      by_cases r0 : re = 0
      · subst r0
        by_cases s0 : se = 0
        · subst s0
          rw [if_neg (by omega), if_neg (by omega), if_neg (by omega), if_neg (by omega)]
          exact A4 p q r s rfl rfl rfl rfl (gp rfl) (gq rfl) (gr rfl) (gs rfl)
        · rw [if_neg (by omega), if_neg (by omega), if_neg (by omega), if_pos s0]
          exact A3 p q r s.1 s.2 se rfl rfl rfl rfl s0 (gp rfl) (gq rfl) (gr rfl)
      · rw [if_neg (by omega), if_neg (by omega), if_pos r0]
        exact A2 p q r.1 r.2 re rfl rfl rfl r0 (gp rfl) (gq rfl)
    · rw [if_neg (by omega), if_pos q0]
      exact A1 p q.1 q.2 qe rfl rfl q0 (gp rfl)
  · rw [if_pos p0]
    exact A0 (p, pe) rfl p0
end Go.Proofs.YtinhbebjlbnejaaDoor
/-! Walks: package ival: a calculator's Mul. -/
namespace Go.Proofs.YtinhbebjlbnejaaDoor
open Go.RowKit

theorem mul_good {a b : Nat × Nat} (ra : Dy.ivR a = true) (rb : Dy.ivR b = true) : ∀ x y, (x = a.1 ∨ x = a.2) → (y = b.1 ∨ y = b.2) → (Dy.iEnds (Dy.dMul x y false) (Dy.dMul x y true)).2 = 0 → Dy.Good (Dy.iEnds (Dy.dMul x y false) (Dy.dMul x y true)) := by
  intro x y hx hy h
  obtain ⟨a1, a2, _⟩ := Dy.ivR_of ra
  obtain ⟨b1, b2, _⟩ := Dy.ivR_of rb
  have rx : Dy.right x = true := by rcases hx with rfl | rfl <;> assumption
  have ry : Dy.right y = true := by rcases hy with rfl | rfl <;> assumption
  rw [Dy.dMul_out rx ry, Dy.dMul_out rx ry] at h ⊢
  exact Dy.good_ends (Dy.fl_le_up Dy.one_pos) h

set_option maxHeartbeats 1000000 in
theorem mul1_ans (a b : Nat × Nat) (p q : Nat) (w : World) (ha : Dy.WW a) (hb : Dy.WW b) (ra : Dy.ivR a = true) (rb : Dy.ivR b = true) (lp : p < w.heap.size) (lq : q < w.heap.size)
    (p0 : w.cell? ⟨p, 0, none⟩ = some (.float .f64 a.1)) (p1 : w.cell? ⟨p, 1, none⟩ = some (.float .f64 a.2)) (q0 : w.cell? ⟨q, 0, none⟩ = some (.float .f64 b.1)) (q1 : w.cell? ⟨q, 1, none⟩ = some (.float .f64 b.2)) :
    Ans 63 #[.pointer (some ⟨p, 0, none⟩), .pointer (some ⟨q, 0, none⟩)] (Dy.iAll Dy.dMul a b) w := by
  intro w' hbw
  have H := hid (fun w => all_any 37 Dy.dMul a b w ha hb (Or.inr (Or.inr (Or.inl rfl))) (hid opc_mul) (mul_good ra rb))
  have c0 := carry hbw lp p0
  have c1 := carry hbw lp p1
  have d0 := carry hbw lq q0
  have d1 := carry hbw lq q1
  have hp' : p < w'.heap.size := Nat.lt_of_lt_of_le lp hbw.size
  have hq' : q < w'.heap.size := Nat.lt_of_lt_of_le lq hbw.size
  generalize Dy.iAll Dy.dMul a b = r at *
  obtain ⟨⟨r1, r2⟩, re⟩ := r
  obtain ⟨a1, a2⟩ := a
  obtain ⟨b1, b2⟩ := b
  dsimp only at *
  clear ha hb ra rb p0 p1 q0 q1 hbw lp lq
  go_enter Tryd.func63, Tryd.ntmps63
  go_wp2_with fail
  refine (H.out _).mono ?_
  rintro e w1 ⟨rfl, h1⟩
  have z0 : w1.cell? ⟨w'.heap.size, 0, none⟩ = some (.float .f64 0) := carry h1 (by simp) (by simp [go_sem])
  have z1 : w1.cell? ⟨w'.heap.size, 1, none⟩ = some (.float .f64 0) := carry h1 (by simp) (by simp [go_sem])
  have f0 : w1.frozen? ⟨w'.heap.size, 0, none⟩ = false := (h1.frozen (p := ⟨w'.heap.size, 0, none⟩) (by simp)).trans (by simp [go_sem])
  have f1 : w1.frozen? ⟨w'.heap.size, 1, none⟩ = false := (h1.frozen (p := ⟨w'.heap.size, 1, none⟩) (by simp)).trans (by simp [go_sem])
  go_wp2_with fail
  refine bodyPost_ret (v := .tuple #[iv (r1, r2), .int .i64 re]) (by simp [results, Tryd.results63, go_sem, z0, z1]) rfl ⟨rfl, ?_⟩
  exact ((((Below.refl _ _).alloc (Nat.le_refl _) _).trans (h1.mono (by simp))).setCell (by simp) _).setCell (by simp) _

theorem below4 (w : World) (o1 o2 o3 o4 : Obj) : Below w.heap.size w ((((w.alloc o1).alloc o2).alloc o3).alloc o4) :=
  ((((Below.refl _ _).alloc (Nat.le_refl _) _).alloc (by simp) _).alloc (by simp; omega) _).alloc (by simp; omega) _

set_option maxRecDepth 100000 in
set_option maxHeartbeats 4000000 in
theorem calMul_any (c : Nat) (err : Int) (a b : Nat × Nat) (w : World) (hc : Cal c err w) (ha : Dy.WW a) (hb : Dy.WW b) :
    Calls Tryd.prog 41 #[.pointer (some ⟨c, 0, none⟩), iv a, iv b] w (Asked c (Dy.cMul err a b) w) := by
  have HA := hid (fun (w1 : World) (k : Cal c err w1) (p q t : Nat) (lp : p < w1.heap.size) (lq : q < w1.heap.size) (p0 : w1.cell? ⟨p, 0, none⟩ = some (.float .f64 a.1)) (p1 : w1.cell? ⟨p, 1, none⟩ = some (.float .f64 a.2)) (q0 : w1.cell? ⟨q, 0, none⟩ = some (.float .f64 b.1)) (q1 : w1.cell? ⟨q, 1, none⟩ = some (.float .f64 b.2))
      (ht : t < w1.heap.size) (t0 : w1.cell? ⟨t, 0, none⟩ = some (.float .f64 a.1)) (t1 : w1.cell? ⟨t, 1, none⟩ = some (.float .f64 a.2)) (t2 : w1.cell? ⟨t, 2, none⟩ = some (.float .f64 b.1)) (t3 : w1.cell? ⟨t, 3, none⟩ = some (.float .f64 b.2)) =>
    ask_mul c err ⟨p, 0, none⟩ ⟨q, 0, none⟩ a b (Dy.iAll Dy.dMul a b) w1 t ht k ha hb t0 t1 t2 t3 (fun ra rb => hid (mul1_ans a b p q w1 ha hb ra rb lp lq p0 p1 q0 q1)))
  have hE : Dy.cMul err a b = Dy.cAsk err (Dy.ivR a && Dy.ivR b) (Dy.iAll Dy.dMul a b) := rfl
  rw [hE]
  generalize Dy.cAsk err (Dy.ivR a && Dy.ivR b) (Dy.iAll Dy.dMul a b) = r at *
  obtain ⟨⟨r1, r2⟩, re⟩ := r
  obtain ⟨a1, a2⟩ := a
  obtain ⟨b1, b2⟩ := b
  clear hE
  dsimp only at *
  have HC := hid hc
  clear hc ha hb
  go_enter Tryd.func41, Tryd.ntmps41
  go_wp2_with fail
  refine (HA.out _ (HC.out.keep (below4 w _ _ _ _)) w.heap.size (w.heap.size + 1) (w.heap.size + 3) (by simp <;> omega) (by simp <;> omega) (by simp [go_sem]) (by simp [go_sem]) (by simp [go_sem]) (by simp [go_sem]) (by simp <;> omega) (by simp [go_sem]) (by simp [go_sem]) (by simp [go_sem]) (by simp [go_sem])).mono ?_
  rintro e w1 ⟨rfl, hB, hC⟩
  have hlt := HC.out.lt
  obtain ⟨q1, q2⟩ := asked_cells (q := w.heap.size + 2) hB (by simp <;> omega) (by omega)
  have c0 : w1.cell? ⟨w.heap.size + 2, 0, none⟩ = some (.float .f64 0) := (q1 0).trans (by simp [go_sem])
  have c1 : w1.cell? ⟨w.heap.size + 2, 1, none⟩ = some (.float .f64 0) := (q1 1).trans (by simp [go_sem])
  have f0 : w1.frozen? ⟨w.heap.size + 2, 0, none⟩ = false := (q2 0).trans (by simp [go_sem])
  have f1 : w1.frozen? ⟨w.heap.size + 2, 1, none⟩ = false := (q2 1).trans (by simp [go_sem])
  clear q1 q2
  go_wp2_with fail
  exact bodyPost_ret (v := iv (r1, r2)) (by simp [results, Tryd.results41, go_sem, c0, c1]) rfl ⟨rfl, asked_end (below4 w _ _ _ _) hB hC (by omega) (by omega)⟩
end Go.Proofs.YtinhbebjlbnejaaDoor
/-! Walks: package ival: a calculator's Div. -/
namespace Go.Proofs.YtinhbebjlbnejaaDoor
open Go.RowKit

theorem div_good {a b : Nat × Nat} (hb : Dy.WW b) (ra : Dy.ivR a = true) (rb : Dy.ivR b = true) : ∀ x y, (x = a.1 ∨ x = a.2) → (y = b.1 ∨ y = b.2) → (Dy.iEnds (Dy.dDiv x y false) (Dy.dDiv x y true)).2 = 0 → Dy.Good (Dy.iEnds (Dy.dDiv x y false) (Dy.dDiv x y true)) := by
  intro x y hx hy h
  obtain ⟨a1, a2, _⟩ := Dy.ivR_of ra
  obtain ⟨b1, b2, _⟩ := Dy.ivR_of rb
  have rx : Dy.right x = true := by rcases hx with rfl | rfl <;> assumption
  have ry : Dy.right y = true := by rcases hy with rfl | rfl <;> assumption
  have wy : Dy.W y := by
    rcases hy with rfl | rfl
    · exact hb.1
    · exact hb.2
  have d : ∀ up, Dy.dDiv x y up = if y = 0 then (0, 11) else Dy.out (Dy.divR (Dy.dec x) (Dy.dec y) up) up := by
    intro up; unfold Dy.dDiv; rw [rx, ry, if_neg (by decide)]
  by_cases y0 : y = 0
  · rw [d, d, if_pos y0, if_pos y0] at h
    exact absurd h (by decide)
  · rw [d, d, if_neg y0, if_neg y0] at h ⊢
    refine Dy.good_ends (Dy.divR_le ?_) h
    intro h0
    have := Dy.enc_of_dec wy ry
    rw [h0] at this
    exact y0 (by rw [← this]; rfl)

end Go.Proofs.YtinhbebjlbnejaaDoor
