/- Walks: package ival: two.all: of all ends of two intervals. -/
import Derived.Test.YthfgdhobldejmaaMi
import Derived.LoopN
namespace Go.Proofs.Ythfgdhobldejmaa
open Go.RowKit

theorem ends_eq {r : (Nat × Nat) × Int} (B C K x y : Nat) (o : Nat → Nat → Bool → Nat × Int) (w : World) (hr : Dy.iEnds (o x y false) (o x y true) = r) (hK : Five K) (h : Clo B K x y w) (h' : Clo C K x y w) (hx : Dy.W x) (hy : Dy.W y) (H : Hid (OpC K o)) :
    Calls Try.prog 60 #[clo B, clo C] w fun e w' => e = .returned (.tuple #[iv r.1, .int .i64 r.2]) ∧ Below w.heap.size w w' := by
  subst hr; exact ends_any B C K x y x y o w hK h h' hx hy hx hy H

/-- The state of 'all': the second interval, the result's variable, and what there is so far. -/
structure A4 (S : Nat) (b u : Nat × Nat) (w : World) : Prop where
  lt : S + 3 < w.heap.size
  b0 : w.cell? ⟨S + 1, 0, none⟩ = some (.float .f64 b.1)
  b1 : w.cell? ⟨S + 1, 1, none⟩ = some (.float .f64 b.2)
  z0 : w.cell? ⟨S + 2, 0, none⟩ = some (.float .f64 0)
  z1 : w.cell? ⟨S + 2, 1, none⟩ = some (.float .f64 0)
  y0 : w.frozen? ⟨S + 2, 0, none⟩ = false
  y1 : w.frozen? ⟨S + 2, 1, none⟩ = false
  u0 : w.cell? ⟨S + 3, 0, none⟩ = some (.float .f64 u.1)
  u1 : w.cell? ⟨S + 3, 1, none⟩ = some (.float .f64 u.2)
  v0 : w.frozen? ⟨S + 3, 0, none⟩ = false
  v1 : w.frozen? ⟨S + 3, 1, none⟩ = false
theorem A4.keep {S : Nat} {b u : Nat × Nat} {w w' : World} (h : A4 S b u w) (hb : Below w.heap.size w w') : A4 S b u w' := by
  have hl := h.lt
  exact ⟨Nat.lt_of_lt_of_le hl hb.size, carry hb (by omega) h.b0, carry hb (by omega) h.b1, carry hb (by omega) h.z0, carry hb (by omega) h.z1,
    (hb.frozen (p := ⟨S + 2, 0, none⟩) (show S + 2 < w.heap.size by omega)).trans h.y0, (hb.frozen (p := ⟨S + 2, 1, none⟩) (show S + 2 < w.heap.size by omega)).trans h.y1, carry hb (by omega) h.u0, carry hb (by omega) h.u1,
    (hb.frozen (p := ⟨S + 3, 0, none⟩) (show S + 3 < w.heap.size by omega)).trans h.v0, (hb.frozen (p := ⟨S + 3, 1, none⟩) (show S + 3 < w.heap.size by omega)).trans h.v1⟩

set_option maxRecDepth 100000 in
set_option maxHeartbeats 4000000 in
theorem all_p (K : Nat) (o : Nat → Nat → Bool → Nat × Int) (a b : Nat × Nat) (w : World) (ha : Dy.WW a) (hb : Dy.WW b) (hK : Five K) (H : Hid (OpC K o)) (p : (Nat × Nat) × Int) (ep : Dy.iEnds (o a.1 b.1 false) (o a.1 b.1 true) = p) (hp : p.2 ≠ 0) :
    Calls Try.prog 55 #[.func (Fn.func K) #[] #[], iv a, iv b] w fun e w' => e = .returned (.tuple #[iv (0, 0), .int .i64 p.2]) ∧ Below w.heap.size w w' := by
  have EP := hid ep
  clear ep
  obtain ⟨⟨p1, p2⟩, pe⟩ := p
  have h1 : (pe != 0) = true := by simpa using hp
  clear hp
  obtain ⟨a1, a2⟩ := a
  obtain ⟨b1, b2⟩ := b
  obtain ⟨wa1, wa2⟩ := ha
  obtain ⟨wb1, wb2⟩ := hb
  dsimp only at *
  have i0 : ∀ w, (Instr.index 98 (.agg #[.float .f64 a1, .float .f64 a2]) (.int .i64 0)).run Try.prog w = .ok (.float .f64 a1) w := fun _ => by kernel_rfl
  have j0 : ∀ w, (Instr.index 98 (.agg #[.float .f64 b1, .float .f64 b2]) (.int .i64 0)).run Try.prog w = .ok (.float .f64 b1) w := fun _ => by kernel_rfl
  have st : A4 w.heap.size (b1, b2) (0, 0) ((((w.alloc (.cells #[.float .f64 a1, .float .f64 a2] 26)).alloc (.cells #[.float .f64 b1, .float .f64 b2] 26)).alloc (.cells #[.float .f64 0, .float .f64 0] 26)).alloc (.cells #[.float .f64 0, .float .f64 0] 26)) := ⟨by simp <;> omega, by simp [go_sem], by simp [go_sem], by simp [go_sem], by simp [go_sem], by simp [go_sem], by simp [go_sem], by simp [go_sem], by simp [go_sem], by simp [go_sem], by simp [go_sem]⟩
  have bW : Below w.heap.size w ((((w.alloc (.cells #[.float .f64 a1, .float .f64 a2] 26)).alloc (.cells #[.float .f64 b1, .float .f64 b2] 26)).alloc (.cells #[.float .f64 0, .float .f64 0] 26)).alloc (.cells #[.float .f64 0, .float .f64 0] 26)) := (((Below.refl _ _).alloc (Nat.le_refl _) _).alloc (by simp) _).alloc (by simp; omega) _ |>.alloc (by simp; omega) _
  go_enter Try.func55, Try.ntmps55
  go_wp2_with fail
  refine wp_loop_rounds 3 ?_
  rw [rounds_succ]
  go_wp2_with fail
  refine wp_loop_rounds 3 ?_
  rw [rounds_succ]
  go_wp2_with fail
  refine (ivOf2_any _ _ _ _).mono ?_
  rintro e v1 ⟨rfl, hb1, hk1⟩
  have st1 := st.keep hb1
  go_wp2_with fail
  refine (ivOf2_any _ _ _ _).mono ?_
  rintro e v2 ⟨rfl, hb2, hk2⟩
  have st2 := st1.keep hb2
  have hk3 := hk1.keep hb2
  go_wp2_with fail
  refine (ends_eq _ _ K a1 b1 o _ EP.out hK (by first | exact hk3 | (simpa using hk3)) hk2 wa1 wb1 H).mono ?_
  rintro e v3 ⟨rfl, hb3⟩
  have st3 := st2.keep hb3
  have z0 := st3.z0
  have z1 := st3.z1
  have y0 := st3.y0
  have y1 := st3.y1
  have hl := st3.lt
  have hl2 : w.heap.size + 2 < v3.heap.size := by omega
  have hl3 : w.heap.size + 2 ≠ v3.heap.size := by omega
  have bT : Below w.heap.size w v3 := bW.trans ((hb1.trans ((hb2.trans (hb3.mono hb2.size)).mono hb1.size)).mono (by simp; omega))
  go_wp2_with fail
  refine bodyPost_ret (v := .tuple #[iv (0, 0), .int .i64 pe]) (by simp [results, Try.results55, go_sem, *]) rfl ⟨rfl, ?_⟩
  first | exact ((bT.setCell (p := ⟨w.heap.size + 2, 0, none⟩) (Nat.le_add_right _ _) _).setCell (p := ⟨w.heap.size + 2, 1, none⟩) (Nat.le_add_right _ _) _).alloc (by simp; omega) _ | exact ((bT.alloc (by omega) _).setCell (p := ⟨w.heap.size + 2, 0, none⟩) (Nat.le_add_right _ _) _).setCell (p := ⟨w.heap.size + 2, 1, none⟩) (Nat.le_add_right _ _) _
end Go.Proofs.Ythfgdhobldejmaa
