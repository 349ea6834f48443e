/- Walks: package ival: a calculator's Mul. -/
import Derived.Test.YthfgdhobldejmaaMn
import Derived.Test.YthfgdhobldejmaaMg
namespace Go.Proofs.Ythfgdhobldejmaa
open Go.RowKit

theorem mul_good {a b : Nat × Nat} (ra : Dy.ivR a = true) (rb : Dy.ivR b = true) : ∀ x y, (x = a.1 ∨ x = a.2) → (y = b.1 ∨ y = b.2) → (Dy.iEnds (Dy.dMul x y false) (Dy.dMul x y true)).2 = 0 → Dy.Good (Dy.iEnds (Dy.dMul x y false) (Dy.dMul x y true)) := by
  intro x y hx hy h
  obtain ⟨a1, a2, _⟩ := Dy.ivR_of ra
  obtain ⟨b1, b2, _⟩ := Dy.ivR_of rb
  have rx : Dy.right x = true := by rcases hx with rfl | rfl <;> assumption
  have ry : Dy.right y = true := by rcases hy with rfl | rfl <;> assumption
  rw [Dy.dMul_out rx ry, Dy.dMul_out rx ry] at h ⊢
  exact Dy.good_ends (Dy.fl_le_up Dy.one_pos) h

set_option maxHeartbeats 1000000 in
theorem mul1_ans (a b : Nat × Nat) (p q : Nat) (w : World) (ha : Dy.WW a) (hb : Dy.WW b) (ra : Dy.ivR a = true) (rb : Dy.ivR b = true) (lp : p < w.heap.size) (lq : q < w.heap.size)
    (p0 : w.cell? ⟨p, 0, none⟩ = some (.float .f64 a.1)) (p1 : w.cell? ⟨p, 1, none⟩ = some (.float .f64 a.2)) (q0 : w.cell? ⟨q, 0, none⟩ = some (.float .f64 b.1)) (q1 : w.cell? ⟨q, 1, none⟩ = some (.float .f64 b.2)) :
    Ans 53 #[.pointer (some ⟨p, 0, none⟩), .pointer (some ⟨q, 0, none⟩)] (Dy.iAll Dy.dMul a b) w := by
  intro w' hbw
  have H := hid (fun w => all_any 54 Dy.dMul a b w ha hb (Or.inr (Or.inr (Or.inl rfl))) (hid opc_mul) (mul_good ra rb))
  have c0 := carry hbw lp p0
  have c1 := carry hbw lp p1
  have d0 := carry hbw lq q0
  have d1 := carry hbw lq q1
  have hp' : p < w'.heap.size := Nat.lt_of_lt_of_le lp hbw.size
  have hq' : q < w'.heap.size := Nat.lt_of_lt_of_le lq hbw.size
  generalize Dy.iAll Dy.dMul a b = r at *
  obtain ⟨⟨r1, r2⟩, re⟩ := r
  obtain ⟨a1, a2⟩ := a
  obtain ⟨b1, b2⟩ := b
  dsimp only at *
  clear ha hb ra rb p0 p1 q0 q1 hbw lp lq
  go_enter Try.func53, Try.ntmps53
  go_wp2_with fail
  refine (H.out _).mono ?_
  rintro e w1 ⟨rfl, h1⟩
  have z0 : w1.cell? ⟨w'.heap.size, 0, none⟩ = some (.float .f64 0) := carry h1 (by simp) (by simp [go_sem])
  have z1 : w1.cell? ⟨w'.heap.size, 1, none⟩ = some (.float .f64 0) := carry h1 (by simp) (by simp [go_sem])
  have f0 : w1.frozen? ⟨w'.heap.size, 0, none⟩ = false := (h1.frozen (p := ⟨w'.heap.size, 0, none⟩) (by simp)).trans (by simp [go_sem])
  have f1 : w1.frozen? ⟨w'.heap.size, 1, none⟩ = false := (h1.frozen (p := ⟨w'.heap.size, 1, none⟩) (by simp)).trans (by simp [go_sem])
  go_wp2_with fail
  refine bodyPost_ret (v := .tuple #[iv (r1, r2), .int .i64 re]) (by simp [results, Try.results53, go_sem, z0, z1]) rfl ⟨rfl, ?_⟩
  exact ((((Below.refl _ _).alloc (Nat.le_refl _) _).trans (h1.mono (by simp))).setCell (by simp) _).setCell (by simp) _

theorem below4 (w : World) (o1 o2 o3 o4 : Obj) : Below w.heap.size w ((((w.alloc o1).alloc o2).alloc o3).alloc o4) :=
  ((((Below.refl _ _).alloc (Nat.le_refl _) _).alloc (by simp) _).alloc (by simp; omega) _).alloc (by simp; omega) _

set_option maxRecDepth 100000 in
set_option maxHeartbeats 4000000 in
theorem calMul_any (c : Nat) (err : Int) (a b : Nat × Nat) (w : World) (hc : Cal c err w) (ha : Dy.WW a) (hb : Dy.WW b) :
    Calls Try.prog 25 #[.pointer (some ⟨c, 0, none⟩), iv a, iv b] w (Asked c (Dy.cMul err a b) w) := by
  have HA := hid (fun (w1 : World) (k : Cal c err w1) (p q t : Nat) (lp : p < w1.heap.size) (lq : q < w1.heap.size) (p0 : w1.cell? ⟨p, 0, none⟩ = some (.float .f64 a.1)) (p1 : w1.cell? ⟨p, 1, none⟩ = some (.float .f64 a.2)) (q0 : w1.cell? ⟨q, 0, none⟩ = some (.float .f64 b.1)) (q1 : w1.cell? ⟨q, 1, none⟩ = some (.float .f64 b.2))
      (ht : t < w1.heap.size) (t0 : w1.cell? ⟨t, 0, none⟩ = some (.float .f64 a.1)) (t1 : w1.cell? ⟨t, 1, none⟩ = some (.float .f64 a.2)) (t2 : w1.cell? ⟨t, 2, none⟩ = some (.float .f64 b.1)) (t3 : w1.cell? ⟨t, 3, none⟩ = some (.float .f64 b.2)) =>
    ask_mul c err ⟨p, 0, none⟩ ⟨q, 0, none⟩ a b (Dy.iAll Dy.dMul a b) w1 t ht k ha hb t0 t1 t2 t3 (fun ra rb => hid (mul1_ans a b p q w1 ha hb ra rb lp lq p0 p1 q0 q1)))
  have hE : Dy.cMul err a b = Dy.cAsk err (Dy.ivR a && Dy.ivR b) (Dy.iAll Dy.dMul a b) := rfl
  rw [hE]
  generalize Dy.cAsk err (Dy.ivR a && Dy.ivR b) (Dy.iAll Dy.dMul a b) = r at *
  obtain ⟨⟨r1, r2⟩, re⟩ := r
  obtain ⟨a1, a2⟩ := a
  obtain ⟨b1, b2⟩ := b
  clear hE
  dsimp only at *
  have HC := hid hc
  clear hc ha hb
  go_enter Try.func25, Try.ntmps25
  go_wp2_with fail
  refine (HA.out _ (HC.out.keep (below4 w _ _ _ _)) w.heap.size (w.heap.size + 1) (w.heap.size + 3) (by simp <;> omega) (by simp <;> omega) (by simp [go_sem]) (by simp [go_sem]) (by simp [go_sem]) (by simp [go_sem]) (by simp <;> omega) (by simp [go_sem]) (by simp [go_sem]) (by simp [go_sem]) (by simp [go_sem])).mono ?_
  rintro e w1 ⟨rfl, hB, hC⟩
  have hlt := HC.out.lt
  obtain ⟨q1, q2⟩ := asked_cells (q := w.heap.size + 2) hB (by simp <;> omega) (by omega)
  have c0 : w1.cell? ⟨w.heap.size + 2, 0, none⟩ = some (.float .f64 0) := (q1 0).trans (by simp [go_sem])
  have c1 : w1.cell? ⟨w.heap.size + 2, 1, none⟩ = some (.float .f64 0) := (q1 1).trans (by simp [go_sem])
  have f0 : w1.frozen? ⟨w.heap.size + 2, 0, none⟩ = false := (q2 0).trans (by simp [go_sem])
  have f1 : w1.frozen? ⟨w.heap.size + 2, 1, none⟩ = false := (q2 1).trans (by simp [go_sem])
  clear q1 q2
  go_wp2_with fail
  exact bodyPost_ret (v := iv (r1, r2)) (by simp [results, Try.results25, go_sem, c0, c1]) rfl ⟨rfl, asked_end (below4 w _ _ _ _) hB hC (by omega) (by omega)⟩
end Go.Proofs.Ythfgdhobldejmaa
