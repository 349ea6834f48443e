/- Walks: package ival: a calculator's Add, Sub: the methods. -/
import Derived.Test.YthfgdhobldejmaaMf
import Derived.Laws.EntriesVeiled
namespace Go.Proofs.Ythfgdhobldejmaa
open Go.RowKit

theorem below5 (w : World) (o1 o2 o3 o4 o5 : Obj) : Below w.heap.size w (((((w.alloc o1).alloc o2).alloc o3).alloc o4).alloc o5) :=
  (((((Below.refl _ _).alloc (Nat.le_refl _) _).alloc (by simp) _).alloc (by simp; omega) _).alloc (by simp; omega) _).alloc (by simp; omega) _

set_option maxRecDepth 100000 in
set_option maxHeartbeats 4000000 in
theorem calAdd_any (c : Nat) (err : Int) (a b : Nat × Nat) (w : World) (hc : Cal c err w) (ha : Dy.WW a) (hb : Dy.WW b) :
    Calls Try.prog 29 #[.pointer (some ⟨c, 0, none⟩), iv a, iv b] w (Asked c (Dy.cAdd err a b) w) := by
  have HA := hid (fun (w1 : World) (k : Cal c err w1) (p q s t : Nat) (hi : Inn p q s (.func (Fn.func 58) #[.func (Fn.func 61) #[] #[]] #[]) a b w1) (ht : t < w1.heap.size) (t0 : w1.cell? ⟨t, 0, none⟩ = some (.float .f64 a.1)) (t1 : w1.cell? ⟨t, 1, none⟩ = some (.float .f64 a.2)) (t2 : w1.cell? ⟨t, 2, none⟩ = some (.float .f64 b.1)) (t3 : w1.cell? ⟨t, 3, none⟩ = some (.float .f64 b.2)) =>
    ask_add c err ⟨p, 0, none⟩ ⟨q, 0, none⟩ ⟨s, 0, none⟩ a b (Dy.iEnds (Dy.dAdd a.1 b.1 false) (Dy.dAdd a.2 b.2 true)) w1 t ht k ha hb t0 t1 t2 t3 (fun _ _ => hid (add1_ans a b p q s w1 ha hb hi)))
  have hE : Dy.cAdd err a b = Dy.cAsk err (Dy.ivR a && Dy.ivR b) (Dy.iEnds (Dy.dAdd a.1 b.1 false) (Dy.dAdd a.2 b.2 true)) := rfl
  rw [hE]
  generalize Dy.cAsk err (Dy.ivR a && Dy.ivR b) (Dy.iEnds (Dy.dAdd a.1 b.1 false) (Dy.dAdd a.2 b.2 true)) = r at *
  obtain ⟨⟨r1, r2⟩, re⟩ := r
  obtain ⟨a1, a2⟩ := a
  obtain ⟨b1, b2⟩ := b
  clear hE
  dsimp only at *
  have HC := hid hc
  clear hc ha hb
  go_enter Try.func29, Try.ntmps29
  go_wp2_with fail
  refine (HA.out _ (HC.out.keep (below5 w _ _ _ _ _)) (w.heap.size + 3) w.heap.size (w.heap.size + 1) (w.heap.size + 4) ⟨by simp <;> omega, by simp <;> omega, by simp <;> omega, by simp [go_sem], by simp [go_sem], by simp [go_sem], by simp [go_sem], by simp [go_sem]⟩ (by simp <;> omega) (by simp [go_sem]) (by simp [go_sem]) (by simp [go_sem]) (by simp [go_sem])).mono ?_
  rintro e w1 ⟨rfl, hB, hC⟩
  have hlt := HC.out.lt
  obtain ⟨q1, q2⟩ := asked_cells (q := w.heap.size + 2) hB (by simp <;> omega) (by omega)
  have c0 : w1.cell? ⟨w.heap.size + 2, 0, none⟩ = some (.float .f64 0) := (q1 0).trans (by simp [go_sem])
  have c1 : w1.cell? ⟨w.heap.size + 2, 1, none⟩ = some (.float .f64 0) := (q1 1).trans (by simp [go_sem])
  have f0 : w1.frozen? ⟨w.heap.size + 2, 0, none⟩ = false := (q2 0).trans (by simp [go_sem])
  have f1 : w1.frozen? ⟨w.heap.size + 2, 1, none⟩ = false := (q2 1).trans (by simp [go_sem])
  clear q1 q2
  go_wp2_with fail
  exact bodyPost_ret (v := iv (r1, r2)) (by simp [results, Try.results29, go_sem, c0, c1]) rfl ⟨rfl, asked_end (below5 w _ _ _ _ _) hB hC (by omega) (by omega)⟩

set_option maxRecDepth 100000 in
set_option maxHeartbeats 4000000 in
theorem calSub_any (c : Nat) (err : Int) (a b : Nat × Nat) (w : World) (hc : Cal c err w) (ha : Dy.WW a) (hb : Dy.WW b) :
    Calls Try.prog 28 #[.pointer (some ⟨c, 0, none⟩), iv a, iv b] w (Asked c (Dy.cSub err a b) w) := by
  have HA := hid (fun (w1 : World) (k : Cal c err w1) (p q s t : Nat) (hi : Inn p q s (.func (Fn.func 58) #[.func (Fn.func 51) #[] #[]] #[]) a b w1) (ht : t < w1.heap.size) (t0 : w1.cell? ⟨t, 0, none⟩ = some (.float .f64 a.1)) (t1 : w1.cell? ⟨t, 1, none⟩ = some (.float .f64 a.2)) (t2 : w1.cell? ⟨t, 2, none⟩ = some (.float .f64 b.1)) (t3 : w1.cell? ⟨t, 3, none⟩ = some (.float .f64 b.2)) =>
    ask_sub c err ⟨p, 0, none⟩ ⟨q, 0, none⟩ ⟨s, 0, none⟩ a b (Dy.iEnds (Dy.dSub a.1 b.2 false) (Dy.dSub a.2 b.1 true)) w1 t ht k ha hb t0 t1 t2 t3 (fun _ _ => hid (sub1_ans a b p q s w1 ha hb hi)))
  have hE : Dy.cSub err a b = Dy.cAsk err (Dy.ivR a && Dy.ivR b) (Dy.iEnds (Dy.dSub a.1 b.2 false) (Dy.dSub a.2 b.1 true)) := rfl
  rw [hE]
  generalize Dy.cAsk err (Dy.ivR a && Dy.ivR b) (Dy.iEnds (Dy.dSub a.1 b.2 false) (Dy.dSub a.2 b.1 true)) = r at *
  obtain ⟨⟨r1, r2⟩, re⟩ := r
  obtain ⟨a1, a2⟩ := a
  obtain ⟨b1, b2⟩ := b
  clear hE
  dsimp only at *
  have HC := hid hc
  clear hc ha hb
  go_enter Try.func28, Try.ntmps28
  go_wp2_with fail
  refine (HA.out _ (HC.out.keep (below5 w _ _ _ _ _)) (w.heap.size + 3) w.heap.size (w.heap.size + 1) (w.heap.size + 4) ⟨by simp <;> omega, by simp <;> omega, by simp <;> omega, by simp [go_sem], by simp [go_sem], by simp [go_sem], by simp [go_sem], by simp [go_sem]⟩ (by simp <;> omega) (by simp [go_sem]) (by simp [go_sem]) (by simp [go_sem]) (by simp [go_sem])).mono ?_
  rintro e w1 ⟨rfl, hB, hC⟩
  have hlt := HC.out.lt
  obtain ⟨q1, q2⟩ := asked_cells (q := w.heap.size + 2) hB (by simp <;> omega) (by omega)
  have c0 : w1.cell? ⟨w.heap.size + 2, 0, none⟩ = some (.float .f64 0) := (q1 0).trans (by simp [go_sem])
  have c1 : w1.cell? ⟨w.heap.size + 2, 1, none⟩ = some (.float .f64 0) := (q1 1).trans (by simp [go_sem])
  have f0 : w1.frozen? ⟨w.heap.size + 2, 0, none⟩ = false := (q2 0).trans (by simp [go_sem])
  have f1 : w1.frozen? ⟨w.heap.size + 2, 1, none⟩ = false := (q2 1).trans (by simp [go_sem])
  clear q1 q2
  go_wp2_with fail
  exact bodyPost_ret (v := iv (r1, r2)) (by simp [results, Try.results28, go_sem, c0, c1]) rfl ⟨rfl, asked_end (below5 w _ _ _ _ _) hB hC (by omega) (by omega)⟩

end Go.Proofs.Ythfgdhobldejmaa
