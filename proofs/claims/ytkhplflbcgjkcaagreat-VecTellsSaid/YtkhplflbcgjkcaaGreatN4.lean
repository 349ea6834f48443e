/- Walks: package ival: a calculator's Sqrt, Sqr: the methods. Walks: package lambert: what a formula tells, if all arguments are right, and within 0 and 1. Walks: package lambert: Value, Density, Cap. Walks: package lambert: Value, Density, Cap: the functions. -/
import Derived.Test.YtkhplflbcgjkcaaGreatN3
import Derived.Test.YtkhplflbcgjkcaaGreatN2
namespace Go.Proofs.YtkhplflbcgjkcaaGreat
open Go.RowKit
theorem below3 (w : World) (o1 o2 o3 : Obj) : Below w.heap.size w (((w.alloc o1).alloc o2).alloc o3) :=
 (((Below.refl _ _).alloc (Nat.le_refl _) _).alloc (by simp) _).alloc (by simp; omega) _
set_option maxRecDepth 100000 in
set_option maxHeartbeats 4000000 in
theorem calSqrt_any (c : Nat) (err : Int) (a : Nat × Nat) (w : World) (hc : Cal c err w) (ha : Dy.WW a) :
  Calls Tryz.prog 71 #[.pointer (some ⟨c, 0, none⟩), iv a] w (Asked c (Dy.cSqrt err a) w) := by
 have HA := hid (fun (w1 : World) (k : Cal c err w1) (p q t : Nat) (hi : Inn p q q (.func (Fn.func 121) #[.func (Fn.func 130) #[] #[]] #[]) a a w1) (ht : t < w1.heap.size) (t0 : w1.cell? ⟨t, 0, none⟩ = some (.float .f64 a.1)) (t1 : w1.cell? ⟨t, 1, none⟩ = some (.float .f64 a.2)) =>
  ask_sqrt c err ⟨p, 0, none⟩ ⟨q, 0, none⟩ a (Dy.iEnds (Dy.dSqrt a.1 false) (Dy.dSqrt a.2 true)) w1 t ht k ha t0 t1 (fun _ => hid (sqrt2_ans a p q w1 ha hi)))
 have hE : Dy.cSqrt err a = Dy.cAsk err (Dy.ivR a) (Dy.iEnds (Dy.dSqrt a.1 false) (Dy.dSqrt a.2 true)) := rfl
 rw [hE]
 generalize Dy.cAsk err (Dy.ivR a) (Dy.iEnds (Dy.dSqrt a.1 false) (Dy.dSqrt a.2 true)) = r at *
 obtain ⟨⟨r1, r2⟩, re⟩ := r
 obtain ⟨a1, a2⟩ := a
 clear hE
 dsimp only at *
 have HC := hid hc
 clear hc ha
 go_enter Tryz.func71, Tryz.ntmps71
 go_wp2_with fail
 refine (HA.out _ (HC.out.keep (below4 w _ _ _ _)) (w.heap.size + 2) w.heap.size (w.heap.size + 3) ⟨by simp <;> omega, by simp <;> omega, by simp <;> omega, by simp [go_sem], by simp [go_sem], by simp [go_sem], by simp [go_sem], by simp [go_sem]⟩ (by simp <;> omega) (by simp [go_sem]) (by simp [go_sem])).mono ?_
 rintro e w1 ⟨rfl, hB, hC⟩
 have hlt := HC.out.lt
 obtain ⟨q1, q2⟩ := asked_cells (q := w.heap.size + 1) hB (by simp <;> omega) (by omega)
 have c0 : w1.cell? ⟨w.heap.size + 1, 0, none⟩ = some (.float .f64 0) := (q1 0).trans (by simp [go_sem])
 have c1 : w1.cell? ⟨w.heap.size + 1, 1, none⟩ = some (.float .f64 0) := (q1 1).trans (by simp [go_sem])
 have f0 : w1.frozen? ⟨w.heap.size + 1, 0, none⟩ = false := (q2 0).trans (by simp [go_sem])
 have f1 : w1.frozen? ⟨w.heap.size + 1, 1, none⟩ = false := (q2 1).trans (by simp [go_sem])
 clear q1 q2
 go_wp2_with fail
 exact bodyPost_ret (v := iv (r1, r2)) (by simp [results, Tryz.results71, go_sem, c0, c1]) rfl ⟨rfl, asked_end (below4 w _ _ _ _) hB hC (by omega) (by omega)⟩
set_option maxRecDepth 100000 in
set_option maxHeartbeats 4000000 in
theorem calSqr_any (c : Nat) (err : Int) (a : Nat × Nat) (w : World) (hc : Cal c err w) (ha : Dy.WW a) :
  Calls Tryz.prog 70 #[.pointer (some ⟨c, 0, none⟩), iv a] w (Asked c (Dy.cSqr err a) w) := by
 have HA := hid (fun (w1 : World) (k : Cal c err w1) (q t : Nat) (hi : Ivl q a w1) (ht : t < w1.heap.size) (t0 : w1.cell? ⟨t, 0, none⟩ = some (.float .f64 a.1)) (t1 : w1.cell? ⟨t, 1, none⟩ = some (.float .f64 a.2)) =>
  ask_sqr c err ⟨q, 0, none⟩ a (Dy.iEnds (Dy.dMul (Dy.iBare a).1 (Dy.iBare a).1 false) (Dy.dMul (Dy.iBare a).2 (Dy.iBare a).2 true)) w1 t ht k ha t0 t1 (fun ra => hid (sqr1_ans a q w1 ha ra hi)))
 have hE : Dy.cSqr err a = Dy.cAsk err (Dy.ivR a) (Dy.iEnds (Dy.dMul (Dy.iBare a).1 (Dy.iBare a).1 false) (Dy.dMul (Dy.iBare a).2 (Dy.iBare a).2 true)) := rfl
 rw [hE]
 generalize Dy.cAsk err (Dy.ivR a) (Dy.iEnds (Dy.dMul (Dy.iBare a).1 (Dy.iBare a).1 false) (Dy.dMul (Dy.iBare a).2 (Dy.iBare a).2 true)) = r at *
 obtain ⟨⟨r1, r2⟩, re⟩ := r
 obtain ⟨a1, a2⟩ := a
 clear hE
 dsimp only at *
 have HC := hid hc
 clear hc ha
 go_enter Tryz.func70, Tryz.ntmps70
 go_wp2_with fail
 refine (HA.out _ (HC.out.keep (below3 w _ _ _)) w.heap.size (w.heap.size + 2) ⟨by simp <;> omega, by simp [go_sem], by simp [go_sem]⟩ (by simp <;> omega) (by simp [go_sem]) (by simp [go_sem])).mono ?_
 rintro e w1 ⟨rfl, hB, hC⟩
 have hlt := HC.out.lt
 obtain ⟨q1, q2⟩ := asked_cells (q := w.heap.size + 1) hB (by simp <;> omega) (by omega)
 have c0 : w1.cell? ⟨w.heap.size + 1, 0, none⟩ = some (.float .f64 0) := (q1 0).trans (by simp [go_sem])
 have c1 : w1.cell? ⟨w.heap.size + 1, 1, none⟩ = some (.float .f64 0) := (q1 1).trans (by simp [go_sem])
 have f0 : w1.frozen? ⟨w.heap.size + 1, 0, none⟩ = false := (q2 0).trans (by simp [go_sem])
 have f1 : w1.frozen? ⟨w.heap.size + 1, 1, none⟩ = false := (q2 1).trans (by simp [go_sem])
 clear q1 q2
 go_wp2_with fail
 exact bodyPost_ret (v := iv (r1, r2)) (by simp [results, Tryz.results70, go_sem, c0, c1]) rfl ⟨rfl, asked_end (below3 w _ _ _) hB hC (by omega) (by omega)⟩
end Go.Proofs.YtkhplflbcgjkcaaGreat
namespace Go.Proofs.YtkhplflbcgjkcaaGreat
open Go.RowKit
def oL (a : Nat × Nat) : Bool := Dy.flt a.1 0
def oH (a : Nat × Nat) : Bool := Dy.fgt a.2 4607182418800017408
end Go.Proofs.YtkhplflbcgjkcaaGreat
namespace Go.Proofs.YtkhplflbcgjkcaaGreat
open Go.RowKit
end Go.Proofs.YtkhplflbcgjkcaaGreat
namespace Go.Proofs.YtkhplflbcgjkcaaGreat
open Go.RowKit
end Go.Proofs.YtkhplflbcgjkcaaGreat
