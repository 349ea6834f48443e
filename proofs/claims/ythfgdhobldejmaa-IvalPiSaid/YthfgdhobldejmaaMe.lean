/- Walks: package ival: a calculator's Num, Add, Sub. -/
import Derived.Test.YthfgdhobldejmaaMd
import Derived.Deep.RegionHeld3
namespace Go.Proofs.Ythfgdhobldejmaa
open Go.RowKit

/-- The answer, stored into the result's own block q: what is asked of a method. -/
theorem asked_end {c q : Nat} {re : Int} {u v : Value} {w W w1 : World} (hb : Below w.heap.size w W) (hB : But c W.heap.size W w1) (hC : Cal c re w1) (hq : w.heap.size ≤ q) (hc : c ≠ q) :
    But c w.heap.size w ((w1.setCell ⟨q, 0, none⟩ u).setCell ⟨q, 1, none⟩ v) ∧ Cal c re ((w1.setCell ⟨q, 0, none⟩ u).setCell ⟨q, 1, none⟩ v) := by
  refine ⟨((But.of hb).trans (hB.mono hb.size)).trans (But.of (((Below.refl w.heap.size _).setCell hq _).setCell hq _)), ?_, ?_, ?_⟩
  · simp; exact hC.lt
  · rw [World.cell?_setCell_other _ _ _ _ (fun h => hc (congrArg Addr.block h).symm), World.cell?_setCell_other _ _ _ _ (fun h => hc (congrArg Addr.block h).symm)]; exact hC.cell
  · simp [go_sem]; exact hC.free
theorem asked_cells {c q : Nat} {W w1 : World} (hB : But c W.heap.size W w1) (hq : q < W.heap.size) (hc : q ≠ c) :
    (∀ o, w1.cell? ⟨q, o, none⟩ = W.cell? ⟨q, o, none⟩) ∧ (∀ o, w1.frozen? ⟨q, o, none⟩ = W.frozen? ⟨q, o, none⟩) := ⟨fun _ => hB.cell hq hc, fun _ => hB.frozen hq hc⟩

set_option maxHeartbeats 1000000 in
theorem num1_ans (x : Nat) (p : Nat) (w : World) (hx : Dy.W x) (hp : p < w.heap.size) (c0 : w.cell? ⟨p, 0, none⟩ = some (.float .f64 x)) :
    Ans 56 #[.pointer (some ⟨p, 0, none⟩)] (if Dy.right x then ((x, x), (0 : Int)) else Dy.ivNo 13) w := by
  intro w' hb
  have k0 := carry hb hp c0
  have hp' : p < w'.heap.size := Nat.lt_of_lt_of_le hp hb.size
  have H := hid (fun w => ivOf_any x w hx)
  generalize (if Dy.right x then ((x, x), (0 : Int)) else Dy.ivNo 13) = r at *
  obtain ⟨⟨r1, r2⟩, re⟩ := r
  dsimp only at *
  clear c0 hb
  go_enter Try.func56, Try.ntmps56
  go_wp2_with fail
  refine (H.out _).mono ?_
  rintro e w1 ⟨rfl, b1⟩
  have c0 : w1.cell? ⟨w'.heap.size, 0, none⟩ = some (.float .f64 0) := carry b1 (by simp) (by simp [go_sem])
  have c1 : w1.cell? ⟨w'.heap.size, 1, none⟩ = some (.float .f64 0) := carry b1 (by simp) (by simp [go_sem])
  have f0 : w1.frozen? ⟨w'.heap.size, 0, none⟩ = false := (b1.frozen (p := ⟨w'.heap.size, 0, none⟩) (by simp)).trans (by simp [go_sem])
  have f1 : w1.frozen? ⟨w'.heap.size, 1, none⟩ = false := (b1.frozen (p := ⟨w'.heap.size, 1, none⟩) (by simp)).trans (by simp [go_sem])
  have hz := b1.size
  simp at hz
  go_wp2_with fail
  refine bodyPost_ret (v := .tuple #[iv (r1, r2), .int .i64 re]) (by simp [results, Try.results56, go_sem, c0, c1]) rfl ⟨rfl, ?_⟩
  exact (((Below.refl _ _).alloc (Nat.le_refl _) _).trans (b1.mono (by simp))).setCell (by simp) _ |>.setCell (by simp) _

set_option maxRecDepth 100000 in
set_option maxHeartbeats 1000000 in
theorem calNum_any (c : Nat) (err : Int) (x : Nat) (w : World) (hc : Cal c err w) (hx : Dy.W x) :
    Calls Try.prog 26 #[.pointer (some ⟨c, 0, none⟩), .float .f64 x] w (Asked c (Dy.cNum err x) w) := by
  have HA := hid (fun (w1 : World) (k : Cal c err w1) (p : Nat) (hp : p < w1.heap.size) (c0 : w1.cell? ⟨p, 0, none⟩ = some (.float .f64 x)) => ask_num c err ⟨p, 0, none⟩ (if Dy.right x then ((x, x), (0 : Int)) else Dy.ivNo 13) w1 k (hid (num1_ans x p w1 hx hp c0)))
  have hE : Dy.cNum err x = Dy.cAsk err true (if Dy.right x then ((x, x), (0 : Int)) else Dy.ivNo 13) := rfl
  rw [hE]
  generalize Dy.cAsk err true (if Dy.right x then ((x, x), (0 : Int)) else Dy.ivNo 13) = r at *
  obtain ⟨⟨r1, r2⟩, re⟩ := r
  clear hE
  have HC := hid hc
  clear hc
  go_enter Try.func26, Try.ntmps26
  go_wp2_with fail
  have bW : Below w.heap.size w ((w.alloc (.cells #[.float .f64 x] 24)).alloc (.cells #[.float .f64 0, .float .f64 0] 26)) := ((Below.refl _ _).alloc (Nat.le_refl _) _).alloc (by simp) _
  refine (HA.out _ (HC.out.keep bW) w.heap.size (by simp <;> omega) (by simp [go_sem])).mono ?_
  rintro e w1 ⟨rfl, hB, hC⟩
  have hlt := HC.out.lt
  obtain ⟨q1, q2⟩ := asked_cells (q := w.heap.size + 1) hB (by simp) (by omega)
  have c0 : w1.cell? ⟨w.heap.size + 1, 0, none⟩ = some (.float .f64 0) := (q1 0).trans (by simp [go_sem])
  have c1 : w1.cell? ⟨w.heap.size + 1, 1, none⟩ = some (.float .f64 0) := (q1 1).trans (by simp [go_sem])
  have f0 : w1.frozen? ⟨w.heap.size + 1, 0, none⟩ = false := (q2 0).trans (by simp [go_sem])
  have f1 : w1.frozen? ⟨w.heap.size + 1, 1, none⟩ = false := (q2 1).trans (by simp [go_sem])
  clear q1 q2
  go_wp2_with fail
  exact bodyPost_ret (v := iv (r1, r2)) (by simp [results, Try.results26, go_sem, c0, c1]) rfl ⟨rfl, asked_end bW hB hC (by omega) (by omega)⟩
end Go.Proofs.Ythfgdhobldejmaa
