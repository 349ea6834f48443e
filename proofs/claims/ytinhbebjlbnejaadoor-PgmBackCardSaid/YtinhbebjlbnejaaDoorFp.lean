/- Walks: pgm.kept, Level; burnishlaw28.level. -/
import Derived.Test.YtinhbebjlbnejaaDoorFo
import Derived.Test.YtinhbebjlbnejaaDoorN4
import Derived.Laws.FloatArith
namespace Go.Proofs.YtinhbebjlbnejaaDoor
open Go Go.RowKit
open Go.Lib (hid)
set_option linter.unusedSimpArgs false
set_option linter.unusedVariables false

namespace Pg
/-- An end, kept within 0 and 1. -/
def keptF (x : Nat) : Nat := Dy.dmin (Dy.dmax x 0) 4607182418800017408
/-- A level, ahead of its cut. -/
def levelF (lo hi : Nat) : Nat := (Dy.dAdd (Dy.dMul (Dy.dAdd (keptF lo) (keptF hi) false).1 4638672431819522048 false).1 4602678819172646912 false).1
theorem dmax_in (P : Nat → Prop) {a b : Nat} (ha : P a) (hb : P b) : P (Dy.dmax a b) := by unfold Dy.dmax; split <;> assumption
theorem dmin_in (P : Nat → Prop) {a b : Nat} (ha : P a) (hb : P b) : P (Dy.dmin a b) := by unfold Dy.dmin; split <;> assumption
theorem W_k : Dy.W 4607182418800017408 := W_lit (by decide)
theorem right_k : Dy.right 4607182418800017408 = true := by decide +kernel
theorem keptF_W {x : Nat} (h : Dy.W x) : Dy.W (keptF x) := dmin_in Dy.W (dmax_in Dy.W h Dy.W_zero) W_k
theorem keptF_right {x : Nat} (h : Dy.right x = true) : Dy.right (keptF x) = true := dmin_in (Dy.right · = true) (dmax_in (Dy.right · = true) h Dy.right_zero) right_k
end Pg

set_option maxHeartbeats 1000000 in
theorem kept_any (lo hi : Nat) (w : World) (h1 : Dy.W lo) (h2 : Dy.W hi) (r1 : Dy.right lo = true) (r2 : Dy.right hi = true) :
    Calls Tryd.prog 35 #[.agg #[.float .f64 lo, .float .f64 hi]] w fun e w' => e = .returned (.agg #[.float .f64 (Pg.keptF lo), .float .f64 (Pg.keptF hi)]) ∧ Below w.heap.size w w' := by
  have a1 := fun ats t w => run_max (P := Tryd.prog) lo 0 ats t w h1 Dy.W_zero r1 Dy.right_zero
  have a2 := fun ats t w => run_max (P := Tryd.prog) hi 0 ats t w h2 Dy.W_zero r2 Dy.right_zero
  have b1 := fun ats t w => run_min (P := Tryd.prog) (Dy.dmax lo 0) 4607182418800017408 ats t w (Pg.dmax_in Dy.W h1 Dy.W_zero) Pg.W_k (Pg.dmax_in (Dy.right · = true) r1 Dy.right_zero) Pg.right_k
  have b2 := fun ats t w => run_min (P := Tryd.prog) (Dy.dmax hi 0) 4607182418800017408 ats t w (Pg.dmax_in Dy.W h2 Dy.W_zero) Pg.W_k (Pg.dmax_in (Dy.right · = true) r2 Dy.right_zero) Pg.right_k
  obtain ⟨k1, e1⟩ : ∃ k, k = Pg.keptF lo := ⟨_, rfl⟩
  obtain ⟨k2, e2⟩ : ∃ k, k = Pg.keptF hi := ⟨_, rfl⟩
  rw [show Dy.dmin (Dy.dmax lo 0) 4607182418800017408 = k1 from e1.symm] at b1
  rw [show Dy.dmin (Dy.dmax hi 0) 4607182418800017408 = k2 from e2.symm] at b2
  rw [← e1, ← e2]
  generalize Dy.dmax lo 0 = m1 at *
  generalize Dy.dmax hi 0 = m2 at *
  clear e1 e2 h1 h2 r1 r2
  go_enter Tryd.func35, Tryd.ntmps35
  go_wp2
  refine bodyPost_ret (v := .agg #[.float .f64 k1, .float .f64 k2]) (by simp [results, Tryd.results35, go_sem]) rfl ⟨rfl, ?_⟩
  exact below2 w _ _

theorem box_after {w wa : World} {cs : Array Value} {t : TypeId} (ha : Below (w.alloc (.cells cs t)).heap.size (w.alloc (.cells cs t)) wa) : wa.heap[w.heap.size]? = some (.cells cs t (0, 0)) :=
  (ha.block _ (by simp)).trans (World.alloc_heap_new w _)
theorem box_keep {wa wb : World} {b : Nat} {o : Obj} (h : wa.heap[b]? = some o) (hb : Below wa.heap.size wa wb) : wb.heap[b]? = some o :=
  (hb.block _ (Array.getElem?_eq_some_iff.1 h).1).trans h
theorem box_c0 {w : World} {b : Nat} {x y : Value} {t : TypeId} (h : w.heap[b]? = some (.cells #[x, y] t (0, 0))) : w.cell? ⟨b, 0, none⟩ = some x := by rw [Lib.cell_of_heap h]; rfl
theorem box_c1 {w : World} {b : Nat} {x y : Value} {t : TypeId} (h : w.heap[b]? = some (.cells #[x, y] t (0, 0))) : w.cell? ⟨b, 1, none⟩ = some y := by rw [Lib.cell_of_heap h]; rfl

set_option maxHeartbeats 2000000 in
theorem level_yes (lo hi : Nat) (n : Int) (w : World) (h1 : Dy.W lo) (h2 : Dy.W hi) (hr : Dy.ivR (lo, hi) = true) (hn : floatToIntVal .f64 (Pg.levelF lo hi) .u8 = some n) :
    Calls Tryd.prog 14 #[.agg #[.float .f64 lo, .float .f64 hi]] w fun e w' => e = .returned (.tuple #[.int .u8 n, .int .i64 0]) ∧ Below w.heap.size w w' := by
  have hrr := Dy.ivR_of hr
  have HR := hid (fun w => ivRight_any (lo, hi) w ⟨h1, h2⟩)
  rw [hr] at HR
  have HK := hid (fun w => kept_any lo hi w h1 h2 hrr.1 hrr.2.1)
  have w1 := Pg.keptF_W h1
  have w2 := Pg.keptF_W h2
  unfold Pg.levelF at hn
  generalize Pg.keptF lo = k1 at *
  generalize Pg.keptF hi = k2 at *
  have HA := hid (fun w => add_any k1 k2 false w w1 w2)
  obtain ⟨x, hx⟩ : ∃ x, x = Dy.dAdd k1 k2 false := ⟨_, rfl⟩
  have wx : Dy.W x.1 := by rw [hx]; exact Dy.dAdd_W _ _ _
  rw [← hx] at HA hn
  have HM := hid (fun w => mul_any x.1 4638672431819522048 false w wx (W_lit (by decide)))
  obtain ⟨y, hy⟩ : ∃ y, y = Dy.dMul x.1 4638672431819522048 false := ⟨_, rfl⟩
  have wy : Dy.W y.1 := by rw [hy]; exact Dy.dMul_W _ _ _
  rw [← hy] at HM hn
  have HB := hid (fun w => add_any y.1 4602678819172646912 false w wy (W_lit (by decide)))
  obtain ⟨z, hz⟩ : ∃ z, z = Dy.dAdd y.1 4602678819172646912 false := ⟨_, rfl⟩
  rw [← hz] at HB hn
  have HC := fun w => run_convert_float_int (P := Tryd.prog) w 36 5 .f64 .u8 z.1 n (by kernel_rfl) Tryd.underlying5 hn
  clear hx hy hz w1 w2 wx wy hn hrr hr h1 h2
  obtain ⟨x1, x2⟩ := x
  obtain ⟨y1, y2⟩ := y
  obtain ⟨z1, z2⟩ := z
  go_enter Tryd.func14, Tryd.ntmps14
  go_wp2_with (first
    | (go_at_call 15; (with_reducible refine (HR.out _).mono ?_); rintro e wa ⟨rfl, ha⟩; have ba := box_after ha; have ca0 := box_c0 ba; have ca1 := box_c1 ba)
    | (go_at_call 35; (with_reducible refine (HK.out _).mono ?_); rintro e wb ⟨rfl, hb⟩; have bb := box_keep ba hb; have cb0 := box_c0 bb; have cb1 := box_c1 bb; have fb0 := Lib.frozen_of_heap bb 0; have fb1 := Lib.frozen_of_heap bb 1)
    | (go_at_call 36; first | ((with_reducible refine (HA.out _).mono ?_); rintro e wc ⟨rfl, hc⟩) | ((with_reducible refine (HB.out _).mono ?_); rintro e we ⟨rfl, he⟩))
    | (go_at_call 37; (with_reducible refine (HM.out _).mono ?_); rintro e wd ⟨rfl, hd⟩))
  have b1 : Below w.heap.size w wb := ((Below.refl _ w).alloc (Nat.le_refl _) (.cells #[.float .f64 lo, .float .f64 hi] 38)).trans ((ha.mono (by simp)).trans (hb.mono (Nat.le_trans (by simp) ha.size)))
  have b2 : Below w.heap.size w wc := ((b1.setCell (p := ⟨_, 0, none⟩) (Nat.le_refl _) _).setCell (p := ⟨_, 1, none⟩) (Nat.le_refl _) _).trans (hc.mono (by simpa using b1.size))
  have b3 := b2.trans (hd.mono b2.size)
  go_ret2
  exact ⟨rfl, b3.trans (he.mono b3.size)⟩

set_option maxHeartbeats 1000000 in
theorem level_no (lo hi : Nat) (w : World) (h1 : Dy.W lo) (h2 : Dy.W hi) (hr : Dy.ivR (lo, hi) = false) :
    Calls Tryd.prog 14 #[.agg #[.float .f64 lo, .float .f64 hi]] w fun e w' => e = .returned (.tuple #[.int .u8 0, .int .i64 20]) ∧ Below w.heap.size w w' := by
  have HR := hid (fun w => ivRight_any (lo, hi) w ⟨h1, h2⟩)
  rw [hr] at HR
  clear hr h1 h2
  go_enter Tryd.func14, Tryd.ntmps14
  go_wp2_with (go_at_call 15; (with_reducible refine (HR.out _).mono ?_); rintro e wa ⟨rfl, ha⟩)
  go_ret2
  exact ⟨rfl, ((Below.refl _ w).alloc (Nat.le_refl _) (.cells #[.float .f64 lo, .float .f64 hi] 38)).trans (ha.mono (by simp))⟩

set_option maxHeartbeats 1000000 in
theorem lawLevel_yes (lo hi : Nat) (n m : Int) (w : World) (h1 : Dy.W lo) (h2 : Dy.W hi) (hr : Dy.ivR (lo, hi) = true) (hn : floatToIntVal .f64 (Pg.levelF lo hi) .u8 = some n) :
    Calls Tryd.prog 23 #[.float .f64 lo, .float .f64 hi, .int .u8 m] w fun e w' => e = .returned (.bool (n == m)) ∧ Below w.heap.size w w' := by
  have HL := hid (fun w => level_yes lo hi n w h1 h2 hr hn)
  clear hr h1 h2 hn
  go_enter Tryd.func23, Tryd.ntmps23
  go_wp2_with (go_at_call 14; (with_reducible refine (HL.out _).mono ?_); rintro e wa ⟨rfl, ha⟩)
  go_ret
  exact ⟨rfl, ha⟩
end Go.Proofs.YtinhbebjlbnejaaDoor
