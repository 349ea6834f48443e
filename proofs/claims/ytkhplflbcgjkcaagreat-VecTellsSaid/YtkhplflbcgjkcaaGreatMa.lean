/- Walks: package ival: Neg of any interval, right or not. -/
import Derived.Test.YtkhplflbcgjkcaaGreatYk
import Derived.Deep.RegionWith
namespace Go.Proofs.YtkhplflbcgjkcaaGreat
open Go Go.RowKit
set_option linter.unusedSimpArgs false
set_option linter.unusedVariables false
theorem sub_pick (x : Nat) : ∃ R : TypeId → World → Nat × Nat, ∀ t w, (R t w).1 < W64 ∧ (binOp .sub t (.float .f64 0) (.float .f64 x)).run Tryz.prog w = .ok (.float .f64 (R t w).1) (w.drewN (R t w).2) :=
 ⟨fun t w => ((fsub_any (P := Tryz.prog) 0 x t w).choose, (fsub_any (P := Tryz.prog) 0 x t w).choose_spec.choose), fun t w => (fsub_any (P := Tryz.prog) 0 x t w).choose_spec.choose_spec⟩
theorem below_drewN {B : Nat} {a w : World} (h : Below B a w) (n : Nat) : Below B a (w.drewN n) := ⟨h.os, h.tape, h.output, h.size, h.block⟩
@[go_sem] theorem cell_drewN (w : World) (n : Nat) (a : Addr) : (w.drewN n).cell? a = w.cell? a := rfl
@[go_sem] theorem frozen_drewN (w : World) (n : Nat) (a : Addr) : (w.drewN n).frozen? a = w.frozen? a := rfl
set_option maxRecDepth 100000 in
set_option maxHeartbeats 1000000 in
theorem turned_all (a : Nat × Nat) (w : World) (ha : Dy.WW a) :
  Calls Tryz.prog 133 #[iv a] w fun e w' => ∃ b : Nat × Nat, e = .returned (iv b) ∧ (Dy.ivR a = true → b = Dy.iTurned a) ∧ Below w.heap.size w w' := by
 cases ra : Dy.ivR a
 ·obtain ⟨R1, e1⟩ := sub_pick a.1
  obtain ⟨R2, e2⟩ := sub_pick a.2
  have n1 := fun t w => (e1 t w).2
  have n2 := fun t w => (e2 t w).2
  obtain ⟨lo, hi⟩ := a
  dsimp only at *
  clear e1 e2 ra ha
  go_enter Tryz.func133, Tryz.ntmps133
  go_wp2
  generalize hW : (w.alloc (.cells #[.float .f64 lo, .float .f64 hi] 24)).alloc (.cells #[.float .f64 0, .float .f64 0] 24) = W
  generalize R2 22 W = q2
  obtain ⟨x, k2⟩ := q2
  dsimp only
  generalize R1 22 (W.drewN k2) = q1
  obtain ⟨y, k1⟩ := q1
  dsimp only
  subst hW
  refine bodyPost_ret (v := iv (x, y)) (by simp [results, Tryz.results133, go_sem]) rfl ⟨(x, y), rfl, fun h => (by cases h), ?_⟩
  exact ((below_drewN (((Below.refl _ _).alloc (Nat.le_refl _) _).alloc (by simp) _) _).setCell (by simp) _).setCell (by simp) _
 ·exact (turned_any a w ha ra).mono fun e w' ⟨h1, h2⟩ => ⟨_, h1, fun _ => rfl, h2⟩
set_option maxRecDepth 100000 in
set_option maxHeartbeats 1000000 in
theorem known_all (b : Nat × Nat) (w : World) :
  Calls Tryz.prog 127 #[iv b] w fun e w' => ∃ p, e = .returned (.func (Fn.func 160) #[] #[.pointer (some ⟨p, 0, none⟩)]) ∧ w.heap.size ≤ p ∧ p < w'.heap.size ∧ w'.cell? ⟨p, 0, none⟩ = some (.float .f64 b.1) ∧ w'.cell? ⟨p, 1, none⟩ = some (.float .f64 b.2) ∧ Below w.heap.size w w' := by
 obtain ⟨lo, hi⟩ := b
 go_enter Tryz.func127, Tryz.ntmps127
 go_wp2
 go_ret
 exact ⟨_, rfl, Nat.le_refl _, by simp, by simp [go_sem], by simp [go_sem], (Below.refl _ _).alloc (Nat.le_refl _) _⟩
set_option maxRecDepth 100000 in
set_option maxHeartbeats 4000000 in
theorem calNeg_all (c : Nat) (err : Int) (a : Nat × Nat) (w : World) (hc : Cal c err w) (ha : Dy.WW a) :
  Calls Tryz.prog 72 #[.pointer (some ⟨c, 0, none⟩), iv a] w (Asked c (Dy.cNeg err a) w) := by
 have HT := hid (fun w => turned_all a w ha)
 have HK := hid (fun b w => known_all b w)
 obtain ⟨lo, hi⟩ := a
 have HA : Hid (∀ (w1 : World) (p s : Nat) (b : Nat × Nat), Below w.heap.size w w1 → (Dy.ivR (lo, hi) = true → b = Dy.iTurned (lo, hi)) → p < w1.heap.size → w1.cell? ⟨p, 0, none⟩ = some (.float .f64 b.1) → w1.cell? ⟨p, 1, none⟩ = some (.float .f64 b.2) → s < w1.heap.size → w1.cell? ⟨s, 0, none⟩ = some (.float .f64 lo) → w1.cell? ⟨s, 1, none⟩ = some (.float .f64 hi) →
   Calls Tryz.prog 102 #[.pointer (some ⟨c, 0, none⟩), .func (Fn.func 160) #[] #[.pointer (some ⟨p, 0, none⟩)], .slice (some ⟨s, 0, none⟩) 1 1] w1 (Asked c (Dy.cNeg err (lo, hi)) w1)) := hid (by
  intro w1 p s b hb hr hp p0 p1 hs s0 s1
  have e : Dy.cAsk err (Dy.ivR (lo, hi)) (b, 0) = Dy.cNeg err (lo, hi) := by
   unfold Dy.cNeg
   cases h : Dy.ivR (lo, hi)
   ·unfold Dy.cAsk; simp
   ·rw [hr h]
  rw [← e]
  exact ask_known1 c err ⟨p, 0, none⟩ (lo, hi) (b, 0) w1 s hs (hc.keep hb) ha s0 s1 (fun _ => hid (known_ans b p w1 hp p0 p1)))
 have HC := hid hc
 clear hc ha
 generalize Dy.cNeg err (lo, hi) = r at *
 obtain ⟨⟨r1, r2⟩, re⟩ := r
 go_enter Tryz.func72, Tryz.ntmps72
 go_wp2_with fail
 go_region_with (first | (go_at_call 133; refine (HT.out _).mono ?_; rintro e wt ⟨b, rfl, hbt, bt⟩; have Bt : Below w.heap.size w wt := (by first | exact (((Below.refl _ w).alloc (Nat.le_refl _) _).alloc (by simp) _).drew.trans (bt.mono (by simp <;> omega)) | exact ((((Below.refl _ w).alloc (Nat.le_refl _) _).alloc (by simp) _).drew.alloc (by simp <;> omega) _).trans (bt.mono (by simp <;> omega))); have zt := bt.size; (try simp at zt); have ct0 : wt.cell? ⟨w.heap.size, 0, none⟩ = some (.float .f64 lo) := (bt.cell (p := ⟨w.heap.size, 0, none⟩) (by simp <;> omega)).trans (by simp [go_sem]); have ct1 : wt.cell? ⟨w.heap.size, 1, none⟩ = some (.float .f64 hi) := (bt.cell (p := ⟨w.heap.size, 1, none⟩) (by simp <;> omega)).trans (by simp [go_sem]); have cz0 : wt.cell? ⟨w.heap.size + 1, 0, none⟩ = some (.float .f64 0) := (bt.cell (p := ⟨w.heap.size + 1, 0, none⟩) (by simp <;> omega)).trans (by simp [go_sem]); have cz1 : wt.cell? ⟨w.heap.size + 1, 1, none⟩ = some (.float .f64 0) := (bt.cell (p := ⟨w.heap.size + 1, 1, none⟩) (by simp <;> omega)).trans (by simp [go_sem]); have fz0 : wt.frozen? ⟨w.heap.size + 1, 0, none⟩ = false := (bt.frozen (p := ⟨w.heap.size + 1, 0, none⟩) (by simp <;> omega)).trans (by simp [go_sem]); have fz1 : wt.frozen? ⟨w.heap.size + 1, 1, none⟩ = false := (bt.frozen (p := ⟨w.heap.size + 1, 1, none⟩) (by simp <;> omega)).trans (by simp [go_sem])) | (go_at_call 127; refine (HK.out _ _).mono ?_; rintro e wk ⟨p, rfl, hp1, hp2, hk0, hk1, bk⟩; have Bk : Below w.heap.size w wk := (by first | exact Bt.trans (bk.mono Bt.size) | exact (Bt.alloc Bt.size _).trans (bk.mono (by have := Bt.size; simp; omega))); have zk := bk.size; (try simp at zk); have ck0 : wk.cell? ⟨w.heap.size, 0, none⟩ = some (.float .f64 lo) := (bk.cell (p := ⟨w.heap.size, 0, none⟩) (by simp <;> omega)).trans (by first | exact ct0 | exact (((Below.refl _ wt).alloc (Nat.le_refl _) _).cell (p := ⟨w.heap.size, 0, none⟩) (by simp <;> omega)).trans ct0); have ck1 : wk.cell? ⟨w.heap.size, 1, none⟩ = some (.float .f64 hi) := (bk.cell (p := ⟨w.heap.size, 1, none⟩) (by simp <;> omega)).trans (by first | exact ct1 | exact (((Below.refl _ wt).alloc (Nat.le_refl _) _).cell (p := ⟨w.heap.size, 1, none⟩) (by simp <;> omega)).trans ct1); have dz0 : wk.cell? ⟨w.heap.size + 1, 0, none⟩ = some (.float .f64 0) := (bk.cell (p := ⟨w.heap.size + 1, 0, none⟩) (by simp <;> omega)).trans (by first | exact cz0 | exact (((Below.refl _ wt).alloc (Nat.le_refl _) _).cell (p := ⟨w.heap.size + 1, 0, none⟩) (by simp <;> omega)).trans cz0); have gz0 : wk.frozen? ⟨w.heap.size + 1, 0, none⟩ = false := (bk.frozen (p := ⟨w.heap.size + 1, 0, none⟩) (by simp <;> omega)).trans (by first | exact fz0 | exact (((Below.refl _ wt).alloc (Nat.le_refl _) _).frozen (p := ⟨w.heap.size + 1, 0, none⟩) (by simp <;> omega)).trans fz0); have dz1 : wk.cell? ⟨w.heap.size + 1, 1, none⟩ = some (.float .f64 0) := (bk.cell (p := ⟨w.heap.size + 1, 1, none⟩) (by simp <;> omega)).trans (by first | exact cz1 | exact (((Below.refl _ wt).alloc (Nat.le_refl _) _).cell (p := ⟨w.heap.size + 1, 1, none⟩) (by simp <;> omega)).trans cz1); have gz1 : wk.frozen? ⟨w.heap.size + 1, 1, none⟩ = false := (bk.frozen (p := ⟨w.heap.size + 1, 1, none⟩) (by simp <;> omega)).trans (by first | exact fz1 | exact (((Below.refl _ wt).alloc (Nat.le_refl _) _).frozen (p := ⟨w.heap.size + 1, 1, none⟩) (by simp <;> omega)).trans fz1)) | (go_at_call 102; refine (HA.out _ _ _ _ (by first | exact Bk | exact Bk.alloc Bk.size _) hbt (by first | exact hp2 | (simp; omega)) (by first | exact hk0 | exact (((Below.refl _ wk).alloc (Nat.le_refl _) _).cell (p := ⟨p, 0, none⟩) hp2).trans hk0) (by first | exact hk1 | exact (((Below.refl _ wk).alloc (Nat.le_refl _) _).cell (p := ⟨p, 1, none⟩) hp2).trans hk1) (by first | (simp; done) | omega | (simp; omega)) (by first | (simp [go_sem]; done) | exact (bk.cell (p := ⟨wt.heap.size, 0, none⟩) (by simp)).trans (by simp [go_sem]) | exact (bk.cell (p := ⟨w.heap.size + 2, 0, none⟩) (by simp <;> omega)).trans ((bt.cell (p := ⟨w.heap.size + 2, 0, none⟩) (by simp)).trans (by simp [go_sem]))) (by first | (simp [go_sem]; done) | exact (bk.cell (p := ⟨wt.heap.size, 1, none⟩) (by simp)).trans (by simp [go_sem]) | exact (bk.cell (p := ⟨w.heap.size + 2, 1, none⟩) (by simp <;> omega)).trans ((bt.cell (p := ⟨w.heap.size + 2, 1, none⟩) (by simp)).trans (by simp [go_sem])))).mono ?_; rintro e w1 ⟨rfl, hB, hC⟩; have hlt := HC.out.lt; obtain ⟨q1, q2⟩ := asked_cells (q := w.heap.size + 1) hB (by first | omega | (simp; omega)) (by omega); have c0 : w1.cell? ⟨w.heap.size + 1, 0, none⟩ = some (.float .f64 0) := (q1 0).trans (by first | exact dz0 | exact (((Below.refl _ wk).alloc (Nat.le_refl _) _).cell (p := ⟨w.heap.size + 1, 0, none⟩) (by simp <;> omega)).trans dz0); have f0 : w1.frozen? ⟨w.heap.size + 1, 0, none⟩ = false := (q2 0).trans (by first | exact gz0 | exact (((Below.refl _ wk).alloc (Nat.le_refl _) _).frozen (p := ⟨w.heap.size + 1, 0, none⟩) (by simp <;> omega)).trans gz0); have c1 : w1.cell? ⟨w.heap.size + 1, 1, none⟩ = some (.float .f64 0) := (q1 1).trans (by first | exact dz1 | exact (((Below.refl _ wk).alloc (Nat.le_refl _) _).cell (p := ⟨w.heap.size + 1, 1, none⟩) (by simp <;> omega)).trans dz1); have f1 : w1.frozen? ⟨w.heap.size + 1, 1, none⟩ = false := (q2 1).trans (by first | exact gz1 | exact (((Below.refl _ wk).alloc (Nat.le_refl _) _).frozen (p := ⟨w.heap.size + 1, 1, none⟩) (by simp <;> omega)).trans gz1); clear q1 q2))
 all_goals
  go_wp2_with fail
  exact bodyPost_ret (v := iv (r1, r2)) (by simp [results, Tryz.results72, go_sem, c0, c1]) rfl ⟨rfl, asked_end (by first | exact Bk | exact Bk.alloc Bk.size _) hB hC (by omega) (by omega)⟩
end Go.Proofs.YtkhplflbcgjkcaaGreat
