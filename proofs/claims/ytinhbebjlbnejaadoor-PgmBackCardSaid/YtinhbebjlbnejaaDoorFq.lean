/- Walks: pgm.Grey; burnishlaw28.grey. -/
import Derived.Test.YtinhbebjlbnejaaDoorFp
import Derived.Test.YtinhbebjlbnejaaDoorN2
namespace Go.Proofs.YtinhbebjlbnejaaDoor
open Go Go.RowKit
open Go.Lib (hid)
set_option linter.unusedSimpArgs false
set_option linter.unusedVariables false

namespace Pg
def kp (a : Nat × Nat) : Nat × Nat := (keptF a.1, keptF a.2)
def partW (k : Nat) : Nat := if k = 1 then 4602678819172646912 else 4598175219545276416
/-- A channel more. -/
def gStep (r : (Nat × Nat) × Int) (a : Nat × Nat) (p : Nat) : (Nat × Nat) × Int :=
  Dy.cAdd (Dy.cMul (Dy.cNum r.2 p).2 (kp a) (Dy.cNum r.2 p).1).2 r.1 (Dy.cMul (Dy.cNum r.2 p).2 (kp a) (Dy.cNum r.2 p).1).1
/-- The sum of so many channels. -/
def gS (c : Nat → Nat × Nat) : Nat → (Nat × Nat) × Int
  | 0 => ((0, 0), 0)
  | k + 1 => gStep (gS c k) (c k) (partW k)
def three (a b c : Nat × Nat) : Nat → Nat × Nat
  | 0 => a
  | 1 => b
  | _ => c
theorem three_all {P : Nat × Nat → Prop} {a b c : Nat × Nat} (ha : P a) (hb : P b) (hc : P c) : ∀ i, P (three a b c i)
  | 0 => ha
  | 1 => hb
  | _ + 2 => hc
theorem gS_good (c : Nat → Nat × Nat) : ∀ k, Dy.Good (gS c k)
  | 0 => Dy.good_no 0
  | k + 1 => Dy.good_add
end Pg

theorem part_at (a b d : Nat) (W : World) : (Instr.index 86 (.agg #[.float .f64 a, .float .f64 b, .float .f64 d]) (.int .i64 0)).run Tryd.prog W = .ok (.float .f64 a) W ∧
    (Instr.index 86 (.agg #[.float .f64 a, .float .f64 b, .float .f64 d]) (.int .i64 1)).run Tryd.prog W = .ok (.float .f64 b) W ∧
    (Instr.index 86 (.agg #[.float .f64 a, .float .f64 b, .float .f64 d]) (.int .i64 2)).run Tryd.prog W = .ok (.float .f64 d) W := by
  refine ⟨?_, ?_, ?_⟩ <;> simp [Instr.index, run_underlying Tryd.underlying86, asIntOf, Tryd.sizeOf36, part, go_sem, Result.andThen]

/-- While the channels are added up. -/
structure GI (w0 : World) (T : TypeId) (c0 c1 c2 : Nat × Nat) (s : Nat × Nat) (err : Int) (W : World) : Prop where
  p : W.heap[w0.heap.size]? = some (.cells #[.float .f64 c0.1, .float .f64 c0.2, .float .f64 c1.1, .float .f64 c1.2, .float .f64 c2.1, .float .f64 c2.2] T (0, 0))
  s : W.heap[w0.heap.size + 2]? = some (.cells #[.float .f64 s.1, .float .f64 s.2] 38 (0, 0))
  c : Cal (w0.heap.size + 1) err W
  u : Below w0.heap.size w0 W
theorem GI.start (w : World) (T T2 : TypeId) (c0 c1 c2 : Nat × Nat) : GI w T c0 c1 c2 (0, 0) 0 (((w.alloc (.cells #[.float .f64 c0.1, .float .f64 c0.2, .float .f64 c1.1, .float .f64 c1.2, .float .f64 c2.1, .float .f64 c2.2] T)).alloc (.cells #[.int .i64 0] T2)).alloc (.cells #[.float .f64 0, .float .f64 0] 38)) := by
  have b1 := World.alloc_heap_new w (.cells #[.float .f64 c0.1, .float .f64 c0.2, .float .f64 c1.1, .float .f64 c1.2, .float .f64 c2.1, .float .f64 c2.2] T)
  have b2 := World.alloc_heap_new (w.alloc (.cells #[.float .f64 c0.1, .float .f64 c0.2, .float .f64 c1.1, .float .f64 c1.2, .float .f64 c2.1, .float .f64 c2.2] T)) (.cells #[.int .i64 0] T2)
  have b3 := World.alloc_heap_new ((w.alloc (.cells #[.float .f64 c0.1, .float .f64 c0.2, .float .f64 c1.1, .float .f64 c1.2, .float .f64 c2.1, .float .f64 c2.2] T)).alloc (.cells #[.int .i64 0] T2)) (.cells #[.float .f64 0, .float .f64 0] 38)
  simp only [World.size_alloc] at b2 b3
  have b2' := (Below.heap_alloc _ (.cells #[.float .f64 0, .float .f64 0] 38) _ (by simp)).trans b2
  refine ⟨(Below.heap_alloc _ _ _ (by simp; omega)).trans ((Below.heap_alloc _ _ _ (by simp)).trans b1), b3, ⟨by simp, ?_, ?_⟩, below3 w _ _ _⟩
  · rw [Lib.cell_of_heap b2']; rfl
  · exact Lib.frozen_of_heap b2' 0
theorem GI.below {w0 T c0 c1 c2 s err A B} (h : GI w0 T c0 c1 c2 s err A) (hb : Below A.heap.size A B) : GI w0 T c0 c1 c2 s err B :=
  ⟨box_keep h.p hb, box_keep h.s hb, h.c.keep hb, h.u.trans (hb.mono h.u.size)⟩
theorem GI.asked {w0 T c0 c1 c2 s err err' A B} (h : GI w0 T c0 c1 c2 s err A) (hb : But (w0.heap.size + 1) A.heap.size A B) (hc : Cal (w0.heap.size + 1) err' B) : GI w0 T c0 c1 c2 s err' B :=
  ⟨(hb.block _ (Array.getElem?_eq_some_iff.1 h.p).1 (by omega)).trans h.p, (hb.block _ (Array.getElem?_eq_some_iff.1 h.s).1 (by omega)).trans h.s, hc,
    h.u.trans ((hb.mono h.u.size).below (by omega))⟩
theorem cell_other (w : World) (a b : Addr) (v : Value) (h : b.block ≠ a.block) : (w.setCell a v).cell? b = w.cell? b :=
  World.cell?_of_block (Below.heap_setCell _ _ _ _ (fun e => h e))
theorem frozen_other (w : World) (a b : Addr) (v : Value) (h : b.block ≠ a.block) : (w.setCell a v).frozen? b = w.frozen? b :=
  frozen_of_block (Below.heap_setCell _ _ _ _ (fun e => h e))
theorem GI.p0 {w0 T c0 c1 c2 s err A} (h : GI w0 T c0 c1 c2 s err A) : A.cell? ⟨w0.heap.size, 0, none⟩ = some (.float .f64 c0.1) ∧ A.cell? ⟨w0.heap.size, 1, none⟩ = some (.float .f64 c0.2) := by
  constructor <;> (rw [Lib.cell_of_heap h.p]; rfl)
theorem GI.p1 {w0 T c0 c1 c2 s err A} (h : GI w0 T c0 c1 c2 s err A) : A.cell? ⟨w0.heap.size, 2, none⟩ = some (.float .f64 c1.1) ∧ A.cell? ⟨w0.heap.size, 3, none⟩ = some (.float .f64 c1.2) := by
  constructor <;> (rw [Lib.cell_of_heap h.p]; rfl)
theorem GI.p2 {w0 T c0 c1 c2 s err A} (h : GI w0 T c0 c1 c2 s err A) : A.cell? ⟨w0.heap.size, 4, none⟩ = some (.float .f64 c2.1) ∧ A.cell? ⟨w0.heap.size, 5, none⟩ = some (.float .f64 c2.2) := by
  constructor <;> (rw [Lib.cell_of_heap h.p]; rfl)
theorem GI.s0 {w0 T c0 c1 c2 s err A} (h : GI w0 T c0 c1 c2 s err A) : (A.cell? ⟨w0.heap.size + 2, 0, none⟩ = some (.float .f64 s.1) ∧ A.cell? ⟨w0.heap.size + 2, 1, none⟩ = some (.float .f64 s.2)) ∧
    A.frozen? ⟨w0.heap.size + 2, 0, none⟩ = false ∧ A.frozen? ⟨w0.heap.size + 2, 1, none⟩ = false := by
  refine ⟨?_, Lib.frozen_of_heap h.s 0, Lib.frozen_of_heap h.s 1⟩
  constructor <;> (rw [Lib.cell_of_heap h.s]; rfl)
theorem gi_below {w0 T c0 c1 c2 s err A B} (h : Hid (GI w0 T c0 c1 c2 s err A)) (hb : Below A.heap.size A B) : Hid (GI w0 T c0 c1 c2 s err B) := hid (h.out.below hb)
theorem gi_asked {w0 T c0 c1 c2 s err err' A B} (h : Hid (GI w0 T c0 c1 c2 s err A)) (hb : But (w0.heap.size + 1) A.heap.size A B) (hc : Cal (w0.heap.size + 1) err' B) : Hid (GI w0 T c0 c1 c2 s err' B) := hid (h.out.asked hb hc)
theorem gi_cal {w0 T c0 c1 c2 s err A} (h : Hid (GI w0 T c0 c1 c2 s err A)) : Cal (w0.heap.size + 1) err A := h.out.c
theorem GI.set {w0 T c0 c1 c2 s err A} (h : GI w0 T c0 c1 c2 s err A) (s' : Nat × Nat) :
    GI w0 T c0 c1 c2 s' err ((A.setCell ⟨w0.heap.size + 2, 0, none⟩ (.float .f64 s'.1)).setCell ⟨w0.heap.size + 2, 1, none⟩ (.float .f64 s'.2)) := by
  refine ⟨?_, ?_, ?_, ?_⟩
  · rw [Below.heap_setCell _ _ _ _ (by simp), Below.heap_setCell _ _ _ _ (by simp)]; exact h.p
  · simp [World.setCell, Array.getElem?_modify, h.s]
  · exact ⟨by simpa using h.c.lt, by rw [cell_other _ _ _ _ (by simp), cell_other _ _ _ _ (by simp)]; exact h.c.cell, by rw [frozen_other _ _ _ _ (by simp), frozen_other _ _ _ _ (by simp)]; exact h.c.free⟩
  · exact (h.u.setCell (p := ⟨w0.heap.size + 2, 0, none⟩) (by simp) _).setCell (p := ⟨w0.heap.size + 2, 1, none⟩) (by simp) _

theorem gi_set {w0 T c0 c1 c2 s err A} (h : Hid (GI w0 T c0 c1 c2 s err A)) (s' : Nat × Nat) :
    GI w0 T c0 c1 c2 s' err ((A.setCell ⟨w0.heap.size + 2, 0, none⟩ (.float .f64 s'.1)).setCell ⟨w0.heap.size + 2, 1, none⟩ (.float .f64 s'.2)) := h.out.set s'

set_option maxRecDepth 100000 in
set_option maxHeartbeats 4000000 in
theorem grey_yes (c : Nat → Nat × Nat) (n : Int) (w : World) (hW : ∀ i, Dy.WW (c i)) (hr : ∀ i, Dy.ivR (c i) = true) (hn : floatToIntVal .f64 (Pg.levelF (Pg.gS c 3).1.1 (Pg.gS c 3).1.2) .u8 = some n) :
    Calls Tryd.prog 17 #[.agg #[.float .f64 (c 0).1, .float .f64 (c 0).2, .float .f64 (c 1).1, .float .f64 (c 1).2, .float .f64 (c 2).1, .float .f64 (c 2).2]] w fun e w' => e = .returned (.tuple #[.int .u8 n, .int .i64 0]) ∧ Below w.heap.size w w' := by
  go_enter Tryd.func17, Tryd.ntmps17
  go_wp2_with fail
  go_loopw [9] (fun i wr => ∃ k : Nat, k ≤ 3 ∧ i = .int .i64 (k : Int) ∧ GI w 45 (c 0) (c 1) (c 2) (Pg.gS c k).1 (Pg.gS c k).2 wr) (fun i _ => 3 - (intOf i).toNat)
  case atStart =>
    refine ⟨0, by omega, rfl, ?_⟩
    exact GI.start w _ _ _ _ _
  case round =>
    obtain ⟨k, hk, rfl, hG⟩ := hrel
    obtain rfl | rfl | rfl | rfl : k = 0 ∨ k = 1 ∨ k = 2 ∨ k = 3 := by omega
    · -- channel 0
      obtain ⟨r, er⟩ : ∃ r, r = Pg.gS c 0 := ⟨_, rfl⟩
      have gr : Dy.Good r := by rw [er]; exact Pg.gS_good c 0
      obtain ⟨q, eq⟩ : ∃ q, q = Dy.cNum r.2 (Pg.partW 0) := ⟨_, rfl⟩
      have gq : Dy.Good q := by rw [eq]; exact Dy.good_num (W_lit (by decide))
      obtain ⟨kk, ek⟩ : ∃ kk, kk = Pg.kp (c 0) := ⟨_, rfl⟩
      have gk : Dy.WW kk := by rw [ek]; exact ⟨Pg.keptF_W (hW 0).1, Pg.keptF_W (hW 0).2⟩
      obtain ⟨m, em⟩ : ∃ m, m = Dy.cMul q.2 kk q.1 := ⟨_, rfl⟩
      have gm : Dy.Good m := by rw [em]; exact Dy.good_mul
      obtain ⟨a, ea⟩ : ∃ a, a = Dy.cAdd m.2 r.1 m.1 := ⟨_, rfl⟩
      have en : a = Pg.gS c 1 := by rw [ea, em, ek, eq, er]; rfl
      have HR := hid (fun w => ivRight_any (c 0) w (hW 0))
      rw [hr 0] at HR
      have HK := hid (fun w => kept_any (c 0).1 (c 0).2 w (hW 0).1 (hW 0).2 (Dy.ivR_of (hr 0)).1 (Dy.ivR_of (hr 0)).2.1)
      rw [show Pg.keptF (c 0).1 = kk.1 by rw [ek]; rfl, show Pg.keptF (c 0).2 = kk.2 by rw [ek]; rfl] at HK
      have HN := hid (fun X h => calNum_any (w.heap.size + 1) r.2 (Pg.partW 0) X h (W_lit (by decide)))
      rw [← eq, show Pg.partW 0 = 4598175219545276416 from rfl] at HN
      have HM := hid (fun X h => calMul_any (w.heap.size + 1) q.2 kk q.1 X h gk gq.1)
      rw [← em] at HM
      have HA := hid (fun X h => calAdd_any (w.heap.size + 1) m.2 r.1 m.1 X h gr.1 gm.1)
      rw [← ea] at HA
      rw [← er] at hG
      replace hG := hid hG
      have hp := hG.out.p0
      have hs := hG.out.s0
      have en' := hid en
      clear er eq ek em ea gr gq gk gm en
      have ix := fun W => (part_at 4598175219545276416 4602678819172646912 4598175219545276416 W)
      go_wp2_with (go_at_call 15; (with_reducible refine (HR.out _).mono ?_); rintro e wa ⟨rfl, ha⟩; have hG2 := gi_below hG ha.drew; have hp := hG2.out.p0; have hs := hG2.out.s0)
      go_region_law
        (first
          | (go_simp; go_at_call 35; refine (HK.out _).mono ?_; rintro e wi ⟨rfl, hbi⟩; have hG3 := gi_below (by assumption) hbi; have hp := hG3.out.p0; have hs := hG3.out.s0)
          | (go_simp; go_at_call 42; refine (HN.out _ (gi_cal (by assumption))).mono ?_; rintro e wi ⟨rfl, hbi, hci⟩; have hG3 := gi_asked (by assumption) hbi hci; have hp := hG3.out.p0; have hs := hG3.out.s0)
          | (go_simp; go_at_call 41; refine (HM.out _ (gi_cal (by assumption))).mono ?_; rintro e wi ⟨rfl, hbi, hci⟩; have hG3 := gi_asked (by assumption) hbi hci; have hp := hG3.out.p0; have hs := hG3.out.s0)
          | (go_simp; go_at_call 40; refine (HA.out _ (gi_cal (by assumption))).mono ?_; rintro e wi ⟨rfl, hbi, hci⟩; have hG3 := gi_asked (by assumption) hbi hci; have hp := hG3.out.p0; have hs := hG3.out.s0))
      all_goals
        have hF := gi_set (w0 := w) (s := r.1) (err := a.2) (by assumption) a.1
        clear HR HK HN HM HA
        go_wp2_with fail
        refine ⟨⟨1, by omega, rfl, by rw [← en'.out]; exact hF⟩, ?_⟩
        simp only [intOf]
        omega
    · -- channel 1
      obtain ⟨r, er⟩ : ∃ r, r = Pg.gS c 1 := ⟨_, rfl⟩
      have gr : Dy.Good r := by rw [er]; exact Pg.gS_good c 1
      obtain ⟨q, eq⟩ : ∃ q, q = Dy.cNum r.2 (Pg.partW 1) := ⟨_, rfl⟩
      have gq : Dy.Good q := by rw [eq]; exact Dy.good_num (W_lit (by decide))
      obtain ⟨kk, ek⟩ : ∃ kk, kk = Pg.kp (c 1) := ⟨_, rfl⟩
      have gk : Dy.WW kk := by rw [ek]; exact ⟨Pg.keptF_W (hW 1).1, Pg.keptF_W (hW 1).2⟩
      obtain ⟨m, em⟩ : ∃ m, m = Dy.cMul q.2 kk q.1 := ⟨_, rfl⟩
      have gm : Dy.Good m := by rw [em]; exact Dy.good_mul
      obtain ⟨a, ea⟩ : ∃ a, a = Dy.cAdd m.2 r.1 m.1 := ⟨_, rfl⟩
      have en : a = Pg.gS c 2 := by rw [ea, em, ek, eq, er]; rfl
      have HR := hid (fun w => ivRight_any (c 1) w (hW 1))
      rw [hr 1] at HR
      have HK := hid (fun w => kept_any (c 1).1 (c 1).2 w (hW 1).1 (hW 1).2 (Dy.ivR_of (hr 1)).1 (Dy.ivR_of (hr 1)).2.1)
      rw [show Pg.keptF (c 1).1 = kk.1 by rw [ek]; rfl, show Pg.keptF (c 1).2 = kk.2 by rw [ek]; rfl] at HK
      have HN := hid (fun X h => calNum_any (w.heap.size + 1) r.2 (Pg.partW 1) X h (W_lit (by decide)))
      rw [← eq, show Pg.partW 1 = 4602678819172646912 from rfl] at HN
      have HM := hid (fun X h => calMul_any (w.heap.size + 1) q.2 kk q.1 X h gk gq.1)
      rw [← em] at HM
      have HA := hid (fun X h => calAdd_any (w.heap.size + 1) m.2 r.1 m.1 X h gr.1 gm.1)
      rw [← ea] at HA
      rw [← er] at hG
      replace hG := hid hG
      have hp := hG.out.p1
      have hs := hG.out.s0
      have en' := hid en
      clear er eq ek em ea gr gq gk gm en
      have ix := fun W => (part_at 4598175219545276416 4602678819172646912 4598175219545276416 W)
      go_wp2_with (go_at_call 15; (with_reducible refine (HR.out _).mono ?_); rintro e wa ⟨rfl, ha⟩; have hG2 := gi_below hG ha.drew; have hp := hG2.out.p1; have hs := hG2.out.s0)
      go_region_law
        (first
          | (go_simp; go_at_call 35; refine (HK.out _).mono ?_; rintro e wi ⟨rfl, hbi⟩; have hG3 := gi_below (by assumption) hbi; have hp := hG3.out.p1; have hs := hG3.out.s0)
          | (go_simp; go_at_call 42; refine (HN.out _ (gi_cal (by assumption))).mono ?_; rintro e wi ⟨rfl, hbi, hci⟩; have hG3 := gi_asked (by assumption) hbi hci; have hp := hG3.out.p1; have hs := hG3.out.s0)
          | (go_simp; go_at_call 41; refine (HM.out _ (gi_cal (by assumption))).mono ?_; rintro e wi ⟨rfl, hbi, hci⟩; have hG3 := gi_asked (by assumption) hbi hci; have hp := hG3.out.p1; have hs := hG3.out.s0)
          | (go_simp; go_at_call 40; refine (HA.out _ (gi_cal (by assumption))).mono ?_; rintro e wi ⟨rfl, hbi, hci⟩; have hG3 := gi_asked (by assumption) hbi hci; have hp := hG3.out.p1; have hs := hG3.out.s0))
      all_goals
        have hF := gi_set (w0 := w) (s := r.1) (err := a.2) (by assumption) a.1
        clear HR HK HN HM HA
        go_wp2_with fail
        refine ⟨⟨2, by omega, rfl, by rw [← en'.out]; exact hF⟩, ?_⟩
        simp only [intOf]
        omega
    · -- channel 2
      obtain ⟨r, er⟩ : ∃ r, r = Pg.gS c 2 := ⟨_, rfl⟩
      have gr : Dy.Good r := by rw [er]; exact Pg.gS_good c 2
      obtain ⟨q, eq⟩ : ∃ q, q = Dy.cNum r.2 (Pg.partW 2) := ⟨_, rfl⟩
      have gq : Dy.Good q := by rw [eq]; exact Dy.good_num (W_lit (by decide))
      obtain ⟨kk, ek⟩ : ∃ kk, kk = Pg.kp (c 2) := ⟨_, rfl⟩
      have gk : Dy.WW kk := by rw [ek]; exact ⟨Pg.keptF_W (hW 2).1, Pg.keptF_W (hW 2).2⟩
      obtain ⟨m, em⟩ : ∃ m, m = Dy.cMul q.2 kk q.1 := ⟨_, rfl⟩
      have gm : Dy.Good m := by rw [em]; exact Dy.good_mul
      obtain ⟨a, ea⟩ : ∃ a, a = Dy.cAdd m.2 r.1 m.1 := ⟨_, rfl⟩
      have en : a = Pg.gS c 3 := by rw [ea, em, ek, eq, er]; rfl
      have HR := hid (fun w => ivRight_any (c 2) w (hW 2))
      rw [hr 2] at HR
      have HK := hid (fun w => kept_any (c 2).1 (c 2).2 w (hW 2).1 (hW 2).2 (Dy.ivR_of (hr 2)).1 (Dy.ivR_of (hr 2)).2.1)
      rw [show Pg.keptF (c 2).1 = kk.1 by rw [ek]; rfl, show Pg.keptF (c 2).2 = kk.2 by rw [ek]; rfl] at HK
      have HN := hid (fun X h => calNum_any (w.heap.size + 1) r.2 (Pg.partW 2) X h (W_lit (by decide)))
      rw [← eq, show Pg.partW 2 = 4598175219545276416 from rfl] at HN
      have HM := hid (fun X h => calMul_any (w.heap.size + 1) q.2 kk q.1 X h gk gq.1)
      rw [← em] at HM
      have HA := hid (fun X h => calAdd_any (w.heap.size + 1) m.2 r.1 m.1 X h gr.1 gm.1)
      rw [← ea] at HA
      rw [← er] at hG
      replace hG := hid hG
      have hp := hG.out.p2
      have hs := hG.out.s0
      have en' := hid en
      clear er eq ek em ea gr gq gk gm en
      have ix := fun W => (part_at 4598175219545276416 4602678819172646912 4598175219545276416 W)
      go_wp2_with (go_at_call 15; (with_reducible refine (HR.out _).mono ?_); rintro e wa ⟨rfl, ha⟩; have hG2 := gi_below hG ha.drew; have hp := hG2.out.p2; have hs := hG2.out.s0)
      go_region_law
        (first
          | (go_simp; go_at_call 35; refine (HK.out _).mono ?_; rintro e wi ⟨rfl, hbi⟩; have hG3 := gi_below (by assumption) hbi; have hp := hG3.out.p2; have hs := hG3.out.s0)
          | (go_simp; go_at_call 42; refine (HN.out _ (gi_cal (by assumption))).mono ?_; rintro e wi ⟨rfl, hbi, hci⟩; have hG3 := gi_asked (by assumption) hbi hci; have hp := hG3.out.p2; have hs := hG3.out.s0)
          | (go_simp; go_at_call 41; refine (HM.out _ (gi_cal (by assumption))).mono ?_; rintro e wi ⟨rfl, hbi, hci⟩; have hG3 := gi_asked (by assumption) hbi hci; have hp := hG3.out.p2; have hs := hG3.out.s0)
          | (go_simp; go_at_call 40; refine (HA.out _ (gi_cal (by assumption))).mono ?_; rintro e wi ⟨rfl, hbi, hci⟩; have hG3 := gi_asked (by assumption) hbi hci; have hp := hG3.out.p2; have hs := hG3.out.s0))
      all_goals
        have hF := gi_set (w0 := w) (s := r.1) (err := a.2) (by assumption) a.1
        clear HR HK HN HM HA
        go_wp2_with fail
        refine ⟨⟨3, by omega, rfl, by rw [← en'.out]; exact hF⟩, ?_⟩
        simp only [intOf]
        omega
    · -- the sum's level
      have gr := Pg.gS_good c 3
      generalize Pg.gS c 3 = r at *
      have HL := hid (fun X => level_yes r.1.1 r.1.2 n X gr.1.1 gr.1.2 gr.2 hn)
      have hs := hG.s0
      have hG' := hid hG
      clear hG gr hn hr hW
      go_wp2_with (go_at_call 14; (with_reducible refine (HL.out _).mono ?_); rintro e wa ⟨rfl, ha⟩)
      go_ret2
      exact ⟨rfl, hG'.out.u.trans (ha.mono hG'.out.u.size)⟩

set_option maxHeartbeats 1000000 in
theorem lawGrey_yes (a b c : Nat) (n m : Int) (w : World) (ha : Dy.W a) (hb : Dy.W b) (hc : Dy.W c) (ra : Dy.right a = true) (rb : Dy.right b = true) (rc : Dy.right c = true)
    (hn : floatToIntVal .f64 (Pg.levelF (Pg.gS (Pg.three (a, a) (b, b) (c, c)) 3).1.1 (Pg.gS (Pg.three (a, a) (b, b) (c, c)) 3).1.2) .u8 = some n) :
    Calls Tryd.prog 24 #[.float .f64 a, .float .f64 b, .float .f64 c, .int .u8 m] w fun e w' => e = .returned (.bool (n == m)) ∧ Below w.heap.size w w' := by
  have HL : Hid (∀ w : World, Calls Tryd.prog 17 #[.agg #[.float .f64 a, .float .f64 a, .float .f64 b, .float .f64 b, .float .f64 c, .float .f64 c]] w fun e w' => e = .returned (.tuple #[.int .u8 n, .int .i64 0]) ∧ Below w.heap.size w w') :=
    hid (fun w => grey_yes (Pg.three (a, a) (b, b) (c, c)) n w (Pg.three_all ⟨ha, ha⟩ ⟨hb, hb⟩ ⟨hc, hc⟩)
      (Pg.three_all (P := fun x => Dy.ivR x = true) (Dy.ivR_mk ra ra (Int.le_refl _)) (Dy.ivR_mk rb rb (Int.le_refl _)) (Dy.ivR_mk rc rc (Int.le_refl _))) hn)
  clear hn ha hb hc ra rb rc
  go_enter Tryd.func24, Tryd.ntmps24
  go_wp2_with (go_at_call 17; (with_reducible refine (HL.out _).mono ?_); rintro e wa ⟨rfl, ha⟩)
  go_ret
  exact ⟨rfl, ha⟩
end Go.Proofs.YtinhbebjlbnejaaDoor
