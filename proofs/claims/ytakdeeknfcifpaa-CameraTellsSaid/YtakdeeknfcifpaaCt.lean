/- Walks: camera.Hits of a size that is none; the three as functions of whole numbers. -/
import Derived.Test.YtakdeeknfcifpaaCs
namespace Go.Proofs.Ytakdeeknfcifpaa
open Go Go.RowKit Go.Shelf
attribute [local go_sem] Oper.semAt_some
set_option linter.unusedSimpArgs false
set_option linter.unusedVariables false

set_option maxRecDepth 100000 in
set_option maxHeartbeats 1000000 in
theorem hits_no (s : Int) (w : World) (h : ¬ (1 ≤ s ∧ s ≤ 256)) :
    Calls Try.prog 16 #[.int .i64 s] w fun e W' => e = .returned (.tuple #[.int .i64 0, .int .i64 2]) ∧ Below w.heap.size w W' := by
  have D := hid (fun w => sized_no s w h)
  clear h
  have bS0 := Boxed.new w 3 (.int .i64 s)
  refine (callsIn_wide (n := 6)).1 ?_
  refine callsIn_of_wp_marks Try.func16 rfl trivial ?_ rfl
  simp only [Try.ntmps16, List.size_toArray, List.length_cons, List.length_nil, Nat.reduceAdd, Nat.reduceSub, Array.replicate_succ, Array.replicate_zero, List.push_toArray, List.append_toArray, List.nil_append, List.cons_append]
  gi_wp2
  refine ⟨trivial, ?_⟩
  gi_at_call 38
  refine (callsIn_wide.2 (D.out _)).mono ?_
  rintro e w1 ⟨rfl, hb⟩
  gi_wp2
  refine ⟨.tuple #[.int .i64 0, .int .i64 2], by simp [results, Try.results16, go_sem], rfl, ?_⟩
  exact ((Below.refl _ w).alloc (Nat.le_refl _) _).trans (hb.mono (by simp))
/-- A pixel's middle. -/
def pointF (s i j : Int) : (Nat × Nat) × Int := if there s i j then ((partF (2 * i + 1 - s) s.toNat, partF (s - 1 - 2 * j) s.toNat), 0) else ((0, 0), 2)
def lookA (s i j : Int) : (Nat × Nat) × (Bool × Int) := if there s i j then lookF s.toNat i j else ((0, 0), (false, 2))
def hitsF (s : Int) : Int × Int := if 1 ≤ s ∧ s ≤ 256 then ((hitsN s.toNat : Int), 0) else (0, 2)
theorem point_all (s i j : Int) (w : World) :
    Calls Try.prog 11 #[.int .i64 s, .int .i64 i, .int .i64 j] w fun e w' => e = .returned (.tuple #[.float .f64 (pointF s i j).1.1, .float .f64 (pointF s i j).1.2, .int .i64 (pointF s i j).2]) ∧ Below w.heap.size w w' := by
  by_cases h : there s i j
  · obtain ⟨n, rfl⟩ : ∃ n : Nat, s = (n : Int) := ⟨s.toNat, by have := h.1.1; omega⟩
    have e : pointF n i j = ((partF (2 * i + 1 - n) n, partF (n - 1 - 2 * j) n), 0) := by unfold pointF; rw [if_pos h]; rfl
    rw [e]; exact point_yes n i j w h
  · have e : pointF s i j = ((0, 0), 2) := by unfold pointF; rw [if_neg h]
    rw [e]; exact point_no s i j w h
theorem look_all (s i j : Int) (w : World) :
    Calls Try.prog 13 #[.int .i64 s, .int .i64 i, .int .i64 j] w fun e w' => e = .returned (.tuple #[fv (lookA s i j).1.1 0 (lookA s i j).1.2, .bool (lookA s i j).2.1, .int .i64 (lookA s i j).2.2]) ∧ Below w.heap.size w w' := by
  by_cases h : there s i j
  · obtain ⟨n, rfl⟩ : ∃ n : Nat, s = (n : Int) := ⟨s.toNat, by have := h.1.1; omega⟩
    have e : lookA n i j = lookF n i j := by unfold lookA; rw [if_pos h]; rfl
    rw [e]; exact look_yes n i j w h
  · have e : lookA s i j = ((0, 0), (false, 2)) := by unfold lookA; rw [if_neg h]
    rw [e]; exact look_no s i j w h
theorem hits_all (s : Int) (w : World) :
    Calls Try.prog 16 #[.int .i64 s] w fun e w' => e = .returned (.tuple #[.int .i64 (hitsF s).1, .int .i64 (hitsF s).2]) ∧ Below w.heap.size w w' := by
  by_cases h : 1 ≤ s ∧ s ≤ 256
  · obtain ⟨n, rfl⟩ : ∃ n : Nat, s = (n : Int) := ⟨s.toNat, by omega⟩
    have e : hitsF n = ((hitsN n : Int), 0) := by unfold hitsF; rw [if_pos h]; rfl
    rw [e]; exact hits_yes n w (by omega) (by omega)
  · have e : hitsF s = (0, 2) := by unfold hitsF; rw [if_neg h]
    rw [e]; exact hits_no s w h
end Go.Proofs.Ytakdeeknfcifpaa
