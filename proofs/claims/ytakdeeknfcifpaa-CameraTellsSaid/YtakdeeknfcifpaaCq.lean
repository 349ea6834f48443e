/- Walks: package camera: part, Point, Look. -/
import Derived.Test.YtakdeeknfcifpaaKh
import Derived.Test.YtakdeeknfcifpaaDc
namespace Go.Proofs.Ytakdeeknfcifpaa
open Go Go.RowKit
set_option linter.unusedSimpArgs false
set_option linter.unusedVariables false

def part0 (k m : Nat) : Nat := (Dy.dDiv (Dy.fi k) (Dy.fi m) false).1
/-- A whole number by another one, toward 0. -/
def partF (n : Int) (m : Nat) : Nat := if n < 0 then Dy.minus (part0 n.natAbs m) else part0 n.natAbs m

set_option maxRecDepth 100000 in
set_option maxHeartbeats 1000000 in
theorem part_pos (k m : Nat) (w : World) (h1 : k ≤ 65536) (h3 : m ≤ 65536) :
    Calls Try.prog 39 #[.int .i64 (k : Int), .int .i64 (m : Int)] w fun e w' => e = .returned (.float .f64 (part0 k m)) ∧ Below w.heap.size w w' := by
  have hn : ¬ (k : Int) < 0 := by omega
  have D := hid (fun w => div_any (Dy.fi k) (Dy.fi m) false w (Dy.fi_spec (m := k) (by omega)).2.1 (Dy.fi_spec (m := m) (by omega)).2.1)
  have k1 := fi_conv k
  have k2 := fi_conv m
  go_enter Try.func39, Try.ntmps39
  go_wp2_with (go_at_call 68; refine (D.out _).mono ?_; rintro e w1 ⟨rfl, hb⟩)
  refine bodyPost_ret (v := .float .f64 (part0 k m)) (by simp [results, Try.results39, go_sem, part0]) rfl ⟨rfl, ?_⟩
  exact hb
set_option maxRecDepth 100000 in
set_option maxHeartbeats 1000000 in
theorem part_any (n : Int) (m : Nat) (w : World) (h1 : n.natAbs ≤ 65536) (h3 : m ≤ 65536) (hr : Dy.right (part0 n.natAbs m) = true) :
    Calls Try.prog 39 #[.int .i64 n, .int .i64 (m : Int)] w fun e w' => e = .returned (.float .f64 (partF n m)) ∧ Below w.heap.size w w' := by
  by_cases hn : n < 0
  · obtain ⟨k, rfl⟩ : ∃ k : Nat, n = -(k : Int) := ⟨n.natAbs, by omega⟩
    have e : (-(k : Int)).natAbs = k := by omega
    rw [e] at h1 hr
    have D := hid (fun w => part_pos k m w h1 h3)
    have eF : partF (-(k : Int)) m = Dy.minus (part0 k m) := by unfold partF; rw [if_pos hn, e]
    rw [eF]
    have n1 : ∀ t w, (binOp .sub t (.float .f64 0) (.float .f64 (part0 k m))).run Try.prog w = .ok (.float .f64 (Dy.minus (part0 k m))) w := fun t w => run_float_arith w .sub t .f64 _ _ _ (Dy.zero_sub (Dy.dDiv_W _ _ _) hr)
    have wr : IntKind.i64.wrap (0 - -(k : Int)) = (k : Int) := by rw [IntKind.wrap_i64]; omega
    go_enter Try.func39, Try.ntmps39
    go_wp2_with (go_at_call 39; (try rw [wr]); refine (D.out _).mono ?_; rintro e w1 ⟨rfl, hb⟩)
    refine bodyPost_ret (v := .float .f64 (Dy.minus (part0 k m))) (by simp [results, Try.results39, go_sem]) rfl ⟨rfl, ?_⟩
    exact hb
  · obtain ⟨k, rfl⟩ : ∃ k : Nat, n = (k : Int) := ⟨n.natAbs, by omega⟩
    have eF : partF (k : Int) m = part0 k m := by unfold partF; rw [if_neg hn]; rfl
    rw [eF]
    exact part_pos k m w (by omega) h3

theorem right_part (k m : Nat) : Dy.right (part0 k m) = true := by
  unfold part0 Dy.dDiv
  split
  · rfl
  · split
    · rfl
    · generalize Dy.divR (Dy.dec (Dy.fi k)) (Dy.dec (Dy.fi m)) false = z
      have tp := Dy.top_eq
      unfold Dy.out
      split
      · exact Dy.right_enc (z := (Dy.top : Int) - 1) (by unfold Dy.ok; omega)
      · split
        · rfl
        · exact Dy.right_enc (by unfold Dy.ok; omega)
/-- Is there such a pixel? -/
abbrev there (s i j : Int) : Prop := (1 ≤ s ∧ s ≤ 256) ∧ (0 ≤ i ∧ 0 ≤ j) ∧ (i < s ∧ j < s)
set_option maxRecDepth 100000 in
set_option maxHeartbeats 1000000 in
theorem sized_yes (s : Int) (w : World) (h1 : 1 ≤ s) (h2 : s ≤ 256) :
    Calls Try.prog 38 #[.int .i64 s] w fun e w' => e = .returned (.bool true) ∧ Below w.heap.size w w' := by
  go_enter Try.func38, Try.ntmps38
  go_wp2
  refine bodyPost_ret (v := .bool true) (by simp [results, Try.results38, go_sem, h1, h2]) rfl ⟨rfl, Below.refl _ _⟩
set_option maxRecDepth 100000 in
set_option maxHeartbeats 1000000 in
theorem sized_no (s : Int) (w : World) (h : ¬ (1 ≤ s ∧ s ≤ 256)) :
    Calls Try.prog 38 #[.int .i64 s] w fun e w' => e = .returned (.bool false) ∧ Below w.heap.size w w' := by
  by_cases h1 : 1 ≤ s
  · have h2 : ¬ s ≤ 256 := fun k => h ⟨h1, k⟩
    clear h
    go_enter Try.func38, Try.ntmps38
    go_wp2
    refine bodyPost_ret (v := .bool false) (by simp [results, Try.results38, go_sem]) rfl ⟨rfl, Below.refl _ _⟩
  · clear h
    go_enter Try.func38, Try.ntmps38
    go_wp2
    refine bodyPost_ret (v := .bool false) (by simp [results, Try.results38, go_sem]) rfl ⟨rfl, Below.refl _ _⟩
set_option maxRecDepth 100000 in
set_option maxHeartbeats 1000000 in
theorem point_no (s i j : Int) (w : World) (h : ¬ there s i j) :
    Calls Try.prog 11 #[.int .i64 s, .int .i64 i, .int .i64 j] w fun e w' => e = .returned (.tuple #[.float .f64 0, .float .f64 0, .int .i64 2]) ∧ Below w.heap.size w w' := by
  by_cases h1 : 1 ≤ s ∧ s ≤ 256
  · have D := hid (fun w => sized_yes s w h1.1 h1.2)
    by_cases h2 : 0 ≤ i ∧ 0 ≤ j
    · by_cases h3 : i < s ∧ j < s
      · exact absurd ⟨h1, h2, h3⟩ h
      · clear h
        have m1 : ¬ min i j < 0 := by omega
        have m2 : s ≤ max i j := by omega
        go_enter Try.func11, Try.ntmps11
        go_wp2_with (go_at_call 38; refine (D.out _).mono ?_; rintro e w1 ⟨rfl, hb⟩)
        refine bodyPost_ret (v := .tuple #[.float .f64 0, .float .f64 0, .int .i64 2]) (by simp [results, Try.results11, go_sem]) rfl ⟨rfl, hb⟩
    · clear h
      have m1 : min i j < 0 := by omega
      go_enter Try.func11, Try.ntmps11
      go_wp2_with (go_at_call 38; refine (D.out _).mono ?_; rintro e w1 ⟨rfl, hb⟩)
      refine bodyPost_ret (v := .tuple #[.float .f64 0, .float .f64 0, .int .i64 2]) (by simp [results, Try.results11, go_sem]) rfl ⟨rfl, hb⟩
  · have D := hid (fun w => sized_no s w h1)
    clear h h1
    go_enter Try.func11, Try.ntmps11
    go_wp2_with (go_at_call 38; refine (D.out _).mono ?_; rintro e w1 ⟨rfl, hb⟩)
    refine bodyPost_ret (v := .tuple #[.float .f64 0, .float .f64 0, .int .i64 2]) (by simp [results, Try.results11, go_sem]) rfl ⟨rfl, hb⟩
set_option maxRecDepth 100000 in
set_option maxHeartbeats 1000000 in
theorem point_yes (s : Nat) (i j : Int) (w : World) (h : there s i j) :
    Calls Try.prog 11 #[.int .i64 (s : Int), .int .i64 i, .int .i64 j] w fun e w' => e = .returned (.tuple #[.float .f64 (partF (2 * i + 1 - s) s), .float .f64 (partF (s - 1 - 2 * j) s), .int .i64 0]) ∧ Below w.heap.size w w' := by
  obtain ⟨⟨h1, h2⟩, ⟨h3, h4⟩, ⟨h5, h6⟩⟩ := h
  have D := hid (fun w => sized_yes s w h1 h2)
  have m1 : ¬ min i j < 0 := by omega
  have m2 : ¬ (s : Int) ≤ max i j := by omega
  have P1 := hid (fun w => part_any (2 * i + 1 - s) s w (by omega) (by omega) (right_part _ _))
  have P2 := hid (fun w => part_any (s - 1 - 2 * j) s w (by omega) (by omega) (right_part _ _))
  have r1 : IntKind.i64.wrap (2 * i) = 2 * i := by rw [IntKind.wrap_i64]; omega
  have r2 : IntKind.i64.wrap (2 * i + 1) = 2 * i + 1 := by rw [IntKind.wrap_i64]; omega
  have r3 : IntKind.i64.wrap (2 * i + 1 - s) = 2 * i + 1 - s := by rw [IntKind.wrap_i64]; omega
  have r4 : IntKind.i64.wrap ((s : Int) - 1) = s - 1 := by rw [IntKind.wrap_i64]; omega
  have r5 : IntKind.i64.wrap (2 * j) = 2 * j := by rw [IntKind.wrap_i64]; omega
  have r6 : IntKind.i64.wrap ((s : Int) - 1 - 2 * j) = s - 1 - 2 * j := by rw [IntKind.wrap_i64]; omega
  generalize partF (2 * i + 1 - s) s = X at *
  generalize partF (s - 1 - 2 * j) s = Y at *
  go_enter Try.func11, Try.ntmps11
  go_wp2_with (first | (go_at_call 38; refine (D.out _).mono ?_; rintro e w1 ⟨rfl, hb⟩) | (go_at_call 39; with_reducible refine (P1.out _).mono ?_; clear P1; rintro e w2 ⟨rfl, hb1⟩) | (go_at_call 39; with_reducible refine (P2.out _).mono ?_; clear P2; rintro e w3 ⟨rfl, hb2⟩))
  refine bodyPost_ret (v := .tuple #[.float .f64 X, .float .f64 Y, .int .i64 0]) (by simp [results, Try.results11, go_sem]) rfl ⟨rfl, ?_⟩
  exact hb.trans ((hb1.trans (hb2.mono hb1.size)).mono hb.size)
/-- Which point's ball: what Hit tells. -/
def lookF (s : Nat) (i j : Int) : (Nat × Nat) × (Bool × Int) := ((Dy.hX (partF (2 * i + 1 - s) s) (partF (s - 1 - 2 * j) s), Dy.hZ (partF (2 * i + 1 - s) s) (partF (s - 1 - 2 * j) s)), (Dy.hits (partF (2 * i + 1 - s) s) (partF (s - 1 - 2 * j) s), (Dy.dIn (partF (2 * i + 1 - s) s) (partF (s - 1 - 2 * j) s)).2))
theorem W_minus {x : Nat} (h : Dy.W x) : Dy.W (Dy.minus x) := by unfold Dy.W Dy.minus at *; split <;> (try split) <;> omega
theorem W_part (n : Int) (m : Nat) : Dy.W (partF n m) := by
  unfold partF
  split
  · exact W_minus (Dy.dDiv_W _ _ _)
  · exact Dy.dDiv_W _ _ _
set_option maxRecDepth 100000 in
set_option maxHeartbeats 1000000 in
theorem look_no (s i j : Int) (w : World) (h : ¬ there s i j) :
    Calls Try.prog 13 #[.int .i64 s, .int .i64 i, .int .i64 j] w fun e w' => e = .returned (.tuple #[fv 0 0 0, .bool false, .int .i64 2]) ∧ Below w.heap.size w w' := by
  have D := hid (fun w => point_no s i j w h)
  clear h
  have hB : Below (w.alloc (.cells #[.float .f64 0, .float .f64 0, .float .f64 0] 27)).heap.size (w.alloc (.cells #[.float .f64 0, .float .f64 0, .float .f64 0] 27)) (w.alloc (.cells #[.float .f64 0, .float .f64 0, .float .f64 0] 27)) := Below.refl _ _
  go_enter Try.func13, Try.ntmps13
  go_wp2_with (go_at_call 11; (with_reducible refine (chain D hB).mono ?_); clear hB; rintro e w' ⟨rfl, hB⟩; obtain ⟨hc, hf⟩ := bcell hB; have c0 : w'.cell? ⟨w.heap.size, 0, none⟩ = some (.float .f64 0) := (hc _ _ (by simp)).trans (by simp [go_sem]); have c1 : w'.cell? ⟨w.heap.size, 1, none⟩ = some (.float .f64 0) := (hc _ _ (by simp)).trans (by simp [go_sem]); have c2 : w'.cell? ⟨w.heap.size, 2, none⟩ = some (.float .f64 0) := (hc _ _ (by simp)).trans (by simp [go_sem]); have f0 : w'.frozen? ⟨w.heap.size, 0, none⟩ = false := (hf _ _ (by simp)).trans (by simp [go_sem]); have f1 : w'.frozen? ⟨w.heap.size, 1, none⟩ = false := (hf _ _ (by simp)).trans (by simp [go_sem]); have f2 : w'.frozen? ⟨w.heap.size, 2, none⟩ = false := (hf _ _ (by simp)).trans (by simp [go_sem]); clear hc hf; have hz := hB.size; simp at hz)
  refine bodyPost_ret (v := .tuple #[fv 0 0 0, .bool false, .int .i64 2]) (by simp [results, Try.results13, go_sem, c0, c1, c2]) rfl ⟨rfl, ?_⟩
  exact (((((Below.refl _ _).alloc (Nat.le_refl _) _).trans (hB.mono (by simp))).setCell (by simp) _).setCell (by simp) _).setCell (by simp) _
set_option maxRecDepth 100000 in
set_option maxHeartbeats 1000000 in
theorem look_yes (s : Nat) (i j : Int) (w : World) (h : there s i j) :
    Calls Try.prog 13 #[.int .i64 (s : Int), .int .i64 i, .int .i64 j] w fun e w' => e = .returned (.tuple #[fv (lookF s i j).1.1 0 (lookF s i j).1.2, .bool (lookF s i j).2.1, .int .i64 (lookF s i j).2.2]) ∧ Below w.heap.size w w' := by
  have D := hid (fun w => point_yes s i j w h)
  have H := hid (fun w => hit_any (partF (2 * i + 1 - s) s) (partF (s - 1 - 2 * j) s) w (W_part _ _) (W_part _ _))
  unfold lookF
  dsimp only
  generalize partF (2 * i + 1 - s) s = X at *
  generalize partF (s - 1 - 2 * j) s = Y at *
  generalize Dy.hX X Y = hx at *
  generalize Dy.hZ X Y = hz at *
  generalize Dy.hits X Y = hh at *
  generalize (Dy.dIn X Y).2 = he at *
  clear h
  have hB : Below (w.alloc (.cells #[.float .f64 0, .float .f64 0, .float .f64 0] 27)).heap.size (w.alloc (.cells #[.float .f64 0, .float .f64 0, .float .f64 0] 27)) (w.alloc (.cells #[.float .f64 0, .float .f64 0, .float .f64 0] 27)) := Below.refl _ _
  go_enter Try.func13, Try.ntmps13
  go_wp2_with (first | (go_at_call 11; (with_reducible refine (chain D hB).mono ?_); clear hB; rintro e w' ⟨rfl, hB⟩) | (go_at_call 7; (with_reducible refine (chain H hB).mono ?_); clear hB; rintro e w' ⟨rfl, hB⟩; obtain ⟨hc, hf⟩ := bcell hB; have c0 : w'.cell? ⟨w.heap.size, 0, none⟩ = some (.float .f64 0) := (hc _ _ (by simp)).trans (by simp [go_sem]); have c1 : w'.cell? ⟨w.heap.size, 1, none⟩ = some (.float .f64 0) := (hc _ _ (by simp)).trans (by simp [go_sem]); have c2 : w'.cell? ⟨w.heap.size, 2, none⟩ = some (.float .f64 0) := (hc _ _ (by simp)).trans (by simp [go_sem]); have f0 : w'.frozen? ⟨w.heap.size, 0, none⟩ = false := (hf _ _ (by simp)).trans (by simp [go_sem]); have f1 : w'.frozen? ⟨w.heap.size, 1, none⟩ = false := (hf _ _ (by simp)).trans (by simp [go_sem]); have f2 : w'.frozen? ⟨w.heap.size, 2, none⟩ = false := (hf _ _ (by simp)).trans (by simp [go_sem]); clear hc hf; have hzz := hB.size; simp at hzz))
  trace_state
  refine bodyPost_ret (v := .tuple #[fv hx 0 hz, .bool hh, .int .i64 he]) (by simp [results, Try.results13, go_sem, c0, c1, c2]) rfl ⟨rfl, ?_⟩
  exact (((((Below.refl _ _).alloc (Nat.le_refl _) _).trans (hB.mono (by simp))).setCell (by simp) _).setCell (by simp) _).setCell (by simp) _
end Go.Proofs.Ytakdeeknfcifpaa
