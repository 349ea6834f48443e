/- Walks: burnishref26.part, Point; a grid counted by rows or by columns. -/
import Derived.Test.YtakdeeknfcifpaaWg
import Derived.Test.YtakdeeknfcifpaaCt
namespace Go.Dy
open Ieee
theorem fi_rankV {k : Nat} (h : k ≤ 65536) : fi k < 2 ^ 63 ∧ ok (fi k : Int) ∧ enc (fi k : Int) = fi k ∧ V (fi k : Int) = (k * one : Nat) := by
  obtain ⟨h1, h2, h3, h4⟩ := fi_spec (m := k) (by omega)
  have tp := top_eq
  have l : fi k < 2 ^ 63 := by
    unfold sgn at h3; rw [decide_eq_false_iff_not] at h3; omega
  have e : fi k % 2 ^ 63 = fi k := Nat.mod_eq_of_lt l
  unfold fin at h1
  rw [e] at h1 h4
  exact ⟨l, by unfold ok; omega, by unfold enc; rw [if_pos (by omega)]; omega, by rw [V_nat, h4]⟩
/-- A whole number by another one that is no less: it is 0 just if the first one is; it is no number below 0. -/
theorem part_posV {k m : Nat} (h0 : 0 < k) (h1 : k ≤ m) (h3 : m ≤ 65536) : ∃ z : Int, ok z ∧ 0 < z ∧ (dDiv (fi k) (fi m) false).1 = enc z := by
  obtain ⟨la, oa, ea, va⟩ := fi_rankV (k := k) (by omega)
  obtain ⟨lb, ob, eb, vb⟩ := fi_rankV (k := m) h3
  have o0 : 0 < one := one_gt
  have hmo : 0 < m * one := Nat.mul_pos (by omega) o0
  have b0 : 0 < (fi m : Int) := by
    rcases Nat.eq_zero_or_pos (fi m) with h | h
    · rw [h] at vb; rw [show ((0 : Nat) : Int) = 0 from rfl, V_zero] at vb; omega
    · omega
  have D := dDiv_enc (up := false) oa ob b0
  rw [ea, eb, va, vb, Int.natAbs_natCast] at D
  have key : ∀ y : Int, y ≤ fl (((k * one : Nat) : Int) * one) (m * one) false ↔ V y * m ≤ k * one := by
    intro y
    rw [fl_down hmo, Int.natCast_mul, Int.natCast_mul, ← Int.mul_assoc]
    constructor
    · intro h; exact Int.le_of_mul_le_mul_right h (by omega)
    · intro h; exact Int.mul_le_mul_of_nonneg_right h (by omega)
  generalize fl (((k * one : Nat) : Int) * one) (m * one) false = z at *
  have ob1 : 65536 ≤ one := by
    obtain ⟨S, hS, e⟩ := one_pow
    rw [e]
    exact Nat.le_trans (by decide : 65536 ≤ 2 ^ 16) (Nat.pow_le_pow_right (by omega) (by omega))
  have z0 : 1 ≤ z := (key 1).2 (by
    have v1 : V 1 = 1 := by decide
    rw [v1, Int.one_mul]
    have : (1 : Int) * one ≤ k * one := Int.mul_le_mul_of_nonneg_right (by omega) (by omega)
    omega)
  have z1 : z ≤ I1 := by
    rcases Int.lt_or_le I1 z with h | h
    · have h4 := (key (I1 + 1)).1 (by omega)
      have h5 : V I1 < V (I1 + 1) := V_lt (by omega)
      rw [V_one] at h5
      have h6 : ((k : Int) * one) ≤ one * m := by rw [Int.mul_comm]; exact Int.mul_le_mul_of_nonneg_left (by omega) (by omega)
      have h7 : (one : Int) * m < V (I1 + 1) * m := Int.mul_lt_mul_of_pos_right h5 (by omega)
      omega
    · exact h
  have oz : ok z := by unfold ok; have := top_eq; unfold I1 at z1; omega
  exact ⟨z, oz, by omega, by rw [D, out_mid oz]⟩
theorem neg_minus {z : Int} (oz : ok z) (z0 : 0 < z) : Op.negFloat .f64 (enc z) = minus (enc z) := by
  have hw := W_enc oz
  rw [neg_bits hw]
  have e : enc z ≠ 0 := by
    intro h
    have := dec_enc oz
    rw [h, dec_zero] at this; omega
  unfold minus
  rw [if_neg e]
  split <;> omega
end Go.Dy
namespace Go.Proofs.Ytakdeeknfcifpaa
open Go Go.RowKit
set_option linter.unusedSimpArgs false
set_option linter.unusedVariables false

set_option maxRecDepth 100000 in
set_option maxHeartbeats 1000000 in
theorem rpart_any (n : Int) (m : Nat) (w : World) (h1 : n.natAbs ≤ m) (h3 : m ≤ 65536) :
    Calls Try.prog 40 #[.int .i64 n, .int .i64 (m : Int)] w fun e w' => e = .returned (.float .f64 (partF n m)) ∧ Below w.heap.size w w' := by
  by_cases hn : n < 0
  · obtain ⟨k, rfl⟩ : ∃ k : Nat, n = -(k : Int) := ⟨n.natAbs, by omega⟩
    have e : (-(k : Int)).natAbs = k := by omega
    rw [e] at h1
    have eF : partF (-(k : Int)) m = Dy.minus (part0 k m) := by unfold partF; rw [if_pos hn, e]
    obtain ⟨z, oz, z0, ez⟩ := Dy.part_posV (k := k) (m := m) (by omega) h1 h3
    have en : Op.negFloat .f64 (part0 k m) = Dy.minus (part0 k m) := by
      have e' : part0 k m = Dy.enc z := ez
      rw [e']; exact Dy.neg_minus oz z0
    rw [eF, ← en]
    have D := hid (fun w => rdiv_any (Dy.fi k) (Dy.fi m) false w (Dy.fi_spec (m := k) (by omega)).2.1 (Dy.fi_spec (m := m) (by omega)).2.1)
    have k1 := fi_conv k
    have k2 := fi_conv m
    have wr : IntKind.i64.wrap (0 - -(k : Int)) = (k : Int) := by rw [IntKind.wrap_i64]; omega
    have wr2 : IntKind.i64.wrap (- -(k : Int)) = (k : Int) := by rw [IntKind.wrap_i64]; omega
    clear ez en eF e
    go_enter Try.func40, Try.ntmps40
    go_wp2_with (go_at_call 69; refine (D.out _).mono ?_; rintro e w1 ⟨rfl, hb⟩)
    go_ret
    exact ⟨rfl, hb⟩
  · obtain ⟨k, rfl⟩ : ∃ k : Nat, n = (k : Int) := ⟨n.natAbs, by omega⟩
    have eF : partF (k : Int) m = part0 k m := by unfold partF; rw [if_neg hn]; rfl
    rw [eF]
    have D := hid (fun w => rdiv_any (Dy.fi k) (Dy.fi m) false w (Dy.fi_spec (m := k) (by omega)).2.1 (Dy.fi_spec (m := m) (by omega)).2.1)
    have k1 := fi_conv k
    have k2 := fi_conv m
    go_enter Try.func40, Try.ntmps40
    go_wp2_with (go_at_call 69; refine (D.out _).mono ?_; rintro e w1 ⟨rfl, hb⟩)
    go_ret
    exact ⟨rfl, hb⟩

set_option maxRecDepth 100000 in
set_option maxHeartbeats 2000000 in
theorem rpoint_no (s i j : Int) (w : World) (h : ¬ there s i j) :
    Calls Try.prog 12 #[.int .i64 s, .int .i64 i, .int .i64 j] w fun e w' => e = .returned (.tuple #[.float .f64 0, .float .f64 0, .int .i64 2]) ∧ Below w.heap.size w w' := by
  have c : s < 1 ∨ ¬ s < 1 ∧ (s > 256 ∨ ¬ s > 256 ∧ (i < 0 ∨ ¬ i < 0 ∧ (i ≥ s ∨ ¬ i ≥ s ∧ (j < 0 ∨ ¬ j < 0 ∧ j ≥ s)))) := by
    unfold there at h; omega
  clear h
  rcases c with c1 | ⟨c1, c2 | ⟨c2, c3 | ⟨c3, c4 | ⟨c4, c5 | ⟨c5, c6⟩⟩⟩⟩⟩
  all_goals
    go_enter Try.func12, Try.ntmps12
    go_wp2
    refine bodyPost_ret (v := .tuple #[.float .f64 0, .float .f64 0, .int .i64 2]) (by simp [results, Try.results12, go_sem]) rfl ⟨rfl, Below.refl _ _⟩

set_option maxRecDepth 100000 in
set_option maxHeartbeats 2000000 in
theorem rpoint_yes (s : Nat) (i j : Int) (w : World) (h : there s i j) :
    Calls Try.prog 12 #[.int .i64 (s : Int), .int .i64 i, .int .i64 j] w fun e w' => e = .returned (.tuple #[.float .f64 (partF (2 * i + 1 - s) s), .float .f64 (partF (s - 1 - 2 * j) s), .int .i64 0]) ∧ Below w.heap.size w w' := by
  obtain ⟨⟨h1, h2⟩, ⟨h3, h4⟩, ⟨h5, h6⟩⟩ := h
  have c1 : ¬ (s : Int) < 1 := by omega
  have c2 : ¬ (s : Int) > 256 := by omega
  have c3 : ¬ i < 0 := by omega
  have c4 : ¬ i ≥ s := by omega
  have c5 : ¬ j < 0 := by omega
  have c6 : ¬ j ≥ s := by omega
  have P1 := hid (fun w => rpart_any (2 * i + 1 - s) s w (by omega) (by omega))
  have P2 := hid (fun w => rpart_any (s - 1 - 2 * j) s w (by omega) (by omega))
  have r1 : IntKind.i64.wrap (2 * i) = 2 * i := by rw [IntKind.wrap_i64]; omega
  have r2 : IntKind.i64.wrap (2 * i + 1) = 2 * i + 1 := by rw [IntKind.wrap_i64]; omega
  have r3 : IntKind.i64.wrap (2 * i + 1 - s) = 2 * i + 1 - s := by rw [IntKind.wrap_i64]; omega
  have r4 : IntKind.i64.wrap ((s : Int) - 1) = s - 1 := by rw [IntKind.wrap_i64]; omega
  have r5 : IntKind.i64.wrap (2 * j) = 2 * j := by rw [IntKind.wrap_i64]; omega
  have r6 : IntKind.i64.wrap ((s : Int) - 1 - 2 * j) = s - 1 - 2 * j := by rw [IntKind.wrap_i64]; omega
  go_enter Try.func12, Try.ntmps12
  go_wp2_with (go_at_call 40; (try simp only [r1, r2, r3, r4, r5, r6]); first | ((with_reducible refine (P1.out _).mono ?_); rintro e w1 ⟨rfl, hb1⟩) | ((with_reducible refine (P2.out _).mono ?_); rintro e w2 ⟨rfl, hb2⟩))
  refine bodyPost_ret (v := .tuple #[.float .f64 (partF (2 * i + 1 - s) s), .float .f64 (partF (s - 1 - 2 * j) s), .int .i64 0]) (by simp [results, Try.results12, go_sem]) rfl ⟨rfl, hb1.trans (hb2.mono hb1.size)⟩
theorem rpoint_all (s i j : Int) (w : World) :
    Calls Try.prog 12 #[.int .i64 s, .int .i64 i, .int .i64 j] w fun e w' => e = .returned (.tuple #[.float .f64 (pointF s i j).1.1, .float .f64 (pointF s i j).1.2, .int .i64 (pointF s i j).2]) ∧ Below w.heap.size w w' := by
  by_cases h : there s i j
  · obtain ⟨n, rfl⟩ : ∃ n : Nat, s = (n : Int) := ⟨s.toNat, by have := h.1.1; omega⟩
    have e : pointF n i j = ((partF (2 * i + 1 - n) n, partF (n - 1 - 2 * j) n), 0) := by unfold pointF; rw [if_pos h]; rfl
    rw [e]; exact rpoint_yes n i j w h
  · have e : pointF s i j = ((0, 0), 2) := by unfold pointF; rw [if_neg h]
    rw [e]; exact rpoint_no s i j w h

/-- How many of a grid, row by row. -/
def gridN (p : Nat → Nat → Bool) (s : Nat) : Nat → Nat
  | 0 => 0
  | a + 1 => gridN p s a + (List.range s).countP (p a)
theorem countP_succ (p : Nat → Bool) (b : Nat) : (List.range (b + 1)).countP p = (List.range b).countP p + (if p b = true then 1 else 0) := by
  rw [List.range_succ, List.countP_append, List.countP_singleton]
theorem gridN_col (p : Nat → Nat → Bool) (s : Nat) : ∀ a, gridN p (s + 1) a = gridN p s a + (List.range a).countP (fun i => p i s)
  | 0 => rfl
  | a + 1 => by
    have h := gridN_col p s a
    show gridN p (s + 1) a + _ = gridN p s a + _ + _
    rw [h, countP_succ, countP_succ (fun i => p i s)]
    omega
theorem gridN_zero (p : Nat → Nat → Bool) : ∀ a, gridN p 0 a = 0
  | 0 => rfl
  | a + 1 => by show gridN p 0 a + _ = 0; rw [gridN_zero p a]; rfl
theorem gridN_turn (p : Nat → Nat → Bool) : ∀ s a, gridN p s a = gridN (fun i j => p j i) a s
  | 0, a => gridN_zero p a
  | s + 1, a => by
    rw [gridN_col, gridN_turn p s a]; rfl
theorem gridN_flat (p : Nat → Nat → Bool) {s : Nat} (s0 : 0 < s) : ∀ a, (List.range (a * s)).countP (fun k => p (k / s) (k % s)) = gridN p s a
  | 0 => by rw [Nat.zero_mul]; rfl
  | a + 1 => by
    have inner : ∀ b, b ≤ s → (List.range (a * s + b)).countP (fun k => p (k / s) (k % s)) = gridN p s a + (List.range b).countP (p a) := by
      intro b
      induction b with
      | zero => intro _; rw [Nat.add_zero, gridN_flat p s0 a]; rfl
      | succ b ih =>
        intro hb
        rw [← Nat.add_assoc, countP_succ, ih (by omega), countP_succ]
        have e1 : (a * s + b) / s = a := by rw [Nat.mul_comm, Nat.mul_add_div s0, Nat.div_eq_of_lt (by omega)]; omega
        have e2 : (a * s + b) % s = b := by rw [Nat.mul_comm, Nat.mul_add_mod, Nat.mod_eq_of_lt (by omega)]
        rw [e1, e2, Nat.add_assoc]
    rw [Nat.add_mul, Nat.one_mul]
    exact inner s (Nat.le_refl _)
theorem hitsN_grid {s : Nat} (s0 : 0 < s) (h2 : s ≤ 256) : hitsN s = gridN (fun i j => (lookF s i j).2.1) s s := by
  rw [gridN_turn]
  rw [← gridN_flat _ s0]
  unfold hitsN pixN
  rw [List.countP_map]
  refine List.countP_congr fun k hk => ?_
  have hk' : k < s * s := by simpa using hk
  have m1 : k % s < s := Nat.mod_lt _ s0
  have m2 : k / s < s := (Nat.div_lt_iff_lt_mul s0).2 hk'
  have e1 : k % s % 256 = k % s := Nat.mod_eq_of_lt (by omega)
  have e2 : k / s % 256 = k / s := Nat.mod_eq_of_lt (by omega)
  show (decide (k % s % 256 < s ∧ k / s % 256 < s) && (lookF s ((k % s % 256 : Nat) : Int) ((k / s % 256 : Nat) : Int)).2.1) = true ↔ _
  rw [e1, e2, decide_eq_true ⟨m1, m2⟩, Bool.true_and]
end Go.Proofs.Ytakdeeknfcifpaa
