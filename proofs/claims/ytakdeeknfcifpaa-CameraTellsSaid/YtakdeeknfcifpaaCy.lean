/- Walks: burnishref26.Look, Hits. -/
import Derived.Test.YtakdeeknfcifpaaCx
import Derived.Test.YtakdeeknfcifpaaWm
import Derived.LoopTactic
namespace Go.Proofs.Ytakdeeknfcifpaa
open Go Go.RowKit
set_option linter.unusedSimpArgs false
set_option linter.unusedVariables false

theorem rlook_all (s i j : Int) (w : World) :
    Calls Try.prog 14 #[.int .i64 s, .int .i64 i, .int .i64 j] w fun e w' => e = .returned (.tuple #[fv (lookA s i j).1.1 0 (lookA s i j).1.2, .bool (lookA s i j).2.1, .int .i64 (lookA s i j).2.2]) ∧ Below w.heap.size w w' := by
  by_cases h : there s i j
  · obtain ⟨n, rfl⟩ : ∃ n : Nat, s = (n : Int) := ⟨s.toNat, by have := h.1.1; omega⟩
    have e : lookA n i j = lookF n i j := by unfold lookA; rw [if_pos h]; rfl
    have p : pointF n i j = ((partF (2 * i + 1 - n) n, partF (n - 1 - 2 * j) n), 0) := by unfold pointF; rw [if_pos h]; rfl
    rw [e]
    have wh := W_hX n i j
    rw [e] at wh
    have hh : hitR (partF (2 * i + 1 - n) n) (partF (n - 1 - 2 * j) n) = (((lookF n i j).1.1, (lookF n i j).1.2), ((lookF n i j).2.1, (lookF n i j).2.2)) := hitR_eq _ _
    exact rlook_1 n i j w p (by decide) hh wh.1 wh.2
  · have e : lookA s i j = ((0, 0), (false, 2)) := by unfold lookA; rw [if_neg h]
    have p : pointF s i j = ((0, 0), 2) := by unfold pointF; rw [if_neg h]
    rw [e]; exact rlook_0 s i j w p (by decide)

set_option maxRecDepth 100000 in
set_option maxHeartbeats 2000000 in
theorem rhits_no (s : Int) (w : World) (h : ¬ (1 ≤ s ∧ s ≤ 256)) :
    Calls Try.prog 17 #[.int .i64 s] w fun e w' => e = .returned (.tuple #[.int .i64 0, .int .i64 2]) ∧ Below w.heap.size w w' := by
  have c : s < 1 ∨ ¬ s < 1 ∧ s > 256 := by omega
  clear h
  rcases c with c1 | ⟨c1, c2⟩
  all_goals
    go_enter Try.func17, Try.ntmps17
    go_wp2
    go_ret2
    exact ⟨rfl, Below.refl _ _⟩

/-- Is a pixel hit? -/
def hitP (s i j : Nat) : Bool := (lookF s i j).2.1
theorem gridN_le (p : Nat → Nat → Bool) (s : Nat) : ∀ a, gridN p s a ≤ a * s
  | 0 => Nat.zero_le _
  | a + 1 => by
    have h1 := gridN_le p s a
    have h2 : (List.range s).countP (p a) ≤ s := by
      have := List.countP_le_length (p := p a) (l := List.range s)
      rw [List.length_range] at this; exact this
    show gridN p s a + _ ≤ _
    rw [Nat.add_mul]; omega
theorem rowP_le (p : Nat → Bool) (b : Nat) : (List.range b).countP p ≤ b := by
  have := List.countP_le_length (p := p) (l := List.range b)
  rw [List.length_range] at this; exact this

set_option maxRecDepth 100000 in
set_option maxHeartbeats 2000000 in
theorem rhits_yes (s : Nat) (w : World) (hs1 : 1 ≤ s) (hs2 : s ≤ 256) :
    Calls Try.prog 17 #[.int .i64 (s : Int)] w fun e w' => e = .returned (.tuple #[.int .i64 (gridN (hitP s) s s : Nat), .int .i64 0]) ∧ Below w.heap.size w w' := by
  have c1 : ¬ (s : Int) < 1 := by omega
  have c2 : ¬ (s : Int) > 256 := by omega
  obtain ⟨G, hG⟩ : ∃ G, G = gridN (hitP s) s := ⟨_, rfl⟩
  have Gs : ∀ a, G (a + 1) = G a + (List.range s).countP (hitP s a) := fun a => by rw [hG]; rfl
  have G0 : G 0 = 0 := by rw [hG]; rfl
  have Gle : ∀ a, a ≤ s → G a ≤ 65536 := fun a ha => by
    have := gridN_le (hitP s) s a
    have h2 : a * s ≤ 256 * 256 := Nat.mul_le_mul (by omega) hs2
    rw [hG]; omega
  have LK : Hid (∀ (a b : Nat) (w : World), a < s → b < s → Calls Try.prog 14 #[.int .i64 (s : Int), .int .i64 (a : Int), .int .i64 (b : Int)] w fun e w' => ∃ X Z E, e = .returned (.tuple #[fv X 0 Z, .bool (hitP s a b), .int .i64 E]) ∧ Below w.heap.size w w') := hid fun a b w ha hb => (rlook_all s a b w).mono fun e w' ⟨h1, h2⟩ => by
    have e : lookA s a b = lookF s a b := by unfold lookA; rw [if_pos ⟨⟨by omega, by omega⟩, ⟨by omega, by omega⟩, ⟨by omega, by omega⟩⟩]; rfl
    rw [e] at h1
    exact ⟨_, _, _, h1, h2⟩
  rw [show gridN (hitP s) s s = G s by rw [hG]]
  replace Gs := hid Gs
  replace G0 := hid G0
  replace Gle := hid Gle
  clear hG
  go_enter Try.func17, Try.ntmps17
  go_wp2
  go_loopw [4, 5] (fun v i wr => ∃ a : Nat, a ≤ s ∧ i = .int .i64 a ∧ v = .int .i64 (G a : Nat) ∧ Below w.heap.size w wr) (fun _ i _ => s - (intOf i).toNat)
  case atStart => exact ⟨0, Nat.zero_le _, rfl, by rw [G0.out]; rfl, Below.refl _ _⟩
  case round =>
    obtain ⟨a, ha, rfl, rfl, hu⟩ := hrel
    by_cases h7 : a < s
    · have g1 := Gle.out a ha
      replace hu := hid hu
      go_wp2
      go_loopw [4, 6] (fun v i wr => ∃ b : Nat, b ≤ s ∧ i = .int .i64 b ∧ v = .int .i64 (G a + (List.range b).countP (hitP s a) : Nat) ∧ Below w.heap.size w wr) (fun _ i _ => s - (intOf i).toNat)
      case atStart => exact ⟨0, Nat.zero_le _, rfl, rfl, hu.out⟩
      case round =>
        clear hu
        obtain ⟨b, hb, rfl, rfl, hu⟩ := hrel
        by_cases h8 : b < s
        · have L := hid (fun w => LK.out a b w h7 h8)
          have g2 := rowP_le (hitP s a) b
          have g3 := hid (countP_succ (hitP s a) b)
          generalize (List.range b).countP (hitP s a) = k at *
          replace hu := hid hu
          cases hh : hitP s a b
          all_goals
            rw [hh] at L g3
            clear hh
            go_wp2_with (go_at_call 14; (with_reducible refine (L.out _).mono ?_); rintro e w1 ⟨X, Z, E, rfl, hb1⟩)
            have hu1 := hid ((hu.out.trans (hb1.mono hu.out.size)).alloc (Nat.le_trans hu.out.size hb1.size) (.cells #[.float .f64 X, .float .f64 0, .float .f64 Z] 27))
            go_roundw
            case rel => exact ⟨b + 1, by omega, by go_num, by rw [g3.out]; go_num, hu1.out⟩
            case measure => simp [intOf]; omega
        · have h8' : b = s := by omega
          subst h8'
          go_wp2
          go_roundw
          case rel => exact ⟨a + 1, by omega, by go_num, by rw [Gs.out], hu⟩
          case measure => simp [intOf]; omega
    · have h7' : a = s := by omega
      subst h7'
      go_wp2
      go_ret2
      exact ⟨rfl, hu⟩
theorem rhits_all (s : Int) (w : World) :
    Calls Try.prog 17 #[.int .i64 s] w fun e w' => e = .returned (.tuple #[.int .i64 (hitsF s).1, .int .i64 (hitsF s).2]) ∧ Below w.heap.size w w' := by
  by_cases h : 1 ≤ s ∧ s ≤ 256
  · obtain ⟨n, rfl⟩ : ∃ n : Nat, s = (n : Int) := ⟨s.toNat, by omega⟩
    have e : hitsF n = (((gridN (hitP n) n n : Nat) : Int), 0) := by
      unfold hitsF; rw [if_pos h, Int.toNat_natCast, hitsN_grid (by omega) (by omega)]; rfl
    rw [e]; exact rhits_yes n w (by omega) (by omega)
  · have e : hitsF s = (0, 2) := by unfold hitsF; rw [if_neg h]
    rw [e]; exact rhits_no s w h
end Go.Proofs.Ytakdeeknfcifpaa
