/- Walks of package pgm: bytes.Equal, bytes.HasPrefix, a copy of bytes; what is right. -/
import Derived.Test.YtinhbebjlbnejaaDoorFd
import Derived.Laws.BytesArg
import Derived.OwnWalk
import Derived.Lib.SliceRun
namespace Go.Proofs.YtinhbebjlbnejaaDoor
open Go Go.RowKit
open Go.Lib (hid)
set_option linter.unusedVariables false
set_option linter.unusedSimpArgs false

/-- The bytes behind a slice's address. -/
def Byt (w : World) (ao : Option Addr) (l : List UInt8) : Prop :=
  l = [] ∨ ∃ b o, ao = some ⟨b, o, none⟩ ∧ b < w.heap.size ∧ ∀ i c, l[i]? = some c → w.cell? ⟨b, o + i, none⟩ = some (.int .u8 (c.toNat : Int))
theorem Byt.below {w w' : World} {ao : Option Addr} {l : List UInt8} (h : Byt w ao l) (hb : Below w.heap.size w w') : Byt w' ao l := by
  rcases h with h | ⟨b, o, rfl, hw, hc⟩
  · exact .inl h
  · exact .inr ⟨b, o, rfl, Nat.lt_of_lt_of_le hw hb.size, fun i c hi => (hb.cell (p := ⟨b, o + i, none⟩) hw).trans (hc i c hi)⟩
theorem strOfNums_u8 (l : List UInt8) : strOfNums (l.map fun b => (b.toNat : Int)) = ⟨l.toArray⟩ := by
  have := bytesOf_toNat l
  unfold Lib.bytesOf at this
  unfold strOfNums
  rw [this]
/-- A slice's bytes as a string. -/
theorem conv_bytes (w : World) (b o n c : Nat) (l : List UInt8) (hn : l.length = n) (hc : ∀ i x, l[i]? = some x → w.cell? ⟨b, o + i, none⟩ = some (.int .u8 (x.toNat : Int))) :
    (convert 22 9 (.slice (some ⟨b, o, none⟩) n c)).run Tryd.prog w = .ok (.string ⟨l.toArray⟩) w := by
  rw [← strOfNums_u8 l]
  exact run_convert_bytes_arg (P := Tryd.prog) w 22 5 Tryd.underlying22 Tryd.underlying5 b o n c _ (by simpa using hn)
    (fun i hi => by rw [hc i l[i] (List.getElem?_eq_getElem (by omega))]; simp [List.getD, List.getElem?_eq_getElem (show i < l.length by omega)]) 9 Tryd.underlying9

set_option maxHeartbeats 1000000 in
theorem equal_any (v1 v2 : Value) (xs ys : List UInt8) (w : World)
    (h1 : (convert 22 9 v1).run Tryd.prog w = .ok (.string ⟨xs.toArray⟩) w) (h2 : (convert 22 9 v2).run Tryd.prog w = .ok (.string ⟨ys.toArray⟩) w) :
    Calls Tryd.prog 47 #[v1, v2] w fun e w' => e = .returned (.bool (xs == ys)) ∧ w = w' := by
  go_enter Tryd.func47, Tryd.ntmps47
  go_wp2
  go_ret
  refine ⟨?_, rfl⟩
  simp [ByteArray.toList_eq]

set_option maxHeartbeats 1000000 in
theorem hasPrefix_any (ao : Option Addr) (c g d : Nat) (l : List UInt8) (k : UInt8) (w : World) (hl : l.length ≤ c) (hb : Byt w ao l) (h0 : w.cell? ⟨g, 0, none⟩ = some (.int .u8 80)) (h1 : w.cell? ⟨g, 1, none⟩ = some (.int .u8 (k.toNat : Int))) :
    Calls Tryd.prog 29 #[.slice ao l.length c, .slice (some ⟨g, 0, none⟩) 2 d] w fun e w' => e = .returned (.bool (l.take 2 == [80, k])) ∧ w = w' := by
  by_cases h2 : 2 ≤ l.length
  · rcases hb with rfl | ⟨b, o, rfl, _, hc⟩
    · simp at h2
    have H := hid (equal_any (.slice (some ⟨b, o, none⟩) 2 c) (.slice (some ⟨g, 0, none⟩) 2 d) (l.take 2) [80, k] w
      (conv_bytes w b o 2 c _ (by simp; omega) (fun i x hi => hc i x (by rw [List.getElem?_take] at hi; split at hi; (· exact hi); (· cases hi))))
      (conv_bytes w g 0 2 d _ rfl (fun i x hi => by
        match i, hi with
        | 0, hi => cases hi; exact h0
        | 1, hi => cases hi; exact h1)))
    generalize (l.take 2 == [80, k]) = r at *
    generalize l.length = n at *
    clear hc h0 h1
    go_enter Tryd.func29, Tryd.ntmps29
    go_wp2_with (go_at_call 47; ((with_reducible refine H.out.mono ?_); rintro e w' ⟨rfl, rfl⟩))
    go_ret
    exact ⟨rfl, rfl⟩
  · have hr : (l.take 2 == [80, k]) = false := by
      rw [beq_eq_false_iff_ne]
      intro e
      have := congrArg List.length e
      simp at this
      omega
    rw [hr]
    generalize l.length = n at *
    clear hb hr h0 h1
    go_enter Tryd.func29, Tryd.ntmps29
    go_wp2
    go_ret
    exact ⟨rfl, rfl⟩

/-- May a picture be? -/
def rightB (W H : Int) (n : Nat) : Bool := (decide (1 ≤ W) && decide (W ≤ 256)) && (decide (1 ≤ H) && decide (H ≤ 256)) && decide ((n : Int) = W * H)

set_option maxHeartbeats 2000000 in
theorem picRight_any (W H : Int) (ao : Option Addr) (n c : Nat) (w : World) (hn : n ≤ 281474976710656) :
    Calls Tryd.prog 25 #[.agg #[.int .i64 W, .int .i64 H, .slice ao n c]] w fun e w' => e = .returned (.bool (rightB W H n)) ∧ Below w.heap.size w w' := by
  have HW := hid (fun w => side_any W w)
  have HH := hid (fun w => side_any H w)
  have hb : Below w.heap.size w (w.alloc (.cells #[.int .i64 W, .int .i64 H, .slice ao n c] 25)) := (Below.refl _ _).alloc (Nat.le_refl _) _
  by_cases h1 : 1 ≤ W ∧ W ≤ 256
  · rw [show (decide (1 ≤ W) && decide (W ≤ 256)) = true by simp [h1]] at HW
    by_cases h2 : 1 ≤ H ∧ H ≤ 256
    · rw [show (decide (1 ≤ H) && decide (H ≤ 256)) = true by simp [h2]] at HH
      have hr : rightB W H n = ((n : Int) == W * H) := by
        unfold rightB
        simp only [h1.1, h1.2, h2.1, h2.2, decide_true, Bool.and_self, Bool.true_and]
        rw [Bool.eq_iff_iff, decide_eq_true_eq, beq_iff_eq]
      rw [hr]
      clear hr
      have p1 : 0 ≤ W * H := Int.mul_nonneg (by omega) (by omega)
      have p2 : W * H ≤ 256 * 256 := Int.mul_le_mul h1.2 h2.2 (by omega) (by omega)
      have hw : IntKind.i64.wrap (W * H) = W * H := IntWalk.i64_in _ (by omega)
      clear h1 h2
      replace hb := hid hb
      go_enter Tryd.func25, Tryd.ntmps25
      go_wp2_with (go_at_call 31; first | ((with_reducible refine (HW.out _).mono ?_); rintro e w' ⟨rfl, rfl⟩) | ((with_reducible refine (HH.out _).mono ?_); rintro e w' ⟨rfl, rfl⟩))
      go_ret
      exact ⟨by first | rfl | simp [hw], hb.out⟩
    · rw [show (decide (1 ≤ H) && decide (H ≤ 256)) = false by simp; omega] at HH
      have hr : rightB W H n = false := by
        unfold rightB
        rw [show (decide (1 ≤ H) && decide (H ≤ 256)) = false by simp; omega]
        simp
      rw [hr]
      clear hr h1 h2
      replace hb := hid hb
      go_enter Tryd.func25, Tryd.ntmps25
      go_wp2_with (go_at_call 31; first | ((with_reducible refine (HW.out _).mono ?_); rintro e w' ⟨rfl, rfl⟩) | ((with_reducible refine (HH.out _).mono ?_); rintro e w' ⟨rfl, rfl⟩))
      go_ret
      exact ⟨rfl, hb.out⟩
  · rw [show (decide (1 ≤ W) && decide (W ≤ 256)) = false by simp; omega] at HW
    have hr : rightB W H n = false := by
      unfold rightB
      rw [show (decide (1 ≤ W) && decide (W ≤ 256)) = false by simp; omega]
      simp
    rw [hr]
    clear hr h1 HH
    replace hb := hid hb
    go_enter Tryd.func25, Tryd.ntmps25
    go_wp2_with (go_at_call 31; ((with_reducible refine (HW.out _).mono ?_); rintro e w' ⟨rfl, rfl⟩))
    go_ret
    exact ⟨rfl, hb.out⟩
end Go.Proofs.YtinhbebjlbnejaaDoor
