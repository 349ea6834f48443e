/- Rows of package pgm: a slice of bytes and a byte, opened; the table, out of what the row lists. -/
import Derived.Test.YtinhbebjlbnejaaDoorFv
import Derived.Test.YtinhbebjlbnejaaDoorRows
import Derived.WalkKit
import Derived.ProofKit
import Derived.OpenShut
import Derived.LaidMore
import Derived.Stop.Joined
import Derived.Stop.LaidErr
import Derived.Lib.LaidTab
import Derived.Lib.SlBytesRowKit
namespace Go.Proofs.YtinhbebjlbnejaaDoor
open Go.ChangeShapes Go.WideShapes Go.ChangeAt Go.RowKit
open Go
set_option linter.unusedVariables false
set_option linter.unusedSimpArgs false

theorem u8_of {x : Int} (h : (Lit.int .u8 x).wf = true) : ∃ u : UInt8, x = (u.toNat : Int) := by
  have hb := byte_of_wf h
  refine ⟨UInt8.ofNat x.toNat, ?_⟩
  rw [UInt8.toNat_ofNat']
  omega

/-- A slice of bytes that came in. -/
theorem opened_byt {H : Type} {enc : TypeId × Value → H} {W : World} {a0 : Option Addr} {len cap : Nat} {d0 : DataW H} {p : List MemPlace}
    (h0 : DataW.Trod enc Tryd.prog W 0 (fun _ => true) true 22 (.slice a0 len cap) d0 p) : ∃ l : List UInt8, l.length = len ∧ len ≤ cap ∧ len ≤ 9223372036854775807 ∧ Byt W a0 l := by
  have hc : Tryd.prog.cellsOf 5 = 1 := by kernel_rfl
  obtain ⟨fuel, hf⟩ := h0
  rcases open_ints Tryd.underlying22 Tryd.underlying5 hc hf with ⟨hcs, hx⟩ | ⟨a, len', cap', zs, hcs, _, hl, hm, hz, hx, hcell, hwz⟩
  · simp [Value.cells] at hcs
    obtain ⟨rfl, rfl, rfl⟩ := hcs
    exact ⟨[], rfl, Nat.le_refl _, by omega, .inl rfl⟩
  · simp [Value.cells] at hcs
    obtain ⟨rfl, rfl, rfl⟩ := hcs
    unfold maxLen at hm
    simp only [if_true] at hz
    by_cases h0 : len = 0
    · subst h0
      exact ⟨[], rfl, Nat.zero_le _, by omega, .inl rfl⟩
    have hB : Lib.BytesIn W (some a) len zs := Lib.BytesIn.of_cells (fun i hi => hcell i (by omega))
    obtain ⟨b, o, e, hcl⟩ := hB (by omega)
    cases e
    refine ⟨(zs.take len).map fun z => UInt8.ofNat z.toNat, by simp; omega, by omega, by omega, .inr ⟨b, o, rfl, ?_, fun i c hi => ?_⟩⟩
    · have := World.block_lt_of_cell? _ _ (hcl 0 (by omega)); exact this
    · rw [List.getElem?_map] at hi
      obtain ⟨z, hz1, rfl⟩ := Option.map_eq_some_iff.1 hi
      have hil : i < len := by
        have := (List.getElem?_eq_some_iff.1 hz1).1
        simp at this; omega
      have hz2 : zs[i]? = some z := by rw [List.getElem?_take, if_pos hil] at hz1; exact hz1
      have hb := byte_of_wf (hwz z (List.mem_of_getElem? hz2))
      rw [hcl i hil, List.getD, hz2]
      simp only [Option.getD_some]
      have e : ((UInt8.ofNat z.toNat).toNat : Int) = z := by rw [UInt8.toNat_ofNat']; omega
      rw [e]

abbrev laid3 : List (String × DataW Unit) := [("math/bits.deBruijn32tab", Rows.laid_math_bits_deBruijn32tab), ("math/bits.deBruijn64tab", Rows.laid_math_bits_deBruijn64tab), ("internal/strconv.uint64pow10", Rows.laid_internal_strconv_uint64pow10)]
theorem laid_tab : (Rows.laid_internal_strconv_uint64pow10 : DataW Unit) = Lib.tabData .u64 Lib.pow10Tab := by
  kernel_rfl
theorem tab_of_laid {W : World} (h : laidMetH Tryd.prog laid3 W) : Tab W := by
  rw [MakeChecks.laidMetH_plain _ _ _ (by kernel_rfl)] at h
  have h2 := h.tail.tail
  rw [laid_tab] at h2
  exact Lib.tabIs_of_head (zs := Lib.pow10Tab) gTab (t := 141) (by kernel_rfl) Tryd.underlying141 Tryd.underlying93 (by kernel_rfl) (by kernel_rfl) h2
theorem door_met (os : Os) (args : Array Value) : laidMetH Tryd.prog laid3 ((World.doorLaid Tryd.prog 4000 os).forCall (fun _ _ => 0) ⟨#[], args, []⟩).memory :=
  laidMetH_of_parts3 (fuel := 8) (laidMet_of_run' 8 (by kernel_rfl) (by kernel_rfl)) (by kernel_rfl) (by kernel_rfl)
theorem laidOut : laidOutB Tryd.prog = true := by kernel_rfl
theorem own : ownKnob Tryd.prog.godebug = none := by kernel_rfl
end Go.Proofs.YtinhbebjlbnejaaDoor
