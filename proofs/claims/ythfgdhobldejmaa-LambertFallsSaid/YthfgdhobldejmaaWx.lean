/- Walks: burnishlaw07.awake. -/
import Derived.Test.YthfgdhobldejmaaLm
import Derived.Test.YthfgdhobldejmaaMt
import Derived.Test.YthfgdhobldejmaaSu
namespace Go.Proofs.Ythfgdhobldejmaa
open Go.RowKit

theorem p07_lit (n : Nat) (w : World) (h : n < 9218868437227405312) :
    Calls Try.prog 14 #[.float .f64 n] w fun e w' => e = .returned (iv (n, n)) ∧ Below w.heap.size w w' := by
  have tp := Dy.top_eq
  have e : Dy.enc (n : Int) = n := by unfold Dy.enc; rw [if_pos (by omega)]; exact Int.toNat_natCast n
  have H := p07_any (n : Int) w (by unfold Dy.ok; omega)
  rw [e] at H
  have e2 : Dy.E ((n : Int), (n : Int)) = (n, n) := by unfold Dy.E; rw [e]
  rw [e2] at H
  exact H

theorem aw1 : lamV (4607182418800017408, 4607182418800017408) = ((4599405781057128578, 4599405781057128579), 0) := by decide +kernel
theorem aw2 : lamV (0, 0) = ((0, 0), 0) := by decide +kernel
theorem aw3 : lamC (4602678819172646912, 4602678819172646912) (0, 0) = ((4602678819172646912, 4602678819172646912), 0) := by decide +kernel
theorem aw4 : lamC (4602678819172646912, 4602678819172646912) (4602678819172646912, 4602678819172646912) = ((4600427019358961664, 4600427019358961664), 0) := by decide +kernel
theorem aw5 : lamV (4609434218613702656, 4609434218613702656) = ((0, 0), 2) := by decide +kernel

set_option maxRecDepth 100000 in
set_option maxHeartbeats 8000000 in
theorem awake07_any (w : World) :
    Calls Try.prog 16 #[] w fun e w' => e = .returned (.bool true) ∧ Below w.heap.size w w' := by
  have P := hid (fun n w h => p07_lit n w h)
  have V1 := hid (fun w => lamValue_any (4607182418800017408, 4607182418800017408) w ⟨W_lit (by decide), W_lit (by decide)⟩)
  have V2 := hid (fun w => lamDens_any (0, 0) w ⟨W_lit (by decide), W_lit (by decide)⟩)
  have V3 := hid (fun w => lamCap_any (4602678819172646912, 4602678819172646912) (0, 0) w ⟨W_lit (by decide), W_lit (by decide)⟩ ⟨W_lit (by decide), W_lit (by decide)⟩)
  have V4 := hid (fun w => lamCap_any (4602678819172646912, 4602678819172646912) (4602678819172646912, 4602678819172646912) w ⟨W_lit (by decide), W_lit (by decide)⟩ ⟨W_lit (by decide), W_lit (by decide)⟩)
  have V5 := hid (fun w => lamValue_any (4609434218613702656, 4609434218613702656) w ⟨W_lit (by decide), W_lit (by decide)⟩)
  rw [aw1] at V1
  rw [aw2] at V2
  rw [aw3] at V3
  rw [aw4] at V4
  rw [aw5] at V5
  have g1 : Dy.fgt 4599405781057128578 4599405781053817700 = true := by decide +kernel
  have g2 : Dy.flt 4599405781057128579 4599405781071832099 = true := by decide +kernel
  have s1 : ∀ t w, (binOp .sub t (.float .f64 4599405781057128579) (.float .f64 4599405781057128578)).run Try.prog w = .ok (.float .f64 4363988038922010624) w := fun t w => run_float_arith w .sub t .f64 _ _ _ (by decide +kernel)
  have g3 : Dy.flt 4363988038922010624 4382002437431492608 = true := by decide +kernel
  have q1 : ∀ w, (Op.equalIn 10000 26 (.agg #[.float .f64 0, .float .f64 0]) (.agg #[.float .f64 0, .float .f64 0])).run Try.prog w = .ok true w := fun w => by kernel_rfl
  have q2 : ∀ w, (Op.equalIn 10000 26 (.agg #[.float .f64 4602678819172646912, .float .f64 4602678819172646912]) (.agg #[.float .f64 4602678819172646912, .float .f64 4602678819172646912])).run Try.prog w = .ok true w := fun w => by kernel_rfl
  have q3 : ∀ w, (Op.equalIn 10000 26 (.agg #[.float .f64 4600427019358961664, .float .f64 4600427019358961664]) (.agg #[.float .f64 4600427019358961664, .float .f64 4600427019358961664])).run Try.prog w = .ok true w := fun w => by kernel_rfl
  have HB := Below.refl w.heap.size w
  go_enter Try.func16, Try.ntmps16
  go_wp2_with fail
  refine (P.out 4607182418800017408 _ (by decide)).mono ?_
  rintro e w1 ⟨rfl, b1⟩
  replace HB := HB.trans (b1.mono HB.size)
  clear b1
  go_wp2_with fail
  refine (V1.out _).mono ?_
  rintro e w2 ⟨rfl, b2⟩
  replace HB := HB.trans (b2.mono HB.size)
  clear b2
  have hA := Ivl.new w2 (4599405781057128578, 4599405781057128579)
  replace HB := HB.alloc HB.size (.cells #[.float .f64 4599405781057128578, .float .f64 4599405781057128579] 26)
  go_wp2_with fail
  refine (P.out 0 _ (by decide)).mono ?_
  rintro e w3 ⟨rfl, b3⟩
  replace hA := hA.keep b3
  replace HB := HB.trans (b3.mono HB.size)
  clear b3
  go_wp2_with fail
  refine (V2.out _).mono ?_
  rintro e w4 ⟨rfl, b4⟩
  replace hA := hA.keep b4
  replace HB := HB.trans (b4.mono HB.size)
  clear b4
  replace hA := hA.put (.cells #[.float .f64 0, .float .f64 0] 26)
  have hB := Ivl.new w4 (0, 0)
  replace HB := HB.alloc HB.size (.cells #[.float .f64 0, .float .f64 0] 26)
  go_wp2_with fail
  refine (P.out 4602678819172646912 _ (by decide)).mono ?_
  rintro e w5 ⟨rfl, b5⟩
  replace hA := hA.keep b5
  replace hB := hB.keep b5
  replace HB := HB.trans (b5.mono HB.size)
  clear b5
  go_wp2_with fail
  refine (P.out 0 _ (by decide)).mono ?_
  rintro e w6 ⟨rfl, b6⟩
  replace hA := hA.keep b6
  replace hB := hB.keep b6
  replace HB := HB.trans (b6.mono HB.size)
  clear b6
  go_wp2_with fail
  refine (V3.out _).mono ?_
  rintro e w7 ⟨rfl, b7⟩
  replace hA := hA.keep b7
  replace hB := hB.keep b7
  replace HB := HB.trans (b7.mono HB.size)
  clear b7
  replace hA := hA.put (.cells #[.float .f64 4602678819172646912, .float .f64 4602678819172646912] 26)
  replace hB := hB.put (.cells #[.float .f64 4602678819172646912, .float .f64 4602678819172646912] 26)
  have hC := Ivl.new w7 (4602678819172646912, 4602678819172646912)
  replace HB := HB.alloc HB.size (.cells #[.float .f64 4602678819172646912, .float .f64 4602678819172646912] 26)
  go_wp2_with fail
  refine (P.out 4602678819172646912 _ (by decide)).mono ?_
  rintro e w8 ⟨rfl, b8⟩
  replace hA := hA.keep b8
  replace hB := hB.keep b8
  replace hC := hC.keep b8
  replace HB := HB.trans (b8.mono HB.size)
  clear b8
  go_wp2_with fail
  refine (P.out 4602678819172646912 _ (by decide)).mono ?_
  rintro e w9 ⟨rfl, b9⟩
  replace hA := hA.keep b9
  replace hB := hB.keep b9
  replace hC := hC.keep b9
  replace HB := HB.trans (b9.mono HB.size)
  clear b9
  go_wp2_with fail
  refine (V4.out _).mono ?_
  rintro e w10 ⟨rfl, b10⟩
  replace hA := hA.keep b10
  replace hB := hB.keep b10
  replace hC := hC.keep b10
  replace HB := HB.trans (b10.mono HB.size)
  clear b10
  replace hA := hA.put (.cells #[.float .f64 4600427019358961664, .float .f64 4600427019358961664] 26)
  replace hB := hB.put (.cells #[.float .f64 4600427019358961664, .float .f64 4600427019358961664] 26)
  replace hC := hC.put (.cells #[.float .f64 4600427019358961664, .float .f64 4600427019358961664] 26)
  have hD := Ivl.new w10 (4600427019358961664, 4600427019358961664)
  replace HB := HB.alloc HB.size (.cells #[.float .f64 4600427019358961664, .float .f64 4600427019358961664] 26)
  go_wp2_with fail
  refine (P.out 4609434218613702656 _ (by decide)).mono ?_
  rintro e w11 ⟨rfl, b11⟩
  replace hA := hA.keep b11
  replace hB := hB.keep b11
  replace hC := hC.keep b11
  replace hD := hD.keep b11
  replace HB := HB.trans (b11.mono HB.size)
  clear b11
  go_wp2_with fail
  refine (V5.out _).mono ?_
  rintro e w12 ⟨rfl, b12⟩
  replace hA := hA.keep b12
  replace hB := hB.keep b12
  replace hC := hC.keep b12
  replace hD := hD.keep b12
  replace HB := HB.trans (b12.mono HB.size)
  clear b12
  replace hA := hA.put (.cells #[.float .f64 0, .float .f64 0] 26)
  replace hB := hB.put (.cells #[.float .f64 0, .float .f64 0] 26)
  replace hC := hC.put (.cells #[.float .f64 0, .float .f64 0] 26)
  replace hD := hD.put (.cells #[.float .f64 0, .float .f64 0] 26)
  have hE := Ivl.new w12 (0, 0)
  replace HB := HB.alloc HB.size (.cells #[.float .f64 0, .float .f64 0] 26)
  clear hE
  go_wp2_with fail
  have hA0 : Ivl w2.heap.size (4599405781057128578, 4599405781057128579) (w12.alloc (.cells #[.float .f64 0, .float .f64 0] 26)).drew := hA.keep (Below.refl _ _).drew
  have hB0 : Ivl w4.heap.size (0, 0) (w12.alloc (.cells #[.float .f64 0, .float .f64 0] 26)).drew := hB.keep (Below.refl _ _).drew
  have hC0 : Ivl w7.heap.size (4602678819172646912, 4602678819172646912) (w12.alloc (.cells #[.float .f64 0, .float .f64 0] 26)).drew := hC.keep (Below.refl _ _).drew
  have hD0 : Ivl w10.heap.size (4600427019358961664, 4600427019358961664) (w12.alloc (.cells #[.float .f64 0, .float .f64 0] 26)).drew := hD.keep (Below.refl _ _).drew
  replace HB := HB.drew
  go_region_held3 (fun wS => wS.cell? ⟨w2.heap.size, 0, none⟩ = some (.float .f64 4599405781057128578) ∧ wS.cell? ⟨w2.heap.size, 1, none⟩ = some (.float .f64 4599405781057128579) ∧ wS.cell? ⟨w4.heap.size, 0, none⟩ = some (.float .f64 0) ∧ wS.cell? ⟨w4.heap.size, 1, none⟩ = some (.float .f64 0) ∧ wS.cell? ⟨w7.heap.size, 0, none⟩ = some (.float .f64 4602678819172646912) ∧ wS.cell? ⟨w7.heap.size, 1, none⟩ = some (.float .f64 4602678819172646912) ∧ wS.cell? ⟨w10.heap.size, 0, none⟩ = some (.float .f64 4600427019358961664) ∧ wS.cell? ⟨w10.heap.size, 1, none⟩ = some (.float .f64 4600427019358961664))
    (first | exact ⟨hA2.s0, hA2.s1, hB2.s0, hB2.s1, hC2.s0, hC2.s1, hD2.s0, hD2.s1⟩ | exact ⟨hA1.s0, hA1.s1, hB1.s0, hB1.s1, hC1.s0, hC1.s1, hD1.s0, hD1.s1⟩ | exact ⟨hA0.s0, hA0.s1, hB0.s0, hB0.s1, hC0.s0, hC0.s1, hD0.s0, hD0.s1⟩)
    (first | (go_at_call 14; first | (have tok := hA1; refine (P.out _ _ (by decide)).mono ?_; rintro e wz ⟨rfl, bz⟩; have hA2 := hA1.keep bz; have hB2 := hB1.keep bz; have hC2 := hC1.keep bz; have hD2 := hD1.keep bz; have HB2 := HB1.trans (bz.mono HB1.size)) | (refine (P.out _ _ (by decide)).mono ?_; rintro e wy ⟨rfl, by1⟩; have hA1 := hA0.keep by1; have hB1 := hB0.keep by1; have hC1 := hC0.keep by1; have hD1 := hD0.keep by1; have HB1 := HB.trans (by1.mono HB.size))))
  go_wp2_with fail
  go_ret
  exact ⟨rfl, HB2⟩
end Go.Proofs.Ythfgdhobldejmaa
