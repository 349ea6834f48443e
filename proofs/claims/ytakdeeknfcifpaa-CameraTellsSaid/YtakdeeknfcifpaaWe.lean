/- Walks: burnishref25.Inside of two numbers whose squares are summed up digit by digit. -/
import Derived.Test.YtakdeeknfcifpaaWd
import Derived.Test.YtakdeeknfcifpaaWp
import Derived.BigRegion
import Derived.Laws.OwnMore
import Derived.Deep.CutRange
namespace Go.Proofs.Ytakdeeknfcifpaa
open Go Go.RowKit

def uL (l : List Nat) : List Value := l.map fun n : Nat => .int .u64 (n : Int)
theorem uL_at {l : List Nat} {j : Nat} (h : j < l.length) : (uL l)[j]? = some (.int .u64 (l.getD j 0 : Nat)) := by
  unfold uL
  rw [List.getElem?_map, List.getD_eq_getElem?_getD, List.getElem?_eq_getElem h]; rfl
theorem uL_set (l : List Nat) (j v : Nat) : (uL l).set j (.int .u64 (v : Int)) = uL (l.set j v) := by
  unfold uL; rw [List.map_set]
theorem digs7_at (D : Nat → Nat) {k : Nat} (h : k < 7) : (digs7 D 7)[k]? = some (.int .u64 (D k : Int)) := by
  unfold digs7
  rw [List.getElem?_map, List.getElem?_range h]; rfl
theorem own_shape {w : World} {base : Nat} {e : TypeId} {size : Nat} {v : Value} {n : Nat} {xs : List Value} (h : w.ownsRow base e size v n xs) (hn : 0 < n) : ∃ g cap, v = .slice (some ⟨g, 0, none⟩) n cap ∧ base ≤ g ∧ g < w.heap.size := by
  rcases h.2 with ⟨_, h0⟩ | ⟨g, cap, cur, rfl, hb, hg, _⟩
  · omega
  · exact ⟨g, cap, rfl, hb, (Array.getElem?_eq_some_iff.1 hg).1⟩
theorem own_below {w w' : World} {B : Nat} {e : TypeId} {k : Nat} {v : Value} {n : Nat} {xs : List Value} (h : w.ownsRow B e k v n xs) (hb : Below w.heap.size w w') : w'.ownsRow B e k v n xs := by
  refine ⟨h.1, ?_⟩
  rcases h.2 with hn | ⟨g, cap, cur, rfl, hb', hgg, rest⟩
  · exact .inl hn
  · exact .inr ⟨g, cap, cur, rfl, hb', (hb.block g (Array.getElem?_eq_some_iff.1 hgg).1).trans hgg, rest⟩
theorem own_le {w : World} {B B' : Nat} {e : TypeId} {k : Nat} {v : Value} {n : Nat} {xs : List Value} (h : w.ownsRow B e k v n xs) (hB : B' ≤ B) : w.ownsRow B' e k v n xs := by
  refine ⟨h.1, ?_⟩
  rcases h.2 with hn | ⟨g, cap, cur, rfl, hb', rest⟩
  · exact .inl hn
  · exact .inr ⟨g, cap, cur, rfl, Nat.le_trans hB hb', rest⟩
theorem mk15 : (madeCells #[Value.int .u64 0] 15).toList = uL (List.replicate 15 0) := by rw [toList_madeCells_one]; rfl

/-- What a round of the sums keeps. -/
structure SumAt (B ga ca gb cb gs : Nat) (w0 : World) (DX DY : Nat → Nat) (s : Nat) (w : World) : Prop where
  l : ∃ l : List Nat, Dy.SumInv DX DY s l ∧ w.ownsRow B 41 1 (.slice (some ⟨gs, 0, none⟩) 15 15) 15 (uL l)
  a : w.ownsRow B 41 1 (.slice (some ⟨ga, 0, none⟩) 7 ca) 7 (digs7 DX 7)
  b : w.ownsRow B 41 1 (.slice (some ⟨gb, 0, none⟩) 7 cb) 7 (digs7 DY 7)
  ne : ga ≠ gs ∧ gb ≠ gs ∧ B ≤ gs
  u : Below B w0 w

theorem mul_nat {a b : Nat} (ha : a < 65536) (hb : b < 65536) : IntKind.u64.wrap ((a : Int) * b) = ((a * b : Nat) : Int) := by
  have := Dy.prod_16 ha hb
  rw [← Int.natCast_mul]
  exact IntWalk.u64_in _ (by omega)
theorem low_wrap {q a b c d : Nat} (hq : q < 4294967296) (ha : a < 65536) (hb : b < 65536) (hc : c < 65536) (hd : d < 65536) :
    IntKind.u64.wrap (IntKind.u64.wrap ((q : Int) + (IntKind.u64.wrap ((a : Int) * b)).tmod 65536) + (IntKind.u64.wrap ((c : Int) * d)).tmod 65536) = ((q + a * b % 65536 + c * d % 65536 : Nat) : Int) := by
  rw [mul_nat ha hb, mul_nat hc hd]
  generalize a * b = m
  generalize c * d = n
  have e1 : ((m : Nat) : Int).tmod 65536 = ((m % 65536 : Nat) : Int) := by rw [Int.tmod_eq_emod_of_nonneg (by omega)]; omega
  have e2 : ((n : Nat) : Int).tmod 65536 = ((n % 65536 : Nat) : Int) := by rw [Int.tmod_eq_emod_of_nonneg (by omega)]; omega
  rw [e1, e2, IntWalk.u64_in ((q : Int) + ((m % 65536 : Nat) : Int)) (by omega), IntWalk.u64_in _ (by omega)]
  omega
theorem high_wrap {q a b c d : Nat} (hq : q < 4294967296) (ha : a < 65536) (hb : b < 65536) (hc : c < 65536) (hd : d < 65536) :
    IntKind.u64.wrap (IntKind.u64.wrap ((q : Int) + IntKind.u64.wrap ((IntKind.u64.wrap ((a : Int) * b)).tdiv 65536)) + IntKind.u64.wrap ((IntKind.u64.wrap ((c : Int) * d)).tdiv 65536)) = ((q + a * b / 65536 + c * d / 65536 : Nat) : Int) := by
  have p1 := Dy.prod_16 ha hb
  have p2 := Dy.prod_16 hc hd
  rw [mul_nat ha hb, mul_nat hc hd]
  generalize a * b = m at *
  generalize c * d = n at *
  have e1 : IntKind.u64.wrap (((m : Nat) : Int).tdiv 65536) = ((m / 65536 : Nat) : Int) := by
    rw [Int.tdiv_eq_ediv_of_nonneg (by omega), IntWalk.u64_in _ (by omega)]; omega
  have e2 : IntKind.u64.wrap (((n : Nat) : Int).tdiv 65536) = ((n / 65536 : Nat) : Int) := by
    rw [Int.tdiv_eq_ediv_of_nonneg (by omega), IntWalk.u64_in _ (by omega)]; omega
  rw [e1, e2, IntWalk.u64_in ((q : Int) + ((m / 65536 : Nat) : Int)) (by omega), IntWalk.u64_in _ (by omega)]
  omega
theorem carry_wrap {a b : Nat} (ha : a < 4294967296) (hb : b < 4294967296) : IntKind.u64.wrap ((a : Int) + IntKind.u64.wrap ((b : Int) / 65536)) = ((a + b / 65536 : Nat) : Int) := by
  rw [IntWalk.u64_in ((b : Int) / 65536) (by omega), IntWalk.u64_in _ (by omega)]
  omega
theorem wrap_u64 {n : Nat} (h : n < 18446744073709551616) : IntKind.u64.wrap (n : Int) = n := IntWalk.u64_in _ (by omega)

set_option maxRecDepth 100000 in
set_option maxHeartbeats 4000000 in
theorem refIn_loop {x y ax ay X Y : Nat} {xX yX DX xY yY DY : Nat → Nat} (w : World)
    (MX : Hid (∀ w, Calls Try.prog 27 #[.float .f64 x] w fun e w' => e = .returned (.bool true) ∧ Below w.heap.size w w'))
    (MY : Hid (∀ w, Calls Try.prog 27 #[.float .f64 y] w fun e w' => e = .returned (.bool true) ∧ Below w.heap.size w w'))
    (BX : Hid (∀ w, Calls Try.prog 28 #[.float .f64 x] w fun e w' => e = .returned (.float .f64 ax) ∧ Below w.heap.size w w'))
    (BY : Hid (∀ w, Calls Try.prog 28 #[.float .f64 y] w fun e w' => e = .returned (.float .f64 ay) ∧ Below w.heap.size w w'))
    (sw : Hid (Dy.flt ax ay = false ∧ X = ax ∧ Y = ay ∨ Dy.flt ax ay = true ∧ X = ay ∧ Y = ax))
    (h1 : Hid (Dy.feq X 4607182418800017408 = false)) (h2 : Hid (Dy.flt Y 4368491638549381120 = false)) (h3 : Hid (Dy.flt X 4602678819172646912 = false))
    (EX : Dy.Digits X xX yX DX) (EY : Dy.Digits Y xY yY DY)
    (HA : Hid (Dy.mag X * 65536 ^ 7 = Dy.digS DX * Dy.one)) (HB : Hid (Dy.mag Y * 65536 ^ 7 = Dy.digS DY * Dy.one)) :
    Calls Try.prog 6 #[.float .f64 x, .float .f64 y] w fun e w' => e = .returned (.tuple #[.bool (decide (Dy.mag X * Dy.mag X + Dy.mag Y * Dy.mag Y < Dy.one * Dy.one)), .int .i64 0]) ∧ Below w.heap.size w w' := by
  obtain ⟨i0, hi, hz0, hz1, hz2⟩ := info_parts u64_info
  have CA := hid (fun w => digits_any EX w)
  have CB := hid (fun w => digits_any EY w)
  have LX := hid (fun k (h : k < 7) => (EX.st k h).dl)
  have LY := hid (fun k (h : k < 7) => (EY.st k h).dl)
  obtain ⟨R, hR⟩ : ∃ R, R = decide (Dy.mag X * Dy.mag X + Dy.mag Y * Dy.mag Y < Dy.one * Dy.one) := ⟨_, rfl⟩
  rw [← hR]
  replace hR := hid hR
  clear EX EY
  go_enter Try.func6, Try.ntmps6
  go_upto_if 26 with (first | (go_at_call 27; first | ((with_reducible refine (MX.out _).mono ?_); rintro e wa ⟨rfl, hba⟩) | ((with_reducible refine (MY.out _).mono ?_); rintro e wb ⟨rfl, hbb⟩)) | (go_at_call 28; first | ((with_reducible refine (BX.out _).mono ?_); rintro e wg ⟨rfl, hbg⟩) | ((with_reducible refine (BY.out _).mono ?_); rintro e wh ⟨rfl, hbh⟩)))
  go_cut [0, 1] from 12 to 41 (fun a b wx => a = .float .f64 X ∧ b = .float .f64 Y ∧ wx = wh)
  case first =>
    rcases sw.out with ⟨s, rfl, rfl⟩ | ⟨s, rfl, rfl⟩
    all_goals
      rw [s]
      go_wp2
      go_meet
      exact ⟨rfl, rfl, rfl⟩
  case rest =>
  obtain ⟨rfl, rfl, rfl⟩ := hcut
  clear MX MY BX BY sw
  replace h1 := h1.out
  replace h2 := h2.out
  replace h3 := h3.out
  go_wp2_with (first | (go_at_call 29; first | ((with_reducible refine (CA.out _).mono ?_); rintro e w1 ⟨va, rfl, ha, hb1⟩) | ((with_reducible refine (CB.out _).mono ?_); rintro e w2 ⟨vb, rfl, hb, hb2⟩)) | (at_make; refine wpList_make_full _ rfl _ _ 51 rfl w.heap.size 41 i0 (.int .u64 0) 1 Try.underlying51 hi hz0 hz1 .i64 .i64 15 15 15 rfl rfl rfl rfl ?m1 ?m2 ?m3 ?_))
  case m1 => rw [hz2]; decide
  case m2 => decide
  case m3 => have := hba.size; have := hbb.size; have := hbg.size; have := hbh.size; have := hb1.size; have := hb2.size; omega
  intro w4 hs hg
  rw [mk15] at hs
  obtain ⟨ga, ca, rfl, za1, za2⟩ := own_shape ha (by decide)
  obtain ⟨gb, cb, rfl, zb1, zb2⟩ := own_shape hb (by decide)
  have s1 := hba.size
  have s2 := hbb.size
  have s5 := hbg.size
  have s6 := hbh.size
  have s3 := hb1.size
  have s4 := hb2.size
  have S0 : SumAt w.heap.size ga ca gb cb w2.heap.size w DX DY (7 * 0) w4 := by
    refine ⟨⟨_, Dy.SumInv.zero _ _, hs⟩, ?_, ?_, ⟨by omega, by omega, by omega⟩, ?_⟩
    · exact (own_le (own_below ha hb2) (by omega)).kept hg (.inr (by simp [Value.ownBlock]))
    · exact (own_le hb (by omega)).kept hg (.inr (by simp [Value.ownBlock]))
    · exact (((((hba.trans (hbb.mono s1)).trans (hbg.mono (by omega))).trans (hbh.mono (by omega))).trans (hb1.mono (by omega))).trans (hb2.mono (by omega))).grown hg (by omega) (by simp)
  clear hs hg hb2 hb1 hbb hba hbg hbh ha hb za1 za2 zb1 zb2 s1 s2 s3 s4 s5 s6 CA CB h1 h2 h3 hi hz0 hz1 hz2
  generalize w2.heap.size = gs at *
  go_wp2
  go_loopw [9] (fun i wr => ∃ n : Nat, n ≤ 7 ∧ i = .int .i64 n ∧ SumAt w.heap.size ga ca gb cb gs w DX DY (7 * n) wr) (fun i _ => 7 - (intOf i).toNat)
  case atStart => exact ⟨0, by decide, rfl, S0⟩
  case round =>
    obtain ⟨n, hn, rfl, S⟩ := hrel
    by_cases h7 : n < 7
    · go_wp2
      go_loopw [10] (fun i wr => ∃ m : Nat, m ≤ 7 ∧ i = .int .i64 m ∧ SumAt w.heap.size ga ca gb cb gs w DX DY (7 * n + m) wr) (fun i _ => 7 - (intOf i).toNat)
      case atStart => exact ⟨0, by decide, rfl, S⟩
      case round =>
        clear S
        obtain ⟨m, hm, rfl, S⟩ := hrel
        by_cases m7 : m < 7
        · obtain ⟨⟨l, HI, hl⟩, hA, hB, ⟨na, nb, ng⟩, hu⟩ := S
          have len := HI.len
          have ca1 := (hA.cellAt n (by omega)).trans (digs7_at DX h7)
          have ca2 := (hA.cellAt m (by omega)).trans (digs7_at DX m7)
          have cb1 := (hB.cellAt n (by omega)).trans (digs7_at DY h7)
          have cb2 := (hB.cellAt m (by omega)).trans (digs7_at DY m7)
          obtain ⟨q, hq⟩ : ∃ q, q = l.getD (n + m + 1) 0 := ⟨_, rfl⟩
          obtain ⟨d1, hd1⟩ : ∃ q, q = DX n := ⟨_, rfl⟩
          obtain ⟨d2, hd2⟩ : ∃ q, q = DX m := ⟨_, rfl⟩
          obtain ⟨d3, hd3⟩ : ∃ q, q = DY n := ⟨_, rfl⟩
          obtain ⟨d4, hd4⟩ : ∃ q, q = DY m := ⟨_, rfl⟩
          have cs1 := (hl.cellAt (n + m + 1) (by omega)).trans (uL_at (by omega))
          have fs1 := hl.frozenAt (n + m + 1)
          rw [← hq] at cs1
          rw [← hd1] at ca1
          rw [← hd2] at ca2
          rw [← hd3] at cb1
          rw [← hd4] at cb2
          have b1 : d1 < 65536 := by rw [hd1]; exact LX.out n h7
          have b2 : d2 < 65536 := by rw [hd2]; exact LX.out m m7
          have b3 : d3 < 65536 := by rw [hd3]; exact LY.out n h7
          have b4 : d4 < 65536 := by rw [hd4]; exact LY.out m m7
          have q1 : q < 4294967296 := by have := HI.le (n + m + 1); omega
          have LW := hid (low_wrap q1 b1 b2 b3 b4)
          have q2b := hid (show (Dy.lowS l (n + m) (d1 * d2) (d3 * d4)).getD (n + m) 0 < 4294967296 by
            unfold Dy.lowS
            rw [Dy.getD_set, if_neg (by omega)]
            have := HI.le (n + m); omega)
          have hIs := hid (HI.step h7 m7 LX.out LY.out)
          rw [← hd1, ← hd2, ← hd3, ← hd4] at hIs
          clear HI q1 HA HB LX LY S0
          replace hl := hid hl
          replace hA := hid hA
          replace hB := hid hB
          replace hu := hid hu
          replace hq := hid hq
          replace hd1 := hid hd1
          replace hd2 := hid hd2
          replace hd3 := hid hd3
          replace hd4 := hid hd4
          replace b1 := hid b1
          replace b2 := hid b2
          replace b3 := hid b3
          replace b4 := hid b4
          go_upto_region 18 with fail
          go_cut [10] from 46 to 123 (fun v wx => v = .int .i64 m ∧ Hid (wx.ownsRow w.heap.size 41 1 (.slice (some ⟨gs, 0, none⟩) 15 15) 15 (uL (Dy.lowS l (n + m) (d1 * d2) (d3 * d4)))) ∧ Hid (wx.ownsRow w.heap.size 41 1 (.slice (some ⟨ga, 0, none⟩) 7 ca) 7 (digs7 DX 7)) ∧ Hid (wx.ownsRow w.heap.size 41 1 (.slice (some ⟨gb, 0, none⟩) 7 cb) 7 (digs7 DY 7)) ∧ Hid (Below w.heap.size w wx))
          case first =>
            go_region
            go_wp2_with fail
            go_meet
            rw [LW.out]
            have hs := hl.out.stored (n + m + 1) (.int .u64 ((q + d1 * d2 % 65536 + d3 * d4 % 65536 : Nat) : Int))
            refine ⟨rfl, hid ?_, hid (hA.out.kept hs.2 (.inr (by simpa [Value.ownBlock] using na))).drew, hid (hB.out.kept hs.2 (.inr (by simpa [Value.ownBlock] using nb))).drew, hid (hu.out.setCell (p := ⟨gs, n + m + 1, none⟩) ng (.int .u64 ((q + d1 * d2 % 65536 + d3 * d4 % 65536 : Nat) : Int))).drew⟩
            have := hs.1.drew
            rw [uL_set, hq.out] at this
            rw [hq.out]
            exact this
          case rest =>
            clear hl hA hB hu ca1 ca2 cb1 cb2 cs1 fs1 LW hq q
            obtain ⟨rfl, hl, hA, hB, hu⟩ := hcut
            have l1n : (Dy.lowS l (n + m) (d1 * d2) (d3 * d4)).length = 15 := by unfold Dy.lowS; rw [List.length_set, len]
            generalize Dy.lowS l (n + m) (d1 * d2) (d3 * d4) = l1 at *
            clear len l
            have ca1 := (hA.out.cellAt n (by omega)).trans (digs7_at DX h7)
            have ca2 := (hA.out.cellAt m (by omega)).trans (digs7_at DX m7)
            have cb1 := (hB.out.cellAt n (by omega)).trans (digs7_at DY h7)
            have cb2 := (hB.out.cellAt m (by omega)).trans (digs7_at DY m7)
            obtain ⟨q, hq⟩ : ∃ q, q = l1.getD (n + m) 0 := ⟨_, rfl⟩
            have cs1 := (hl.out.cellAt (n + m) (by omega)).trans (uL_at (by omega))
            have fs1 := hl.out.frozenAt (n + m)
            rw [← hq] at cs1 q2b
            rw [← hd1.out] at ca1
            rw [← hd2.out] at ca2
            rw [← hd3.out] at cb1
            rw [← hd4.out] at cb2
            have LW := hid (high_wrap q2b.out b1.out b2.out b3.out b4.out)
            replace hq := hid hq
            go_upto_region 19 with fail
            go_region
            rw [LW.out]
            have hs := hl.out.stored (n + m) (.int .u64 ((q + d1 * d2 / 65536 + d3 * d4 / 65536 : Nat) : Int))
            have hl' : (wc.setCell ⟨gs, n + m, none⟩ (.int .u64 ((q + d1 * d2 / 65536 + d3 * d4 / 65536 : Nat) : Int))).drew.ownsRow w.heap.size 41 1 (.slice (some ⟨gs, 0, none⟩) 15 15) 15 (uL (Dy.highS l1 (n + m) (d1 * d2) (d3 * d4))) := by
              have := hs.1.drew
              rw [uL_set, hq.out] at this
              rw [hq.out]
              exact this
            have S' : SumAt w.heap.size ga ca gb cb gs w DX DY (7 * n + (m + 1)) (wc.setCell ⟨gs, n + m, none⟩ (.int .u64 ((q + d1 * d2 / 65536 + d3 * d4 / 65536 : Nat) : Int))).drew := ⟨⟨_, hIs.out, hl'⟩, (hA.out.kept hs.2 (.inr (by simpa [Value.ownBlock] using na))).drew, (hB.out.kept hs.2 (.inr (by simpa [Value.ownBlock] using nb))).drew, ⟨na, nb, ng⟩, (hu.out.setCell (p := ⟨gs, n + m, none⟩) ng (.int .u64 ((q + d1 * d2 / 65536 + d3 * d4 / 65536 : Nat) : Int))).drew⟩
            clear hs hl' hl hA hB hu hIs ca1 ca2 cb1 cb2 cs1 fs1 LW
            generalize (wc.setCell ⟨gs, n + m, none⟩ (.int .u64 ((q + d1 * d2 / 65536 + d3 * d4 / 65536 : Nat) : Int))).drew = wr1 at *
            go_wp2
            go_roundw
            case rel => exact ⟨m + 1, by omega, by go_num, S'⟩
            case measure => simp [intOf]; omega
        · have h7m : m = 7 := by omega
          subst h7m
          clear HA HB LX LY S0
          go_wp2
          go_roundw
          case rel => exact ⟨n + 1, by omega, by go_num, by rw [Nat.mul_add]; exact S⟩
          case measure => simp [intOf]; omega
    · have h7n : n = 7 := by omega
      subst h7n
      clear LX LY S0
      obtain ⟨⟨l0, HI, hl⟩, _, _, ⟨_, _, ng⟩, hu⟩ := S
      replace HI := hid HI
      have C0 : ∃ l : List Nat, Dy.CarInv l0 14 l ∧ wr.ownsRow w.heap.size 41 1 (.slice (some ⟨gs, 0, none⟩) 15 15) 15 (uL l) ∧ Below w.heap.size w wr := ⟨l0, Dy.CarInv.start HI.out.len, hl, hu⟩
      clear hl hu
      go_wp2
      go_loopw [11] (fun i wr => ∃ k : Nat, k ≤ 14 ∧ i = .int .i64 k ∧ ∃ l : List Nat, Dy.CarInv l0 k l ∧ wr.ownsRow w.heap.size 41 1 (.slice (some ⟨gs, 0, none⟩) 15 15) 15 (uL l) ∧ Below w.heap.size w wr) (fun i _ => (intOf i).toNat)
      case atStart => exact ⟨14, by decide, rfl, C0⟩
      case round =>
        clear C0
        obtain ⟨k, hk, rfl, l, HC, hl, hu⟩ := hrel
        have len := HC.len
        cases k with
        | zero =>
          have cs1 := (hl.cellAt 0 (by omega)).trans (uL_at (by omega))
          have ans : decide (((l.getD 0 0 : Nat) : Int) < 65536) = R := by
            rw [hR.out, ← Dy.squares_lt HI.out HC HA.out HB.out]
            exact decide_eq_decide.2 (by omega)
          obtain ⟨q, hq⟩ : ∃ q, q = l.getD 0 0 := ⟨_, rfl⟩
          rw [← hq] at cs1 ans
          replace ans := hid ans
          replace hu := hid hu
          clear HI HC hl hq len HA HB
          go_wp2
          rw [ans.out]
          go_ret2
          exact ⟨rfl, hu.out⟩
        | succ j =>
          have cs1 := (hl.cellAt j (by omega)).trans (uL_at (by omega))
          have cs2 := (hl.cellAt (j + 1) (by omega)).trans (uL_at (by omega))
          have fs1 := hl.frozenAt j
          have q1 : l.getD j 0 < 4294967296 := by have a := HC.lo j (by omega); have b := HI.out.le j; omega
          have q2 : l.getD (j + 1) 0 < 4294967296 := by have a := HC.at_; have b := Dy.drop_le (M := 49 * 131072) (fun j => HI.out.le j) (j + 1); omega
          have CW := hid (carry_wrap q1 q2)
          have hIs := hid (HC.step HI.out.len (by omega))
          obtain ⟨p, hp⟩ : ∃ q, q = l.getD j 0 := ⟨_, rfl⟩
          obtain ⟨q, hq⟩ : ∃ q, q = l.getD (j + 1) 0 := ⟨_, rfl⟩
          rw [← hp] at cs1 CW hIs
          rw [← hq] at cs2 CW hIs
          replace hl := hid hl
          replace hu := hid hu
          clear q1 q2 hp hq HC HI HA HB
          go_wp2
          go_region
          rw [CW.out]
          have hs := hl.out.stored j (.int .u64 ((p + q / 65536 : Nat) : Int))
          have hl' : (wr.setCell ⟨gs, j, none⟩ (.int .u64 ((p + q / 65536 : Nat) : Int))).drew.ownsRow w.heap.size 41 1 (.slice (some ⟨gs, 0, none⟩) 15 15) 15 (uL (l.set j (p + q / 65536))) := by
            have := hs.1.drew
            rw [uL_set] at this
            exact this
          have S' : ∃ l : List Nat, Dy.CarInv l0 j l ∧ (wr.setCell ⟨gs, j, none⟩ (.int .u64 ((p + q / 65536 : Nat) : Int))).drew.ownsRow w.heap.size 41 1 (.slice (some ⟨gs, 0, none⟩) 15 15) 15 (uL l) ∧ Below w.heap.size w (wr.setCell ⟨gs, j, none⟩ (.int .u64 ((p + q / 65536 : Nat) : Int))).drew := ⟨_, hIs.out, hl', (hu.out.setCell (p := ⟨gs, j, none⟩) ng (.int .u64 ((p + q / 65536 : Nat) : Int))).drew⟩
          clear hs hl' hl hu hIs cs1 cs2 fs1 CW
          generalize (wr.setCell ⟨gs, j, none⟩ (.int .u64 ((p + q / 65536 : Nat) : Int))).drew = wr1 at *
          go_wp2
          go_roundw
          case rel => exact ⟨j, by omega, by go_num, S'⟩
          case measure => simp [intOf]
end Go.Proofs.Ytakdeeknfcifpaa
