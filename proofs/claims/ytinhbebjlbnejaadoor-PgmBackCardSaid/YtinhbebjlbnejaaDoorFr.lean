/- Walks: burnishlaw28.awake. -/
import Derived.Test.YtinhbebjlbnejaaDoorFq
namespace Go.Proofs.YtinhbebjlbnejaaDoor
open Go Go.RowKit
open Go.Lib (hid)
set_option linter.unusedSimpArgs false
set_option linter.unusedVariables false

/-- What bytes are read as: a picture. -/
theorem parse_some {ao : Option Addr} {n c W H : Nat} {x y : Int} {l g : List UInt8} {w : World} (hn : n = l.length) (hl : n ≤ c) (hbig : n ≤ 140737488355328) (hb : Byt w ao l) (hp : Pg.parse l = some ⟨W, H, g⟩) (hx : (W : Int) = x) (hy : (H : Int) = y) :
    Calls Tryd.prog 12 #[.slice ao n c] w fun e w' => ∃ ao' c', e = .returned (.tuple #[.agg #[.int .i64 x, .int .i64 y, .slice ao' g.length c'], .int .i64 0]) ∧
      (g.length ≤ c' ∧ Byt w' ao' g) ∧ Below w.heap.size w w' := by
  subst hn hx hy
  refine (parse_any ao c l w hl hbig hb).mono ?_
  rintro e w' ⟨hbe, ⟨hno, _⟩ | ⟨p', v, hp', rfl, ho⟩⟩
  · rw [hp] at hno; cases hno
  · rw [hp] at hp'
    cases hp'
    obtain ⟨ao', c', rfl, hc, hby⟩ := own_byt ho rfl
    exact ⟨ao', c', rfl, ⟨hc, hby⟩, hbe⟩
theorem parse_nil {ao : Option Addr} {n c : Nat} {l : List UInt8} {w : World} (hn : n = l.length) (hl : n ≤ c) (hbig : n ≤ 140737488355328) (hb : Byt w ao l) (hp : Pg.parse l = none) :
    Calls Tryd.prog 12 #[.slice ao n c] w fun e w' => e = .returned (.tuple #[.agg #[.int .i64 0, .int .i64 0, .slice none 0 0], .int .i64 280]) ∧ Below w.heap.size w w' := by
  subst hn
  refine (parse_any ao c l w hl hbig hb).mono ?_
  rintro e w' ⟨hbe, ⟨_, rfl⟩ | ⟨p', v, hp', _⟩⟩
  · exact ⟨rfl, hbe⟩
  · rw [hp] at hp'; cases hp'

namespace Pg
def pA : Pic := ⟨2, 1, [7, 255]⟩
def tA : List UInt8 := [80, 50, 32, 35, 120, 10, 48, 50, 32, 49, 32, 50, 53, 53, 32, 55, 32, 50, 53, 53]
def tB : List UInt8 := [80, 50, 32, 50, 32, 49, 32, 50, 53, 53, 32, 55]
def tC : List UInt8 := [80, 50, 32, 50, 32, 49, 32, 50, 53, 52, 32, 55, 32, 55]
theorem parse_tA : parse tA = some pA := by rfl
theorem parse_tB : parse tB = none := by rfl
theorem parse_tC : parse tC = none := by rfl
theorem plain_pA : plain pA = [80, 50, 10, 50, 32, 49, 10, 50, 53, 53, 10, 55, 32, 50, 53, 53, 10] := by
  simp [plain, pA, head, rows, row, dec, Lib.decDigits]
theorem parse_pA : parse (bytes pA) = some pA := parse_bytes (by rfl)
end Pg
/-- The levels that are looked at. -/
theorem levels_ok : floatToIntVal .f64 (Pg.levelF 0 0) .u8 = some 0 ∧ floatToIntVal .f64 (Pg.levelF 4607182418800017408 4607182418800017408) .u8 = some 255 ∧
    floatToIntVal .f64 (Pg.levelF 0 4607182418800017408) .u8 = some 128 ∧ floatToIntVal .f64 (Pg.levelF 4598175219545276416 4598175219545276416) .u8 = some 64 ∧
    floatToIntVal .f64 (Pg.levelF 13837309855095848960 4617315517961601024) .u8 = some 128 ∧ floatToIntVal .f64 (Pg.levelF 4611686018427387904 4621256167635550208) .u8 = some 255 := by decide +kernel
theorem greys_ok : floatToIntVal .f64 (Pg.levelF (Pg.gS (Pg.three (4607182418800017408, 4607182418800017408) (0, 0) (0, 0)) 3).1.1 (Pg.gS (Pg.three (4607182418800017408, 4607182418800017408) (0, 0) (0, 0)) 3).1.2) .u8 = some 64 ∧
    floatToIntVal .f64 (Pg.levelF (Pg.gS (Pg.three (0, 0) (4607182418800017408, 4607182418800017408) (0, 0)) 3).1.1 (Pg.gS (Pg.three (0, 0) (4607182418800017408, 4607182418800017408) (0, 0)) 3).1.2) .u8 = some 128 ∧
    floatToIntVal .f64 (Pg.levelF (Pg.gS (Pg.three (4607182418800017408, 4607182418800017408) (4607182418800017408, 4607182418800017408) (4607182418800017408, 4607182418800017408)) 3).1.1 (Pg.gS (Pg.three (4607182418800017408, 4607182418800017408) (4607182418800017408, 4607182418800017408) (4607182418800017408, 4607182418800017408)) 3).1.2) .u8 = some 255 := by decide +kernel
theorem rights_ok : Dy.ivR (0, 0) = true ∧ Dy.ivR (4607182418800017408, 4607182418800017408) = true ∧ Dy.ivR (0, 4607182418800017408) = true ∧ Dy.ivR (4598175219545276416, 4598175219545276416) = true ∧
    Dy.ivR (13837309855095848960, 4617315517961601024) = true ∧ Dy.ivR (4611686018427387904, 4621256167635550208) = true := by decide +kernel
/-- A picture's block, its levels. -/
structure PicAt (b : Nat) (x y : Int) (ao : Option Addr) (c : Nat) (l : List UInt8) (w : World) : Prop where
  blk : w.heap[b]? = some (picC (.int .i64 x) (.int .i64 y) (.slice ao l.length c))
  byt : Byt w ao l
theorem PicAt.below {b x y ao c l A B} (h : PicAt b x y ao c l A) (hb : Below A.heap.size A B) : PicAt b x y ao c l B := ⟨box_keep h.blk hb, h.byt.below hb⟩
theorem PicAt.k0 {b x y ao c l A} (h : PicAt b x y ao c l A) : A.cell? ⟨b, 0, none⟩ = some (.int .i64 x) := by rw [Lib.cell_of_heap h.blk]; rfl
theorem PicAt.k1 {b x y ao c l A} (h : PicAt b x y ao c l A) : A.cell? ⟨b, 1, none⟩ = some (.int .i64 y) := by rw [Lib.cell_of_heap h.blk]; rfl
theorem PicAt.k2 {b x y ao c l A} (h : PicAt b x y ao c l A) : A.cell? ⟨b, 2, none⟩ = some (.slice ao l.length c) := by rw [Lib.cell_of_heap h.blk]; rfl
theorem picAt_new {w w' : World} {x y : Int} {ao : Option Addr} {c : Nat} {l : List UInt8} (hb : Byt w ao l) : PicAt w.heap.size x y ao c l (w.alloc (.cells #[.int .i64 x, .int .i64 y, .slice ao l.length c] 25)) :=
  ⟨World.alloc_heap_new w _, hb.below ((Below.refl _ _).alloc (Nat.le_refl _) _)⟩
theorem alloc_b (w : World) (o : Obj) : Below w.heap.size w (w.alloc o) := (Below.refl _ _).alloc (Nat.le_refl _) _
theorem byt_const (w : World) (l : List UInt8) (fr : Nat × Nat) : Byt (w.alloc (.cells (Lib.byteCells l).toArray 5 fr)) (some ⟨w.heap.size, 0, none⟩) l :=
  .inr ⟨w.heap.size, 0, rfl, by simp, fun i c hi => by
    rw [cell_mark w _ _ _ _ _ rfl, Nat.zero_add, List.getElem?_toArray]
    unfold Lib.byteCells
    rw [List.getElem?_map, hi]; rfl⟩

theorem byt_at {w : World} {a b : Nat} {l : List UInt8} (h : b = a) (hb : Byt w (some ⟨a, 0, none⟩) l) : Byt w (some ⟨b, 0, none⟩) l := by rw [h]; exact hb
theorem aft {A B C : World} (h : Below A.heap.size A B) (k : Below B.heap.size B C) : Below A.heap.size A C := h.trans (k.mono h.size)

set_option maxRecDepth 100000 in
set_option maxHeartbeats 8000000 in
theorem awake_any (w : World) (ht : Tab w) : Calls Tryd.prog 8 #[] w fun e w' => e = .returned (.bool true) ∧ Below w.heap.size w w' := by
  go_enter Tryd.func8, Tryd.ntmps8
  go_wp2_with fail
  have T := hid (ht.below ht.lt ((alloc_b w (.cells #[.int .u8 7, .int .u8 255] 5)).trans ((alloc_b _ (.cells #[.int .i64 2, .int .i64 1, .slice (some ⟨w.heap.size, 0, none⟩) 2 2] 25)).mono (by simp))))
  have U := hid ((alloc_b w (.cells #[.int .u8 7, .int .u8 255] 5)).trans ((alloc_b _ (.cells #[.int .i64 2, .int .i64 1, .slice (some ⟨w.heap.size, 0, none⟩) 2 2] 25)).mono (by simp)))
  have P := hid (picAt_new (w' := w) (x := 2) (y := 1) (c := 2) (byt_const w [7, 255] (0, 0)))
  simp only [World.size_alloc] at P
  clear ht
  -- Plain
  refine (plain_yes 2 1 (some ⟨w.heap.size, 0, none⟩) 2 [7, 255] _ (by decide) (by decide) P.out.byt T.out).mono ?_
  rw [show (Pg.plain ⟨2, 1, [7, 255]⟩) = [80, 50, 10, 50, 32, 49, 10, 50, 53, 53, 10, 55, 32, 50, 53, 53, 10] from Pg.plain_pA]
  rintro e w2 ⟨rfl, hb⟩
  replace T := hid (T.out.below T.out.lt hb)
  replace U := hid (U.out.trans (hb.mono U.out.size))
  replace P := hid (P.out.below hb)
  clear hb
  have k := conv_const w2 #[.int .u8 80, .int .u8 50, .int .u8 32, .int .u8 35, .int .u8 120, .int .u8 10, .int .u8 48, .int .u8 50, .int .u8 32, .int .u8 49, .int .u8 32, .int .u8 50, .int .u8 53, .int .u8 53, .int .u8 32, .int .u8 55, .int .u8 32, .int .u8 50, .int .u8 53, .int .u8 53] 20 20 w2.heap.size rfl
  go_wp2_with fail
  refine (parse_some (l := Pg.tA) (g := [7, 255]) (x := 2) (y := 1) rfl (by decide) (by decide) (byt_const w2 Pg.tA (20, 21)) Pg.parse_tA rfl rfl).mono ?_
  rintro e w3 ⟨ao3, c3, rfl, ⟨hc3, hy3⟩, hb⟩
  simp only [List.length_cons, List.length_nil, Nat.reduceAdd] at hc3
  clear k
  have Q := hid (picAt_new (w' := w3) (x := 2) (y := 1) (c := c3) hy3)
  have hB := hid (aft (aft (alloc_b w2 _) hb) (alloc_b w3 (.cells #[.int .i64 2, .int .i64 1, .slice ao3 2 c3] 25)))
  replace T := hid (T.out.below T.out.lt hB.out)
  replace U := hid (U.out.trans (hB.out.mono U.out.size))
  replace P := hid (P.out.below hB.out)
  clear hb hB
  have p0 := P.out.k0
  have p1 := P.out.k1
  have p2 := P.out.k2
  go_wp2_with fail
  refine (bytes_yes 2 1 (some ⟨w.heap.size, 0, none⟩) 2 [7, 255] _ (by decide) P.out.byt T.out).mono ?_
  rintro e w4 ⟨v4, rfl, hown, hb⟩
  obtain ⟨ao4, c4, rfl, hc4, hy4⟩ := hown.byt
  have hp4 : Pg.parse (Pg.bytes ⟨2, 1, [7, 255]⟩) = some ⟨2, 1, [7, 255]⟩ := Pg.parse_pA
  have hl4 : (Pg.bytes ⟨2, 1, [7, 255]⟩).length ≤ 1000 := by have := head_len 53 2 1 (by decide) (by decide); unfold Pg.bytes; rw [List.length_append]; simp; omega
  generalize Pg.bytes ⟨2, 1, [7, 255]⟩ = L at *
  clear hown
  clear p0 p1 p2
  have hB := hid (hb)
  replace T := hid (T.out.below T.out.lt hB.out)
  replace U := hid (U.out.trans (hB.out.mono U.out.size))
  replace P := hid (P.out.below hB.out)
  replace Q := hid (Q.out.below hB.out)
  clear hb hB
  obtain ⟨n4, hn4⟩ : ∃ n, n = L.length := ⟨_, rfl⟩
  rw [← hn4] at hc4 hl4 ⊢
  replace hp4 := hid hp4
  replace hn4 := hid hn4
  replace hy4 := hid hy4
  go_wp2_with fail
  refine (parse_some (l := L) (g := [7, 255]) (x := 2) (y := 1) hn4.out hc4 (by omega) hy4.out hp4.out rfl rfl).mono ?_
  rintro e w5 ⟨ao5, c5, rfl, ⟨hc5, hy5⟩, hb⟩
  simp only [List.length_cons, List.length_nil, Nat.reduceAdd] at hc5
  clear hy4 hp4 hn4
  have R := hid (picAt_new (w' := w5) (x := 2) (y := 1) (c := c5) hy5)
  have hB := hid (aft hb (alloc_b w5 (.cells #[.int .i64 2, .int .i64 1, .slice ao5 2 c5] 25)))
  replace T := hid (T.out.below T.out.lt hB.out)
  replace U := hid (U.out.trans (hB.out.mono U.out.size))
  replace P := hid (P.out.below hB.out)
  replace Q := hid (Q.out.below hB.out)
  clear hb hB
  have k := conv_const (w5.alloc (.cells #[.int .i64 2, .int .i64 1, .slice ao5 2 c5] 25)) #[.int .u8 80, .int .u8 50, .int .u8 32, .int .u8 50, .int .u8 32, .int .u8 49, .int .u8 32, .int .u8 50, .int .u8 53, .int .u8 53, .int .u8 32, .int .u8 55] 12 12 (w5.heap.size + 1) (by simp)
  go_wp2_with fail
  refine (parse_nil (l := Pg.tB) rfl (by decide) (by decide) (byt_at (by simp) (byt_const _ Pg.tB (12, 13))) Pg.parse_tB).mono ?_
  rintro e w6 ⟨rfl, hb⟩
  clear k
  have hB := hid (aft (aft (alloc_b _ _) hb) (alloc_b w6 (.cells #[.int .i64 0, .int .i64 0, .slice none 0 0] 25)))
  replace T := hid (T.out.below T.out.lt hB.out)
  replace U := hid (U.out.trans (hB.out.mono U.out.size))
  replace P := hid (P.out.below hB.out)
  replace Q := hid (Q.out.below hB.out)
  replace R := hid (R.out.below hB.out)
  clear hb hB
  have k := conv_const (w6.alloc (.cells #[.int .i64 0, .int .i64 0, .slice none 0 0] 25)) #[.int .u8 80, .int .u8 50, .int .u8 32, .int .u8 50, .int .u8 32, .int .u8 49, .int .u8 32, .int .u8 50, .int .u8 53, .int .u8 52, .int .u8 32, .int .u8 55, .int .u8 32, .int .u8 55] 14 14 (w6.heap.size + 1) (by simp)
  go_wp2_with fail
  refine (parse_nil (l := Pg.tC) rfl (by decide) (by decide) (byt_at (by simp) (byt_const _ Pg.tC (14, 15))) Pg.parse_tC).mono ?_
  rintro e w7 ⟨rfl, hb⟩
  clear k
  have hB := hid (aft (aft (alloc_b _ _) hb) (alloc_b w7 (.cells #[.int .i64 0, .int .i64 0, .slice none 0 0] 25)))
  replace T := hid (T.out.below T.out.lt hB.out)
  replace U := hid (U.out.trans (hB.out.mono U.out.size))
  replace P := hid (P.out.below hB.out)
  replace Q := hid (Q.out.below hB.out)
  replace R := hid (R.out.below hB.out)
  clear hb hB
  have p0 := P.out.k0
  have p1 := P.out.k1
  have p2 := P.out.k2
  have q0 := Q.out.k0
  have q1 := Q.out.k1
  have q2 := Q.out.k2
  have r0 := R.out.k0
  have r1 := R.out.k1
  have r2 := R.out.k2
  go_wp2_with fail
  refine (same_any 2 1 2 1 _ _ 2 2 _ _ [7, 255] [7, 255] _ rfl rfl P.out.byt Q.out.byt).mono ?_
  rintro e w8 ⟨rfl, hb⟩
  simp only [and_self, decide_true]
  clear p0 p1 p2 q0 q1 q2 r0 r1 r2
  have hB := hid (hb)
  replace T := hid (T.out.below T.out.lt hB.out)
  replace U := hid (U.out.trans (hB.out.mono U.out.size))
  replace P := hid (P.out.below hB.out)
  replace R := hid (R.out.below hB.out)
  clear hb hB
  have p0 := P.out.k0
  have p1 := P.out.k1
  have p2 := P.out.k2
  have r0 := R.out.k0
  have r1 := R.out.k1
  have r2 := R.out.k2
  go_wp2_with fail
  refine (same_any 2 1 2 1 _ _ 2 2 _ _ [7, 255] [7, 255] _ rfl rfl P.out.byt R.out.byt).mono ?_
  rintro e w9 ⟨rfl, hb⟩
  simp only [and_self, decide_true]
  clear p0 p1 p2 r0 r1 r2
  have hB := hid (hb)
  replace T := hid (T.out.below T.out.lt hB.out)
  replace U := hid (U.out.trans (hB.out.mono U.out.size))
  clear hb hB
  clear T P Q R
  have L1 := hid (fun w => lawLevel_yes 0 0 0 0 w (W_lit (by decide)) (W_lit (by decide)) rights_ok.1 levels_ok.1)
  have L2 := hid (fun w => lawLevel_yes 4607182418800017408 4607182418800017408 255 255 w (W_lit (by decide)) (W_lit (by decide)) rights_ok.2.1 levels_ok.2.1)
  have L3 := hid (fun w => lawLevel_yes 0 4607182418800017408 128 128 w (W_lit (by decide)) (W_lit (by decide)) rights_ok.2.2.1 levels_ok.2.2.1)
  have L4 := hid (fun w => lawLevel_yes 4598175219545276416 4598175219545276416 64 64 w (W_lit (by decide)) (W_lit (by decide)) rights_ok.2.2.2.1 levels_ok.2.2.2.1)
  have L5 := hid (fun w => lawLevel_yes 13837309855095848960 4617315517961601024 128 128 w (W_lit (by decide)) (W_lit (by decide)) rights_ok.2.2.2.2.1 levels_ok.2.2.2.2.1)
  have L6 := hid (fun w => lawLevel_yes 4611686018427387904 4621256167635550208 255 255 w (W_lit (by decide)) (W_lit (by decide)) rights_ok.2.2.2.2.2 levels_ok.2.2.2.2.2)
  have G1 := hid (fun w => lawGrey_yes 4607182418800017408 0 0 64 64 w (W_lit (by decide)) (W_lit (by decide)) (W_lit (by decide)) Pg.right_k Dy.right_zero Dy.right_zero greys_ok.1)
  have G2 := hid (fun w => lawGrey_yes 0 4607182418800017408 0 128 128 w (W_lit (by decide)) (W_lit (by decide)) (W_lit (by decide)) Dy.right_zero Pg.right_k Dy.right_zero greys_ok.2.1)
  have G3 := hid (fun w => lawGrey_yes 4607182418800017408 4607182418800017408 4607182418800017408 255 255 w (W_lit (by decide)) (W_lit (by decide)) (W_lit (by decide)) Pg.right_k Pg.right_k Pg.right_k greys_ok.2.2)
  go_wp2_with (first
    | (go_at_call 23; (with_reducible refine (L1.out _).mono ?_); rintro e wx ⟨rfl, hb⟩; replace U := hid (U.out.trans (hb.mono U.out.size)); clear hb)
    | (go_at_call 23; (with_reducible refine (L2.out _).mono ?_); rintro e wx ⟨rfl, hb⟩; replace U := hid (U.out.trans (hb.mono U.out.size)); clear hb)
    | (go_at_call 23; (with_reducible refine (L3.out _).mono ?_); rintro e wx ⟨rfl, hb⟩; replace U := hid (U.out.trans (hb.mono U.out.size)); clear hb)
    | (go_at_call 23; (with_reducible refine (L4.out _).mono ?_); rintro e wx ⟨rfl, hb⟩; replace U := hid (U.out.trans (hb.mono U.out.size)); clear hb)
    | (go_at_call 23; (with_reducible refine (L5.out _).mono ?_); rintro e wx ⟨rfl, hb⟩; replace U := hid (U.out.trans (hb.mono U.out.size)); clear hb)
    | (go_at_call 23; (with_reducible refine (L6.out _).mono ?_); rintro e wx ⟨rfl, hb⟩; replace U := hid (U.out.trans (hb.mono U.out.size)); clear hb)
    | (go_at_call 24; (with_reducible refine (G1.out _).mono ?_); rintro e wx ⟨rfl, hb⟩; replace U := hid (U.out.trans (hb.mono U.out.size)); clear hb)
    | (go_at_call 24; (with_reducible refine (G2.out _).mono ?_); rintro e wx ⟨rfl, hb⟩; replace U := hid (U.out.trans (hb.mono U.out.size)); clear hb)
    | (go_at_call 24; (with_reducible refine (G3.out _).mono ?_); rintro e wx ⟨rfl, hb⟩; replace U := hid (U.out.trans (hb.mono U.out.size)); clear hb))
  go_ret
  exact ⟨rfl, U.out⟩
end Go.Proofs.YtinhbebjlbnejaaDoor
