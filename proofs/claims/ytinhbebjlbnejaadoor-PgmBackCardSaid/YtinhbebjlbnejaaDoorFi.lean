/- Walks of package pgm: what stands ahead of the levels; a picture's bytes. -/
import Derived.Test.YtinhbebjlbnejaaDoorFt
import Derived.Test.YtinhbebjlbnejaaDoorFh
import Derived.Test.YtinhbebjlbnejaaDoorFj
import Derived.Deep.AppendLies
import Derived.Deep.RegionWith
namespace Go.Proofs.YtinhbebjlbnejaaDoor
open Go Go.RowKit
open Go.Lib (hid)
set_option linter.unusedVariables false
set_option linter.unusedSimpArgs false

theorem parse_any (ao : Option Addr) (c : Nat) (l : List UInt8) (w : World) (hl : l.length ≤ c) (hbig : l.length ≤ 140737488355328) (hb : Byt w ao l) :
    Calls Tryd.prog 12 #[.slice ao l.length c] w (ParsePost l w) := by
  by_cases h1 : l.take 2 = [80, 53]
  · obtain ⟨t, rfl⟩ : ∃ t, l = 80 :: 53 :: t := by
      match l, h1 with
      | [], h => cases h
      | [_], h => cases h
      | a :: b :: t, h => simp only [List.take_succ_cons, List.take_zero, List.cons.injEq, and_true] at h; exact ⟨t, by rw [h.1, h.2]⟩
    exact parse_raw ao c t w hl hbig hb
  by_cases h2 : l.take 2 = [80, 50]
  · obtain ⟨t, rfl⟩ : ∃ t, l = 80 :: 50 :: t := by
      match l, h2 with
      | [], h => cases h
      | [_], h => cases h
      | a :: b :: t, h => simp only [List.take_succ_cons, List.take_zero, List.cons.injEq, and_true] at h; exact ⟨t, by rw [h.1, h.2]⟩
    exact parse_p2 ao c t w hl hbig hb
  exact parse_no ao c l w hl hb (beq_eq_false_iff_ne.2 h1) (beq_eq_false_iff_ne.2 h2)

/-- The text ahead of the levels, of a kind. -/
def headB (k : UInt8) (W H : Nat) : ByteArray := ⟨(Pg.head k W H).toArray⟩

theorem tab_of1 {w : World} {c : Prop} (h : Hid (Tab w ∧ c)) : Tab w := h.1
theorem tab_of {w : World} {a b c : Prop} (h : a ∧ b ∧ Hid (Tab w ∧ c)) : Tab w := h.2.2.1
theorem hdBelow_of1 {w0 w : World} {c : Prop} (h : Hid (c ∧ Below w0.heap.size w0 w)) : Below w0.heap.size w0 w := h.2
theorem hdBelow_of {w0 w : World} {a b c : Prop} (h : a ∧ b ∧ Hid (c ∧ Below w0.heap.size w0 w)) : Below w0.heap.size w0 w := h.2.2.2
theorem head_keep {w0 w1 w2 : World} {x y : Value} (h : w1.cell? ⟨w0.heap.size, 0, none⟩ = some x ∧ w1.cell? ⟨w0.heap.size, 1, none⟩ = some y ∧ Hid (Tab w1 ∧ Below w0.heap.size w0 w1)) (hb : Below w1.heap.size w1 w2) :
    w2.cell? ⟨w0.heap.size, 0, none⟩ = some x ∧ w2.cell? ⟨w0.heap.size, 1, none⟩ = some y ∧ Hid (Tab w2 ∧ Below w0.heap.size w0 w2) := by
  obtain ⟨h0, h1, ht, hu⟩ := h
  have l := World.block_lt_of_cell? w1 _ h0
  exact ⟨(hb.cell (p := ⟨w0.heap.size, 0, none⟩) l).trans h0, (hb.cell (p := ⟨w0.heap.size, 1, none⟩) l).trans h1, ht.below ht.lt hb, hu.trans (hb.mono (Nat.le_of_lt l))⟩

set_option maxRecDepth 100000 in
set_option maxHeartbeats 4000000 in
theorem head_any (k : UInt8) (W H : Nat) (hW : W < 1000) (hH : H < 1000) (v : Value) (w : World) (ht : Tab w) :
    Calls Tryd.prog 26 #[.string ⟨[80, k].toArray⟩, .agg #[.int .i64 (W : Int), .int .i64 (H : Int), v]] w fun e w' => e = .returned (.string (headB k W H)) ∧ Below w.heap.size w w' := by
  have e : ∀ x y z : List UInt8, z = x ++ y → x.length ≤ 1000 → y.length ≤ 1000 → ∀ w, (Op.stringOp .add ⟨x.toArray⟩ ⟨y.toArray⟩).run Tryd.prog w = .ok (.string ⟨z.toArray⟩) w := fun x y z hz hx hy w => by
    rw [hz]; exact run_string_add_lists w x y (by omega) (by omega)
  have hw := (Pg.dec_digits W hW).2.2.1
  have hh := (Pg.dec_digits H hH).2.2.1
  have h5 := (Pg.dec_digits 255 (by decide)).2.2.1
  obtain ⟨D0, d0⟩ : ∃ D : ByteArray, D = ⟨[80, k].toArray⟩ := ⟨_, rfl⟩
  obtain ⟨D1, d1⟩ : ∃ D : ByteArray, D = ⟨(Pg.dec W).toArray⟩ := ⟨_, rfl⟩
  obtain ⟨D2, d2⟩ : ∃ D : ByteArray, D = ⟨(Pg.dec H).toArray⟩ := ⟨_, rfl⟩
  obtain ⟨D3, d3⟩ : ∃ D : ByteArray, D = ⟨(Pg.dec 255).toArray⟩ := ⟨_, rfl⟩
  obtain ⟨S1, f1⟩ : ∃ D : ByteArray, D = ⟨([80, k] ++ [10]).toArray⟩ := ⟨_, rfl⟩
  obtain ⟨S2, f2⟩ : ∃ D : ByteArray, D = ⟨([80, k] ++ [10] ++ Pg.dec W).toArray⟩ := ⟨_, rfl⟩
  obtain ⟨S3, f3⟩ : ∃ D : ByteArray, D = ⟨([80, k] ++ [10] ++ Pg.dec W ++ [32]).toArray⟩ := ⟨_, rfl⟩
  obtain ⟨S4, f4⟩ : ∃ D : ByteArray, D = ⟨([80, k] ++ [10] ++ Pg.dec W ++ [32] ++ Pg.dec H).toArray⟩ := ⟨_, rfl⟩
  obtain ⟨S5, f5⟩ : ∃ D : ByteArray, D = ⟨([80, k] ++ [10] ++ Pg.dec W ++ [32] ++ Pg.dec H ++ [10]).toArray⟩ := ⟨_, rfl⟩
  obtain ⟨S6, f6⟩ : ∃ D : ByteArray, D = ⟨([80, k] ++ [10] ++ Pg.dec W ++ [32] ++ Pg.dec H ++ [10] ++ Pg.dec 255).toArray⟩ := ⟨_, rfl⟩
  obtain ⟨S7, f7⟩ : ∃ D : ByteArray, D = ⟨([80, k] ++ [10] ++ Pg.dec W ++ [32] ++ Pg.dec H ++ [10] ++ Pg.dec 255 ++ [10]).toArray⟩ := ⟨_, rfl⟩
  have g1 : ∀ w, (Op.stringOp .add D0 ⟨#[10]⟩).run Tryd.prog w = .ok (.string S1) w := by rw [d0, f1]; exact e [80, k] [10] _ rfl (by simp) (by simp)
  have g2 : ∀ w, (Op.stringOp .add S1 D1).run Tryd.prog w = .ok (.string S2) w := by rw [d1, f1, f2]; exact e _ _ _ rfl (by simp) (by omega)
  have g3 : ∀ w, (Op.stringOp .add S2 ⟨#[32]⟩).run Tryd.prog w = .ok (.string S3) w := by rw [f2, f3]; exact e _ [32] _ rfl (by simp; omega) (by simp)
  have g4 : ∀ w, (Op.stringOp .add S3 D2).run Tryd.prog w = .ok (.string S4) w := by rw [d2, f3, f4]; exact e _ _ _ rfl (by simp; omega) (by omega)
  have g5 : ∀ w, (Op.stringOp .add S4 ⟨#[10]⟩).run Tryd.prog w = .ok (.string S5) w := by rw [f4, f5]; exact e _ [10] _ rfl (by simp; omega) (by simp)
  have g6 : ∀ w, (Op.stringOp .add S5 D3).run Tryd.prog w = .ok (.string S6) w := by rw [d3, f5, f6]; exact e _ _ _ rfl (by simp; omega) (by omega)
  have g7 : ∀ w, (Op.stringOp .add S6 ⟨#[10]⟩).run Tryd.prog w = .ok (.string S7) w := by rw [f6, f7]; exact e _ [10] _ rfl (by simp; omega) (by simp)
  have hend : S7 = headB k W H := by
    rw [f7, Pg.dec255]
    unfold headB Pg.head
    simp
  have I1 := hid (fun w ht => itoa_any W hW w ht)
  have I2 := hid (fun w ht => itoa_any H hH w ht)
  have I3 := hid (show ∀ w, Tab w → Calls Tryd.prog 20 #[.int .i64 255] w fun e w' => e = .returned (.string ⟨(Pg.dec 255).toArray⟩) ∧ Below w.heap.size w w' from fun w ht => itoa_any 255 (by decide) w ht)
  rw [← d1] at I1
  rw [← d2] at I2
  rw [← d3] at I3
  rw [← d0, ← hend]
  clear e hw hh h5 d0 d1 d2 d3 f1 f2 f3 f4 f5 f6 f7 hend
  go_enter Tryd.func26, Tryd.ntmps26
  go_wp2_with fail
  have ht' : Tab (w.alloc (.cells #[.int .i64 (W : Int), .int .i64 (H : Int), v] 25)).drew := ht.below ht.lt ((Below.refl _ _).alloc (Nat.le_refl _) _).drew
  have hb' : Below w.heap.size w (w.alloc (.cells #[.int .i64 (W : Int), .int .i64 (H : Int), v] 25)).drew := ((Below.refl _ _).alloc (Nat.le_refl _) _).drew
  have hT := hid (And.intro ht' hb')
  clear ht ht' hb'
  go_region_held3 (fun w' => w'.cell? ⟨w.heap.size, 0, none⟩ = some (.int .i64 (W : Int)) ∧ w'.cell? ⟨w.heap.size, 1, none⟩ = some (.int .i64 (H : Int)) ∧ Hid (Tab w' ∧ Below w.heap.size w w'))
    (first | (exact head_keep (by assumption) (by assumption)) | go_keep | (refine ⟨by simp [go_sem], by simp [go_sem], hT⟩))
    (first | ((go_at_call 20; first | ((with_reducible refine (I1.out _ (by first | exact hT.out.1 | exact tab_of1 (by assumption) | exact tab_of (by assumption))).mono ?_); rintro e wi ⟨rfl, hbi⟩) | ((with_reducible refine (I2.out _ (by first | exact hT.out.1 | exact tab_of1 (by assumption) | exact tab_of (by assumption))).mono ?_); rintro e wi ⟨rfl, hbi⟩) | ((with_reducible refine (I3.out _ (by first | exact hT.out.1 | exact tab_of1 (by assumption) | exact tab_of (by assumption))).mono ?_); rintro e wi ⟨rfl, hbi⟩))))
  go_wp2
  go_ret
  exact ⟨rfl, by first | exact hdBelow_of1 (by assumption) | exact hdBelow_of (by assumption)⟩

/-- A picture as a value. -/
def picV (W H : Int) (ao : Option Addr) (n c : Nat) : Value := .agg #[.int .i64 W, .int .i64 H, .slice ao n c]

/-- A right picture's bytes. -/
def rightI (W H : Int) (n : Nat) : Prop := rightB W H n = true

set_option maxRecDepth 100000 in
set_option maxHeartbeats 4000000 in
theorem bytes_no (W H : Int) (ao : Option Addr) (n c : Nat) (w : World) (hn : n ≤ 281474976710656) (h : rightB W H n = false) :
    Calls Tryd.prog 10 #[.agg #[.int .i64 W, .int .i64 H, .slice ao n c]] w fun e w' => e = .returned (.tuple #[.slice none 0 0, .int .i64 280]) ∧ Below w.heap.size w w' := by
  have HR := hid (fun w => picRight_any W H ao n c w hn)
  rw [h] at HR
  clear h
  go_enter Tryd.func10, Tryd.ntmps10
  go_wp2_with (go_at_call 25; refine (HR.out _).mono ?_; rintro e w1 ⟨rfl, hb⟩)
  go_ret2
  exact ⟨rfl, ((Below.refl _ _).alloc (Nat.le_refl _) _).trans (hb.mono (by simp))⟩

theorem right_of {W H : Int} {n : Nat} (h : rightB W H n = true) : ∃ W' H' : Nat, W = W' ∧ H = H' ∧ 1 ≤ W' ∧ W' ≤ 256 ∧ 1 ≤ H' ∧ H' ≤ 256 ∧ n = W' * H' := by
  unfold rightB at h
  simp only [Bool.and_eq_true, decide_eq_true_eq] at h
  refine ⟨W.toNat, H.toNat, by omega, by omega, by omega, by omega, by omega, by omega, ?_⟩
  have h2 := h.2
  have e1 : W = (W.toNat : Int) := by omega
  have e2 : H = (H.toNat : Int) := by omega
  rw [e1, e2, ← Int.natCast_mul] at h2
  omega

theorem head_len (k : UInt8) (W H : Nat) (hW : W < 1000) (hH : H < 1000) : (Pg.head k W H).length ≤ 20 := by
  have h1 := (Pg.dec_digits W hW).2.2.1
  have h2 := (Pg.dec_digits H hH).2.2.1
  unfold Pg.head
  simp only [List.length_cons, List.length_append, List.length_nil]
  omega
theorem Own.base {w : World} {B B' : Nat} {v : Value} {l : List UInt8} (h : Own w B v l) (hB : B' ≤ B) : Own w B' v l := by
  obtain ⟨g, cap, h1, h2, h3, h4⟩ := h.ex
  exact ⟨g, cap, h1, h2, Nat.le_trans hB h3, h4⟩
/-- A builtin append in a region: what its run gives. -/
theorem step_append_run {P : Program} {ops : Array Oper} {o : Oper} {a : Act} {w : World} {K : Act → World → Prop} {Q : Exit → Act → World → Prop} {E : Prop} (hgd : o.guard = none) (s x : Operand) (t : TypeId)
    (ho : o.op = .call { callee := .builtin .append, args := #[s, x], argTypes := #[t, t] }) (v u : Value) (hs : a.eval s = v) (hx : a.eval x = u) {R : Value → World → Prop}
    (hr : ∃ v' w', (Builtin.append_ #[t, t] o.type #[v, u]).run P w = .ok v' w' ∧ R v' w') (h : ∀ v' w', R v' w' → K (a.put o.dst v') w') :
    if Region.wanted o (yielded ops a.tmps) = true then Oper.wp P o a w K Q else E := by
  have hw : Region.wanted o (yielded ops a.tmps) = true := by simp [Region.wanted, hgd]
  rw [if_pos hw]
  obtain ⟨v', w', hr, hR⟩ := hr
  unfold Oper.wp execOp
  simp only [ho, resolve, invoke, builtin, Sem.run_bind, Sem.run_pure, Result.andThen_ok, List.map_toArray, List.map_cons, List.map_nil, hs, hx, hr]
  exact h _ _ hR

/-- A picture's cells in a block, and the world since. -/
abbrev PicS (w0 : World) (b : Nat) (x y z : Value) (w : World) : Prop := w.cell? ⟨b, 0, none⟩ = some x ∧ w.cell? ⟨b, 1, none⟩ = some y ∧ w.cell? ⟨b, 2, none⟩ = some z ∧ Hid (Tab w ∧ Below w0.heap.size w0 w)
theorem pic_below {w0 w1 w2 : World} {b : Nat} {x y z : Value} (h : PicS w0 b x y z w1) (hb : Below w1.heap.size w1 w2) (hle : w0.heap.size ≤ w1.heap.size) : PicS w0 b x y z w2 := by
  obtain ⟨h0, h1, h2, ht, hu⟩ := h
  have l := World.block_lt_of_cell? w1 _ h0
  exact ⟨(hb.cell (p := ⟨b, 0, none⟩) l).trans h0, (hb.cell (p := ⟨b, 1, none⟩) l).trans h1, (hb.cell (p := ⟨b, 2, none⟩) l).trans h2, ht.below ht.lt hb, hu.trans (hb.mono hle)⟩
theorem pic_grown {w0 w1 w2 : World} {b g : Nat} {x y z : Value} (h : PicS w0 b x y z w1) (hg : w1.grownBy w2 (some g)) (hbg : b < g) (h0g : w0.heap.size ≤ g) (htg : 2 < g) (hle : w0.heap.size ≤ w1.heap.size) : PicS w0 b x y z w2 := by
  obtain ⟨h0, h1, h2, ht, hu⟩ := h
  exact ⟨hg.cell h0 (by simp; omega), hg.cell h1 (by simp; omega), hg.cell h2 (by simp; omega), ht.kept hg (by simp; omega), hu.grown hg hle (fun k hk => by cases hk; exact h0g)⟩
theorem below_bytes (w : World) (e : TypeId) (s : ByteArray) : Below w.heap.size w (Lib.bytesWorld w e s) :=
  ⟨rfl, rfl, rfl, by rw [Lib.bytesWorld_size]; omega, fun k hk => Lib.bytesWorld_at_old w e s k hk⟩

/-- A string's bytes, as the conversion lays them, and bytes behind them. -/
theorem append_conv (w : World) (i : TypeInfo) (hi : Tryd.prog.info? 5 = some i) (hz0 : i.zero = some (.int .u8 0)) (hz1 : i.size = 1) (hz2 : i.bytes = 1) (ty : TypeId) (xs : List UInt8)
    (b o m c : Nat) (ys : List UInt8) (hy : ys.length = m) (hb : b < w.heap.size) (hys : ∀ j x, ys[j]? = some x → w.cell? ⟨b, o + j, none⟩ = some (.int .u8 (x.toNat : Int))) (hbig : xs.length + m ≤ 140737488355328) :
    ∃ v w', (Builtin.append_ #[22, 22] ty #[.slice (some ⟨w.heap.size, 0, none⟩) (⟨xs.toArray⟩ : ByteArray).size (grownCap w (⟨xs.toArray⟩ : ByteArray).size 0 5), .slice (some ⟨b, o, none⟩) m c]).run Tryd.prog (Lib.bytesWorld w 5 ⟨xs.toArray⟩) = .ok v w' ∧
      (Own w' w.heap.size v (xs ++ ys) ∧ (Lib.bytesWorld w 5 ⟨xs.toArray⟩).grownBy w' (some w.heap.size)) := by
  have hsz : (⟨xs.toArray⟩ : ByteArray).size = xs.length := by simp [ByteArray.size]
  have hge := grownCap_ge w xs.length 0 5
  have hg := Lib.bytesWorld_at_new w 5 ⟨xs.toArray⟩
  have hcs : (Lib.bytesCells w 5 ⟨xs.toArray⟩).size = grownCap w xs.length 0 5 := by
    unfold Lib.bytesCells
    rw [hsz]
    simp
    omega
  have htk : (Lib.bytesCells w 5 ⟨xs.toArray⟩).toList.take xs.length = Lib.byteCells xs := by
    unfold Lib.bytesCells Lib.byteCells
    simp
  rw [hsz]
  exact append_mark _ i hi hz0 hz1 hz2 ty w.heap.size _ _ _ hg hcs (by simp only [hcs]; exact Nat.le_refl _) xs htk hge b o m c ys hy (fun j x hj => by rw [Lib.bytesWorld_old _ _ _ _ hb]; exact hys j x hj) hbig

set_option maxRecDepth 100000 in
set_option maxHeartbeats 4000000 in
theorem bytes_yes (W H : Nat) (ao : Option Addr) (c : Nat) (g : List UInt8) (w : World) (hr : rightB (W : Int) (H : Int) g.length = true) (hb : Byt w ao g) (ht : Tab w) :
    Calls Tryd.prog 10 #[.agg #[.int .i64 (W : Int), .int .i64 (H : Int), .slice ao g.length c]] w fun e w' => ∃ v, e = .returned (.tuple #[v, .int .i64 0]) ∧
      Own w' w.heap.size v (Pg.bytes ⟨W, H, g⟩) ∧ Below w.heap.size w w' := by
  obtain ⟨W', H', e1, e2, w1, w2, h1, h2, hn⟩ := right_of hr
  obtain rfl : W' = W := by omega
  obtain rfl : H' = H := by omega
  have hbig : g.length ≤ 65536 := by have := Nat.mul_le_mul w2 h2; omega
  have HR := hid (fun w => picRight_any (W' : Int) (H' : Int) ao g.length c w (by omega))
  rw [hr] at HR
  have hn0' := hid hn
  have hw0 : 0 < W' := by omega
  clear e1 e2 hn
  have HD := hid (fun w ht => head_any 53 W' H' (by omega) (by omega) (.slice ao g.length c) w ht)
  clear hr
  obtain ⟨n, hn⟩ : ∃ n, n = g.length := ⟨_, rfl⟩
  rw [← hn] at HR HD hbig ⊢
  replace hn := hid hn
  replace hb := hid hb
  go_enter Tryd.func10, Tryd.ntmps10
  go_wp2_with (go_at_call 25; refine (HR.out _).mono ?_; rintro e w1 ⟨rfl, hb1⟩)
  have hn0 : 0 < n := by rw [hn.out, hn0'.out]; exact Nat.mul_pos hw0 h1
  obtain ⟨bb, oo, rfl, hbb⟩ : ∃ bb oo, ao = some ⟨bb, oo, none⟩ ∧ Hid (bb < w.heap.size ∧ ∀ i c, g[i]? = some c → w.cell? ⟨bb, oo + i, none⟩ = some (.int .u8 (c.toNat : Int))) := by
    rcases hb.out with h | ⟨bb, oo, h, h2, h3⟩
    · have := hn.out; rw [h] at this; simp at this; omega
    · exact ⟨bb, oo, h, hid ⟨h2, h3⟩⟩
  obtain ⟨i0, hi0, hz0, hz1, hz2⟩ := info_parts u8_info
  obtain ⟨S, hS⟩ : ∃ S, S = headB 53 W' H' := ⟨_, rfl⟩
  rw [← hS] at HD
  replace hS := hid hS
  have hcv : ∀ w : World, (convert 9 22 (.string S)).run Tryd.prog w = .ok (.slice (some ⟨w.heap.size, 0, none⟩) S.size (grownCap w S.size 0 5)) (Lib.bytesWorld w 5 S) := fun w => Lib.run_convert_string_bytes w _ _ _ S Tryd.underlying9 Tryd.underlying22 Tryd.underlying5
  have hsz1 : w.heap.size < w1.heap.size := by have := hb1.size; simp at this; omega
  have hP : PicS w w.heap.size (.int .i64 (W' : Int)) (.int .i64 (H' : Int)) (.slice (some ⟨bb, oo, none⟩) n c) w1.drew :=
    pic_below ⟨cell_mark _ _ _ _ _ 0 rfl, cell_mark _ _ _ _ _ 1 rfl, cell_mark _ _ _ _ _ 2 rfl, hid ⟨ht.below ht.lt ((Below.refl _ _).alloc (Nat.le_refl _) _), (Below.refl _ _).alloc (Nat.le_refl _) _⟩⟩ hb1.drew (by simp)
  have c0 := hP.1
  have c1 := hP.2.1
  have c2 := hP.2.2.1
  replace hP := hid hP
  have HA := hid (fun (wi : World) (hbi : Below w1.drew.heap.size w1.drew wi) => by
    have e0 : w.heap.size ≤ wi.heap.size := Nat.le_trans (Nat.le_of_lt hsz1) hbi.size
    have e1 : Below w.heap.size w wi := (hP.out.2.2.2.2).trans (hbi.mono (Nat.le_of_lt hsz1))
    have := append_conv wi i0 hi0 hz0 hz1 hz2 22 (Pg.head 53 W' H') bb oo n c g hn.out.symm (by have := hbb.out.1; omega) (fun j x hj => (e1.cell (p := ⟨bb, oo + j, none⟩) hbb.out.1).trans (hbb.out.2 j x hj)) (by have := head_len 53 W' H' (by omega) (by omega); omega)
    have hS' : S = ⟨(Pg.head 53 W' H').toArray⟩ := hS.out
    rw [← hS'] at this
    exact this)
  clear ht hb HR hb1
  go_region_law
    (first
      | ((refine step_append_run (by rfl) _ _ _ (by rfl) _ _ (by rfl) (by rfl) (HA.out wi hbi) ?_; intro v' w6 hR; obtain ⟨hown, hgrow⟩ := hR; have hQ3 := hid (pic_grown hQ2.out hgrow hsi (Nat.le_of_lt hsi) hti (by rw [Lib.bytesWorld_size]; omega))))
      | ((go_simp; go_at_call 26; refine (HD.out _ hP.out.2.2.2.1).mono ?_; rintro e wi ⟨rfl, hbi⟩; have hsi : w.heap.size < wi.heap.size := Nat.lt_of_lt_of_le hsz1 hbi.size; have hti : 2 < wi.heap.size := Nat.lt_of_lt_of_le hP.out.2.2.2.1.lt hbi.size; have hQ := hid (pic_below hP.out hbi (Nat.le_of_lt hsz1)); have hQ2 := hid (pic_below hQ.out (below_bytes wi 5 S) (Nat.le_of_lt hsi)); have c6 := hQ.out.2.2.1; have c7 := hQ2.out.2.2.1)))
  all_goals
    go_wp2
    go_ret2
    refine ⟨v', rfl, ?_, hQ3.out.2.2.2.2⟩
    have e : Pg.bytes ⟨W', H', g⟩ = Pg.head 53 W' H' ++ g := rfl
    rw [e]
    exact hown.base (by have := hbi.size; omega)
end Go.Proofs.YtinhbebjlbnejaaDoor
