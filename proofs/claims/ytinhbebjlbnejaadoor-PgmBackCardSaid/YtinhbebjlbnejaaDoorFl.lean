/- Walks: pgm.Plain. -/
import Derived.Test.YtinhbebjlbnejaaDoorFk
namespace Go.Proofs.YtinhbebjlbnejaaDoor
open Go Go.RowKit Go.Shelf
open Go.Lib (hid)
attribute [local go_sem] Oper.semAt_some
set_option linter.unusedSimpArgs false
set_option linter.unusedVariables false

namespace Pg
/-- A row's digits, so far. -/
def part (r : List UInt8) : Nat → List UInt8
  | 0 => []
  | j + 1 => part r j ++ ((if j = 0 then [] else [32]) ++ dec (r.getD j 0).toNat)
theorem row_cons (c : UInt8) (l : List UInt8) : row (c :: l) = dec c.toNat ++ (l.flatMap fun d => 32 :: dec d.toNat) ++ [10] := by
  induction l generalizing c with
  | nil => simp [row]
  | cons d l ih =>
    rw [row, ih d]
    simp
    simp
theorem part_cons (c : UInt8) (l : List UInt8) : ∀ j, j ≤ l.length → part (c :: l) (j + 1) = dec c.toNat ++ ((l.take j).flatMap fun d => 32 :: dec d.toNat)
  | 0, _ => by simp [part]
  | j + 1, h => by
    rw [part, part_cons c l j (by omega)]
    have e : l.take (j + 1) = l.take j ++ [l[j]'(by omega)] := by rw [List.take_append_getElem]
    have e2 : (c :: l).getD (j + 1) 0 = l[j]'(by omega) := by simp [List.getD, List.getElem?_eq_getElem (show j < l.length by omega)]
    rw [e, e2, if_neg (by omega), List.flatMap_append]
    simp only [List.flatMap_cons, List.flatMap_nil, List.append_nil, List.append_assoc, List.cons_append, List.nil_append]
theorem part_row (r : List UInt8) (h : 0 < r.length) : row r = part r r.length ++ [10] := by
  match r, h with
  | c :: l, _ =>
    rw [row_cons, List.length_cons, part_cons c l _ (Nat.le_refl _), List.take_length]
theorem rows_flat (w : Nat) : ∀ (n : Nat) (l : List UInt8), rows n w l = (List.range n).flatMap fun k => row ((l.drop (k * w)).take w)
  | 0, _ => rfl
  | n + 1, l => by
    rw [rows, rows_flat w n, List.range_succ_eq_map, List.flatMap_cons, List.flatMap_map]
    congr 1
    · simp
    · congr 1
      funext k
      simp only [Function.comp, List.drop_drop, Nat.succ_mul]
      rw [Nat.add_comm]
theorem part_le (r : List UInt8) : ∀ j, (part r j).length ≤ 4 * j
  | 0 => by simp [part]
  | j + 1 => by
    have h1 := part_le r j
    have h2 := (dec_digits (r.getD j 0).toNat (by have := (r.getD j 0).toNat_lt; omega)).2.2.1
    rw [part]
    simp only [List.length_append]
    split
    · rw [List.length_nil]; omega
    · rw [List.length_cons, List.length_nil]; omega
theorem row_le (r : List UInt8) (w : Nat) (h : 0 < r.length) (hw : r.length ≤ w) : (row r).length ≤ 4 * w + 1 := by
  rw [part_row r h]
  have := part_le r r.length
  simp
  omega
end Pg

/-- A builder that holds bytes, in a world since another. -/
def BS (w0 : World) (b : Nat) (l : List UInt8) (W : World) : Prop := Lib.BuilderAtF 56 5 w0.heap.size b (.pointer (some ⟨b, 0, none⟩)) (Lib.byteCells l) W ∧ Below w0.heap.size w0 W
/-- A step of it. -/
def Stp (b : Nat) (A B : World) : Prop := Lib.OthersKept 5 (some b) A B ∧ A.heap.size ≤ B.heap.size
theorem Stp.refl (b : Nat) (A : World) : Stp b A A := ⟨Lib.OthersKept.refl _ _ _, Nat.le_refl _⟩
theorem Stp.trans {b : Nat} {A B C : World} (h : Stp b A B) (k : Stp b B C) : Stp b A C := ⟨h.1.trans k.1, Nat.le_trans h.2 k.2⟩
theorem Stp.kpb {b : Nat} {A B : World} (h : Stp b A B) : KpB 5 b A B := KpB.of h.2 h.1
theorem Stp.from {b R : Nat} {A B : World} (h : Stp b A B) (hb : b < R) : KeepsFrom R A B :=
  ⟨h.2, fun k o hk ho hc => h.1 k o ho (fun e => by cases e; omega) (fun c fz e => by subst e; cases hc)⟩
theorem Stp.of_below {b : Nat} {A B : World} (h : Below A.heap.size A B) : Stp b A B := ⟨fun k x hk _ _ => (h.block k (Array.getElem?_eq_some_iff.1 hk).1).trans hk, h.size⟩
theorem below_grown {A C : World} (hb : Below A.heap.size A C) : A.grownBy C none := ⟨hb.os, hb.tape, hb.output, hb.size, fun k hk _ => hb.block k hk⟩
theorem bld_below {T e : TypeId} {B b : Nat} {p : Value} {bs : List Value} {A C : World} (h : Lib.BuilderAtF T e B b p bs A) (hb : Below A.heap.size A C) : Lib.BuilderAtF T e B b p bs C := by
  have hlt := h.lt
  obtain ⟨hB, v, hbk, hown, hne⟩ := h
  exact ⟨hB, v, (hb.block b hlt).trans hbk, hown.kept (row := none) (below_grown hb) (by cases v.ownBlock <;> simp), hne⟩
theorem BS.below {w0 A C : World} {b : Nat} {l : List UInt8} (h : BS w0 b l A) (hb : Below A.heap.size A C) : BS w0 b l C := ⟨bld_below h.1 hb, h.2.trans (hb.mono h.2.size)⟩
theorem bs_own {α : Type} (w0 : World) (b : Nat) (f : List α → List UInt8) (R : Nat) (h0 : w0.heap.size ≤ R) : OwnFrom R (fun s W => BS w0 b (f s) W) := by
  intro s W W' row hs hg hr
  refine ⟨?_, hs.2.grown hg hs.2.size (fun k e => Nat.le_trans h0 (hr k e).1)⟩
  have hlt := hs.1.lt
  obtain ⟨hB, v, hbk, hown, hne⟩ := hs.1
  have hx : ∀ (k : Nat) (o : Obj), W.heap[k]? = some o → o.isCells = true → some k ≠ row := by
    intro k o ho hc e
    obtain ⟨o', h1, h2⟩ := (hr k e.symm).2
    rw [ho] at h1; cases h1; rw [hc] at h2; cases h2
  refine ⟨hB, v, (hg.block b hlt (hx b _ hbk rfl)).trans hbk, hown.kept hg ?_, hne⟩
  cases hv : v.ownBlock with
  | none => exact .inl rfl
  | some g =>
    obtain ⟨c, fz, hc⟩ := Lib.ownsRowF_kind hown g hv
    exact .inr (hx g _ hc rfl)

theorem bs_byte (w0 : World) (b : Nat) (l : List UInt8) (c : UInt8) (W : World) (h : BS w0 b l W) (hl : l.length + 1 ≤ 140737488355328) :
    Calls Tryd.prog 28 #[.pointer (some ⟨b, 0, none⟩), .int .u8 (c.toNat : Int)] W fun e W' => e = .returned .nilIface ∧ (BS w0 b (l ++ [c]) W' ∧ Stp b W W') := by
  refine (writeByte_any w0.heap.size b (Lib.byteCells l) (c.toNat : Int) W (.inr h.1) (by rw [Lib.byteCells_length]; exact hl) h.2.size).mono ?_
  rintro e W' ⟨rfl, h1, h2, h3⟩
  have e1 : Lib.byteCells l ++ [Value.int .u8 (c.toNat : Int)] = Lib.byteCells (l ++ [c]) := (Lib.byteCells_append l [c]).symm ▸ rfl
  rw [e1] at h1
  exact ⟨rfl, ⟨h1, h.2.trans h2⟩, h3, h2.size⟩
theorem bs_str (w0 : World) (b : Nat) (l t : List UInt8) (W : World) (h : BS w0 b l W) (hl : l.length + t.length ≤ 140737488355328) :
    Calls Tryd.prog 21 #[.pointer (some ⟨b, 0, none⟩), .string ⟨t.toArray⟩] W fun e W' => (∃ v, e = .returned v) ∧ (BS w0 b (l ++ t) W' ∧ Stp b W W') := by
  refine (writeString_any w0.heap.size b (Lib.byteCells l) ⟨t.toArray⟩ W (.inr h.1) (by rw [Lib.byteCells_length]; simpa [ByteArray.size] using hl) h.2.size).mono ?_
  rintro e W' ⟨rfl, h1, h2, h3⟩
  have e1 : Lib.byteCells l ++ Lib.strCells ⟨t.toArray⟩ = Lib.byteCells (l ++ t) := (Lib.byteCells_append l t).symm
  rw [e1] at h1
  exact ⟨⟨_, rfl⟩, ⟨h1, h.2.trans h2⟩, h3, h2.size⟩
theorem bs_itoa (w0 : World) (b : Nat) (l : List UInt8) (n : Nat) (hn : n < 1000) (W : World) (h : BS w0 b l W) (ht : Tab w0) :
    Calls Tryd.prog 20 #[.int .i64 (n : Int)] W fun e W' => e = .returned (.string ⟨(Pg.dec n).toArray⟩) ∧ (BS w0 b l W' ∧ Stp b W W') := by
  refine (itoa_any n hn W (ht.below ht.lt h.2)).mono ?_
  rintro e W' ⟨rfl, hb⟩
  exact ⟨rfl, h.below hb, Stp.of_below hb⟩

set_option maxRecDepth 100000 in
set_option maxHeartbeats 4000000 in
theorem plain_no (W H : Int) (ao : Option Addr) (n c : Nat) (w : World) (hn : n ≤ 281474976710656) (h : rightB W H n = false) :
    Calls Tryd.prog 11 #[.agg #[.int .i64 W, .int .i64 H, .slice ao n c]] w fun e w' => e = .returned (.tuple #[.string ⟨#[]⟩, .int .i64 280]) ∧ Below w.heap.size w w' := by
  have HR := hid (fun w => picRight_any W H ao n c w hn)
  rw [h] at HR
  clear h
  go_enter Tryd.func11, Tryd.ntmps11
  go_wp2_with (go_at_call 25; refine (HR.out _).mono ?_; rintro e w1 ⟨rfl, hb⟩)
  go_ret2
  exact ⟨rfl, ((Below.refl _ _).alloc (Nat.le_refl _) _).trans (hb.mono (by simp))⟩

/-- What the builder holds behind some rows. -/
def txt (W H : Nat) (g : List UInt8) (pre : List (Rw H)) : List UInt8 := Pg.head 50 W H ++ pre.flatMap fun x => Pg.row ((g.drop (x.1 * W)).take W)
theorem txt_snoc (W H : Nat) (g : List UInt8) (pre : List (Rw H)) (x : Rw H) : txt W H g (pre ++ [x]) = txt W H g pre ++ Pg.row ((g.drop (x.1 * W)).take W) := by simp [txt]
theorem txt_all (W H : Nat) (hH : 0 < H) (g : List UInt8) : txt W H g (rowN H hH H) = Pg.plain ⟨W, H, g⟩ := by
  unfold txt Pg.plain
  rw [Pg.rows_flat, rowN, List.flatMap_map]
  congr 1
  have : ∀ l : List Nat, (∀ k ∈ l, k < H) → (l.flatMap fun a => Pg.row ((g.drop ((rwl H hH a).1 * W)).take W)) = l.flatMap fun k => Pg.row ((g.drop (k * W)).take W) := by
    intro l
    induction l with
    | nil => intro _; rfl
    | cons a l ih =>
      intro h
      rw [List.flatMap_cons, List.flatMap_cons, ih fun k hk => h k (by simp [hk])]
      have : (rwl H hH a).1 = a := Nat.mod_eq_of_lt (h a (by simp))
      rw [this]
  exact this _ (fun k hk => List.mem_range.1 hk)
theorem txt_le (W H : Nat) (hH : H ≤ 256) (hW : W ≤ 256) (hW1 : 1 ≤ W) (g : List UInt8) (hg : g.length = W * H) (pre : List (Rw H)) : (txt W H g pre).length ≤ 20 + pre.length * 1025 := by
  have h0 := head_len 50 W H (by omega) (by omega)
  have h1 : (pre.flatMap fun x : Rw H => Pg.row ((g.drop (x.1 * W)).take W)).length ≤ pre.length * 1025 := by
    induction pre with
    | nil => simp
    | cons x pre ih =>
      have h1 : (x.1 + 1) * W ≤ H * W := Nat.mul_le_mul_right _ x.2
      rw [Nat.succ_mul, Nat.mul_comm H W, ← hg] at h1
      have := Pg.row_le ((g.drop (x.1 * W)).take W) W (by simp; omega) (by simp; omega)
      rw [List.flatMap_cons, List.length_append, List.length_cons]
      omega
  unfold txt
  rw [List.length_append]
  omega
end Go.Proofs.YtinhbebjlbnejaaDoor
