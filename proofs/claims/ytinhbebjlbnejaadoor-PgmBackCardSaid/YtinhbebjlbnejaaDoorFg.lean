/- Walks of package pgm: Parse. -/
import Derived.Test.YtinhbebjlbnejaaDoorFf
import Derived.Lib.SlBytesConst
import Derived.Deep.DeepCutAuto
import Derived.Deep.CutRange
namespace Go.Proofs.YtinhbebjlbnejaaDoor
open Go Go.RowKit
open Go.Lib (hid)
set_option linter.unusedVariables false
set_option linter.unusedSimpArgs false

/-- A constant's bytes: the new row, marked. -/
theorem conv_const (w : World) (C : Array Value) (n c g : Nat) (hg : g = w.heap.size) :
    (convert 22 22 (.slice (some ⟨g, 0, none⟩) n c)).run Tryd.prog (w.alloc (.cells C 5)) = .ok (.slice (some ⟨g, 0, none⟩) n c) (w.alloc (.cells C 5 (C.size, C.size + 1))) := by
  subst hg; exact Lib.run_convert_bytes_const w _ _ C n c Tryd.underlying22 Tryd.underlying5
/-- What Parse hands back. -/
def ParsePost (l : List UInt8) (w : World) (e : Ending) (w' : World) : Prop :=
  Below w.heap.size w w' ∧ ((Pg.parse l = none ∧ e = .returned (.tuple #[.agg #[.int .i64 0, .int .i64 0, .slice none 0 0], .int .i64 280])) ∨
    ∃ p v, Pg.parse l = some p ∧ e = .returned (.tuple #[.agg #[.int .i64 (p.w : Int), .int .i64 (p.h : Int), v], .int .i64 0]) ∧ w'.ownsRow w.heap.size 5 1 v p.grey.length (Lib.byteCells p.grey))

theorem parse_pre {l : List UInt8} (h1 : (l.take 2 == [80, 53]) = false) (h2 : (l.take 2 == [80, 50]) = false) : Pg.parse l = none := by
  match l, h1, h2 with
  | [], _, _ => rfl
  | [_], _, _ => rfl
  | a :: k :: t, h1, h2 =>
    simp only [List.take_succ_cons, List.take_zero] at h1 h2
    rw [Pg.parse, if_neg]
    intro h
    simp only [Bool.and_eq_true, Bool.or_eq_true, beq_iff_eq] at h
    obtain ⟨rfl, rfl | rfl⟩ := h
    · simp at h1
    · simp at h2

theorem below_two (w : World) (a b : Obj) : Below w.heap.size w ((w.alloc a).alloc b) := ((Below.refl _ _).alloc (Nat.le_refl _) _).alloc (by simp) _
theorem cell_mark (w : World) (C : Array Value) (t : TypeId) (fr : Nat × Nat) (n j : Nat) (hn : n = w.heap.size) : (w.alloc (.cells C t fr)).cell? ⟨n, j, none⟩ = C[j]? := by
  subst hn; exact World.cell?_alloc_mark w C t fr j

set_option maxRecDepth 100000 in
set_option maxHeartbeats 4000000 in
theorem parse_no (ao : Option Addr) (c : Nat) (l : List UInt8) (w : World) (hl : l.length ≤ c) (hb : Byt w ao l) (h1 : (l.take 2 == [80, 53]) = false) (h2 : (l.take 2 == [80, 50]) = false) :
    Calls Tryd.prog 12 #[.slice ao l.length c] w (ParsePost l w) := by
  have HP := hid (fun W g d k (hW : Below w.heap.size w W) h0 h1 => hasPrefix_any ao c g d l k W hl (hb.below hW) h0 h1)
  have hpn := hid (parse_pre h1 h2)
  have k1 := conv_const (w.alloc (.cells #[.int .i64 0, .int .i64 0, .slice none 0 0] 25)) #[.int .u8 80, .int .u8 53] 2 2 (w.heap.size + 1) (by simp)
  have k2 := fun fr => conv_const ((w.alloc (.cells #[.int .i64 0, .int .i64 0, .slice none 0 0] 25)).alloc (.cells #[.int .u8 80, .int .u8 53] 5 fr)) #[.int .u8 80, .int .u8 50] 2 2 (w.heap.size + 2) (by simp)
  replace h1 := hid h1
  replace h2 := hid h2
  go_enter Tryd.func12, Tryd.ntmps12
  go_wp2_with fail
  refine (HP.out _ _ _ 53 (below_two _ _ _) (cell_mark _ _ _ _ _ _ (by simp)) (cell_mark _ _ _ _ _ _ (by simp))).mono ?_
  rw [h1.out]
  rintro e w1 ⟨rfl, rfl⟩
  go_wp2_with fail
  refine (HP.out _ _ _ 50 ((below_two _ _ _).alloc (by simp; omega) _) (cell_mark _ _ _ _ _ _ (by simp)) (cell_mark _ _ _ _ _ _ (by simp))).mono ?_
  rw [h2.out]
  rintro e w1 ⟨rfl, rfl⟩
  go_wp2
  exact bodyPost_ret (v := .tuple #[.agg #[.int .i64 0, .int .i64 0, .slice none 0 0], .int .i64 280]) (by simp [results, Tryd.results12, go_sem]) rfl
    ⟨(below_two _ _ _).alloc (by simp; omega) _, .inl ⟨hpn.out, rfl⟩⟩

/-- A reader and a picture, as Parse works. -/
structure PS (l : List UInt8) (w0 : World) (R : Nat) (off : Bool) (W H : Int) (gv : Value) (w : World) : Prop where
  rd : Rd R l off w
  p0 : w.cell? ⟨R + 1, 0, none⟩ = some (.int .i64 W)
  p1 : w.cell? ⟨R + 1, 1, none⟩ = some (.int .i64 H)
  p2 : w.cell? ⟨R + 1, 2, none⟩ = some gv
  pf : ∀ j, w.frozen? ⟨R + 1, j, none⟩ = false
  r0 : w.cell? ⟨w0.heap.size, 0, none⟩ = some (.int .i64 0)
  r1 : w.cell? ⟨w0.heap.size, 1, none⟩ = some (.int .i64 0)
  r2 : w.cell? ⟨w0.heap.size, 2, none⟩ = some (.slice none 0 0)
  rf : ∀ j, w.frozen? ⟨w0.heap.size, j, none⟩ = false
  ne : w0.heap.size < R ∧ R + 1 < w.heap.size
  u : Below w0.heap.size w0 w

theorem PS.num {l l' : List UInt8} {w0 w w' : World} {R : Nat} {off off' : Bool} {W H : Int} {gv : Value} (h : PS l w0 R off W H gv w) (hr : Rd R l' off' w') (hg : w.grownBy w' (some R)) (hs : w'.heap.size = w.heap.size) : PS l' w0 R off' W H gv w' := by
  have n := h.ne
  have e1 : ∀ j, w'.cell? ⟨R + 1, j, none⟩ = w.cell? ⟨R + 1, j, none⟩ := fun j => World.cell?_of_block (hg.block (R + 1) n.2 (by simp))
  have e2 : ∀ j, w'.cell? ⟨w0.heap.size, j, none⟩ = w.cell? ⟨w0.heap.size, j, none⟩ := fun j => World.cell?_of_block (hg.block w0.heap.size (by omega) (by simp; omega))
  have f1 : ∀ j, w'.frozen? ⟨R + 1, j, none⟩ = w.frozen? ⟨R + 1, j, none⟩ := fun j => World.frozen?_of_block (hg.block (R + 1) n.2 (by simp))
  have f2 : ∀ j, w'.frozen? ⟨w0.heap.size, j, none⟩ = w.frozen? ⟨w0.heap.size, j, none⟩ := fun j => World.frozen?_of_block (hg.block w0.heap.size (by omega) (by simp; omega))
  exact ⟨hr, (e1 0).trans h.p0, (e1 1).trans h.p1, (e1 2).trans h.p2, fun j => (f1 j).trans (h.pf j), (e2 0).trans h.r0, (e2 1).trans h.r1, (e2 2).trans h.r2, fun j => (f2 j).trans (h.rf j), ⟨n.1, by omega⟩,
    h.u.grown hg (by omega) (fun k hk => by cases hk; omega)⟩

/-- Ahead of the reader. -/
structure Pre (w0 : World) (R : Nat) (w : World) : Prop where
  sz : w.heap.size = R
  lt : w0.heap.size < R
  r0 : w.cell? ⟨w0.heap.size, 0, none⟩ = some (.int .i64 0)
  r1 : w.cell? ⟨w0.heap.size, 1, none⟩ = some (.int .i64 0)
  r2 : w.cell? ⟨w0.heap.size, 2, none⟩ = some (.slice none 0 0)
  rf : ∀ j, w.frozen? ⟨w0.heap.size, j, none⟩ = false
  u : Below w0.heap.size w0 w

theorem frozen_old (w : World) (o : Obj) (b j : Nat) (h : b < w.heap.size) : (w.alloc o).frozen? ⟨b, j, none⟩ = w.frozen? ⟨b, j, none⟩ := World.frozen?_of_block (Below.heap_alloc w o b h)
theorem frozen_new (w : World) (C : Array Value) (t : TypeId) (n j : Nat) (hn : n = w.heap.size) : (w.alloc (.cells C t)).frozen? ⟨n, j, none⟩ = false := by
  subst hn
  have : (w.alloc (.cells C t)).heap[w.heap.size]? = some (.cells C t (0, 0)) := by
    show (w.heap.push _)[w.heap.size]? = _
    simp
  unfold World.frozen?
  simp only [this]
  simp
theorem cell_old (w : World) (o : Obj) {a : Addr} {v : Value} (h : w.cell? a = some v) : (w.alloc o).cell? a = some v := Lib.cell?_alloc_some _ h

theorem Pre.start {w0 w : World} {R : Nat} (h : Pre w0 R w) {t : List UInt8} {ao : Option Addr} {c : Nat} (hc : t.length ≤ c) (hb : Byt w0 ao t) (T T' : TypeId) :
    PS t w0 R false 0 0 (.slice none 0 0) ((w.alloc (.cells #[.slice ao t.length c, .bool false] T)).alloc (.cells #[.int .i64 0, .int .i64 0, .slice none 0 0] T')) := by
  obtain ⟨sz, lt, r0, r1, r2, rf, u⟩ := h
  have hb' : Byt ((w.alloc (.cells #[.slice ao t.length c, .bool false] T)).alloc (.cells #[.int .i64 0, .int .i64 0, .slice none 0 0] T')) ao t :=
    hb.below ((u.alloc (by omega) _).alloc (by simp; omega) _)
  refine ⟨⟨⟨ao, c, cell_old _ _ (cell_mark _ _ _ _ _ 0 sz.symm), hc, ?_⟩, cell_old _ _ (cell_mark _ _ _ _ _ 1 sz.symm), fun j => ?_⟩, cell_mark _ _ _ _ _ 0 (by simp [sz]), cell_mark _ _ _ _ _ 1 (by simp [sz]), cell_mark _ _ _ _ _ 2 (by simp [sz]), fun j => frozen_new _ _ _ _ _ (by simp [sz]),
    cell_old _ _ (cell_old _ _ r0), cell_old _ _ (cell_old _ _ r1), cell_old _ _ (cell_old _ _ r2), fun j => ?_, ⟨lt, by simp [sz]⟩, (u.alloc (by omega) _).alloc (by simp; omega) _⟩
  · rcases hb with h | ⟨b, o, rfl, hw, hcc⟩
    · exact .inl h
    · rcases hb' with h | ⟨b', o', e, hw', hcc'⟩
      · exact .inl h
      · cases e
        exact .inr ⟨b, o, rfl, by omega, hw', hcc'⟩
  · rw [frozen_old _ _ _ _ (by simp [sz])]
    exact frozen_new _ _ _ _ _ sz.symm
  · rw [frozen_old _ _ _ _ (by simp; omega), frozen_old _ _ _ _ (by omega)]
    exact rf j

theorem number_num (R most : Nat) (hm : most ≤ 256) (l : List UInt8) (off : Bool) (w : World) (h : Rd R l off w) (hl : l.length ≤ 281474976710656) {n : Option Nat} {l' : List UInt8} (hN : Pg.number most l = (n, l')) :
    Calls Tryd.prog 30 #[.pointer (some ⟨R, 0, none⟩), .int .i64 (most : Int)] w fun e w' => e = .returned (.int .i64 ((n.getD 0 : Nat) : Int)) ∧ Rd R l' (off || n.isNone) w' ∧ w.grownBy w' (some R) ∧ w'.heap.size = w.heap.size := by
  refine (number_any R most hm l off w h hl).mono fun e w' hp => ?_
  unfold NumPost at hp
  rw [hN] at hp
  exact hp

theorem PS.other {l : List UInt8} {w0 w : World} {R : Nat} {off : Bool} {W H : Int} {gv : Value} (h : PS l w0 R off W H gv w) (j : Nat) (v : Value) :
    Rd R l off (w.setCell ⟨R + 1, j, none⟩ v) ∧ (∀ i, i ≠ j → (w.setCell ⟨R + 1, j, none⟩ v).cell? ⟨R + 1, i, none⟩ = w.cell? ⟨R + 1, i, none⟩) ∧ (∀ i, (w.setCell ⟨R + 1, j, none⟩ v).frozen? ⟨R + 1, i, none⟩ = false) ∧
    (∀ i, (w.setCell ⟨R + 1, j, none⟩ v).cell? ⟨w0.heap.size, i, none⟩ = w.cell? ⟨w0.heap.size, i, none⟩) ∧ (∀ i, (w.setCell ⟨R + 1, j, none⟩ v).frozen? ⟨w0.heap.size, i, none⟩ = false) ∧ R + 1 < (w.setCell ⟨R + 1, j, none⟩ v).heap.size ∧ Below w0.heap.size w0 (w.setCell ⟨R + 1, j, none⟩ v) := by
  obtain ⟨⟨⟨ao, c, h0, hc, hb⟩, ho, hf⟩, p0, p1, p2, pf, r0, r1, r2, rf, ne, u⟩ := h
  refine ⟨⟨⟨ao, c, ?_, hc, ?_⟩, ?_, fun i => by rw [World.frozen?_setCell]; exact hf i⟩, fun i hi => World.cell?_setCell_other _ _ _ _ (fun e => hi (by cases e; rfl)), fun i => by rw [World.frozen?_setCell]; exact pf i,
    fun i => World.cell?_setCell_other _ _ _ _ (fun e => by have := congrArg Addr.block e; simp at this; omega), fun i => by rw [World.frozen?_setCell]; exact rf i, by simpa using ne.2, u.setCell (p := ⟨R + 1, j, none⟩) (by show _ ≤ R + 1; omega) v⟩
  · rw [World.cell?_setCell_other _ _ _ _ (by simp)]; exact h0
  · rcases hb with hb | ⟨b, o, rfl, hb1, hb2, hb3⟩
    · exact .inl hb
    · exact .inr ⟨b, o, rfl, hb1, by simpa using hb2, fun i x hi => by rw [World.cell?_setCell_other _ _ _ _ (fun e => by have := congrArg Addr.block e; simp at this; omega)]; exact hb3 i x hi⟩
  · rw [World.cell?_setCell_other _ _ _ _ (by simp)]; exact ho
theorem PS.setW {l : List UInt8} {w0 w : World} {R : Nat} {off : Bool} {W H : Int} {gv : Value} (h : PS l w0 R off W H gv w) (W' : Int) : PS l w0 R off W' H gv (w.setCell ⟨R + 1, 0, none⟩ (.int .i64 W')) := by
  obtain ⟨a1, a2, a3, a4, a5, a6, a7⟩ := h.other 0 (.int .i64 W')
  exact ⟨a1, World.cell?_setCell_same _ _ _ h.p0, (a2 1 (by decide)).trans h.p1, (a2 2 (by decide)).trans h.p2, a3, (a4 0).trans h.r0, (a4 1).trans h.r1, (a4 2).trans h.r2, a5, ⟨h.ne.1, a6⟩, a7⟩
theorem PS.setH {l : List UInt8} {w0 w : World} {R : Nat} {off : Bool} {W H : Int} {gv : Value} (h : PS l w0 R off W H gv w) (H' : Int) : PS l w0 R off W H' gv (w.setCell ⟨R + 1, 1, none⟩ (.int .i64 H')) := by
  obtain ⟨a1, a2, a3, a4, a5, a6, a7⟩ := h.other 1 (.int .i64 H')
  exact ⟨a1, (a2 0 (by decide)).trans h.p0, World.cell?_setCell_same _ _ _ h.p1, (a2 2 (by decide)).trans h.p2, a3, (a4 0).trans h.r0, (a4 1).trans h.r1, (a4 2).trans h.r2, a5, ⟨h.ne.1, a6⟩, a7⟩
theorem PS.setG {l : List UInt8} {w0 w : World} {R : Nat} {off : Bool} {W H : Int} {gv : Value} (h : PS l w0 R off W H gv w) (gv' : Value) : PS l w0 R off W H gv' (w.setCell ⟨R + 1, 2, none⟩ gv') := by
  obtain ⟨a1, a2, a3, a4, a5, a6, a7⟩ := h.other 2 gv'
  exact ⟨a1, (a2 0 (by decide)).trans h.p0, (a2 1 (by decide)).trans h.p1, World.cell?_setCell_same _ _ _ h.p2, a3, (a4 0).trans h.r0, (a4 1).trans h.r1, (a4 2).trans h.r2, a5, ⟨h.ne.1, a6⟩, a7⟩

theorem PS.below {l : List UInt8} {w0 w w' : World} {R : Nat} {off : Bool} {W H : Int} {gv : Value} (h : PS l w0 R off W H gv w) (hb : Below w.heap.size w w') : PS l w0 R off W H gv w' := by
  obtain ⟨⟨⟨ao, c, h0, hc, hby⟩, ho, hf⟩, p0, p1, p2, pf, r0, r1, r2, rf, ne, u⟩ := h
  have e : ∀ b j, b < w.heap.size → w'.cell? ⟨b, j, none⟩ = w.cell? ⟨b, j, none⟩ := fun b j hj => hb.cell (p := ⟨b, j, none⟩) hj
  have f : ∀ b j, b < w.heap.size → w'.frozen? ⟨b, j, none⟩ = w.frozen? ⟨b, j, none⟩ := fun b j hj => hb.frozen (p := ⟨b, j, none⟩) hj
  have n1 : w0.heap.size < w.heap.size := by omega
  have n2 : R < w.heap.size := by omega
  refine ⟨⟨⟨ao, c, (e _ _ n2).trans h0, hc, ?_⟩, (e _ _ n2).trans ho, fun j => (f _ _ n2).trans (hf j)⟩, (e _ _ ne.2).trans p0, (e _ _ ne.2).trans p1, (e _ _ ne.2).trans p2, fun j => (f _ _ ne.2).trans (pf j),
    (e _ _ n1).trans r0, (e _ _ n1).trans r1, (e _ _ n1).trans r2, fun j => (f _ _ n1).trans (rf j), ⟨ne.1, Nat.lt_of_lt_of_le ne.2 hb.size⟩, u.trans (hb.mono (by omega))⟩
  rcases hby with h | ⟨b, o, rfl, h1, h2, h3⟩
  · exact .inl h
  · exact .inr ⟨b, o, rfl, h1, Nat.lt_of_lt_of_le h2 hb.size, fun i x hi => (e _ _ h2).trans (h3 i x hi)⟩

theorem side_nat (n : Nat) (w : World) : Calls Tryd.prog 31 #[.int .i64 (n : Int)] w fun e w' => e = .returned (.bool (Pg.side n)) ∧ w = w' := by
  have h := side_any (n : Int) w
  have e : (decide ((1 : Int) ≤ n) && decide ((n : Int) ≤ 256)) = Pg.side n := by
    unfold Pg.side
    rw [Bool.eq_iff_iff]
    simp only [Bool.and_eq_true, decide_eq_true_eq]
    omega
  rw [e] at h
  exact h
theorem heads_of {t l1 l2 l3 : List UInt8} {n1 n2 n3 : Option Nat} (h1 : Pg.number 256 t = (n1, l1)) (h2 : Pg.number 256 l1 = (n2, l2)) (h3 : Pg.number 255 l2 = (n3, l3)) :
    Pg.heads t = if (((false || n1.isNone) || n2.isNone) || n3.isNone) = false ∧ n3.getD 0 = 255 ∧ Pg.side (n1.getD 0) = true ∧ Pg.side (n2.getD 0) = true then some (n1.getD 0, n2.getD 0, l3) else none := by
  unfold Pg.heads
  rw [h1]
  cases n1 with
  | none => simp
  | some a =>
    simp only [h2]
    cases n2 with
    | none => simp
    | some b =>
      simp only [h3]
      cases n3 with
      | none => simp
      | some c =>
        simp only [Option.isNone_some, Bool.or_self, Option.getD_some, true_and, Bool.and_eq_true, decide_eq_true_eq]
        simp only [and_assoc]

theorem own_le {w : World} {B B' : Nat} {e : TypeId} {k : Nat} {v : Value} {n : Nat} {xs : List Value} (h : w.ownsRow B e k v n xs) (hB : B' ≤ B) : w.ownsRow B' e k v n xs := by
  refine ⟨h.1, ?_⟩
  rcases h.2 with hn | ⟨g, cap, cur, rfl, hb', rest⟩
  · exact .inl hn
  · exact .inr ⟨g, cap, cur, rfl, Nat.le_trans hB hb', rest⟩
theorem own_below {w w' : World} {B : Nat} {e : TypeId} {k : Nat} {v : Value} {n : Nat} {xs : List Value} (h : w.ownsRow B e k v n xs) (hb : Below w.heap.size w w') : w'.ownsRow B e k v n xs := by
  refine ⟨h.1, ?_⟩
  rcases h.2 with hn | ⟨g, cap, cur, rfl, hb', hgg, rest⟩
  · exact .inl hn
  · exact .inr ⟨g, cap, cur, rfl, hb', (hb.block g (Array.getElem?_eq_some_iff.1 hgg).1).trans hgg, rest⟩
/-- A row of the call's own stands where an older block is written. -/
theorem own_older {w w' : World} {B : Nat} {e : TypeId} {k : Nat} {v : Value} {n : Nat} {xs : List Value} (h : w.ownsRow B e k v n xs) {r : Nat} (hg : w.grownBy w' (some r)) (hr : r < B) : w'.ownsRow B e k v n xs := by
  refine ⟨h.1, ?_⟩
  rcases h.2 with hn | ⟨g, cap, cur, rfl, hb', hgg, rest⟩
  · exact .inl hn
  · exact .inr ⟨g, cap, cur, rfl, hb', (hg.block g (Array.getElem?_eq_some_iff.1 hgg).1 (by simp; omega)).trans hgg, rest⟩
theorem own_form {w : World} {B : Nat} {e : TypeId} {k : Nat} {v : Value} {n : Nat} {xs : List Value} (h : w.ownsRow B e k v n xs) : ∃ ao c, v = .slice ao n c := by
  rcases h.2 with ⟨rfl, rfl⟩ | ⟨g, cap, cur, rfl, _⟩
  · exact ⟨none, 0, rfl⟩
  · exact ⟨_, cap, rfl⟩

theorem raw_some {t t3 : List UInt8} {W H : Nat} {x : UInt8} (h : Pg.heads t = some (W, H, x :: t3)) (hx : Pg.blank x = true) (hl : t3.length = W * H) : Pg.parse (80 :: 53 :: t) = some ⟨W, H, t3⟩ := by
  rw [Pg.parse, h]
  simp [hx, hl]
theorem raw_none {t l3 : List UInt8} {W H : Nat} (h : Pg.heads t = some (W, H, l3)) (hx : ∀ x t3, l3 = x :: t3 → Pg.blank x = true → t3.length ≠ W * H) : Pg.parse (80 :: 53 :: t) = none := by
  rw [Pg.parse, h]
  cases l3 with
  | nil => rfl
  | cons x t3 =>
    simp only [beq_self_eq_true, Bool.true_or, Bool.and_self, if_true]
    rw [if_neg]
    intro e
    simp only [Bool.and_eq_true, decide_eq_true_eq] at e
    exact hx x t3 rfl e.1 e.2
theorem right_nat {W H : Nat} (hw : Pg.side W = true) (hh : Pg.side H = true) (n : Nat) : rightB (W : Int) (H : Int) n = decide (n = W * H) := by
  have h1 := Pg.side_le hw
  have h2 := Pg.side_le hh
  unfold rightB
  rw [show (decide ((1 : Int) ≤ W) && decide ((W : Int) ≤ 256)) = true by simp; omega, show (decide ((1 : Int) ≤ H) && decide ((H : Int) ≤ 256)) = true by simp; omega, Bool.true_and, Bool.true_and]
  rw [Bool.eq_iff_iff, decide_eq_true_eq, decide_eq_true_eq, ← Int.natCast_mul]
  omega
theorem sides_pos {W H : Nat} (hw : Pg.side W = true) (hh : Pg.side H = true) : 0 < W * H ∧ W * H ≤ 65536 := by
  have h1 := Pg.side_le hw
  have h2 := Pg.side_le hh
  exact ⟨Nat.mul_pos (by omega) (by omega), Nat.mul_le_mul h1.2 h2.2⟩

theorem parse_heads_none {k : UInt8} {t : List UInt8} (hk : (k == 53 || k == 50) = true) (h : Pg.heads t = none) : Pg.parse (80 :: k :: t) = none := by
  rw [Pg.parse, hk, h]
  rfl

set_option maxRecDepth 100000 in
set_option maxHeartbeats 4000000 in
theorem parse_raw (ao : Option Addr) (c : Nat) (t : List UInt8) (w : World) (hl : (80 :: 53 :: t).length ≤ c) (hbig : (80 :: 53 :: t).length ≤ 140737488355328) (hb : Byt w ao (80 :: 53 :: t)) :
    Calls Tryd.prog 12 #[.slice ao (80 :: 53 :: t).length c] w (ParsePost (80 :: 53 :: t) w) := by
  have HP := hid (fun W g d k' (hW : Below w.heap.size w W) h0 h1 => hasPrefix_any ao c g d (80 :: 53 :: t) k' W hl (hb.below hW) h0 h1)
  have k1 := conv_const (w.alloc (.cells #[.int .i64 0, .int .i64 0, .slice none 0 0] 25)) #[.int .u8 80, .int .u8 53] 2 2 (w.heap.size + 1) (by simp)
  rcases hb with hb | ⟨b, o, rfl, hbw, hc⟩
  · cases hb
  replace hc := hid hc
  simp only [List.length_cons] at hl hbig HP ⊢
  have H5 : ((80 :: 53 :: t).take 2 == [80, 53]) = true := by simp
  replace H5 := hid H5
  go_enter Tryd.func12, Tryd.ntmps12
  go_upto_region 4 with fail
  refine (HP.out _ _ _ 53 (below_two _ _ _) (cell_mark _ _ _ _ _ _ (by simp)) (cell_mark _ _ _ _ _ _ (by simp))).mono ?_
  rw [H5.out]
  rintro e w1 ⟨rfl, rfl⟩
  go_upto_region 4 with fail
  go_cut [5] (fun s5 wx => ∃ R WX ao' c', s5 = .pointer (some ⟨R, 0, none⟩) ∧ Pre w R WX ∧ t.length ≤ c' ∧ Byt w ao' t ∧ wx = WX.alloc (.cells #[.slice ao' t.length c', .bool false] 74))
  case first =>
    have hpre : Pre w (w.heap.size + 1 + 1) ((w.alloc (.cells #[.int .i64 0, .int .i64 0, .slice none 0 0] 25)).alloc (.cells #[.int .u8 80, .int .u8 53] 5 (2, 3))) := ⟨by simp, by omega, cell_old _ _ (cell_mark _ _ _ _ _ 0 rfl), cell_old _ _ (cell_mark _ _ _ _ _ 1 rfl), cell_old _ _ (cell_mark _ _ _ _ _ 2 rfl), fun j => by rw [frozen_old _ _ _ _ (by simp)]; exact frozen_new _ _ _ _ _ rfl, below_two _ _ _⟩
    by_cases hc2 : c = 2
    · subst hc2
      obtain rfl : t = [] := List.length_eq_zero_iff.1 (by omega)
      go_wp2_with fail
      go_meet
      exact ⟨_, _, _, _, rfl, hpre, Nat.le_refl _, .inl rfl, rfl⟩
    · go_wp2_with fail
      go_meet
      exact ⟨_, _, _, _, rfl, hpre, by omega, .inr ⟨b, o + 2, rfl, hbw, fun i x hi => by rw [Nat.add_assoc, Nat.add_comm 2 i]; exact hc.out (i + 2) x (by simpa using hi)⟩, rfl⟩
  case rest =>
    obtain ⟨R, WX, ao', c', rfl, hpre, hc', hby, rfl⟩ := hcut
    have P0 := hpre.start hc' hby 74 25
    obtain ⟨n1, l1, N1⟩ : ∃ n l', Pg.number 256 t = (n, l') := ⟨(Pg.number 256 t).1, (Pg.number 256 t).2, rfl⟩
    obtain ⟨n2, l2, N2⟩ : ∃ n l', Pg.number 256 l1 = (n, l') := ⟨(Pg.number 256 l1).1, (Pg.number 256 l1).2, rfl⟩
    obtain ⟨n3, l3, N3⟩ : ∃ n l', Pg.number 255 l2 = (n, l') := ⟨(Pg.number 255 l2).1, (Pg.number 255 l2).2, rfl⟩
    have ln1 : l1.length ≤ t.length := by
      obtain ⟨j, _, e⟩ := Pg.number_drop 256 t
      rw [N1] at e
      simp only at e
      rw [e]; simp
    have ln2 : l2.length ≤ l1.length := by
      obtain ⟨j, _, e⟩ := Pg.number_drop 256 l1
      rw [N2] at e
      simp only at e
      rw [e]; simp
    have ln3 : l3.length ≤ l2.length := by
      obtain ⟨j, _, e⟩ := Pg.number_drop 255 l2
      rw [N3] at e
      simp only at e
      rw [e]; simp
    have HE := hid (heads_of N1 N2 N3)
    replace N1 := hid N1
    replace N2 := hid N2
    replace N3 := hid N3
    have hsz := hpre.sz
    replace hpre := hid hpre
    clear k1 HP H5 hc hl hby
    replace P0 := hid P0
    go_wp2_with fail
    refine (number_num R 256 (by decide) t false _ P0.out.rd (by omega) N1.out).mono ?_
    rintro e w1 ⟨rfl, hr, hg, hs⟩
    have P1 := P0.out.num hr hg hs
    have c1 := P1.p0
    have f1 := P1.pf 0
    replace P1 := hid P1
    clear P0 hr hg hs hsz
    go_wp2_with fail
    replace P1 := hid (P1.out.setW ((n1.getD 0 : Nat) : Int))
    refine (number_num R 256 (by decide) l1 _ _ P1.out.rd (by omega) N2.out).mono ?_
    rintro e w2 ⟨rfl, hr, hg, hs⟩
    have P2 := P1.out.num hr hg hs
    have c2 := P2.p1
    have f2 := P2.pf 1
    replace P2 := hid P2
    clear P1 hr hg hs c1 f1
    go_wp2_with fail
    replace P2 := hid (P2.out.setH ((n2.getD 0 : Nat) : Int))
    refine (number_num R 255 (by decide) l2 _ _ P2.out.rd (by omega) N3.out).mono ?_
    rintro e w3 ⟨rfl, hr, hg, hs⟩
    have P3 := P2.out.num hr hg hs
    clear P2 hr hg hs c2 f2
    have c0 := P3.p0
    have c1 := P3.p1
    have c2 := P3.rd.o
    have c3 := P3.r0
    have c4 := P3.r1
    have c5 := P3.r2
    have f0 := P3.rf 0
    have f1 := P3.rf 1
    have f2 := P3.rf 2
    have hb3 := hid P3.u
    generalize hoff : (((false || n1.isNone) || n2.isNone) || n3.isNone) = off at *
    generalize hW : n1.getD 0 = W at *
    generalize hH : n2.getD 0 = H at *
    generalize hM : n3.getD 0 = M at *
    replace hoff := hid hoff
    replace hW := hid hW
    replace hH := hid hH
    replace hM := hid hM
    replace P3 := hid P3
    have SW := hid (fun w => side_nat W w)
    have SH := hid (fun w => side_nat H w)
    have hno : ¬ (off = false ∧ M = 255 ∧ Pg.side W = true ∧ Pg.side H = true) → Pg.parse (80 :: 53 :: t) = none := fun h => by
      have := HE.out
      rw [if_neg h] at this
      exact parse_heads_none (by decide) this
    replace hno := hid hno
    by_cases g0 : off = true
    · replace hno := hid (hno.out (fun h => by rw [g0] at h; cases h.1))
      subst g0
      clear SW SH HE
      go_wp2_with fail
      exact bodyPost_ret (v := .tuple #[.agg #[.int .i64 0, .int .i64 0, .slice none 0 0], .int .i64 280]) (by simp [results, Tryd.results12, go_sem, c3, c4, c5]) rfl
        ⟨((hb3.out.setCell (p := ⟨_, 0, none⟩) (Nat.le_refl _) _).setCell (p := ⟨_, 1, none⟩) (Nat.le_refl _) _).setCell (p := ⟨_, 2, none⟩) (Nat.le_refl _) _, .inl ⟨hno.out, rfl⟩⟩
    obtain rfl : off = false := by simpa using g0
    by_cases g1 : M = 255
    case' neg =>
      replace hno := hid (hno.out (fun h => g1 h.2.1))
      have e1 : ((M : Int) == 255) = false := by rw [beq_eq_false_iff_ne]; omega
      have e2 : ((M : Int) != 255) = true := by rw [bne_iff_ne]; omega
      clear SW SH HE
      go_wp2_with fail
      exact bodyPost_ret (v := .tuple #[.agg #[.int .i64 0, .int .i64 0, .slice none 0 0], .int .i64 280]) (by simp [results, Tryd.results12, go_sem, c3, c4, c5]) rfl
        ⟨((hb3.out.setCell (p := ⟨_, 0, none⟩) (Nat.le_refl _) _).setCell (p := ⟨_, 1, none⟩) (Nat.le_refl _) _).setCell (p := ⟨_, 2, none⟩) (Nat.le_refl _) _, .inl ⟨hno.out, rfl⟩⟩
    subst g1
    cases g2 : Pg.side W
    case' false =>
      replace hno := hid (hno.out (fun h => by rw [g2] at h; cases h.2.2.1))
      rw [g2] at SW
      clear SH HE
      go_wp2_with (go_at_call 31; ((with_reducible refine (SW.out _).mono ?_); rintro e w' ⟨rfl, rfl⟩))
      exact bodyPost_ret (v := .tuple #[.agg #[.int .i64 0, .int .i64 0, .slice none 0 0], .int .i64 280]) (by simp [results, Tryd.results12, go_sem, c3, c4, c5]) rfl
        ⟨((hb3.out.setCell (p := ⟨_, 0, none⟩) (Nat.le_refl _) _).setCell (p := ⟨_, 1, none⟩) (Nat.le_refl _) _).setCell (p := ⟨_, 2, none⟩) (Nat.le_refl _) _, .inl ⟨hno.out, rfl⟩⟩
    cases g3 : Pg.side H
    case' false =>
      replace hno := hid (hno.out (fun h => by rw [g3] at h; cases h.2.2.2))
      rw [g2] at SW
      rw [g3] at SH
      clear HE
      go_wp2_with (go_at_call 31; first | ((with_reducible refine (SW.out _).mono ?_); rintro e w' ⟨rfl, rfl⟩) | ((with_reducible refine (SH.out _).mono ?_); rintro e w' ⟨rfl, rfl⟩))
      exact bodyPost_ret (v := .tuple #[.agg #[.int .i64 0, .int .i64 0, .slice none 0 0], .int .i64 280]) (by simp [results, Tryd.results12, go_sem, c3, c4, c5]) rfl
        ⟨((hb3.out.setCell (p := ⟨_, 0, none⟩) (Nat.le_refl _) _).setCell (p := ⟨_, 1, none⟩) (Nat.le_refl _) _).setCell (p := ⟨_, 2, none⟩) (Nat.le_refl _) _, .inl ⟨hno.out, rfl⟩⟩
    rw [g2] at SW
    rw [g3] at SH
    have HD : Pg.heads t = some (W, H, l3) := by have := HE.out; rw [if_pos ⟨rfl, rfl, g2, g3⟩] at this; exact this
    have hwh := sides_pos g2 g3
    have HN := hid (fun hx => raw_none HD hx)
    have HS := hid (fun x t3 (e : l3 = x :: t3) => raw_some (by rw [HD, e]))
    replace HD := hid HD
    have HR := hid (fun ao n c w hn => picRight_any (W : Int) (H : Int) ao n c w hn)
    have RN := hid (fun n => right_nat g2 g3 n)
    replace g2 := hid g2
    replace g3 := hid g3
    clear hno HE
    go_upto_region 11 with (go_at_call 31; first | ((with_reducible refine (SW.out _).mono ?_); rintro e w' ⟨rfl, rfl⟩) | ((with_reducible refine (SH.out _).mono ?_); rintro e w' ⟨rfl, rfl⟩))
    have Q3 := P3.out.rd.b
    have f3 := P3.out.rd.f 0
    have f4 := P3.out.pf 2
    have c6 := P3.out.p2
    obtain ⟨ao3, cc3, s0, s1, s2⟩ := Q3
    have hway : (∃ x t3, l3 = x :: t3 ∧ Pg.blank x = true) ∨ (∀ x t3, l3 = x :: t3 → Pg.blank x = false) := by
      cases l3 with
      | nil => exact .inr (fun x t3 h => by cases h)
      | cons x t3 =>
        cases e : Pg.blank x
        · exact .inr (fun y t4 h => by cases h; exact e)
        · exact .inl ⟨x, t3, rfl, e⟩
    rcases hway with ⟨x, t3, rfl, hx⟩ | hway
    · -- a blank: what is behind it
      rcases s2 with h | ⟨b3, o3, rfl, hb1, hb2, hcc⟩
      · cases h
      have cx : w3.cell? ⟨b3, o3, none⟩ = some (.int .u8 (x.toNat : Int)) := by simpa using hcc 0 x rfl
      replace hcc := hid hcc
      simp only [List.length_cons] at s0 s1 ln3
      have HB := hid (blank_any x w3)
      rw [hx] at HB
      replace hx := hid hx
      by_cases h1 : cc3 = 1
      · subst h1
        obtain rfl : t3 = [] := List.length_eq_zero_iff.1 (by omega)
        simp only [List.length_nil] at s0
        go_wp2_with (go_at_call 32; ((with_reducible refine HB.out.mono ?_); rintro e w' ⟨rfl, rfl⟩))
        refine (clone_any b3 o3 0 0 [] w3 rfl (by decide) (fun i x hi => by simp at hi)).mono ?_
        rintro e w4 ⟨v', rfl, hown, hbw4⟩
        obtain ⟨ao5, cc5, rfl⟩ := own_form hown
        have hlt := P3.out.ne
        have P4 := P3.out.below hbw4
        clear c0 c1 c2 c3 c4 c5 c6 f0 f1 f2 f3 f4 s0 s1 hb3
        clear P3
        have c0 := P4.p0
        have c1 := P4.p1
        have c2 := P4.rd.o
        have c3 := P4.r0
        have c4 := P4.r1
        have c5 := P4.r2
        have c6 := P4.p2
        have f0 := P4.rf 0
        have f1 := P4.rf 1
        have f2 := P4.rf 2
        have f3 := P4.rd.f 0
        have f4 := P4.pf 2
        have hb3 := hid P4.u
        obtain ⟨ao4, cc4, s0, s1, _⟩ := P4.rd.b
        replace P4 := hid P4
        simp only [List.length_cons] at s0
        replace hown := hid hown
        go_wp2_with fail
        have P5 := (P4.out.setG (.slice ao5 0 cc5))
        replace P5 := P5.num (P5.rd.set (l' := []) (ao := none) (n := 0) (c := 0) rfl (Nat.le_refl _) (.inl rfl)) (grown_set _ _ _ _) (by simp)
        replace hown := hid (own_older (own_older hown.out (grown_set _ (R + 1) 2 (.slice ao5 0 cc5)) (by omega)) (grown_set _ R 0 (.slice none 0 0)) (by omega))
        clear P4
        generalize hw5 : World.setCell (World.setCell w4 ⟨R + 1, 2, none⟩ (Value.slice ao5 0 cc5)) ⟨R, 0, none⟩ (Value.slice none 0 0) = w5 at *
        clear hw5
        replace P5 := hid P5
        clear c0 c1 c2 c3 c4 c5 c6 f0 f1 f2 f3 f4 s0 s1 hb3
        go_loopw [] (fun wr => wr = w5) (fun _ => 0)
        case atStart => rfl
        case round =>
        subst hrel
        go_wp2_with fail
        refine (pass_any R [] false _ P5.out.rd (by simp)).mono ?_
        rintro e w6 ⟨rfl, hr, hg, hs⟩
        have P6 := P5.out.num hr hg hs
        replace hown := hid (own_older hown.out hg (by omega))
        clear P5 hr hg hs
        have c0 := P6.p0
        have c1 := P6.p1
        have c2 := P6.rd.o
        have c3 := P6.r0
        have c4 := P6.r1
        have c5 := P6.r2
        have c6 := P6.p2
        have f0 := P6.rf 0
        have f1 := P6.rf 1
        have f2 := P6.rf 2
        have f3 := P6.rd.f 0
        have f4 := P6.pf 2
        have hb3 := hid P6.u
        obtain ⟨ao4, cc4, s0, s1, _⟩ := P6.rd.b
        replace P6 := hid P6
        rw [Pg.pass_nil] at s0
        simp only [List.length_nil] at s0
        have HRR := hid (fun w => HR.out ao5 0 cc5 w (by omega))
        rw [RN.out _] at HRR
        clear HR RN
        by_cases hl5 : 0 = W * H
        · omega
        · rw [decide_eq_false hl5] at HRR
          have hno := hid (HN.out (fun y t4 e _ => by cases e; exact hl5))
          replace hl5 := hid hl5
          go_wp2_with fail
          refine (HRR.out _).mono ?_
          rintro e w7 ⟨rfl, hb7⟩
          have P7 := P6.out.below hb7
          clear P6
          clear c0 c1 c2 c3 c4 c5 c6 f0 f1 f2 f3 f4 s0 s1 hb3
          have c0 := P7.p0
          have c1 := P7.p1
          have c2 := P7.rd.o
          have c3 := P7.r0
          have c4 := P7.r1
          have c5 := P7.r2
          have c6 := P7.p2
          have f0 := P7.rf 0
          have f1 := P7.rf 1
          have f2 := P7.rf 2
          have f3 := P7.rd.f 0
          have f4 := P7.pf 2
          have hb3 := hid P7.u
          obtain ⟨ao4, cc4, s0, s1, _⟩ := P7.rd.b
          replace P7 := hid P7
          rw [Pg.pass_nil] at s0
          simp only [List.length_nil] at s0
          go_wp2_with fail
          exact bodyPost_ret (v := .tuple #[.agg #[.int .i64 0, .int .i64 0, .slice none 0 0], .int .i64 280]) (by simp [results, Tryd.results12, go_sem, c3, c4, c5]) rfl
            ⟨((hb3.out.setCell (p := ⟨_, 0, none⟩) (Nat.le_refl _) _).setCell (p := ⟨_, 1, none⟩) (Nat.le_refl _) _).setCell (p := ⟨_, 2, none⟩) (Nat.le_refl _) _, .inl ⟨hno.out, rfl⟩⟩
      · go_wp2_with (go_at_call 32; ((with_reducible refine HB.out.mono ?_); rintro e w' ⟨rfl, rfl⟩))
        refine (clone_any b3 (o3 + 1) t3.length (cc3 - 1) t3 w3 rfl (by omega) (fun i x hi => by rw [Nat.add_assoc, Nat.add_comm 1 i]; exact hcc.out (i + 1) x (by simpa using hi))).mono ?_
        rintro e w4 ⟨v', rfl, hown, hbw4⟩
        obtain ⟨ao5, cc5, rfl⟩ := own_form hown
        have hlt := P3.out.ne
        have P4 := P3.out.below hbw4
        clear c0 c1 c2 c3 c4 c5 c6 f0 f1 f2 f3 f4 s0 s1 hb3
        clear P3
        have c0 := P4.p0
        have c1 := P4.p1
        have c2 := P4.rd.o
        have c3 := P4.r0
        have c4 := P4.r1
        have c5 := P4.r2
        have c6 := P4.p2
        have f0 := P4.rf 0
        have f1 := P4.rf 1
        have f2 := P4.rf 2
        have f3 := P4.rd.f 0
        have f4 := P4.pf 2
        have hb3 := hid P4.u
        obtain ⟨ao4, cc4, s0, s1, _⟩ := P4.rd.b
        replace P4 := hid P4
        simp only [List.length_cons] at s0
        replace hown := hid hown
        go_wp2_with fail
        have P5 := (P4.out.setG (.slice ao5 t3.length cc5))
        replace P5 := P5.num (P5.rd.set (l' := []) (ao := none) (n := 0) (c := 0) rfl (Nat.le_refl _) (.inl rfl)) (grown_set _ _ _ _) (by simp)
        replace hown := hid (own_older (own_older hown.out (grown_set _ (R + 1) 2 (.slice ao5 t3.length cc5)) (by omega)) (grown_set _ R 0 (.slice none 0 0)) (by omega))
        clear P4
        generalize hw5 : World.setCell (World.setCell w4 ⟨R + 1, 2, none⟩ (Value.slice ao5 t3.length cc5)) ⟨R, 0, none⟩ (Value.slice none 0 0) = w5 at *
        clear hw5
        replace P5 := hid P5
        clear c0 c1 c2 c3 c4 c5 c6 f0 f1 f2 f3 f4 s0 s1 hb3
        go_loopw [] (fun wr => wr = w5) (fun _ => 0)
        case atStart => rfl
        case round =>
        subst hrel
        go_wp2_with fail
        refine (pass_any R [] false _ P5.out.rd (by simp)).mono ?_
        rintro e w6 ⟨rfl, hr, hg, hs⟩
        have P6 := P5.out.num hr hg hs
        replace hown := hid (own_older hown.out hg (by omega))
        clear P5 hr hg hs
        have c0 := P6.p0
        have c1 := P6.p1
        have c2 := P6.rd.o
        have c3 := P6.r0
        have c4 := P6.r1
        have c5 := P6.r2
        have c6 := P6.p2
        have f0 := P6.rf 0
        have f1 := P6.rf 1
        have f2 := P6.rf 2
        have f3 := P6.rd.f 0
        have f4 := P6.pf 2
        have hb3 := hid P6.u
        obtain ⟨ao4, cc4, s0, s1, _⟩ := P6.rd.b
        replace P6 := hid P6
        rw [Pg.pass_nil] at s0
        simp only [List.length_nil] at s0
        have HRR := hid (fun w => HR.out ao5 t3.length cc5 w (by omega))
        rw [RN.out _] at HRR
        clear HR RN
        by_cases hl5 : t3.length = W * H
        · rw [decide_eq_true hl5] at HRR
          have hyes := hid (HS.out x t3 rfl hx.out hl5)
          replace hl5 := hid hl5
          go_wp2_with fail
          refine (HRR.out _).mono ?_
          rintro e w7 ⟨rfl, hb7⟩
          have P7 := P6.out.below hb7
          replace hown := hid (own_below hown.out hb7)
          clear P6
          clear c0 c1 c2 c3 c4 c5 c6 f0 f1 f2 f3 f4 s0 s1 hb3
          have c0 := P7.p0
          have c1 := P7.p1
          have c2 := P7.rd.o
          have c3 := P7.r0
          have c4 := P7.r1
          have c5 := P7.r2
          have c6 := P7.p2
          have f0 := P7.rf 0
          have f1 := P7.rf 1
          have f2 := P7.rf 2
          have f3 := P7.rd.f 0
          have f4 := P7.pf 2
          have hb3 := hid P7.u
          obtain ⟨ao4, cc4, s0, s1, _⟩ := P7.rd.b
          replace P7 := hid P7
          rw [Pg.pass_nil] at s0
          simp only [List.length_nil] at s0
          go_wp2_with fail
          replace hown := own_le (own_older (own_older (own_older hown.out (grown_set _ w.heap.size 0 (.int .i64 (W : Int))) (by omega)) (grown_set _ w.heap.size 1 (.int .i64 (H : Int))) (by omega)) (grown_set _ w.heap.size 2 (.slice ao5 t3.length cc5)) (by omega)) (show w.heap.size ≤ _ by omega)
          refine bodyPost_ret (v := .tuple #[.agg #[.int .i64 (W : Int), .int .i64 (H : Int), .slice ao5 t3.length cc5], .int .i64 0]) (by simp [results, Tryd.results12, go_sem, c3, c4, c5]) rfl
            ⟨((hb3.out.setCell (p := ⟨_, 0, none⟩) (Nat.le_refl _) _).setCell (p := ⟨_, 1, none⟩) (Nat.le_refl _) _).setCell (p := ⟨_, 2, none⟩) (Nat.le_refl _) _, .inr ⟨_, _, hyes.out, rfl, hown⟩⟩
        · rw [decide_eq_false hl5] at HRR
          have hno := hid (HN.out (fun y t4 e _ => by cases e; exact hl5))
          replace hl5 := hid hl5
          go_wp2_with fail
          refine (HRR.out _).mono ?_
          rintro e w7 ⟨rfl, hb7⟩
          have P7 := P6.out.below hb7
          clear P6
          clear c0 c1 c2 c3 c4 c5 c6 f0 f1 f2 f3 f4 s0 s1 hb3
          have c0 := P7.p0
          have c1 := P7.p1
          have c2 := P7.rd.o
          have c3 := P7.r0
          have c4 := P7.r1
          have c5 := P7.r2
          have c6 := P7.p2
          have f0 := P7.rf 0
          have f1 := P7.rf 1
          have f2 := P7.rf 2
          have f3 := P7.rd.f 0
          have f4 := P7.pf 2
          have hb3 := hid P7.u
          obtain ⟨ao4, cc4, s0, s1, _⟩ := P7.rd.b
          replace P7 := hid P7
          rw [Pg.pass_nil] at s0
          simp only [List.length_nil] at s0
          go_wp2_with fail
          exact bodyPost_ret (v := .tuple #[.agg #[.int .i64 0, .int .i64 0, .slice none 0 0], .int .i64 280]) (by simp [results, Tryd.results12, go_sem, c3, c4, c5]) rfl
            ⟨((hb3.out.setCell (p := ⟨_, 0, none⟩) (Nat.le_refl _) _).setCell (p := ⟨_, 1, none⟩) (Nat.le_refl _) _).setCell (p := ⟨_, 2, none⟩) (Nat.le_refl _) _, .inl ⟨hno.out, rfl⟩⟩
    · -- no blank: nothing is read
      have hno := hid (HN.out (fun x t3 e hb => by rw [hway x t3 e] at hb; cases hb))
      clear HN HS
      have HX : l3 = [] ∨ ∃ x t3 b o, l3 = x :: t3 ∧ Pg.blank x = false ∧ ao3 = some ⟨b, o, none⟩ ∧ w3.cell? ⟨b, o, none⟩ = some (.int .u8 (x.toNat : Int)) := by
        cases l3 with
        | nil => exact .inl rfl
        | cons x t3 =>
          rcases s2 with h | ⟨b, o, rfl, _, _, hc⟩
          · cases h
          · exact .inr ⟨x, t3, b, o, rfl, hway x t3 rfl, rfl, by simpa using hc 0 x rfl⟩
      clear hway s2
      rcases HX with rfl | ⟨x, t3, b, o, rfl, hx, rfl, hc⟩
      · simp only [List.length_nil] at s0
        go_wp2_with fail
        go_loopw [] (fun wr => wr = w3) (fun _ => 0)
        case atStart => rfl
        case round =>
        subst hrel
        go_wp2_with fail
        refine (pass_any R ([]) false _ P3.out.rd (by simp only [List.length_cons, List.length_nil] at *; omega)).mono ?_
        rintro e w4 ⟨rfl, hr, hg, hs⟩
        have P4 := P3.out.num hr hg hs
        clear c0 c1 c2 c3 c4 c5 c6 f0 f1 f2 f3 f4 s0 s1 hb3 hr hg hs
        have c0 := P4.p0
        have c1 := P4.p1
        have c2 := P4.rd.o
        have c3 := P4.r0
        have c4 := P4.r1
        have c5 := P4.r2
        have c6 := P4.p2
        have f0 := P4.rf 0
        have f1 := P4.rf 1
        have f2 := P4.rf 2
        have hb3 := hid P4.u
        obtain ⟨ao4, cc4, s0, s1, _⟩ := P4.rd.b
        replace P4 := hid P4
        rw [Pg.pass_nil] at s0
        simp only [List.length_nil] at s0
        have HRR := hid (fun w => HR.out none 0 0 w (by omega))
        rw [RN.out _, show decide (0 = W * H) = false by simp; omega] at HRR
        clear HR RN
        go_wp2_with fail
        refine (HRR.out _).mono ?_
        rintro e w5 ⟨rfl, hb5⟩
        have P5 := P4.out.below hb5
        clear c0 c1 c2 c3 c4 c5 c6 f0 f1 f2 s0 s1 hb3 P4
        have c0 := P5.p0
        have c1 := P5.p1
        have c2 := P5.rd.o
        have c3 := P5.r0
        have c4 := P5.r1
        have c5 := P5.r2
        have c6 := P5.p2
        have f0 := P5.rf 0
        have f1 := P5.rf 1
        have f2 := P5.rf 2
        have hb3 := hid P5.u
        obtain ⟨ao4, cc4, s0, s1, _⟩ := P5.rd.b
        replace P5 := hid P5
        rw [Pg.pass_nil] at s0
        simp only [List.length_nil] at s0
        go_wp2_with fail
        exact bodyPost_ret (v := .tuple #[.agg #[.int .i64 0, .int .i64 0, .slice none 0 0], .int .i64 280]) (by simp [results, Tryd.results12, go_sem, c3, c4, c5]) rfl
          ⟨((hb3.out.setCell (p := ⟨_, 0, none⟩) (Nat.le_refl _) _).setCell (p := ⟨_, 1, none⟩) (Nat.le_refl _) _).setCell (p := ⟨_, 2, none⟩) (Nat.le_refl _) _, .inl ⟨hno.out, rfl⟩⟩
      · simp only [List.length_cons] at s0
        have HB := hid (blank_any x w3)
        rw [hx] at HB
        go_wp2_with (go_at_call 32; ((with_reducible refine HB.out.mono ?_); rintro e w' ⟨rfl, rfl⟩))
        go_loopw [] (fun wr => wr = w3) (fun _ => 0)
        case atStart => rfl
        case round =>
        subst hrel
        go_wp2_with fail
        refine (pass_any R (x :: t3) false _ P3.out.rd (by simp only [List.length_cons, List.length_nil] at *; omega)).mono ?_
        rintro e w4 ⟨rfl, hr, hg, hs⟩
        have P4 := P3.out.num hr hg hs
        clear c0 c1 c2 c3 c4 c5 c6 f0 f1 f2 f3 f4 s0 s1 hb3 hr hg hs
        have c0 := P4.p0
        have c1 := P4.p1
        have c2 := P4.rd.o
        have c3 := P4.r0
        have c4 := P4.r1
        have c5 := P4.r2
        have c6 := P4.p2
        have f0 := P4.rf 0
        have f1 := P4.rf 1
        have f2 := P4.rf 2
        have hb3 := hid P4.u
        obtain ⟨ao4, cc4, s0, s1, _⟩ := P4.rd.b
        replace P4 := hid P4
        by_cases hz : (Pg.pass (x :: t3)).length = 0
        · rw [hz] at s0
          have HRR := hid (fun w => HR.out none 0 0 w (by omega))
          rw [RN.out _, show decide (0 = W * H) = false by simp; omega] at HRR
          clear HR RN
          go_wp2_with fail
          refine (HRR.out _).mono ?_
          rintro e w5 ⟨rfl, hb5⟩
          have P5 := P4.out.below hb5
          clear c0 c1 c2 c3 c4 c5 c6 f0 f1 f2 s0 s1 hb3 P4
          have c0 := P5.p0
          have c1 := P5.p1
          have c2 := P5.rd.o
          have c3 := P5.r0
          have c4 := P5.r1
          have c5 := P5.r2
          have c6 := P5.p2
          have f0 := P5.rf 0
          have f1 := P5.rf 1
          have f2 := P5.rf 2
          have hb3 := hid P5.u
          obtain ⟨ao4, cc4, s0, s1, _⟩ := P5.rd.b
          replace P5 := hid P5
          rw [hz] at s0
          go_wp2_with fail
          exact bodyPost_ret (v := .tuple #[.agg #[.int .i64 0, .int .i64 0, .slice none 0 0], .int .i64 280]) (by simp [results, Tryd.results12, go_sem, c3, c4, c5]) rfl
            ⟨((hb3.out.setCell (p := ⟨_, 0, none⟩) (Nat.le_refl _) _).setCell (p := ⟨_, 1, none⟩) (Nat.le_refl _) _).setCell (p := ⟨_, 2, none⟩) (Nat.le_refl _) _, .inl ⟨hno.out, rfl⟩⟩
        · have hz' : 0 < (Pg.pass (x :: t3)).length := by omega
          generalize (Pg.pass (x :: t3)).length = z at *
          clear HR RN
          go_wp2_with fail
          exact bodyPost_ret (v := .tuple #[.agg #[.int .i64 0, .int .i64 0, .slice none 0 0], .int .i64 280]) (by simp [results, Tryd.results12, go_sem, c3, c4, c5]) rfl
            ⟨((hb3.out.setCell (p := ⟨_, 0, none⟩) (Nat.le_refl _) _).setCell (p := ⟨_, 1, none⟩) (Nat.le_refl _) _).setCell (p := ⟨_, 2, none⟩) (Nat.le_refl _) _, .inl ⟨hno.out, rfl⟩⟩
end Go.Proofs.YtinhbebjlbnejaaDoor
