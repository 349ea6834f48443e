/- Walks of package pgm: Parse, levels in digits. -/
import Derived.Test.YtinhbebjlbnejaaDoorFg
import Derived.Deep.RegionHeld3
import Derived.Deep.AppendLies
import Derived.Deep.RegionLaw
namespace Go.Proofs.YtinhbebjlbnejaaDoor
open Go Go.RowKit
open Go.Lib (hid)
set_option linter.unusedVariables false
set_option linter.unusedSimpArgs false

theorem levels_step : ∀ (k : Nat) (l : List UInt8), Pg.levels (k + 1) l = match Pg.levels k l with
    | none => none
    | some (g, r) => match Pg.number 255 r with
      | (none, _) => none
      | (some v, r') => some (g ++ [UInt8.ofNat v], r') := by
  intro k
  induction k with
  | zero =>
    intro l
    rw [Pg.levels, Pg.levels]
    split <;> simp_all [Pg.levels]
  | succ k ih =>
    intro l
    rw [Pg.levels]
    conv => rhs; rw [Pg.levels]
    split
    · rfl
    · rename_i v r e
      rw [ih r]
      cases Pg.levels k r with
      | none => rfl
      | some x =>
        obtain ⟨g, r'⟩ := x
        simp only [Option.map_some]
        split <;> simp_all
theorem levels_none {k : Nat} {l : List UInt8} (h : Pg.levels k l = none) : ∀ m, Pg.levels (k + m) l = none
  | 0 => h
  | m + 1 => by rw [← Nat.add_assoc, levels_step, levels_none h m]

theorem plain_some {t l3 g r : List UInt8} {W H : Nat} (h : Pg.heads t = some (W, H, l3)) (hl : Pg.levels (W * H) l3 = some (g, r)) (hr : Pg.pass r = []) : Pg.parse (80 :: 50 :: t) = some ⟨W, H, g⟩ := by
  rw [Pg.parse, h]
  simp [hl, hr]
theorem plain_none {t l3 : List UInt8} {W H : Nat} (h : Pg.heads t = some (W, H, l3)) (hl : ∀ g r, Pg.levels (W * H) l3 = some (g, r) → Pg.pass r ≠ []) : Pg.parse (80 :: 50 :: t) = none := by
  rw [Pg.parse, h]
  cases e : Pg.levels (W * H) l3 with
  | none => simp [e]
  | some x =>
    obtain ⟨g, r⟩ := x
    have := hl g r e
    simp [e, this]
theorem number_le {most n : Nat} {l s : List UInt8} (h : Pg.number most l = (some n, s)) : n ≤ most := by
  unfold Pg.number at h
  simp only at h
  split at h
  · cases h
  · cases h; omega

theorem Rd.drew {R : Nat} {l : List UInt8} {off : Bool} {w : World} (h : Rd R l off w) : Rd R l off w.drew := ⟨h.b, h.o, h.f⟩
theorem PS.drew {l : List UInt8} {w0 w : World} {R : Nat} {off : Bool} {W H : Int} {gv : Value} (h : PS l w0 R off W H gv w) : PS l w0 R off W H gv w.drew := ⟨h.rd.drew, h.p0, h.p1, h.p2, h.pf, h.r0, h.r1, h.r2, h.rf, h.ne, h.u.drew⟩
theorem number_255 (R : Nat) (l : List UInt8) (off : Bool) (w : World) (h : Rd R l off w) (hl : l.length ≤ 281474976710656) {n : Option Nat} {l' : List UInt8} (hN : Pg.number 255 l = (n, l')) :
    Calls Tryd.prog 30 #[.pointer (some ⟨R, 0, none⟩), .int .i64 255] w fun e w' => e = .returned (.int .i64 ((n.getD 0 : Nat) : Int)) ∧ Rd R l' (off || n.isNone) w' ∧ w.grownBy w' (some R) ∧ w'.heap.size = w.heap.size :=
  number_num R 255 (by decide) l off w h hl hN
theorem own_drew {w : World} {B : Nat} {e : TypeId} {k : Nat} {v : Value} {n : Nat} {xs : List Value} (h : w.ownsRow B e k v n xs) : w.drew.ownsRow B e k v n xs := h
theorem own_far {w : World} {B : Nat} {e : TypeId} {k : Nat} {v : Value} {n : Nat} {xs : List Value} (h : w.ownsRow B e k v n xs) {b : Nat} (hb : b < B) : some b ≠ v.ownBlock := by
  rcases h.2 with ⟨rfl, _⟩ | ⟨g, cap, cur, rfl, hg, _⟩
  · simp [Value.ownBlock]
  · simp [Value.ownBlock]; omega
theorem grown_frozen {w w' : World} {row : Option Nat} (hg : w.grownBy w' row) {b j : Nat} (hb : b < w.heap.size) (hne : some b ≠ row) : w'.frozen? ⟨b, j, none⟩ = w.frozen? ⟨b, j, none⟩ := World.frozen?_of_block (hg.block b hb hne)
theorem held_call {w w5 : World} {R : Nat} {v : Value} (hg : w.drew.grownBy w5 (some R)) (hc : w.cell? ⟨R + 1, 2, none⟩ = some v) (hf : w.frozen? ⟨R + 1, 2, none⟩ = false) : w5.cell? ⟨R + 1, 2, none⟩ = some v ∧ w5.frozen? ⟨R + 1, 2, none⟩ = false := by
  have hlt : R + 1 < w.heap.size := World.block_lt_of_cell? w _ hc
  exact ⟨hg.cell (w := w.drew) hc (by simp), (grown_frozen hg (b := R + 1) (j := 2) hlt (by simp)).trans hf⟩
theorem held_alloc {w : World} {R : Nat} {o : Obj} {v : Value} (h : w.cell? ⟨R + 1, 2, none⟩ = some v ∧ w.frozen? ⟨R + 1, 2, none⟩ = false) : (w.alloc o).cell? ⟨R + 1, 2, none⟩ = some v ∧ (w.alloc o).frozen? ⟨R + 1, 2, none⟩ = false :=
  ⟨cell_old _ _ h.1, (frozen_old _ _ _ _ (World.block_lt_of_cell? w _ h.1)).trans h.2⟩
theorem held_app {w w6 : World} {R n : Nat} {o : Obj} {v u : Value} {e : TypeId} {xs : List Value} (hg : (w.alloc o).grownBy w6 u.ownBlock) (h : w.cell? ⟨R + 1, 2, none⟩ = some v ∧ w.frozen? ⟨R + 1, 2, none⟩ = false) (ho : w.ownsRow (R + 2) e 1 u n xs) :
    w6.cell? ⟨R + 1, 2, none⟩ = some v ∧ w6.frozen? ⟨R + 1, 2, none⟩ = false := by
  have hlt : R + 1 < w.heap.size := World.block_lt_of_cell? w _ h.1
  have hf := own_far ho (show R + 1 < R + 2 by omega)
  exact ⟨hg.cell (cell_old _ _ h.1) hf, (grown_frozen hg (b := R + 1) (j := 2) (by simp; omega) hf).trans ((frozen_old _ _ _ _ hlt).trans h.2)⟩
/-- The levels so far. -/
structure LV (l3 : List UInt8) (w0 : World) (R W H : Nat) (k : Nat) (g lr : List UInt8) (off : Bool) (gv : Value) (w : World) : Prop where
  ps : PS lr w0 R off W H gv w
  own : w.ownsRow (R + 2) 5 1 gv k (Lib.byteCells g)
  le : k ≤ W * H
  ll : lr.length ≤ l3.length
  so : off = false → Pg.levels k l3 = some (g, lr)
  no : off = true → Pg.levels (W * H) l3 = none

theorem PS.grown {l : List UInt8} {w0 w w' : World} {R : Nat} {off : Bool} {W H : Int} {gv : Value} (h : PS l w0 R off W H gv w) {row : Option Nat} (hg : w.grownBy w' row) (hr : ∀ k, row = some k → R + 2 ≤ k) : PS l w0 R off W H gv w' := by
  obtain ⟨⟨⟨ao, c, h0, hc, hby⟩, ho, hf⟩, p0, p1, p2, pf, r0, r1, r2, rf, ne, u⟩ := h
  have n1 : w0.heap.size < w.heap.size := by omega
  have n2 : R < w.heap.size := by omega
  have far : ∀ b, b < R + 2 → some b ≠ row := fun b hb e => by have := hr b e.symm; omega
  have e : ∀ b j, b < w.heap.size → b < R + 2 → w'.cell? ⟨b, j, none⟩ = w.cell? ⟨b, j, none⟩ := fun b j hj h2 => World.cell?_of_block (hg.block b hj (far b h2))
  have f : ∀ b j, b < w.heap.size → b < R + 2 → w'.frozen? ⟨b, j, none⟩ = w.frozen? ⟨b, j, none⟩ := fun b j hj h2 => World.frozen?_of_block (hg.block b hj (far b h2))
  have m1 : R + 1 < R + 2 := by omega
  have m2 : R < R + 2 := by omega
  have m3 : w0.heap.size < R + 2 := by omega
  refine ⟨⟨⟨ao, c, (e _ _ n2 m2).trans h0, hc, ?_⟩, (e _ _ n2 m2).trans ho, fun j => (f _ _ n2 m2).trans (hf j)⟩, (e _ _ ne.2 m1).trans p0, (e _ _ ne.2 m1).trans p1, (e _ _ ne.2 m1).trans p2, fun j => (f _ _ ne.2 m1).trans (pf j),
    (e _ _ n1 m3).trans r0, (e _ _ n1 m3).trans r1, (e _ _ n1 m3).trans r2, fun j => (f _ _ n1 m3).trans (rf j), ⟨ne.1, Nat.lt_of_lt_of_le ne.2 hg.size⟩, u.grown hg (by omega) (fun k hk => by have := hr k hk; omega)⟩
  rcases hby with h | ⟨b, o, rfl, h1, h2, h3⟩
  · exact .inl h
  · exact .inr ⟨b, o, rfl, h1, Nat.lt_of_lt_of_le h2 hg.size, fun i x hi => (e _ _ h2 (by omega)).trans (h3 i x hi)⟩
theorem byteCells_snoc (g : List UInt8) (m : Nat) (h : m ≤ 255) : Lib.byteCells (g ++ [UInt8.ofNat m]) = Lib.byteCells g ++ [.int .u8 (m : Int)] := by
  rw [Lib.byteCells_append]
  have e : (UInt8.ofNat m).toNat = m := by rw [UInt8.toNat_ofNat']; omega
  simp only [Lib.byteCells, List.map_cons, List.map_nil, e]
theorem LV.next {l3 : List UInt8} {w0 wr w5 w6 : World} {R W H k : Nat} {g lr lr' : List UInt8} {n : Option Nat} {gv gv' : Value} {o : Obj} (hL : LV l3 w0 R W H k g lr false gv wr) (hk : k < W * H) (hN : Pg.number 255 lr = (n, lr'))
    (P5 : PS lr' w0 R (false || n.isNone) W H gv w5) (hgrow : (w5.alloc o).grownBy w6 gv.ownBlock) (ho : w5.ownsRow (R + 2) 5 1 gv k (Lib.byteCells g))
    (h6 : w6.ownsRow (R + 2) 5 1 gv' (k + 1) (Lib.byteCells g ++ [.int .u8 ((n.getD 0 : Nat) : Int)])) (hle : n.getD 0 ≤ 255) :
    LV l3 w0 R W H (k + 1) (g ++ [UInt8.ofNat (n.getD 0)]) lr' n.isNone gv' (w6.setCell ⟨R + 1, 2, none⟩ gv') := by
  have hlv := hL.so rfl
  refine ⟨?_, ?_, by omega, ?_, fun h => ?_, fun h => ?_⟩
  · have p1 := P5.below ((Below.refl _ w5).alloc (Nat.le_refl _) o)
    have p2 := p1.grown hgrow (fun b hb => by
      rcases Nat.lt_or_ge b (R + 2) with h | h
      · exact absurd hb.symm (own_far ho h)
      · exact h)
    have p3 := p2.setG gv'
    rw [Bool.false_or] at p3
    exact p3
  · rw [byteCells_snoc _ _ hle]
    exact own_older h6 (grown_set _ _ _ _) (by omega)
  · obtain ⟨j, _, e⟩ := Pg.number_drop 255 lr
    rw [hN] at e
    simp only at e
    have := hL.ll
    rw [e, List.length_drop]; omega
  · rw [levels_step, hlv]
    simp only
    cases n with
    | none => cases h
    | some v => rw [hN]; rfl
  · have : Pg.levels (k + 1) l3 = none := by
      rw [levels_step, hlv]
      simp only
      cases n with
      | none => rw [hN]
      | some v => cases h
    have := levels_none this (W * H - (k + 1))
    rwa [show k + 1 + (W * H - (k + 1)) = W * H by omega] at this

def lenP (R : Nat) (w : World) : Nat := match w.cell? ⟨R + 1, 2, none⟩ with
  | some (.slice _ n _) => n
  | _ => 0
set_option maxRecDepth 100000 in
set_option maxHeartbeats 4000000 in
theorem parse_p2 (ao : Option Addr) (c : Nat) (t : List UInt8) (w : World) (hl : (80 :: 50 :: t).length ≤ c) (hbig : (80 :: 50 :: t).length ≤ 140737488355328) (hb : Byt w ao (80 :: 50 :: t)) :
    Calls Tryd.prog 12 #[.slice ao (80 :: 50 :: t).length c] w (ParsePost (80 :: 50 :: t) w) := by
  have HP := hid (fun W g d k' (hW : Below w.heap.size w W) h0 h1 => hasPrefix_any ao c g d (80 :: 50 :: t) k' W hl (hb.below hW) h0 h1)
  have k1 := conv_const (w.alloc (.cells #[.int .i64 0, .int .i64 0, .slice none 0 0] 25)) #[.int .u8 80, .int .u8 53] 2 2 (w.heap.size + 1) (by simp)
  have k2 := fun fr => conv_const ((w.alloc (.cells #[.int .i64 0, .int .i64 0, .slice none 0 0] 25)).alloc (.cells #[.int .u8 80, .int .u8 53] 5 fr)) #[.int .u8 80, .int .u8 50] 2 2 (w.heap.size + 2) (by simp)
  rcases hb with hb | ⟨b, o, rfl, hbw, hc⟩
  · cases hb
  replace hc := hid hc
  simp only [List.length_cons] at hl hbig HP ⊢
  have H5 : ((80 :: 50 :: t).take 2 == [80, 53]) = false := by simp
  have H2 : ((80 :: 50 :: t).take 2 == [80, 50]) = true := by simp
  replace H2 := hid H2
  replace H5 := hid H5
  go_enter Tryd.func12, Tryd.ntmps12
  go_upto_region 4 with fail
  refine (HP.out _ _ _ 53 (below_two _ _ _) (cell_mark _ _ _ _ _ _ (by simp)) (cell_mark _ _ _ _ _ _ (by simp))).mono ?_
  rw [H5.out]
  rintro e w1 ⟨rfl, rfl⟩
  go_upto_region 4 with fail
  refine (HP.out _ _ _ 50 ((below_two _ _ _).alloc (by simp; omega) _) (cell_mark _ _ _ _ _ _ (by simp)) (cell_mark _ _ _ _ _ _ (by simp))).mono ?_
  rw [H2.out]
  rintro e w1 ⟨rfl, rfl⟩
  go_upto_region 4 with fail
  go_cut [5] (fun s5 wx => ∃ R WX ao' c', s5 = .pointer (some ⟨R, 0, none⟩) ∧ Pre w R WX ∧ t.length ≤ c' ∧ Byt w ao' t ∧ wx = WX.alloc (.cells #[.slice ao' t.length c', .bool false] 74))
  case first =>
    have hpre : Pre w (w.heap.size + 1 + 1 + 1) (((w.alloc (.cells #[.int .i64 0, .int .i64 0, .slice none 0 0] 25)).alloc (.cells #[.int .u8 80, .int .u8 53] 5 (2, 3))).alloc (.cells #[.int .u8 80, .int .u8 50] 5 (2, 3))) :=
      ⟨by simp, by omega, cell_old _ _ (cell_old _ _ (cell_mark _ _ _ _ _ 0 rfl)), cell_old _ _ (cell_old _ _ (cell_mark _ _ _ _ _ 1 rfl)), cell_old _ _ (cell_old _ _ (cell_mark _ _ _ _ _ 2 rfl)), fun j => by rw [frozen_old _ _ _ _ (by simp; omega), frozen_old _ _ _ _ (by simp)]; exact frozen_new _ _ _ _ _ rfl, (below_two _ _ _).alloc (by simp; omega) _⟩
    by_cases hc2 : c = 2
    · subst hc2
      obtain rfl : t = [] := List.length_eq_zero_iff.1 (by omega)
      go_wp2_with fail
      go_meet
      exact ⟨_, _, _, _, rfl, hpre, Nat.le_refl _, .inl rfl, rfl⟩
    · go_wp2_with fail
      go_meet
      exact ⟨_, _, _, _, rfl, hpre, by omega, .inr ⟨b, o + 2, rfl, hbw, fun i x hi => by rw [Nat.add_assoc, Nat.add_comm 2 i]; exact hc.out (i + 2) x (by simpa using hi)⟩, rfl⟩
  case rest =>
    obtain ⟨R, WX, ao', c', rfl, hpre, hc', hby, rfl⟩ := hcut
    have P0 := hpre.start hc' hby 74 25
    obtain ⟨n1, l1, N1⟩ : ∃ n l', Pg.number 256 t = (n, l') := ⟨(Pg.number 256 t).1, (Pg.number 256 t).2, rfl⟩
    obtain ⟨n2, l2, N2⟩ : ∃ n l', Pg.number 256 l1 = (n, l') := ⟨(Pg.number 256 l1).1, (Pg.number 256 l1).2, rfl⟩
    obtain ⟨n3, l3, N3⟩ : ∃ n l', Pg.number 255 l2 = (n, l') := ⟨(Pg.number 255 l2).1, (Pg.number 255 l2).2, rfl⟩
    have ln1 : l1.length ≤ t.length := by
      obtain ⟨j, _, e⟩ := Pg.number_drop 256 t
      rw [N1] at e
      simp only at e
      rw [e]; simp
    have ln2 : l2.length ≤ l1.length := by
      obtain ⟨j, _, e⟩ := Pg.number_drop 256 l1
      rw [N2] at e
      simp only at e
      rw [e]; simp
    have ln3 : l3.length ≤ l2.length := by
      obtain ⟨j, _, e⟩ := Pg.number_drop 255 l2
      rw [N3] at e
      simp only at e
      rw [e]; simp
    have HE := hid (heads_of N1 N2 N3)
    replace N1 := hid N1
    replace N2 := hid N2
    replace N3 := hid N3
    have hsz := hpre.sz
    replace hpre := hid hpre
    clear k1 k2 HP H5 H2 hc hl hby
    replace P0 := hid P0
    go_wp2_with fail
    refine (number_num R 256 (by decide) t false _ P0.out.rd (by omega) N1.out).mono ?_
    rintro e w1 ⟨rfl, hr, hg, hs⟩
    have P1 := P0.out.num hr hg hs
    have c1 := P1.p0
    have f1 := P1.pf 0
    replace P1 := hid P1
    clear P0 hr hg hs hsz
    go_wp2_with fail
    replace P1 := hid (P1.out.setW ((n1.getD 0 : Nat) : Int))
    refine (number_num R 256 (by decide) l1 _ _ P1.out.rd (by omega) N2.out).mono ?_
    rintro e w2 ⟨rfl, hr, hg, hs⟩
    have P2 := P1.out.num hr hg hs
    have c2 := P2.p1
    have f2 := P2.pf 1
    replace P2 := hid P2
    clear P1 hr hg hs c1 f1
    go_wp2_with fail
    replace P2 := hid (P2.out.setH ((n2.getD 0 : Nat) : Int))
    refine (number_num R 255 (by decide) l2 _ _ P2.out.rd (by omega) N3.out).mono ?_
    rintro e w3 ⟨rfl, hr, hg, hs⟩
    have P3 := P2.out.num hr hg hs
    clear P2 hr hg hs c2 f2
    have c0 := P3.p0
    have c1 := P3.p1
    have c2 := P3.rd.o
    have c3 := P3.r0
    have c4 := P3.r1
    have c5 := P3.r2
    have f0 := P3.rf 0
    have f1 := P3.rf 1
    have f2 := P3.rf 2
    have hb3 := hid P3.u
    generalize hoff : (((false || n1.isNone) || n2.isNone) || n3.isNone) = off at *
    generalize hW : n1.getD 0 = W at *
    generalize hH : n2.getD 0 = H at *
    generalize hM : n3.getD 0 = M at *
    replace hoff := hid hoff
    replace hW := hid hW
    replace hH := hid hH
    replace hM := hid hM
    replace P3 := hid P3
    have SW := hid (fun w => side_nat W w)
    have SH := hid (fun w => side_nat H w)
    have hno : ¬ (off = false ∧ M = 255 ∧ Pg.side W = true ∧ Pg.side H = true) → Pg.parse (80 :: 50 :: t) = none := fun h => by
      have := HE.out
      rw [if_neg h] at this
      exact parse_heads_none (by decide) this
    replace hno := hid hno
    by_cases g0 : off = true
    · replace hno := hid (hno.out (fun h => by rw [g0] at h; cases h.1))
      subst g0
      clear SW SH HE
      go_wp2_with fail
      exact bodyPost_ret (v := .tuple #[.agg #[.int .i64 0, .int .i64 0, .slice none 0 0], .int .i64 280]) (by simp [results, Tryd.results12, go_sem, c3, c4, c5]) rfl
        ⟨((hb3.out.setCell (p := ⟨_, 0, none⟩) (Nat.le_refl _) _).setCell (p := ⟨_, 1, none⟩) (Nat.le_refl _) _).setCell (p := ⟨_, 2, none⟩) (Nat.le_refl _) _, .inl ⟨hno.out, rfl⟩⟩
    obtain rfl : off = false := by simpa using g0
    by_cases g1 : M = 255
    case' neg =>
      replace hno := hid (hno.out (fun h => g1 h.2.1))
      have e1 : ((M : Int) == 255) = false := by rw [beq_eq_false_iff_ne]; omega
      have e2 : ((M : Int) != 255) = true := by rw [bne_iff_ne]; omega
      clear SW SH HE
      go_wp2_with fail
      exact bodyPost_ret (v := .tuple #[.agg #[.int .i64 0, .int .i64 0, .slice none 0 0], .int .i64 280]) (by simp [results, Tryd.results12, go_sem, c3, c4, c5]) rfl
        ⟨((hb3.out.setCell (p := ⟨_, 0, none⟩) (Nat.le_refl _) _).setCell (p := ⟨_, 1, none⟩) (Nat.le_refl _) _).setCell (p := ⟨_, 2, none⟩) (Nat.le_refl _) _, .inl ⟨hno.out, rfl⟩⟩
    subst g1
    cases g2 : Pg.side W
    case' false =>
      replace hno := hid (hno.out (fun h => by rw [g2] at h; cases h.2.2.1))
      rw [g2] at SW
      clear SH HE
      go_wp2_with (go_at_call 31; ((with_reducible refine (SW.out _).mono ?_); rintro e w' ⟨rfl, rfl⟩))
      exact bodyPost_ret (v := .tuple #[.agg #[.int .i64 0, .int .i64 0, .slice none 0 0], .int .i64 280]) (by simp [results, Tryd.results12, go_sem, c3, c4, c5]) rfl
        ⟨((hb3.out.setCell (p := ⟨_, 0, none⟩) (Nat.le_refl _) _).setCell (p := ⟨_, 1, none⟩) (Nat.le_refl _) _).setCell (p := ⟨_, 2, none⟩) (Nat.le_refl _) _, .inl ⟨hno.out, rfl⟩⟩
    cases g3 : Pg.side H
    case' false =>
      replace hno := hid (hno.out (fun h => by rw [g3] at h; cases h.2.2.2))
      rw [g2] at SW
      rw [g3] at SH
      clear HE
      go_wp2_with (go_at_call 31; first | ((with_reducible refine (SW.out _).mono ?_); rintro e w' ⟨rfl, rfl⟩) | ((with_reducible refine (SH.out _).mono ?_); rintro e w' ⟨rfl, rfl⟩))
      exact bodyPost_ret (v := .tuple #[.agg #[.int .i64 0, .int .i64 0, .slice none 0 0], .int .i64 280]) (by simp [results, Tryd.results12, go_sem, c3, c4, c5]) rfl
        ⟨((hb3.out.setCell (p := ⟨_, 0, none⟩) (Nat.le_refl _) _).setCell (p := ⟨_, 1, none⟩) (Nat.le_refl _) _).setCell (p := ⟨_, 2, none⟩) (Nat.le_refl _) _, .inl ⟨hno.out, rfl⟩⟩
    rw [g2] at SW
    rw [g3] at SH
    have HD : Pg.heads t = some (W, H, l3) := by have := HE.out; rw [if_pos ⟨rfl, rfl, g2, g3⟩] at this; exact this
    have hwh := sides_pos g2 g3
    have HN := hid (fun hx => plain_none HD hx)
    have HS := hid (fun g r hl hr => plain_some (g := g) (r := r) HD hl hr)
    replace HD := hid HD
    have HR := hid (fun ao n c w hn => picRight_any (W : Int) (H : Int) ao n c w hn)
    have RN := hid (fun n => right_nat g2 g3 n)
    replace g2 := hid g2
    replace g3 := hid g3
    clear hno HE
    go_upto_region 11 with (go_at_call 31; first | ((with_reducible refine (SW.out _).mono ?_); rintro e w' ⟨rfl, rfl⟩) | ((with_reducible refine (SH.out _).mono ?_); rintro e w' ⟨rfl, rfl⟩))
    go_wp2_with fail
    have L0 : ∃ k g lr off gv, LV l3 w R W H k g lr off gv w3 :=
      ⟨0, [], l3, false, _, P3.out, ⟨rfl, .inl ⟨rfl, rfl⟩⟩, Nat.zero_le _, Nat.le_refl _, fun _ => rfl, fun h => by cases h⟩
    replace L0 := hid L0
    clear c0 c1 c2 c3 c4 c5 f0 f1 f2 hb3 P3 SW SH hoff hM hpre
    generalize hWH : W * H = N at *
    replace hWH := hid hWH
    go_loopw [] (fun wr => ∃ k g lr off gv, LV l3 w R W H k g lr off gv wr) (fun wr => N - lenP R wr)
    case atStart => exact L0.out
    case round =>
    clear L0
    obtain ⟨k, g, lr, off, gv, hL⟩ := hrel
    obtain ⟨ao, cc, rfl⟩ := own_form hL.own
    have c0 := hL.ps.p0
    have c1 := hL.ps.p1
    have c2 := hL.ps.rd.o
    have c6 := hL.ps.p2
    have f4 := hL.ps.pf 2
    have hle := hL.le
    have hll := hL.ll
    rw [hWH.out] at hle
    cases off
    · by_cases hk : k < N
      · have N3 : ∃ n lr', Pg.number 255 lr = (n, lr') := ⟨(Pg.number 255 lr).1, (Pg.number 255 lr).2, rfl⟩
        obtain ⟨n, lr', hN⟩ := N3
        have hn : n.getD 0 ≤ 255 := by
          cases n with
          | none => exact Nat.zero_le _
          | some v => exact number_le hN
        obtain ⟨m, hm⟩ : ∃ m, m = n.getD 0 := ⟨_, rfl⟩
        have hconv : IntKind.u8.wrap (m : Int) = m := by rw [← hm] at hn; exact IntWalk.u8_in _ (by omega)
        have HNM := hid (number_255 R lr false wr.drew hL.ps.rd.drew (by omega) hN)
        rw [← hm] at HNM hn
        replace hm := hid hm
        replace hN := hid hN
        have hmul : IntKind.i64.wrap ((W : Int) * H) = (N : Int) := by
          rw [← hWH.out, Int.natCast_mul]
          exact IntWalk.i64_in _ (by rw [← Int.natCast_mul, hWH.out]; omega)
        have hrd := hid hL.ps.rd
        have hown := hid hL.own
        replace hL := hid hL
        obtain ⟨i0, hi0, hz0, hz1, hz2⟩ := info_parts u8_info
        have hsz := hL.out.ps.ne
        go_wp2_with fail
        go_region_law
          (first
            | ((refine step_append_lies _ (by rfl) _ _ _ (by rfl) (R + 2) 5 i0 _ 1 1 Tryd.underlying22 hi0 hz0 hz1 hz2 rfl (by omega) (.slice ao k cc) k (Lib.byteCells g) (by rfl) (hown5.out.alloc _) ⟨w5.heap.size, 0, none⟩ 1 1 [.int .u8 (m : Int)] (by rfl) (by rfl) (World.news_of_block (cs := #[.int .u8 (m : Int)]) (t := 5) (fr := (0, 0)) (heap_alloc_new w5 _)) (by simp [Value.oneCell']) (by omega) (by unfold maxLen; omega) (by omega) (by simp; omega) (w5.heap.size + 1) (by simp) ?_; intro gg cap w6 hown6 hgrow hat hlt; obtain ⟨c8, f8⟩ := held_app hgrow (held_call hg5 c6 f4) hown5.out))
            | ((go_simp; go_at_call 30; refine HNM.out.mono ?_; rintro e w5 ⟨rfl, hr5, hg5, hs5⟩; have hown5 := hid (own_older (own_drew hown.out) hg5 (by omega)); have P5 := hid (hL.out.ps.drew.num hr5 hg5 hs5); have hlt5 : R + 1 < w5.heap.size := P5.out.ne.2; obtain ⟨c7, f7⟩ := held_call hg5 c6 f4; obtain ⟨c9, f9⟩ := held_alloc (o := .cells #[.int .u8 (m : Int)] 5) (held_call hg5 c6 f4); clear hs5)))
        all_goals
          go_wp2_with fail
          have hK := LV.next hL.out (by rw [hWH.out]; exact hk) hN.out P5.out hgrow hown5.out (by rw [← hm.out]; exact hown6) (by rw [← hm.out]; exact hn)
          refine ⟨⟨_, _, _, _, _, hK⟩, ?_⟩
          have e1 : lenP R wr = k := by unfold lenP; rw [c6]
          have e3 : lenP R (w6.setCell ⟨R + 1, 2, none⟩ (.slice (some ⟨gg, 0, none⟩) (k + 1) cap)) = k + 1 := by unfold lenP; rw [hK.ps.p2]
          rw [e1, e3]
          omega
      · -- all levels are there
        obtain rfl : k = N := by omega
        have hlv := hL.so rfl
        have hown := hid hL.own
        have P3 := hL.ps
        clear hL hk
        replace P3 := hid P3
        have hmul : IntKind.i64.wrap ((W : Int) * H) = (k : Int) := by
          rw [← hWH.out, Int.natCast_mul]
          exact IntWalk.i64_in _ (by rw [← Int.natCast_mul, hWH.out]; omega)
        go_wp2_with fail
        refine (pass_any R lr false _ P3.out.rd (by omega)).mono ?_
        rintro e w4 ⟨rfl, hr, hg, hs⟩
        have hne := P3.out.ne
        have P4 := P3.out.num hr hg hs
        replace hown := hid (own_older hown.out hg (by omega))
        clear c0 c1 c2 c6 f4 P3 hr hg hs
        have c0 := P4.p0
        have c1 := P4.p1
        have c2 := P4.rd.o
        have c3 := P4.r0
        have c4 := P4.r1
        have c5 := P4.r2
        have c6 := P4.p2
        have f0 := P4.rf 0
        have f1 := P4.rf 1
        have f2 := P4.rf 2
        have hb3 := hid P4.u
        obtain ⟨ao4, cc4, s0, s1, _⟩ := P4.rd.b
        replace P4 := hid P4
        by_cases hz : (Pg.pass lr).length = 0
        · rw [hz] at s0
          have hyes := hid (HS.out g lr hlv (List.length_eq_zero_iff.1 hz))
          have HRR := hid (fun w => HR.out ao k cc w (by omega))
          rw [RN.out k, decide_eq_true rfl] at HRR
          clear HR RN HS HN hlv
          replace hz := hid hz
          go_wp2_with fail
          refine (HRR.out _).mono ?_
          rintro e w5 ⟨rfl, hb5⟩
          have P5 := P4.out.below hb5
          replace hown := hid (own_below hown.out hb5)
          clear c0 c1 c2 c3 c4 c5 c6 f0 f1 f2 s0 s1 hb3 P4
          have c0 := P5.p0
          have c1 := P5.p1
          have c2 := P5.rd.o
          have c3 := P5.r0
          have c4 := P5.r1
          have c5 := P5.r2
          have c6 := P5.p2
          have f0 := P5.rf 0
          have f1 := P5.rf 1
          have f2 := P5.rf 2
          have hb3 := hid P5.u
          obtain ⟨ao4, cc4, s0, s1, _⟩ := P5.rd.b
          replace P5 := hid P5
          go_wp2_with fail
          have hlt5 := P5.out.ne
          replace hown := own_le (own_older (own_older (own_older hown.out (grown_set _ w.heap.size 0 (.int .i64 (W : Int))) (by omega)) (grown_set _ w.heap.size 1 (.int .i64 (H : Int))) (by omega)) (grown_set _ w.heap.size 2 (.slice ao k cc)) (by omega)) (show w.heap.size ≤ _ by omega)
          have hgl : g.length = k := by have := hown.1; rw [Lib.byteCells_length] at this; omega
          rw [← hgl] at hown
          refine bodyPost_ret (v := .tuple #[.agg #[.int .i64 (W : Int), .int .i64 (H : Int), .slice ao k cc], .int .i64 0]) (by simp [results, Tryd.results12, go_sem, c3, c4, c5]) rfl
            ⟨((hb3.out.setCell (p := ⟨_, 0, none⟩) (Nat.le_refl _) _).setCell (p := ⟨_, 1, none⟩) (Nat.le_refl _) _).setCell (p := ⟨_, 2, none⟩) (Nat.le_refl _) _, .inr ⟨_, _, hyes.out, rfl, ?_⟩⟩
          have e : Value.slice ao g.length cc = Value.slice ao k cc := by rw [hgl]
          rw [hgl] at hown ⊢
          exact hown
        · have hz' : 0 < (Pg.pass lr).length := by omega
          have hno := hid (HN.out (fun g' r' e h => by rw [hlv] at e; cases e; exact hz (by rw [h]; rfl)))
          clear HR RN HS HN hlv
          generalize (Pg.pass lr).length = z at *
          go_wp2_with fail
          exact bodyPost_ret (v := .tuple #[.agg #[.int .i64 0, .int .i64 0, .slice none 0 0], .int .i64 280]) (by simp [results, Tryd.results12, go_sem, c3, c4, c5]) rfl
            ⟨((hb3.out.setCell (p := ⟨_, 0, none⟩) (Nat.le_refl _) _).setCell (p := ⟨_, 1, none⟩) (Nat.le_refl _) _).setCell (p := ⟨_, 2, none⟩) (Nat.le_refl _) _, .inl ⟨hno.out, rfl⟩⟩
    · -- a number was wrong
      have hno := hid (HN.out (fun g' r' e _ => by have := hL.no rfl; rw [hWH.out] at this; rw [this] at e; cases e))
      have P3 := hid hL.ps
      clear hL HR RN HS HN
      go_wp2_with fail
      refine (pass_any R lr true _ P3.out.rd (by omega)).mono ?_
      rintro e w4 ⟨rfl, hr, hg, hs⟩
      have P4 := P3.out.num hr hg hs
      clear c0 c1 c2 c6 f4 P3 hr hg hs
      have c0 := P4.p0
      have c1 := P4.p1
      have c2 := P4.rd.o
      have c3 := P4.r0
      have c4 := P4.r1
      have c5 := P4.r2
      have c6 := P4.p2
      have f0 := P4.rf 0
      have f1 := P4.rf 1
      have f2 := P4.rf 2
      have hb3 := hid P4.u
      obtain ⟨ao4, cc4, s0, s1, _⟩ := P4.rd.b
      replace P4 := hid P4
      go_wp2_with fail
      exact bodyPost_ret (v := .tuple #[.agg #[.int .i64 0, .int .i64 0, .slice none 0 0], .int .i64 280]) (by simp [results, Tryd.results12, go_sem, c3, c4, c5]) rfl
        ⟨((hb3.out.setCell (p := ⟨_, 0, none⟩) (Nat.le_refl _) _).setCell (p := ⟨_, 1, none⟩) (Nat.le_refl _) _).setCell (p := ⟨_, 2, none⟩) (Nat.le_refl _) _, .inl ⟨hno.out, rfl⟩⟩
end Go.Proofs.YtinhbebjlbnejaaDoor
