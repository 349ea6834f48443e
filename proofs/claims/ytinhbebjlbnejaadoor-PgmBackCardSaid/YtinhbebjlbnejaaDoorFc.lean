/- Walks of package pgm: sides, blanks, a picture's being right; bytes.IndexByte, bytes.HasPrefix; the reader's gaps. -/
import Derived.Test.YtinhbebjlbnejaaDoorFb
import Derived.Test.YtinhbebjlbnejaaDoorWl
import Derived.WalkKit
import Derived.LoopTactic
import Derived.Lib.BytesEntry
import Derived.Lib.Hide
import Derived.Laws.AppendOwn
import Derived.IntWalk
import Derived.Below
namespace Go.Proofs.YtinhbebjlbnejaaDoor
open Go Go.RowKit Go.Lib
set_option linter.unusedVariables false
set_option linter.unusedSimpArgs false

theorem grown_trans {a b c : World} {r : Option Nat} (h : a.grownBy b r) (k : b.grownBy c r) : a.grownBy c r :=
  ⟨k.os.trans h.os, k.tape.trans h.tape, k.output.trans h.output, Nat.le_trans h.size k.size, fun j hj hr => (k.block j (Nat.lt_of_lt_of_le hj h.size) hr).trans (h.block j hj hr)⟩
theorem grown_set (w : World) (b j : Nat) (v : Value) : w.grownBy (w.setCell ⟨b, j, none⟩ v) (some b) := by
  refine ⟨rfl, rfl, rfl, by simp [World.setCell], fun k _ hne => Below.heap_setCell _ _ _ _ (fun e => hne (by rw [e]))⟩

/-- The bytes behind a slice's address; none of them in block R. -/
def Bts (w : World) (ao : Option Addr) (R : Nat) (l : List UInt8) : Prop :=
  l = [] ∨ ∃ b o, ao = some ⟨b, o, none⟩ ∧ b < R ∧ b < w.heap.size ∧ ∀ i c, l[i]? = some c → w.cell? ⟨b, o + i, none⟩ = some (.int .u8 (c.toNat : Int))

theorem side_any (n : Int) (w : World) : Calls Tryd.prog 31 #[.int .i64 n] w fun e w' => e = .returned (.bool (decide (1 ≤ n) && decide (n ≤ 256))) ∧ w = w' := by
  by_cases h1 : 1 ≤ n
  · go_enter Tryd.func31, Tryd.ntmps31
    go_wp2
    go_ret
    simp [h1]
  · have h1' : decide (1 ≤ n) = false := by simpa using h1
    go_enter Tryd.func31, Tryd.ntmps31
    go_wp2
    go_ret
    simp [h1']

theorem u8_beq (c : UInt8) (k : Nat) (hk : k < 256) : ((c.toNat : Int) == (k : Int)) = (c == UInt8.ofNat k) := by
  rw [Bool.eq_iff_iff, beq_iff_eq, beq_iff_eq]
  constructor
  · intro h; apply UInt8.toNat_inj.1; rw [UInt8.toNat_ofNat']; omega
  · intro h; rw [h, UInt8.toNat_ofNat']; omega

theorem blank_any (c : UInt8) (w : World) : Calls Tryd.prog 32 #[.int .u8 (c.toNat : Int)] w fun e w' => e = .returned (.bool (Pg.blank c)) ∧ w = w' := by
  have e9 : ((c.toNat : Int) == 9) = (c == 9) := u8_beq c 9 (by decide)
  have e10 : ((c.toNat : Int) == 10) = (c == 10) := u8_beq c 10 (by decide)
  have e13 : ((c.toNat : Int) == 13) = (c == 13) := u8_beq c 13 (by decide)
  have e32 : ((c.toNat : Int) == 32) = (c == 32) := u8_beq c 32 (by decide)
  have hb : Pg.blank c = (c == 9 || c == 10 || c == 13 || c == 32) := rfl
  rw [hb]
  clear hb
  rw [← e9, ← e10, ← e13, ← e32]
  clear e9 e10 e13 e32
  generalize (c.toNat : Int) = n
  cases h9 : n == 9 <;> cases h10 : n == 10 <;> cases h13 : n == 13 <;> cases h32 : n == 32
  all_goals
    go_enter Tryd.func32, Tryd.ntmps32
    go_wp2
    go_ret
    simp

theorem bytesOf_toNat : ∀ l : List UInt8, Lib.bytesOf (l.map fun c => (c.toNat : Int)) = l
  | [] => rfl
  | c :: l => by
    have := bytesOf_toNat l
    simp only [Lib.bytesOf, List.map_cons] at this ⊢
    rw [this]
    simp

set_option maxRecDepth 100000 in
set_option maxHeartbeats 1000000 in
theorem indexByte_any (b o n c : Nat) (l : List UInt8) (k : UInt8) (w : World) (hn : l.length = n) (hc : ∀ i x, l[i]? = some x → w.cell? ⟨b, o + i, none⟩ = some (.int .u8 (x.toNat : Int))) :
    Calls Tryd.prog 48 #[.slice (some ⟨b, o, none⟩) n c, .int .u8 (k.toNat : Int)] w fun e w' => e = .returned (.int .i64 (Lib.indexByte l k)) ∧ w = w' := by
  have H0 : ∀ i, i < n → w.cell? ⟨b, o + i, none⟩ = some (.int .u8 ((l.map fun c => (c.toNat : Int)).getD i 0)) := by
    intro i hi
    rw [hc i l[i] (List.getElem?_eq_getElem (by omega))]
    simp [List.getD, List.getElem?_eq_getElem (show i < l.length by omega)]
  have H := hid H0
  clear H0
  have hx : (l.map fun c => (c.toNat : Int)).length = n := by simpa using hn
  clear hc hn
  go_enter Tryd.func48, Tryd.ntmps48
  go_wp2
  rw [run_callFunc_extern Tryd.func70 (by kernel_rfl) (by kernel_rfl) (by kernel_rfl) (e := Extern.BytealgIndexByte.indexByte) (by kernel_rfl), Lib.run_indexByteSlice w b o n c _ hx H.out _]
  simp only [Result.andThen]
  rw [Oper.upon_value]
  go_wp2
  go_ret
  rw [bytesOf_toNat]
  exact ⟨by simp, rfl⟩
theorem indexByte10_any (b o n c : Nat) (l : List UInt8) (w : World) (hn : l.length = n) (hc : ∀ i x, l[i]? = some x → w.cell? ⟨b, o + i, none⟩ = some (.int .u8 (x.toNat : Int))) :
    Calls Tryd.prog 48 #[.slice (some ⟨b, o, none⟩) n c, .int .u8 10] w fun e w' => e = .returned (.int .i64 (Lib.indexByte l 10)) ∧ w = w' := indexByte_any b o n c l 10 w hn hc

/-! ### The reader's gaps -/

/-- A reader at block R: what is left, and whether something was not there. -/
structure Rd (R : Nat) (l : List UInt8) (off : Bool) (w : World) : Prop where
  b : ∃ ao c, w.cell? ⟨R, 0, none⟩ = some (.slice ao l.length c) ∧ l.length ≤ c ∧ Bts w ao R l
  o : w.cell? ⟨R, 1, none⟩ = some (.bool off)
  f : ∀ j, w.frozen? ⟨R, j, none⟩ = false

def lenAt (R : Nat) (w : World) : Nat := match w.cell? ⟨R, 0, none⟩ with
  | some (.slice _ n _) => n
  | _ => 0
theorem Rd.lenAt {R : Nat} {l : List UInt8} {off : Bool} {w : World} (h : Rd R l off w) : lenAt R w = l.length := by
  obtain ⟨ao, c, h0, _⟩ := h.b
  unfold Go.Proofs.YtinhbebjlbnejaaDoor.lenAt
  rw [h0]

theorem indexByte_find : ∀ (l : List UInt8), (Lib.indexByte l 10 = -1 ∧ ∀ s, Pg.passM (some s) l = s) ∨ ∃ i : Nat, i < l.length ∧ Lib.indexByte l 10 = i ∧ ∀ s, Pg.passM (some s) l = Pg.pass (l.drop (i + 1)) := by
  intro l
  induction l with
  | nil => exact .inl ⟨rfl, fun _ => rfl⟩
  | cons c l ih =>
    rw [Lib.indexByte]
    cases hc : c == 10
    · rcases ih with ⟨h, hs⟩ | ⟨i, hi, h, hs⟩
      · refine .inl ⟨by rw [h]; rfl, fun s => ?_⟩
        rw [Pg.passM, hc]
        exact hs s
      · refine .inr ⟨i + 1, by simp; omega, ?_, fun s => ?_⟩
        · rw [h, if_neg Bool.false_ne_true, if_neg (by rw [beq_iff_eq]; omega)]; omega
        · rw [Pg.passM, hc, if_neg Bool.false_ne_true, hs s]; rfl
    · exact .inr ⟨0, by simp, by simp, fun s => by rw [Pg.passM, hc]; rfl⟩

theorem pass_hash_none {l : List UInt8} (h : Lib.indexByte (35 :: l) 10 = -1) : Pg.pass (35 :: l) = 35 :: l := by
  rcases indexByte_find (35 :: l) with ⟨_, hs⟩ | ⟨i, _, h', _⟩
  · have := hs (35 :: l)
    rw [Pg.passM] at this
    show Pg.passM none (35 :: l) = _
    rw [Pg.passM]
    exact this
  · omega
theorem pass_hash_some {l : List UInt8} {i : Nat} (h : Lib.indexByte (35 :: l) 10 = i) : i < (35 :: l).length ∧ Pg.pass (35 :: l) = Pg.pass ((35 :: l).drop (i + 1)) := by
  rcases indexByte_find (35 :: l) with ⟨h', hs⟩ | ⟨j, hj, h', hs⟩
  · omega
  · have : i = j := by omega
    subst this
    refine ⟨hj, ?_⟩
    have := hs (35 :: l)
    rw [Pg.passM] at this
    rw [← this]
    show Pg.passM none (35 :: l) = _
    rw [Pg.passM]
    rfl

theorem Bts.drop {w : World} {R b o : Nat} {l : List UInt8} (k : Nat) (hR : b < R) (hw : b < w.heap.size) (h : ∀ i c, l[i]? = some c → w.cell? ⟨b, o + i, none⟩ = some (.int .u8 (c.toNat : Int))) : Bts w (some ⟨b, o + k, none⟩) R (l.drop k) :=
  .inr ⟨b, o + k, rfl, hR, hw, fun i c hi => by rw [List.getElem?_drop] at hi; rw [Nat.add_assoc]; exact h _ _ hi⟩
theorem Bts.keep {w w' : World} {R : Nat} {ao : Option Addr} {l : List UInt8} (h : Bts w ao R l) (hg : w.grownBy w' (some R)) : Bts w' ao R l := by
  rcases h with h | ⟨b, o, rfl, hR, hw, hc⟩
  · exact .inl h
  · exact .inr ⟨b, o, rfl, hR, Nat.lt_of_lt_of_le hw hg.size, fun i c hi => hg.cell (hc i c hi) (by simp; omega)⟩

theorem Rd.set {R : Nat} {l l' : List UInt8} {off : Bool} {w : World} (h : Rd R l off w) {ao : Option Addr} {n c : Nat} (hn : n = l'.length) (hlen : l'.length ≤ c) (hb : Bts w ao R l') : Rd R l' off (w.setCell ⟨R, 0, none⟩ (.slice ao n c)) := by
  obtain ⟨⟨ao0, c0, h0, _, _⟩, ho, hf⟩ := h
  subst hn
  exact ⟨⟨ao, c, World.cell?_setCell_same _ _ _ h0, hlen, hb.keep (grown_set _ _ _ _)⟩, by rw [World.cell?_setCell_other _ _ _ _ (by simp)]; exact ho, fun j => by rw [World.frozen?_setCell]; exact hf j⟩

/-- A round's end: less is left. -/
theorem pass_step {R : Nat} {l l' l'' : List UInt8} {off : Bool} {w wr wx : World} (h : Rd R l' off wr) (hp : Pg.pass l' = Pg.pass l) (hle : l'.length ≤ l.length) (hg : w.grownBy wr (some R)) (hs : wr.heap.size = w.heap.size)
    {ao : Option Addr} {n c : Nat} (hn : n = l''.length) (hlen : l''.length ≤ c) (hb : Bts wr ao R l'') (hpp : Pg.pass l' = Pg.pass l'') (hlt : l''.length < l'.length) (hx : wx = wr.setCell ⟨R, 0, none⟩ (.slice ao n c)) :
    (∃ l', Rd R l' off wx ∧ Pg.pass l' = Pg.pass l ∧ l'.length ≤ l.length ∧ w.grownBy wx (some R) ∧ wx.heap.size = w.heap.size) ∧ lenAt R wx < lenAt R wr := by
  subst hx
  have hr := h.set hn hlen hb
  refine ⟨⟨l'', hr, hpp.symm.trans hp, by omega, grown_trans hg (grown_set _ _ _ _), by simpa using hs⟩, ?_⟩
  rw [hr.lenAt, h.lenAt]
  exact hlt

theorem pass_step2 {R : Nat} {l l' l1 l'' : List UInt8} {off : Bool} {w wr : World} (h : Rd R l' off wr) (hp : Pg.pass l' = Pg.pass l) (hle : l'.length ≤ l.length) (hg : w.grownBy wr (some R)) (hs : wr.heap.size = w.heap.size)
    {ao1 : Option Addr} {n1 c1 : Nat} (hn1 : n1 = l1.length) (hlen1 : l1.length ≤ c1) (hb1 : Bts wr ao1 R l1)
    {ao : Option Addr} {n c : Nat} (hn : n = l''.length) (hlen : l''.length ≤ c) (hb : Bts wr ao R l'') (hpp : Pg.pass l' = Pg.pass l'') (hlt : l''.length < l'.length) :
    (∃ l', Rd R l' off ((wr.setCell ⟨R, 0, none⟩ (.slice ao1 n1 c1)).setCell ⟨R, 0, none⟩ (.slice ao n c)) ∧ Pg.pass l' = Pg.pass l ∧ l'.length ≤ l.length ∧ w.grownBy ((wr.setCell ⟨R, 0, none⟩ (.slice ao1 n1 c1)).setCell ⟨R, 0, none⟩ (.slice ao n c)) (some R) ∧ ((wr.setCell ⟨R, 0, none⟩ (.slice ao1 n1 c1)).setCell ⟨R, 0, none⟩ (.slice ao n c)).heap.size = w.heap.size) ∧
      lenAt R ((wr.setCell ⟨R, 0, none⟩ (.slice ao1 n1 c1)).setCell ⟨R, 0, none⟩ (.slice ao n c)) < lenAt R wr := by
  have hr1 := h.set hn1 hlen1 hb1
  have hr := hr1.set hn hlen (hb.keep (grown_set _ _ _ _))
  refine ⟨⟨l'', hr, hpp.symm.trans hp, by omega, grown_trans (grown_trans hg (grown_set _ _ _ _)) (grown_set _ _ _ _), by simpa using hs⟩, ?_⟩
  rw [hr.lenAt, h.lenAt]
  exact hlt

set_option maxRecDepth 100000 in
set_option maxHeartbeats 2000000 in
theorem pass_any (R : Nat) (l : List UInt8) (off : Bool) (w : World) (h : Rd R l off w) (hl : l.length ≤ 281474976710656) :
    Calls Tryd.prog 34 #[.pointer (some ⟨R, 0, none⟩)] w fun e w' => e = .returned (.tuple #[]) ∧ Rd R (Pg.pass l) off w' ∧ w.grownBy w' (some R) ∧ w'.heap.size = w.heap.size := by
  go_enter Tryd.func34, Tryd.ntmps34
  go_wp2
  go_loopw [] (fun wr => ∃ l', Rd R l' off wr ∧ Pg.pass l' = Pg.pass l ∧ l'.length ≤ l.length ∧ w.grownBy wr (some R) ∧ wr.heap.size = w.heap.size) (fun wr => lenAt R wr)
  case atStart => exact ⟨l, h, rfl, Nat.le_refl _, World.grownBy.refl _ _, rfl⟩
  case round =>
    obtain ⟨l', hR, hp, hle, hg, hs⟩ := hrel
    have hR0 := hid hR
    obtain ⟨⟨ao, cc, h0, hcc, hb⟩, ho, hf⟩ := hR
    have f0 := hf 0
    cases l' with
    | nil =>
      have HH := hid (And.intro hp (And.intro hle (And.intro hg hs)))
      clear hp hle hg hs hb hcc hf ho
      simp only [List.length_nil] at h0
      go_wp2
      go_end0
      obtain ⟨hp, hle, hg, hs⟩ := HH.out
      refine ⟨rfl, ?_, hg, hs⟩
      rw [← hp, Pg.pass_nil]
      exact hR0.out
    | cons c t =>
      rcases hb with hb | ⟨b, o, rfl, hbR, hbw, hc⟩
      · cases hb
      have c0 : wr.cell? ⟨b, o, none⟩ = some (.int .u8 (c.toNat : Int)) := by simpa using hc 0 c rfl
      simp only [List.length_cons] at h0 hle hcc
      have e35 : ((c.toNat : Int) == 35) = (c == 35) := u8_beq c 35 (by decide)
      have HH := hid (And.intro hp (And.intro hle (And.intro hg (And.intro hs hc))))
      have HI := hid (fun cc' (hn : (c :: t).length = t.length + 1) => indexByte10_any b o (t.length + 1) cc' (c :: t) wr hn hc)
      clear hp hle hg hs hc hf
      cases hc35 : c == 35
      · rw [hc35] at e35
        have HB := hid (blank_any c wr)
        cases hbl : Pg.blank c
        · rw [hbl] at HB
          go_wp2_with (go_at_call 32; ((with_reducible refine HB.out.mono ?_); rintro e w' ⟨rfl, rfl⟩))
          refine bodyPost_ret (v := .tuple #[]) (by simp [results, Tryd.results34, go_sem]) rfl ⟨rfl, ?_, HH.out.2.2.1, HH.out.2.2.2.1⟩
          rw [← HH.out.1, Pg.pass_stop hbl hc35]
          exact hR0.out
        · rw [hbl] at HB
          have HX : ∀ ao' c', Bts wr ao' R t → t.length ≤ c' → ∀ wx, wx = wr.setCell ⟨R, 0, none⟩ (.slice ao' t.length c') → (∃ l', Rd R l' off wx ∧ Pg.pass l' = Pg.pass l ∧ l'.length ≤ l.length ∧ w.grownBy wx (some R) ∧ wx.heap.size = w.heap.size) ∧ lenAt R wx < lenAt R wr :=
            fun ao' c' hb' hc' wx hx => pass_step hR0.out HH.out.1 HH.out.2.1 HH.out.2.2.1 HH.out.2.2.2.1 rfl hc' hb' (Pg.pass_blank hbl t) (by simp) hx
          have HX := hid HX
          by_cases h1 : cc = 1
          · subst h1
            obtain rfl : t = [] := List.length_eq_zero_iff.1 (by omega)
            simp only [List.length_nil] at h0
            go_wp2_with (go_at_call 32; ((with_reducible refine HB.out.mono ?_); rintro e w' ⟨rfl, rfl⟩))
            exact HX.out _ _ (.inl rfl) (Nat.zero_le _) _ rfl
          · go_wp2_with (go_at_call 32; ((with_reducible refine HB.out.mono ?_); rintro e w' ⟨rfl, rfl⟩))
            exact HX.out _ _ (Bts.drop 1 hbR hbw HH.out.2.2.2.2) (by omega) _ rfl
      · rw [hc35] at e35
        obtain rfl : c = 35 := by simpa using hc35
        clear e35 hc35
        replace c0 : wr.cell? ⟨b, o, none⟩ = some (.int .u8 35) := c0
        replace HI := hid (HI.out cc rfl)
        rcases indexByte_find (35 :: t) with ⟨hi, _⟩ | ⟨i, hi, hj, _⟩
        · have HP := hid (pass_hash_none hi)
          rw [hi] at HI
          clear hi
          go_wp2_with (go_at_call 48; ((with_reducible refine HI.out.mono ?_); rintro e w' ⟨rfl, rfl⟩))
          refine bodyPost_ret (v := .tuple #[]) (by simp [results, Tryd.results34, go_sem]) rfl ⟨rfl, ?_, HH.out.2.2.1, HH.out.2.2.2.1⟩
          rw [← HH.out.1, HP.out]
          exact hR0.out
        · have HP := hid (pass_hash_some hj)
          rw [hj] at HI
          clear hj
          simp only [List.length_cons] at hi
          have l1 : ((35 :: t).drop (i + 1)).length = t.length - i := by simp
          have l2 : ((35 :: t).drop i).length = t.length + 1 - i := by simp
          by_cases h1 : cc = i + 1
          · subst h1
            go_wp2_with (go_at_call 48; ((with_reducible refine HI.out.mono ?_); rintro e w' ⟨rfl, rfl⟩))
            exact pass_step2 hR0.out HH.out.1 HH.out.2.1 HH.out.2.2.1 HH.out.2.2.2.1 l2.symm (by omega) (Bts.drop i hbR hbw HH.out.2.2.2.2) (l'' := (35 :: t).drop (i + 1)) (by omega) (by omega) (.inl (List.length_eq_zero_iff.1 (by omega))) HP.out.2 (by simp only [List.length_cons]; omega)
          · go_wp2_with (go_at_call 48; ((with_reducible refine HI.out.mono ?_); rintro e w' ⟨rfl, rfl⟩))
            exact pass_step2 hR0.out HH.out.1 HH.out.2.1 HH.out.2.2.1 HH.out.2.2.2.1 l2.symm (by omega) (Bts.drop i hbR hbw HH.out.2.2.2.2) (l'' := (35 :: t).drop (i + 1)) (by omega) (by omega) (Bts.drop (i + 1) hbR hbw HH.out.2.2.2.2) HP.out.2 (by simp only [List.length_cons]; omega)
end Go.Proofs.YtinhbebjlbnejaaDoor
