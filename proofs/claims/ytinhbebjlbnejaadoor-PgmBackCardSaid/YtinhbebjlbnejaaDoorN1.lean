/- Walks: a calculator in memory: one block of one cell; what calls upon it leave as it was. Walks: package ival: what is an interval; its parts. Walks: package ival: an operation of two numbers, still without a way; down of one thing, up of another one. Walks: package ival: ask: an answer of right intervals, as long as there is no error. Walks: package ival: a calculator's Num, Add, Sub. Walks: package ival: a calculator's Add, Sub. Walks: package ival: a calculator's Add, Sub: the methods. Walks: package ival: Has, Pi, turned, bare, known. -/
import Derived.Test.YtinhbebjlbnejaaDoorKj
import Derived.Test.YtinhbebjlbnejaaDoorEa
import Derived.RegionTactic
import Derived.Deep.RegionHeld3
import Derived.LoopTactic
import Derived.LoopN
import Derived.Laws.EntriesVeiled
/-! Walks: a calculator in memory: one block of one cell; what calls upon it leave as it was. -/
namespace Go.Proofs.YtinhbebjlbnejaaDoor
open Go.RowKit

/-- Below block number n the world is as it was, but for block c. -/
structure But (c n : Nat) (w w' : World) : Prop where
  os : w'.os = w.os
  tape : w'.tape = w.tape
  output : w'.output = w.output
  size : w.heap.size ≤ w'.heap.size
  block : ∀ k, k < n → k ≠ c → w'.heap[k]? = w.heap[k]?

theorem But.refl (c n : Nat) (w : World) : But c n w w := ⟨rfl, rfl, rfl, Nat.le_refl _, fun _ _ _ => rfl⟩
theorem But.of {c n : Nat} {w w' : World} (h : Below n w w') : But c n w w' := ⟨h.os, h.tape, h.output, h.size, fun k hk _ => h.block k hk⟩
theorem But.trans {c n : Nat} {u v w : World} (h : But c n u v) (k : But c n v w) : But c n u w :=
  ⟨k.os.trans h.os, k.tape.trans h.tape, k.output.trans h.output, Nat.le_trans h.size k.size, fun i hi hc => (k.block i hi hc).trans (h.block i hi hc)⟩
theorem But.mono {c n m : Nat} {w w' : World} (h : But c n w w') (hm : m ≤ n) : But c m w w' := ⟨h.os, h.tape, h.output, h.size, fun k hk hc => h.block k (Nat.lt_of_lt_of_le hk hm) hc⟩
theorem But.below {c n : Nat} {w w' : World} (h : But c n w w') (hc : n ≤ c) : Below n w w' := ⟨h.os, h.tape, h.output, h.size, fun k hk => h.block k hk (by omega)⟩
theorem But.set {c n : Nat} {u w : World} (h : But c n u w) (v : Value) (o : Nat) : But c n u (w.setCell ⟨c, o, none⟩ v) :=
  h.trans ⟨rfl, rfl, rfl, by simp [World.setCell], fun k _ hk => Below.heap_setCell _ _ _ _ hk⟩
theorem But.more {c n m : Nat} {u v w : World} (h : But c n u v) (k : Below m v w) (hm : n ≤ m) : But c n u w := h.trans (But.of (k.mono hm))

theorem cell_of_block {w w' : World} {k o : Nat} (h : w'.heap[k]? = w.heap[k]?) : w'.cell? ⟨k, o, none⟩ = w.cell? ⟨k, o, none⟩ := by
  unfold World.cell?; simp only [h]
theorem frozen_of_block {w w' : World} {k o : Nat} (h : w'.heap[k]? = w.heap[k]?) : w'.frozen? ⟨k, o, none⟩ = w.frozen? ⟨k, o, none⟩ := by
  unfold World.frozen?; simp only [h]

theorem But.cell {c n k o : Nat} {w w' : World} (h : But c n w w') (hk : k < n) (hc : k ≠ c) : w'.cell? ⟨k, o, none⟩ = w.cell? ⟨k, o, none⟩ := cell_of_block (h.block k hk hc)
theorem But.frozen {c n k o : Nat} {w w' : World} (h : But c n w w') (hk : k < n) (hc : k ≠ c) : w'.frozen? ⟨k, o, none⟩ = w.frozen? ⟨k, o, none⟩ := frozen_of_block (h.block k hk hc)

/-- A calculator lies in block c, its error is err. -/
structure Cal (c : Nat) (err : Int) (w : World) : Prop where
  lt : c < w.heap.size
  cell : w.cell? ⟨c, 0, none⟩ = some (.int .i64 err)
  free : w.frozen? ⟨c, 0, none⟩ = false

theorem Cal.keep {c : Nat} {err : Int} {w w' : World} (h : Cal c err w) (hb : Below w.heap.size w w') : Cal c err w' :=
  ⟨Nat.lt_of_lt_of_le h.lt hb.size, (hb.cell (p := ⟨c, 0, none⟩) h.lt).trans h.cell, (hb.frozen (p := ⟨c, 0, none⟩) h.lt).trans h.free⟩

/-- A call upon a calculator: its answer, its error behind it, and all else as it was. -/
def Asked (c : Nat) (r : (Nat × Nat) × Int) (w : World) (e : Ending) (w' : World) : Prop :=
  e = .returned (.agg #[.float .f64 r.1.1, .float .f64 r.1.2]) ∧ But c w.heap.size w w' ∧ Cal c r.2 w'

abbrev iv (a : Nat × Nat) : Value := .agg #[.float .f64 a.1, .float .f64 a.2]
end Go.Proofs.YtinhbebjlbnejaaDoor
/-! Walks: package ival: what is an interval; its parts. -/
namespace Go.Proofs.YtinhbebjlbnejaaDoor
open Go.RowKit

@[go_sem] theorem run_store_float {P : Program} {w : World} {a : Addr} {m : Mode} (k : FloatKind) (b : Nat) : (store a (.float k b) m).run P w = stored P w a (.float k b) m := run_store P w a _ m rfl

set_option maxHeartbeats 1000000 in
theorem ivRight_any (a : Nat × Nat) (w : World) (ha : Dy.WW a) :
    Calls Tryd.prog 15 #[iv a] w fun e w' => e = .returned (.bool (Dy.ivR a)) ∧ Below w.heap.size w w' := by
  obtain ⟨lo, hi⟩ := a
  obtain ⟨h1, h2⟩ := ha
  have h1 : Dy.W lo := h1
  have h2 : Dy.W hi := h2
  cases r1 : Dy.right lo
  · have e : Dy.ivR (lo, hi) = false := by unfold Dy.ivR; rw [show Dy.right (lo, hi).1 = false from r1]; rfl
    rw [e]
    clear e
    go_enter Tryd.func15, Tryd.ntmps15
    go_wp2_with (go_at_call 38; refine (right_any _ _ (by assumption)).mono ?_; rintro e w' ⟨rfl, rfl⟩)
    go_ret
    exact ⟨rfl, (Below.refl _ _).alloc (Nat.le_refl _) _⟩
  · cases r2 : Dy.right hi
    · have e : Dy.ivR (lo, hi) = false := by unfold Dy.ivR; rw [show Dy.right (lo, hi).2 = false from r2, Bool.and_false]; rfl
      rw [e]
      clear e
      go_enter Tryd.func15, Tryd.ntmps15
      go_wp2_with (go_at_call 38; refine (right_any _ _ (by assumption)).mono ?_; rintro e w' ⟨rfl, rfl⟩)
      go_ret
      exact ⟨rfl, (Below.refl _ _).alloc (Nat.le_refl _) _⟩
    · have e : Dy.ivR (lo, hi) = (Dy.flt lo hi || Dy.feq lo hi) := by
        rw [Dy.fle_dec h1 h2 r1 r2]; unfold Dy.ivR
        rw [show Dy.right (lo, hi).1 = true from r1, show Dy.right (lo, hi).2 = true from r2]; rfl
      rw [e]
      clear e
      go_enter Tryd.func15, Tryd.ntmps15
      go_wp2_with (go_at_call 38; refine (right_any _ _ (by assumption)).mono ?_; rintro e w' ⟨rfl, rfl⟩)
      go_ret
      exact ⟨rfl, (Below.refl _ _).alloc (Nat.le_refl _) _⟩

/-- The error of a calculator that lies in memory. -/
theorem calErr_any (c : Nat) (err : Int) (w : World) (h : Cal c err w) :
    Calls Tryd.prog 81 #[.pointer (some ⟨c, 0, none⟩)] w fun e w' => e = .returned (.int .i64 err) ∧ w = w' := by
  have hc := h.cell
  clear h
  go_enter Tryd.func81, Tryd.ntmps81
  go_wp2
  go_ret
  exact ⟨rfl, rfl⟩

/-- Of: one number. -/
theorem ivOf_any (x : Nat) (w : World) (hx : Dy.W x) :
    Calls Tryd.prog 66 #[.float .f64 x] w fun e w' => e = .returned (.tuple #[iv (if Dy.right x then ((x, x), (0 : Int)) else Dy.ivNo 13).1, .int .i64 (if Dy.right x then ((x, x), (0 : Int)) else Dy.ivNo 13).2]) ∧ Below w.heap.size w w' := by
  cases r : Dy.right x
  · go_enter Tryd.func66, Tryd.ntmps66
    go_wp2_with (go_at_call 38; refine (right_any _ _ (by assumption)).mono ?_; rintro e w' ⟨rfl, rfl⟩)
    refine bodyPost_ret (v := .tuple #[iv (0, 0), .int .i64 13]) (by simp [results, Tryd.results66, go_sem]) rfl ⟨rfl, ?_⟩
    exact (Below.refl _ _).alloc (Nat.le_refl _) _
  · go_enter Tryd.func66, Tryd.ntmps66
    go_wp2_with (go_at_call 38; refine (right_any _ _ (by assumption)).mono ?_; rintro e w' ⟨rfl, rfl⟩)
    refine bodyPost_ret (v := .tuple #[iv (x, x), .int .i64 0]) (by simp [results, Tryd.results66, go_sem]) rfl ⟨rfl, ?_⟩
    exact (Below.refl _ _).alloc (Nat.le_refl _) _

/-- Hull, of right intervals. -/
theorem ivHull_any (a b : Nat × Nat) (w : World) (ha : Dy.WW a) (hb : Dy.WW b) (ra : Dy.ivR a = true) (rb : Dy.ivR b = true) :
    Calls Tryd.prog 82 #[iv a, iv b] w fun e w' => e = .returned (iv (Dy.iHull a b)) ∧ Below w.heap.size w w' := by
  obtain ⟨a1, a2, _⟩ := Dy.ivR_of ra
  obtain ⟨b1, b2, _⟩ := Dy.ivR_of rb
  have hmin := fun ats t w => run_min (P := Tryd.prog) a.1 b.1 ats t w ha.1 hb.1 a1 b1
  have hmax := fun ats t w => run_max (P := Tryd.prog) a.2 b.2 ats t w ha.2 hb.2 a2 b2
  unfold Dy.iHull
  generalize Dy.dmin a.1 b.1 = p at *
  generalize Dy.dmax a.2 b.2 = q at *
  obtain ⟨alo, ahi⟩ := a
  obtain ⟨blo, bhi⟩ := b
  dsimp only at *
  clear ha hb ra rb a1 a2 b1 b2
  go_enter Tryd.func82, Tryd.ntmps82
  go_wp2
  refine bodyPost_ret (v := iv (p, q)) (by simp [results, Tryd.results82, go_sem]) rfl ⟨rfl, ?_⟩
  exact (((Below.refl _ _).alloc (Nat.le_refl _) _).alloc (by simp) _).alloc (by simp; omega) _
end Go.Proofs.YtinhbebjlbnejaaDoor
/-! Walks: package ival: an operation of two numbers, still without a way; down of one thing, up of another one. -/
namespace Go.Proofs.YtinhbebjlbnejaaDoor
open Go.RowKit

/-- What a function of two numbers and a way answers. -/
def OpC (K : Nat) (o : Nat → Nat → Bool → Nat × Int) : Prop :=
  ∀ x y up w, Dy.W x → Dy.W y → Calls Tryd.prog K #[.float .f64 x, .float .f64 y, .bool up] w fun e w' => e = .returned (.tuple #[.float .f64 (o x y up).1, .int .i64 (o x y up).2]) ∧ Below w.heap.size w w'

theorem opc_add : OpC 36 Dy.dAdd := fun x y up w hx hy => add_any x y up w hx hy
theorem opc_mul : OpC 37 Dy.dMul := fun x y up w hx hy => mul_any x y up w hx hy
/-- An operation of two numbers, as it lies in memory from block B on. -/
abbrev clo (B : Nat) : Value := .func (Fn.func 80) #[] #[.pointer (some ⟨B, 0, none⟩), .pointer (some ⟨B + 1, 0, none⟩), .pointer (some ⟨B + 2, 0, none⟩)]
structure Clo (B : Nat) (K : Nat) (x y : Nat) (w : World) : Prop where
  lt : B + 2 < w.heap.size
  c0 : w.cell? ⟨B, 0, none⟩ = some (.func (Fn.func K) #[] #[])
  c1 : w.cell? ⟨B + 1, 0, none⟩ = some (.float .f64 x)
  c2 : w.cell? ⟨B + 2, 0, none⟩ = some (.float .f64 y)

theorem carry {n : Nat} {W W' : World} {b o : Nat} {v : Value} (hB : Below n W W') (hb : b < n) (h : W.cell? ⟨b, o, none⟩ = some v) : W'.cell? ⟨b, o, none⟩ = some v :=
  (hB.cell (p := ⟨b, o, none⟩) hb).trans h

theorem Clo.keep {B K x y : Nat} {w w' : World} (h : Clo B K x y w) (hb : Below w.heap.size w w') : Clo B K x y w' := by
  have hs := h.lt
  exact ⟨Nat.lt_of_lt_of_le hs hb.size, carry hb (by omega) h.c0, carry hb (by omega) h.c1, carry hb (by omega) h.c2⟩

/-- What 'of' leaves. -/
def OfPost (K x y : Nat) (w : World) (e : Ending) (w' : World) : Prop := e = .returned (clo w.heap.size) ∧ Below w.heap.size w w' ∧ Clo w.heap.size K x y w'

set_option maxHeartbeats 1000000 in
theorem ivOf2_any (K x y : Nat) (w : World) :
    Calls Tryd.prog 59 #[.func (Fn.func K) #[] #[], .float .f64 x, .float .f64 y] w (OfPost K x y w) := by
  go_enter Tryd.func59, Tryd.ntmps59
  go_wp2
  go_ret
  refine ⟨rfl, ?_, ?_⟩
  · exact (((Below.refl _ _).alloc (Nat.le_refl _) _).alloc (by simp) _).alloc (by simp; omega) _
  · exact ⟨by simp <;> omega, by simp [go_sem], by simp [go_sem], by simp [go_sem]⟩

set_option maxRecDepth 100000 in
set_option maxHeartbeats 1000000 in
theorem ofCall_add (B x y : Nat) (o : Nat → Nat → Bool → Nat × Int) (up : Bool) (w : World) (h : Clo B 36 x y w) (hx : Dy.W x) (hy : Dy.W y) (H : Hid (OpC 36 o)) :
    Calls Tryd.prog 80 #[.bool up, .pointer (some ⟨B, 0, none⟩), .pointer (some ⟨B + 1, 0, none⟩), .pointer (some ⟨B + 2, 0, none⟩)] w fun e w' => e = .returned (.tuple #[.float .f64 (o x y up).1, .int .i64 (o x y up).2]) ∧ Below w.heap.size w w' := by
  have c0 := h.c0
  have c1 := h.c1
  have c2 := h.c2
  have HC := hid (fun w => H.out x y up w hx hy)
  generalize o x y up = r at *
  clear h H
  go_enter Tryd.func80, Tryd.ntmps80
  go_wp2_with fail
  refine (HC.out _).mono ?_
  rintro e w1 ⟨rfl, hb⟩
  go_wp2_with fail
  go_ret2
  exact ⟨rfl, hb⟩

set_option maxRecDepth 100000 in
set_option maxHeartbeats 1000000 in
theorem ofCall_mul (B x y : Nat) (o : Nat → Nat → Bool → Nat × Int) (up : Bool) (w : World) (h : Clo B 37 x y w) (hx : Dy.W x) (hy : Dy.W y) (H : Hid (OpC 37 o)) :
    Calls Tryd.prog 80 #[.bool up, .pointer (some ⟨B, 0, none⟩), .pointer (some ⟨B + 1, 0, none⟩), .pointer (some ⟨B + 2, 0, none⟩)] w fun e w' => e = .returned (.tuple #[.float .f64 (o x y up).1, .int .i64 (o x y up).2]) ∧ Below w.heap.size w w' := by
  have c0 := h.c0
  have c1 := h.c1
  have c2 := h.c2
  have HC := hid (fun w => H.out x y up w hx hy)
  generalize o x y up = r at *
  clear h H
  go_enter Tryd.func80, Tryd.ntmps80
  go_wp2_with fail
  refine (HC.out _).mono ?_
  rintro e w1 ⟨rfl, hb⟩
  go_wp2_with fail
  go_ret2
  exact ⟨rfl, hb⟩

/-- The five operations whose function values are called. -/
def Five (K : Nat) : Prop := K = 36 ∨ False ∨ K = 37 ∨ False ∨ False
theorem ofCall_any (B K x y : Nat) (o : Nat → Nat → Bool → Nat × Int) (up : Bool) (w : World) (hK : Five K) (h : Clo B K x y w) (hx : Dy.W x) (hy : Dy.W y) (H : Hid (OpC K o)) :
    Calls Tryd.prog 80 #[.bool up, .pointer (some ⟨B, 0, none⟩), .pointer (some ⟨B + 1, 0, none⟩), .pointer (some ⟨B + 2, 0, none⟩)] w fun e w' => e = .returned (.tuple #[.float .f64 (o x y up).1, .int .i64 (o x y up).2]) ∧ Below w.heap.size w w' := by
  rcases hK with rfl | h0 | rfl | h0 | h0
  · exact ofCall_add B x y o up w h hx hy H
  · exact h0.elim
  · exact ofCall_mul B x y o up w h hx hy H
  · exact h0.elim
  · exact h0.elim

set_option maxHeartbeats 1000000 in
theorem ends_any (B C K x y x' y' : Nat) (o : Nat → Nat → Bool → Nat × Int) (w : World) (hK : Five K) (h : Clo B K x y w) (h' : Clo C K x' y' w) (hx : Dy.W x) (hy : Dy.W y) (hx' : Dy.W x') (hy' : Dy.W y') (H : Hid (OpC K o)) :
    Calls Tryd.prog 62 #[clo B, clo C] w fun e w' => e = .returned (.tuple #[iv (Dy.iEnds (o x y false) (o x' y' true)).1, .int .i64 (Dy.iEnds (o x y false) (o x' y' true)).2]) ∧ Below w.heap.size w w' := by
  have b0 : Below w.heap.size w (w.alloc (.cells #[.float .f64 0, .float .f64 0] 38)) := (Below.refl _ _).alloc (Nat.le_refl _) _
  have k1 := h.keep b0
  have k2 := h'.keep b0
  have H1 := hid (ofCall_any B K x y o false _ hK k1 hx hy H)
  have H2 := hid (fun w1 hb => ofCall_any C K x' y' o true w1 hK (k2.keep hb) hx' hy' H)
  have hE : ∀ r s : Nat × Int, Dy.iEnds r s = if r.2 = 0 then ((r.1, s.1), s.2) else Dy.ivNo r.2 := fun _ _ => rfl
  rw [hE]
  clear hE H h h' k1 k2
  generalize o x y false = r at *
  generalize o x' y' true = s at *
  obtain ⟨r1, r2⟩ := r
  obtain ⟨s1, s2⟩ := s
  dsimp only at *
  by_cases h0 : r2 = 0
  · subst h0
    rw [if_pos rfl]
    go_enter Tryd.func62, Tryd.ntmps62
    go_wp2_with fail
    refine H1.out.mono ?_
    rintro e w1 ⟨rfl, hb1⟩
    go_wp2_with fail
    refine (H2.out _ hb1).mono ?_
    rintro e w2 ⟨rfl, hb2⟩
    have hb := hb1.trans (hb2.mono hb1.size)
    have c0 : w2.cell? ⟨w.heap.size, 0, none⟩ = some (.float .f64 0) := carry hb (by simp) (by simp [go_sem])
    have c1 : w2.cell? ⟨w.heap.size, 1, none⟩ = some (.float .f64 0) := carry hb (by simp) (by simp [go_sem])
    have f0 : w2.frozen? ⟨w.heap.size, 0, none⟩ = false := (hb.frozen (p := ⟨w.heap.size, 0, none⟩) (by simp)).trans (by simp [go_sem])
    have f1 : w2.frozen? ⟨w.heap.size, 1, none⟩ = false := (hb.frozen (p := ⟨w.heap.size, 1, none⟩) (by simp)).trans (by simp [go_sem])
    have hz := hb.size
    simp at hz
    go_wp2_with fail
    refine bodyPost_ret (v := .tuple #[iv (r1, s1), .int .i64 s2]) (by simp [results, Tryd.results62, go_sem, c0, c1]) rfl ⟨rfl, ?_⟩
    exact ((b0.trans (hb.mono (by simp))).setCell (by simp) _).setCell (by simp) _
  · rw [if_neg h0]
    have h1 : (r2 != 0) = true := by simpa using h0
    go_enter Tryd.func62, Tryd.ntmps62
    go_wp2_with fail
    refine H1.out.mono ?_
    rintro e w1 ⟨rfl, hb1⟩
    go_wp2_with fail
    refine (H2.out _ hb1).mono ?_
    rintro e w2 ⟨rfl, hb2⟩
    have hb := hb1.trans (hb2.mono hb1.size)
    have c0 : w2.cell? ⟨w.heap.size, 0, none⟩ = some (.float .f64 0) := carry hb (by simp) (by simp [go_sem])
    have c1 : w2.cell? ⟨w.heap.size, 1, none⟩ = some (.float .f64 0) := carry hb (by simp) (by simp [go_sem])
    have f0 : w2.frozen? ⟨w.heap.size, 0, none⟩ = false := (hb.frozen (p := ⟨w.heap.size, 0, none⟩) (by simp)).trans (by simp [go_sem])
    have f1 : w2.frozen? ⟨w.heap.size, 1, none⟩ = false := (hb.frozen (p := ⟨w.heap.size, 1, none⟩) (by simp)).trans (by simp [go_sem])
    have hz := hb.size
    simp at hz
    go_wp2_with fail
    refine bodyPost_ret (v := .tuple #[iv (0, 0), .int .i64 r2]) (by simp [results, Tryd.results62, go_sem, c0, c1]) rfl ⟨rfl, ?_⟩
    exact ((b0.trans (hb.mono (by simp))).setCell (by simp) _).setCell (by simp) _
end Go.Proofs.YtinhbebjlbnejaaDoor
/-! Walks: package ival: ask: an answer of right intervals, as long as there is no error. -/
namespace Go.Proofs.YtinhbebjlbnejaaDoor
open Go.RowKit

/-- What a call of a function value answers, in each world that holds what this one holds. -/
def Ans (K : Nat) (cap : Array Value) (r : (Nat × Nat) × Int) (w : World) : Prop :=
  ∀ w', Below w.heap.size w w' → Calls Tryd.prog K cap w' fun e w'' => e = .returned (.tuple #[iv r.1, .int .i64 r.2]) ∧ Below w'.heap.size w' w''

/-- The result's own variable, behind w, still 0 to 0. -/
structure St (w w1 : World) : Prop where
  bel : Below w.heap.size w w1
  sz : w.heap.size < w1.heap.size
  z0 : w1.cell? ⟨w.heap.size, 0, none⟩ = some (.float .f64 0)
  z1 : w1.cell? ⟨w.heap.size, 1, none⟩ = some (.float .f64 0)
  f0 : w1.frozen? ⟨w.heap.size, 0, none⟩ = false
  f1 : w1.frozen? ⟨w.heap.size, 1, none⟩ = false
theorem St.start (w : World) : St w (w.alloc (.cells #[.float .f64 0, .float .f64 0] 38)) :=
  ⟨(Below.refl _ _).alloc (Nat.le_refl _) _, by simp, by simp [go_sem], by simp [go_sem], by simp [go_sem], by simp [go_sem]⟩
theorem St.keep {w w1 w2 : World} (h : St w w1) (hb : Below w1.heap.size w1 w2) : St w w2 := by
  have hs := h.sz
  exact ⟨h.bel.trans (hb.mono (by omega)), Nat.lt_of_lt_of_le hs hb.size, carry hb hs h.z0, carry hb hs h.z1, (hb.frozen (p := ⟨w.heap.size, 0, none⟩) hs).trans h.f0, (hb.frozen (p := ⟨w.heap.size, 1, none⟩) hs).trans h.f1⟩
theorem St.alloc {w w1 : World} (h : St w w1) (o : Obj) : St w (w1.alloc o) := h.keep ((Below.refl _ _).alloc (Nat.le_refl _) _)

set_option maxRecDepth 100000 in
set_option maxHeartbeats 4000000 in
theorem ask_err (c : Nat) (err : Int) (g s : Value) (w : World) (hc : Cal c err w) (he : err ≠ 0) :
    Calls Tryd.prog 60 #[.pointer (some ⟨c, 0, none⟩), g, s] w (Asked c (Dy.ivNo err) w) := by
  have b0 : Below w.heap.size w (w.alloc (.cells #[.float .f64 0, .float .f64 0] 38)) := (Below.refl _ _).alloc (Nat.le_refl _) _
  have k0 := hc.keep b0
  have E1 := hid (calErr_any c err _ k0)
  have h1 : (err != 0) = true := by simpa using he
  go_enter Tryd.func60, Tryd.ntmps60
  go_wp2_with fail
  refine E1.out.mono ?_
  rintro e w1 ⟨rfl, rfl⟩
  go_wp2_with fail
  refine bodyPost_ret (v := iv (0, 0)) (by simp [results, Tryd.results60, go_sem]) rfl ⟨rfl, But.of ?_, ?_⟩
  · exact b0
  · exact k0

set_option maxRecDepth 100000 in
set_option maxHeartbeats 4000000 in
theorem ask_num (c : Nat) (err : Int) (p0 : Addr) (r : (Nat × Nat) × Int) (w : World) (hc : Cal c err w) (G : Hid (Ans 65 #[.pointer (some p0)] r w)) :
    Calls Tryd.prog 60 #[.pointer (some ⟨c, 0, none⟩), .func (Fn.func 65) #[] #[.pointer (some p0)], .slice none 0 0] w (Asked c (Dy.cAsk err (true) r) w) := by
  by_cases he : err = 0
  · subst he
    have st := St.start w
    have k0 := hc.keep st.bel
    have E1 := hid (calErr_any c 0 _ k0)
    have GG := G
    obtain ⟨⟨r1, r2⟩, re⟩ := r
    by_cases hre : re = 0
    · subst hre
      have eC : Dy.cAsk 0 (true) ((r1, r2), 0) = ((r1, r2), 0) := rfl
      rw [eC]
      go_enter Tryd.func60, Tryd.ntmps60
      go_wp2_with fail
      refine E1.out.mono ?_
      rintro e w1 ⟨rfl, rfl⟩
      go_wp2_with fail
      refine wp_loop_rounds 1 ?_
      rw [rounds_succ]
      go_wp2_with fail
      refine (GG.out _ st.bel).mono ?_
      rintro e wz ⟨rfl, hbz⟩
      have sz := st.keep hbz
      have z0 := sz.z0
      have z1 := sz.z1
      have f0 := sz.f0
      have f1 := sz.f1
      have kz := hc.keep sz.bel
      have kc := kz.cell
      have kf := kz.free
      have kl := kz.lt
      have lz := sz.sz
      have ne : w.heap.size ≠ c := by have := hc.lt; omega
      have ne2 : c ≠ wz.heap.size := by omega
      have ne3 : w.heap.size ≠ wz.heap.size := by omega
      have ne4 : c ≠ w.heap.size := fun h => ne h.symm
      go_wp2_with fail
      refine bodyPost_ret (v := iv (r1, r2)) (by simp [results, Tryd.results60, go_sem, z0, z1, lz]) rfl ⟨rfl, But.of ?_, ⟨?_, ?_, ?_⟩⟩
      · exact ((sz.bel.setCell (Nat.le_refl _) _).setCell (Nat.le_refl _) _).alloc (by simp; omega) _
      · simp; omega
      · simp [go_sem, kc, kl]
      · simp [go_sem, kf, kl]
    · have eC : Dy.cAsk 0 (true) ((r1, r2), re) = Dy.ivNo re := by unfold Dy.cAsk; rw [if_neg (by decide), if_neg (by decide), if_pos hre]
      rw [eC]
      have h1 : (re != 0) = true := by simpa using hre
      go_enter Tryd.func60, Tryd.ntmps60
      go_wp2_with fail
      refine E1.out.mono ?_
      rintro e w1 ⟨rfl, rfl⟩
      go_wp2_with fail
      refine wp_loop_rounds 1 ?_
      rw [rounds_succ]
      go_wp2_with fail
      refine (GG.out _ st.bel).mono ?_
      rintro e wz ⟨rfl, hbz⟩
      have sz := st.keep hbz
      have z0 := sz.z0
      have z1 := sz.z1
      have f0 := sz.f0
      have f1 := sz.f1
      have kz := hc.keep sz.bel
      have kc := kz.cell
      have kf := kz.free
      have kl := kz.lt
      have lz := sz.sz
      have ne : w.heap.size ≠ c := by have := hc.lt; omega
      have ne2 : c ≠ wz.heap.size := by omega
      have ne3 : w.heap.size ≠ wz.heap.size := by omega
      have ne4 : c ≠ w.heap.size := fun h => ne h.symm
      go_wp2_with fail
      refine bodyPost_ret (v := iv (0, 0)) (by simp [results, Tryd.results60, go_sem, *]) rfl ⟨rfl, (((But.of sz.bel).set _ 0).trans (But.of (((Below.refl w.heap.size _).setCell (by exact Nat.le_refl _) _).setCell (by exact Nat.le_refl _) _))).trans (But.of ((Below.refl _ _).alloc (by simp; omega) _)), ⟨?_, ?_, ?_⟩⟩
      · first | exact kl | (simp; omega)
      · show _ = some (Value.int IntKind.i64 re)
        simp [go_sem, *]
      · simp [go_sem, *]
  · have eC : Dy.cAsk err (true) r = Dy.ivNo err := by unfold Dy.cAsk; rw [if_pos he]
    rw [eC]
    exact ask_err c err _ _ w hc he

set_option maxRecDepth 100000 in
set_option maxHeartbeats 4000000 in
theorem ask_add (c : Nat) (err : Int) (p0 p1 p2 : Addr) (a : Nat × Nat) (b : Nat × Nat) (r : (Nat × Nat) × Int) (w : World) (s : Nat) (hs : s < w.heap.size) (hc : Cal c err w) (ha : Dy.WW a) (hb : Dy.WW b) (s0 : w.cell? ⟨s, 0, none⟩ = some (.float .f64 a.1)) (s1 : w.cell? ⟨s, 1, none⟩ = some (.float .f64 a.2)) (s2 : w.cell? ⟨s, 2, none⟩ = some (.float .f64 b.1)) (s3 : w.cell? ⟨s, 3, none⟩ = some (.float .f64 b.2)) (G : Dy.ivR a = true → Dy.ivR b = true → Hid (Ans 61 #[.pointer (some p0), .pointer (some p1), .pointer (some p2)] r w)) :
    Calls Tryd.prog 60 #[.pointer (some ⟨c, 0, none⟩), .func (Fn.func 61) #[] #[.pointer (some p0), .pointer (some p1), .pointer (some p2)], .slice (some ⟨s, 0, none⟩) 2 2] w (Asked c (Dy.cAsk err (Dy.ivR a && Dy.ivR b) r) w) := by
  by_cases he : err = 0
  · subst he
    have st := St.start w
    have k0 := hc.keep st.bel
    have E1 := hid (calErr_any c 0 _ k0)
    have t0 := carry st.bel hs s0
    have t1 := carry st.bel hs s1
    have t2 := carry st.bel hs s2
    have t3 := carry st.bel hs s3
    have hs' : s < (w.alloc (.cells #[.float .f64 0, .float .f64 0] 38)).heap.size := Nat.lt_of_lt_of_le hs st.bel.size
    cases ra : Dy.ivR a
    · have eC : Dy.cAsk 0 (false && Dy.ivR b) r = Dy.ivNo 20 := by unfold Dy.cAsk; rw [if_neg (by decide), if_pos (by first | rfl | (simp))]
      rw [eC]
      go_enter Tryd.func60, Tryd.ntmps60
      go_wp2_with fail
      refine E1.out.mono ?_
      rintro e w1 ⟨rfl, rfl⟩
      go_wp2_with fail
      refine wp_loop_rounds 1 ?_
      rw [rounds_succ]
      go_wp2_with fail
      refine (ivRight_any a _ ha).mono ?_
      rintro e wz ⟨rfl, hbz⟩
      have sz := (st.alloc _).keep hbz
      have z0 := sz.z0
      have z1 := sz.z1
      have f0 := sz.f0
      have f1 := sz.f1
      have kz := hc.keep sz.bel
      have kc := kz.cell
      have kf := kz.free
      have kl := kz.lt
      have lz := sz.sz
      have ne : w.heap.size ≠ c := by have := hc.lt; omega
      have ne4 : c ≠ w.heap.size := fun h => ne h.symm
      go_wp2_with fail
      refine bodyPost_ret (v := iv (0, 0)) (by simp [results, Tryd.results60, go_sem, *]) rfl ⟨rfl, (((But.of sz.bel).set _ 0).trans (But.of (((Below.refl w.heap.size _).setCell (by exact Nat.le_refl _) _).setCell (by exact Nat.le_refl _) _))), ⟨?_, ?_, ?_⟩⟩
      · first | exact kl | (simp; omega)
      · show _ = some (Value.int IntKind.i64 20)
        simp [go_sem, *]
      · simp [go_sem, *]
    · skip
      cases rb : Dy.ivR b
      · have eC : Dy.cAsk 0 (true && false) r = Dy.ivNo 20 := by unfold Dy.cAsk; rw [if_neg (by decide), if_pos (by first | rfl | (simp))]
        rw [eC]
        go_enter Tryd.func60, Tryd.ntmps60
        go_wp2_with fail
        refine E1.out.mono ?_
        rintro e w1 ⟨rfl, rfl⟩
        go_wp2_with fail
        refine wp_loop_rounds 2 ?_
        rw [rounds_succ]
        go_wp2_with fail
        refine (ivRight_any a _ ha).mono ?_
        rintro e w2 ⟨rfl, hb2⟩
        have st2 := (st.alloc _).keep hb2
        have u2 := carry st2.bel hs s2
        have u3 := carry st2.bel hs s3
        go_wp2_with fail
        rw [rounds_succ]
        go_wp2_with fail
        refine (ivRight_any b _ hb).mono ?_
        rintro e wz ⟨rfl, hbz⟩
        have sz := (st2.alloc _).keep hbz
        have z0 := sz.z0
        have z1 := sz.z1
        have f0 := sz.f0
        have f1 := sz.f1
        have kz := hc.keep sz.bel
        have kc := kz.cell
        have kf := kz.free
        have kl := kz.lt
        have lz := sz.sz
        have ne : w.heap.size ≠ c := by have := hc.lt; omega
        have ne4 : c ≠ w.heap.size := fun h => ne h.symm
        go_wp2_with fail
        refine bodyPost_ret (v := iv (0, 0)) (by simp [results, Tryd.results60, go_sem, *]) rfl ⟨rfl, (((But.of sz.bel).set _ 0).trans (But.of (((Below.refl w.heap.size _).setCell (by exact Nat.le_refl _) _).setCell (by exact Nat.le_refl _) _))), ⟨?_, ?_, ?_⟩⟩
        · first | exact kl | (simp; omega)
        · show _ = some (Value.int IntKind.i64 20)
          simp [go_sem, *]
        · simp [go_sem, *]
      · skip
        have GG := G ra rb
        obtain ⟨⟨r1, r2⟩, re⟩ := r
        by_cases hre : re = 0
        · subst hre
          have eC : Dy.cAsk 0 (true && true) ((r1, r2), 0) = ((r1, r2), 0) := rfl
          rw [eC]
          go_enter Tryd.func60, Tryd.ntmps60
          go_wp2_with fail
          refine E1.out.mono ?_
          rintro e w1 ⟨rfl, rfl⟩
          go_wp2_with fail
          refine wp_loop_rounds 3 ?_
          rw [rounds_succ]
          go_wp2_with fail
          refine (ivRight_any a _ ha).mono ?_
          rintro e w2 ⟨rfl, hb2⟩
          have st2 := (st.alloc _).keep hb2
          have u2 := carry st2.bel hs s2
          have u3 := carry st2.bel hs s3
          go_wp2_with fail
          rw [rounds_succ]
          go_wp2_with fail
          refine (ivRight_any b _ hb).mono ?_
          rintro e w3 ⟨rfl, hb3⟩
          have st3 := (st2.alloc _).keep hb3
          go_wp2_with fail
          rw [rounds_succ]
          go_wp2_with fail
          refine (GG.out _ st3.bel).mono ?_
          rintro e wz ⟨rfl, hbz⟩
          have sz := st3.keep hbz
          have z0 := sz.z0
          have z1 := sz.z1
          have f0 := sz.f0
          have f1 := sz.f1
          have kz := hc.keep sz.bel
          have kc := kz.cell
          have kf := kz.free
          have kl := kz.lt
          have lz := sz.sz
          have ne : w.heap.size ≠ c := by have := hc.lt; omega
          have ne2 : c ≠ wz.heap.size := by omega
          have ne3 : w.heap.size ≠ wz.heap.size := by omega
          have ne4 : c ≠ w.heap.size := fun h => ne h.symm
          go_wp2_with fail
          refine bodyPost_ret (v := iv (r1, r2)) (by simp [results, Tryd.results60, go_sem, z0, z1, lz]) rfl ⟨rfl, But.of ?_, ⟨?_, ?_, ?_⟩⟩
          · exact ((sz.bel.setCell (Nat.le_refl _) _).setCell (Nat.le_refl _) _).alloc (by simp; omega) _
          · simp; omega
          · simp [go_sem, kc, kl]
          · simp [go_sem, kf, kl]
        · have eC : Dy.cAsk 0 (true && true) ((r1, r2), re) = Dy.ivNo re := by unfold Dy.cAsk; rw [if_neg (by decide), if_neg (by decide), if_pos hre]
          rw [eC]
          have h1 : (re != 0) = true := by simpa using hre
          go_enter Tryd.func60, Tryd.ntmps60
          go_wp2_with fail
          refine E1.out.mono ?_
          rintro e w1 ⟨rfl, rfl⟩
          go_wp2_with fail
          refine wp_loop_rounds 3 ?_
          rw [rounds_succ]
          go_wp2_with fail
          refine (ivRight_any a _ ha).mono ?_
          rintro e w2 ⟨rfl, hb2⟩
          have st2 := (st.alloc _).keep hb2
          have u2 := carry st2.bel hs s2
          have u3 := carry st2.bel hs s3
          go_wp2_with fail
          rw [rounds_succ]
          go_wp2_with fail
          refine (ivRight_any b _ hb).mono ?_
          rintro e w3 ⟨rfl, hb3⟩
          have st3 := (st2.alloc _).keep hb3
          go_wp2_with fail
          rw [rounds_succ]
          go_wp2_with fail
          refine (GG.out _ st3.bel).mono ?_
          rintro e wz ⟨rfl, hbz⟩
          have sz := st3.keep hbz
          have z0 := sz.z0
          have z1 := sz.z1
          have f0 := sz.f0
          have f1 := sz.f1
          have kz := hc.keep sz.bel
          have kc := kz.cell
          have kf := kz.free
          have kl := kz.lt
          have lz := sz.sz
          have ne : w.heap.size ≠ c := by have := hc.lt; omega
          have ne2 : c ≠ wz.heap.size := by omega
          have ne3 : w.heap.size ≠ wz.heap.size := by omega
          have ne4 : c ≠ w.heap.size := fun h => ne h.symm
          go_wp2_with fail
          refine bodyPost_ret (v := iv (0, 0)) (by simp [results, Tryd.results60, go_sem, *]) rfl ⟨rfl, (((But.of sz.bel).set _ 0).trans (But.of (((Below.refl w.heap.size _).setCell (by exact Nat.le_refl _) _).setCell (by exact Nat.le_refl _) _))).trans (But.of ((Below.refl _ _).alloc (by simp; omega) _)), ⟨?_, ?_, ?_⟩⟩
          · first | exact kl | (simp; omega)
          · show _ = some (Value.int IntKind.i64 re)
            simp [go_sem, *]
          · simp [go_sem, *]
  · have eC : Dy.cAsk err (Dy.ivR a && Dy.ivR b) r = Dy.ivNo err := by unfold Dy.cAsk; rw [if_pos he]
    rw [eC]
    exact ask_err c err _ _ w hc he

set_option maxRecDepth 100000 in
set_option maxHeartbeats 4000000 in
theorem ask_mul (c : Nat) (err : Int) (p0 p1 : Addr) (a : Nat × Nat) (b : Nat × Nat) (r : (Nat × Nat) × Int) (w : World) (s : Nat) (hs : s < w.heap.size) (hc : Cal c err w) (ha : Dy.WW a) (hb : Dy.WW b) (s0 : w.cell? ⟨s, 0, none⟩ = some (.float .f64 a.1)) (s1 : w.cell? ⟨s, 1, none⟩ = some (.float .f64 a.2)) (s2 : w.cell? ⟨s, 2, none⟩ = some (.float .f64 b.1)) (s3 : w.cell? ⟨s, 3, none⟩ = some (.float .f64 b.2)) (G : Dy.ivR a = true → Dy.ivR b = true → Hid (Ans 63 #[.pointer (some p0), .pointer (some p1)] r w)) :
    Calls Tryd.prog 60 #[.pointer (some ⟨c, 0, none⟩), .func (Fn.func 63) #[] #[.pointer (some p0), .pointer (some p1)], .slice (some ⟨s, 0, none⟩) 2 2] w (Asked c (Dy.cAsk err (Dy.ivR a && Dy.ivR b) r) w) := by
  by_cases he : err = 0
  · subst he
    have st := St.start w
    have k0 := hc.keep st.bel
    have E1 := hid (calErr_any c 0 _ k0)
    have t0 := carry st.bel hs s0
    have t1 := carry st.bel hs s1
    have t2 := carry st.bel hs s2
    have t3 := carry st.bel hs s3
    have hs' : s < (w.alloc (.cells #[.float .f64 0, .float .f64 0] 38)).heap.size := Nat.lt_of_lt_of_le hs st.bel.size
    cases ra : Dy.ivR a
    · have eC : Dy.cAsk 0 (false && Dy.ivR b) r = Dy.ivNo 20 := by unfold Dy.cAsk; rw [if_neg (by decide), if_pos (by first | rfl | (simp))]
      rw [eC]
      go_enter Tryd.func60, Tryd.ntmps60
      go_wp2_with fail
      refine E1.out.mono ?_
      rintro e w1 ⟨rfl, rfl⟩
      go_wp2_with fail
      refine wp_loop_rounds 1 ?_
      rw [rounds_succ]
      go_wp2_with fail
      refine (ivRight_any a _ ha).mono ?_
      rintro e wz ⟨rfl, hbz⟩
      have sz := (st.alloc _).keep hbz
      have z0 := sz.z0
      have z1 := sz.z1
      have f0 := sz.f0
      have f1 := sz.f1
      have kz := hc.keep sz.bel
      have kc := kz.cell
      have kf := kz.free
      have kl := kz.lt
      have lz := sz.sz
      have ne : w.heap.size ≠ c := by have := hc.lt; omega
      have ne4 : c ≠ w.heap.size := fun h => ne h.symm
      go_wp2_with fail
      refine bodyPost_ret (v := iv (0, 0)) (by simp [results, Tryd.results60, go_sem, *]) rfl ⟨rfl, (((But.of sz.bel).set _ 0).trans (But.of (((Below.refl w.heap.size _).setCell (by exact Nat.le_refl _) _).setCell (by exact Nat.le_refl _) _))), ⟨?_, ?_, ?_⟩⟩
      · first | exact kl | (simp; omega)
      · show _ = some (Value.int IntKind.i64 20)
        simp [go_sem, *]
      · simp [go_sem, *]
    · skip
      cases rb : Dy.ivR b
      · have eC : Dy.cAsk 0 (true && false) r = Dy.ivNo 20 := by unfold Dy.cAsk; rw [if_neg (by decide), if_pos (by first | rfl | (simp))]
        rw [eC]
        go_enter Tryd.func60, Tryd.ntmps60
        go_wp2_with fail
        refine E1.out.mono ?_
        rintro e w1 ⟨rfl, rfl⟩
        go_wp2_with fail
        refine wp_loop_rounds 2 ?_
        rw [rounds_succ]
        go_wp2_with fail
        refine (ivRight_any a _ ha).mono ?_
        rintro e w2 ⟨rfl, hb2⟩
        have st2 := (st.alloc _).keep hb2
        have u2 := carry st2.bel hs s2
        have u3 := carry st2.bel hs s3
        go_wp2_with fail
        rw [rounds_succ]
        go_wp2_with fail
        refine (ivRight_any b _ hb).mono ?_
        rintro e wz ⟨rfl, hbz⟩
        have sz := (st2.alloc _).keep hbz
        have z0 := sz.z0
        have z1 := sz.z1
        have f0 := sz.f0
        have f1 := sz.f1
        have kz := hc.keep sz.bel
        have kc := kz.cell
        have kf := kz.free
        have kl := kz.lt
        have lz := sz.sz
        have ne : w.heap.size ≠ c := by have := hc.lt; omega
        have ne4 : c ≠ w.heap.size := fun h => ne h.symm
        go_wp2_with fail
        refine bodyPost_ret (v := iv (0, 0)) (by simp [results, Tryd.results60, go_sem, *]) rfl ⟨rfl, (((But.of sz.bel).set _ 0).trans (But.of (((Below.refl w.heap.size _).setCell (by exact Nat.le_refl _) _).setCell (by exact Nat.le_refl _) _))), ⟨?_, ?_, ?_⟩⟩
        · first | exact kl | (simp; omega)
        · show _ = some (Value.int IntKind.i64 20)
          simp [go_sem, *]
        · simp [go_sem, *]
      · skip
        have GG := G ra rb
        obtain ⟨⟨r1, r2⟩, re⟩ := r
        by_cases hre : re = 0
        · subst hre
          have eC : Dy.cAsk 0 (true && true) ((r1, r2), 0) = ((r1, r2), 0) := rfl
          rw [eC]
          go_enter Tryd.func60, Tryd.ntmps60
          go_wp2_with fail
          refine E1.out.mono ?_
          rintro e w1 ⟨rfl, rfl⟩
          go_wp2_with fail
          refine wp_loop_rounds 3 ?_
          rw [rounds_succ]
          go_wp2_with fail
          refine (ivRight_any a _ ha).mono ?_
          rintro e w2 ⟨rfl, hb2⟩
          have st2 := (st.alloc _).keep hb2
          have u2 := carry st2.bel hs s2
          have u3 := carry st2.bel hs s3
          go_wp2_with fail
          rw [rounds_succ]
          go_wp2_with fail
          refine (ivRight_any b _ hb).mono ?_
          rintro e w3 ⟨rfl, hb3⟩
          have st3 := (st2.alloc _).keep hb3
          go_wp2_with fail
          rw [rounds_succ]
          go_wp2_with fail
          refine (GG.out _ st3.bel).mono ?_
          rintro e wz ⟨rfl, hbz⟩
          have sz := st3.keep hbz
          have z0 := sz.z0
          have z1 := sz.z1
          have f0 := sz.f0
          have f1 := sz.f1
          have kz := hc.keep sz.bel
          have kc := kz.cell
          have kf := kz.free
          have kl := kz.lt
          have lz := sz.sz
          have ne : w.heap.size ≠ c := by have := hc.lt; omega
          have ne2 : c ≠ wz.heap.size := by omega
          have ne3 : w.heap.size ≠ wz.heap.size := by omega
          have ne4 : c ≠ w.heap.size := fun h => ne h.symm
          go_wp2_with fail
          refine bodyPost_ret (v := iv (r1, r2)) (by simp [results, Tryd.results60, go_sem, z0, z1, lz]) rfl ⟨rfl, But.of ?_, ⟨?_, ?_, ?_⟩⟩
          · exact ((sz.bel.setCell (Nat.le_refl _) _).setCell (Nat.le_refl _) _).alloc (by simp; omega) _
          · simp; omega
          · simp [go_sem, kc, kl]
          · simp [go_sem, kf, kl]
        · have eC : Dy.cAsk 0 (true && true) ((r1, r2), re) = Dy.ivNo re := by unfold Dy.cAsk; rw [if_neg (by decide), if_neg (by decide), if_pos hre]
          rw [eC]
          have h1 : (re != 0) = true := by simpa using hre
          go_enter Tryd.func60, Tryd.ntmps60
          go_wp2_with fail
          refine E1.out.mono ?_
          rintro e w1 ⟨rfl, rfl⟩
          go_wp2_with fail
          refine wp_loop_rounds 3 ?_
          rw [rounds_succ]
          go_wp2_with fail
          refine (ivRight_any a _ ha).mono ?_
          rintro e w2 ⟨rfl, hb2⟩
          have st2 := (st.alloc _).keep hb2
          have u2 := carry st2.bel hs s2
          have u3 := carry st2.bel hs s3
          go_wp2_with fail
          rw [rounds_succ]
          go_wp2_with fail
          refine (ivRight_any b _ hb).mono ?_
          rintro e w3 ⟨rfl, hb3⟩
          have st3 := (st2.alloc _).keep hb3
          go_wp2_with fail
          rw [rounds_succ]
          go_wp2_with fail
          refine (GG.out _ st3.bel).mono ?_
          rintro e wz ⟨rfl, hbz⟩
          have sz := st3.keep hbz
          have z0 := sz.z0
          have z1 := sz.z1
          have f0 := sz.f0
          have f1 := sz.f1
          have kz := hc.keep sz.bel
          have kc := kz.cell
          have kf := kz.free
          have kl := kz.lt
          have lz := sz.sz
          have ne : w.heap.size ≠ c := by have := hc.lt; omega
          have ne2 : c ≠ wz.heap.size := by omega
          have ne3 : w.heap.size ≠ wz.heap.size := by omega
          have ne4 : c ≠ w.heap.size := fun h => ne h.symm
          go_wp2_with fail
          refine bodyPost_ret (v := iv (0, 0)) (by simp [results, Tryd.results60, go_sem, *]) rfl ⟨rfl, (((But.of sz.bel).set _ 0).trans (But.of (((Below.refl w.heap.size _).setCell (by exact Nat.le_refl _) _).setCell (by exact Nat.le_refl _) _))).trans (But.of ((Below.refl _ _).alloc (by simp; omega) _)), ⟨?_, ?_, ?_⟩⟩
          · first | exact kl | (simp; omega)
          · show _ = some (Value.int IntKind.i64 re)
            simp [go_sem, *]
          · simp [go_sem, *]
  · have eC : Dy.cAsk err (Dy.ivR a && Dy.ivR b) r = Dy.ivNo err := by unfold Dy.cAsk; rw [if_pos he]
    rw [eC]
    exact ask_err c err _ _ w hc he

end Go.Proofs.YtinhbebjlbnejaaDoor
/-! Walks: package ival: a calculator's Num, Add, Sub. -/
namespace Go.Proofs.YtinhbebjlbnejaaDoor
open Go.RowKit

/-- The answer, stored into the result's own block q: what is asked of a method. -/
theorem asked_end {c q : Nat} {re : Int} {u v : Value} {w W w1 : World} (hb : Below w.heap.size w W) (hB : But c W.heap.size W w1) (hC : Cal c re w1) (hq : w.heap.size ≤ q) (hc : c ≠ q) :
    But c w.heap.size w ((w1.setCell ⟨q, 0, none⟩ u).setCell ⟨q, 1, none⟩ v) ∧ Cal c re ((w1.setCell ⟨q, 0, none⟩ u).setCell ⟨q, 1, none⟩ v) := by
  refine ⟨((But.of hb).trans (hB.mono hb.size)).trans (But.of (((Below.refl w.heap.size _).setCell hq _).setCell hq _)), ?_, ?_, ?_⟩
  · simp; exact hC.lt
  · rw [World.cell?_setCell_other _ _ _ _ (fun h => hc (congrArg Addr.block h).symm), World.cell?_setCell_other _ _ _ _ (fun h => hc (congrArg Addr.block h).symm)]; exact hC.cell
  · simp [go_sem]; exact hC.free
theorem asked_cells {c q : Nat} {W w1 : World} (hB : But c W.heap.size W w1) (hq : q < W.heap.size) (hc : q ≠ c) :
    (∀ o, w1.cell? ⟨q, o, none⟩ = W.cell? ⟨q, o, none⟩) ∧ (∀ o, w1.frozen? ⟨q, o, none⟩ = W.frozen? ⟨q, o, none⟩) := ⟨fun _ => hB.cell hq hc, fun _ => hB.frozen hq hc⟩

set_option maxHeartbeats 1000000 in
theorem num1_ans (x : Nat) (p : Nat) (w : World) (hx : Dy.W x) (hp : p < w.heap.size) (c0 : w.cell? ⟨p, 0, none⟩ = some (.float .f64 x)) :
    Ans 65 #[.pointer (some ⟨p, 0, none⟩)] (if Dy.right x then ((x, x), (0 : Int)) else Dy.ivNo 13) w := by
  intro w' hb
  have k0 := carry hb hp c0
  have hp' : p < w'.heap.size := Nat.lt_of_lt_of_le hp hb.size
  have H := hid (fun w => ivOf_any x w hx)
  generalize (if Dy.right x then ((x, x), (0 : Int)) else Dy.ivNo 13) = r at *
  obtain ⟨⟨r1, r2⟩, re⟩ := r
  dsimp only at *
  clear c0 hb
  go_enter Tryd.func65, Tryd.ntmps65
  go_wp2_with fail
  refine (H.out _).mono ?_
  rintro e w1 ⟨rfl, b1⟩
  have c0 : w1.cell? ⟨w'.heap.size, 0, none⟩ = some (.float .f64 0) := carry b1 (by simp) (by simp [go_sem])
  have c1 : w1.cell? ⟨w'.heap.size, 1, none⟩ = some (.float .f64 0) := carry b1 (by simp) (by simp [go_sem])
  have f0 : w1.frozen? ⟨w'.heap.size, 0, none⟩ = false := (b1.frozen (p := ⟨w'.heap.size, 0, none⟩) (by simp)).trans (by simp [go_sem])
  have f1 : w1.frozen? ⟨w'.heap.size, 1, none⟩ = false := (b1.frozen (p := ⟨w'.heap.size, 1, none⟩) (by simp)).trans (by simp [go_sem])
  have hz := b1.size
  simp at hz
  go_wp2_with fail
  refine bodyPost_ret (v := .tuple #[iv (r1, r2), .int .i64 re]) (by simp [results, Tryd.results65, go_sem, c0, c1]) rfl ⟨rfl, ?_⟩
  exact (((Below.refl _ _).alloc (Nat.le_refl _) _).trans (b1.mono (by simp))).setCell (by simp) _ |>.setCell (by simp) _

set_option maxRecDepth 100000 in
set_option maxHeartbeats 1000000 in
theorem calNum_any (c : Nat) (err : Int) (x : Nat) (w : World) (hc : Cal c err w) (hx : Dy.W x) :
    Calls Tryd.prog 42 #[.pointer (some ⟨c, 0, none⟩), .float .f64 x] w (Asked c (Dy.cNum err x) w) := by
  have HA := hid (fun (w1 : World) (k : Cal c err w1) (p : Nat) (hp : p < w1.heap.size) (c0 : w1.cell? ⟨p, 0, none⟩ = some (.float .f64 x)) => ask_num c err ⟨p, 0, none⟩ (if Dy.right x then ((x, x), (0 : Int)) else Dy.ivNo 13) w1 k (hid (num1_ans x p w1 hx hp c0)))
  have hE : Dy.cNum err x = Dy.cAsk err true (if Dy.right x then ((x, x), (0 : Int)) else Dy.ivNo 13) := rfl
  rw [hE]
  generalize Dy.cAsk err true (if Dy.right x then ((x, x), (0 : Int)) else Dy.ivNo 13) = r at *
  obtain ⟨⟨r1, r2⟩, re⟩ := r
  clear hE
  have HC := hid hc
  clear hc
  go_enter Tryd.func42, Tryd.ntmps42
  go_wp2_with fail
  have bW : Below w.heap.size w ((w.alloc (.cells #[.float .f64 x] 36)).alloc (.cells #[.float .f64 0, .float .f64 0] 38)) := ((Below.refl _ _).alloc (Nat.le_refl _) _).alloc (by simp) _
  refine (HA.out _ (HC.out.keep bW) w.heap.size (by simp <;> omega) (by simp [go_sem])).mono ?_
  rintro e w1 ⟨rfl, hB, hC⟩
  have hlt := HC.out.lt
  obtain ⟨q1, q2⟩ := asked_cells (q := w.heap.size + 1) hB (by simp) (by omega)
  have c0 : w1.cell? ⟨w.heap.size + 1, 0, none⟩ = some (.float .f64 0) := (q1 0).trans (by simp [go_sem])
  have c1 : w1.cell? ⟨w.heap.size + 1, 1, none⟩ = some (.float .f64 0) := (q1 1).trans (by simp [go_sem])
  have f0 : w1.frozen? ⟨w.heap.size + 1, 0, none⟩ = false := (q2 0).trans (by simp [go_sem])
  have f1 : w1.frozen? ⟨w.heap.size + 1, 1, none⟩ = false := (q2 1).trans (by simp [go_sem])
  clear q1 q2
  go_wp2_with fail
  exact bodyPost_ret (v := iv (r1, r2)) (by simp [results, Tryd.results42, go_sem, c0, c1]) rfl ⟨rfl, asked_end bW hB hC (by omega) (by omega)⟩
end Go.Proofs.YtinhbebjlbnejaaDoor
/-! Walks: package ival: a calculator's Add, Sub. -/
namespace Go.Proofs.YtinhbebjlbnejaaDoor
open Go.RowKit

theorem ex_cell' {w : World} {a : Addr} (h : (w.cell? a).isSome = true) : ∃ v, w.cell? a = some v := Option.isSome_iff_exists.1 h

/-- What a closure over an operation and two intervals reads. -/
structure Inn (p q s : Nat) (f : Value) (a b : Nat × Nat) (w : World) : Prop where
  lp : p < w.heap.size
  lq : q < w.heap.size
  ls : s < w.heap.size
  p0 : w.cell? ⟨p, 0, none⟩ = some f
  q0 : w.cell? ⟨q, 0, none⟩ = some (.float .f64 a.1)
  q1 : w.cell? ⟨q, 1, none⟩ = some (.float .f64 a.2)
  s0 : w.cell? ⟨s, 0, none⟩ = some (.float .f64 b.1)
  s1 : w.cell? ⟨s, 1, none⟩ = some (.float .f64 b.2)
theorem Inn.keep {p q s : Nat} {f : Value} {a b : Nat × Nat} {w w' : World} (h : Inn p q s f a b w) (hb : Below w.heap.size w w') : Inn p q s f a b w' :=
  ⟨Nat.lt_of_lt_of_le h.lp hb.size, Nat.lt_of_lt_of_le h.lq hb.size, Nat.lt_of_lt_of_le h.ls hb.size, carry hb h.lp h.p0, carry hb h.lq h.q0, carry hb h.lq h.q1, carry hb h.ls h.s0, carry hb h.ls h.s1⟩

/-- The result's variable, in block t. -/
structure Out (t : Nat) (w : World) : Prop where
  lt : t < w.heap.size
  z0 : w.cell? ⟨t, 0, none⟩ = some (.float .f64 0)
  z1 : w.cell? ⟨t, 1, none⟩ = some (.float .f64 0)
  f0 : w.frozen? ⟨t, 0, none⟩ = false
  f1 : w.frozen? ⟨t, 1, none⟩ = false
theorem Out.keep {t : Nat} {w w' : World} (h : Out t w) (hb : Below w.heap.size w w') : Out t w' :=
  ⟨Nat.lt_of_lt_of_le h.lt hb.size, carry hb h.lt h.z0, carry hb h.lt h.z1, (hb.frozen (p := ⟨t, 0, none⟩) h.lt).trans h.f0, (hb.frozen (p := ⟨t, 1, none⟩) h.lt).trans h.f1⟩

set_option maxRecDepth 100000 in
set_option maxHeartbeats 4000000 in
theorem add1_ans (a b : Nat × Nat) (p q s : Nat) (w : World) (ha : Dy.WW a) (hb : Dy.WW b) (hi : Inn p q s (.func (Fn.func 59) #[.func (Fn.func 36) #[] #[]] #[]) a b w) :
    Ans 61 #[.pointer (some ⟨p, 0, none⟩), .pointer (some ⟨q, 0, none⟩), .pointer (some ⟨s, 0, none⟩)] (Dy.iEnds (Dy.dAdd a.1 b.1 false) (Dy.dAdd a.2 b.2 true)) w := by
  intro w' hbw
  have hi' := hi.keep hbw
  obtain ⟨a1, a2⟩ := a
  obtain ⟨b1, b2⟩ := b
  obtain ⟨wa1, wa2⟩ := ha
  obtain ⟨wb1, wb2⟩ := hb
  dsimp only at *
  have hI0 : Inn p q s (.func (Fn.func 59) #[.func (Fn.func 36) #[] #[]] #[]) (a1, a2) (b1, b2) (w'.alloc (.cells #[.float .f64 0, .float .f64 0] 38)).drew := hi'.keep ((Below.refl _ _).alloc (Nat.le_refl _) _).drew
  have hO0 : Out w'.heap.size (w'.alloc (.cells #[.float .f64 0, .float .f64 0] 38)).drew := ⟨by simp, by simp [go_sem], by simp [go_sem], by simp [go_sem], by simp [go_sem]⟩
  have HS : Hid ((w'.alloc (.cells #[.float .f64 0, .float .f64 0] 38)).drew.heap.size = w'.heap.size + 1) := hid (by simp)
  have lp := hi'.lp
  have lq := hi'.lq
  have ls := hi'.ls
  have np : p ≠ w'.heap.size := by omega
  have nq : q ≠ w'.heap.size := by omega
  have ns : s ≠ w'.heap.size := by omega
  clear hi hbw hi'
  go_enter Tryd.func61, Tryd.ntmps61
  go_wp2_with fail
  go_region_held3 (fun w1 => w1.cell? ⟨p, 0, none⟩ = some (.func (Fn.func 59) #[.func (Fn.func 36) #[] #[]] #[]) ∧ w1.cell? ⟨q, 0, none⟩ = some (.float .f64 a1) ∧ w1.cell? ⟨q, 1, none⟩ = some (.float .f64 a2) ∧ w1.cell? ⟨s, 0, none⟩ = some (.float .f64 b1) ∧ w1.cell? ⟨s, 1, none⟩ = some (.float .f64 b2) ∧ (∃ v, w1.cell? ⟨w'.heap.size, 0, none⟩ = some v) ∧ (∃ v, w1.cell? ⟨w'.heap.size, 1, none⟩ = some v) ∧ w1.frozen? ⟨w'.heap.size, 0, none⟩ = false ∧ w1.frozen? ⟨w'.heap.size, 1, none⟩ = false)
    (first | exact ⟨hI3.p0, hI3.q0, hI3.q1, hI3.s0, hI3.s1, ⟨_, hO3.z0⟩, ⟨_, hO3.z1⟩, hO3.f0, hO3.f1⟩ | exact ⟨hI2.p0, hI2.q0, hI2.q1, hI2.s0, hI2.s1, ⟨_, hO2.z0⟩, ⟨_, hO2.z1⟩, hO2.f0, hO2.f1⟩ | exact ⟨hI1.p0, hI1.q0, hI1.q1, hI1.s0, hI1.s1, ⟨_, hO1.z0⟩, ⟨_, hO1.z1⟩, hO1.f0, hO1.f1⟩ | exact ⟨hI0.p0, hI0.q0, hI0.q1, hI0.s0, hI0.s1, ⟨_, hO0.z0⟩, ⟨_, hO0.z1⟩, hO0.f0, hO0.f1⟩ | (refine ⟨?_, ?_, ?_, ?_, ?_, ?_, ?_, ?_, ?_⟩ <;> first | (simp [go_sem, *]; done) | (refine ex_cell' ?_; simp [go_sem, *]; done)))
    (first | (go_at_call 59; first | (have tok := hk1; refine (ivOf2_any _ _ _ _).mono ?_; rintro e w2 ⟨rfl, hb2, hk2⟩; have hI2 := hI1.keep hb2; have hO2 := hO1.keep hb2; have hk3 := hk1.keep hb2) | (refine (ivOf2_any _ _ _ _).mono ?_; rintro e w2 ⟨rfl, hb1, hk1⟩; rw [HS.out] at hk1; have hI1 := hI0.keep hb1; have hO1 := hO0.keep hb1)) | (go_at_call 62; refine (ends_any _ _ 36 _ _ _ _ Dy.dAdd _ (Or.inl rfl) (by assumption) (by assumption) (by assumption) (by assumption) (by assumption) (by assumption) (hid opc_add)).mono ?_; rintro e w3 ⟨rfl, hb3⟩; have hI3 := hI2.keep hb3; have hO3 := hO2.keep hb3; have z0 := hO3.z0; have z1 := hO3.z1; have f0 := hO3.f0; have f1 := hO3.f1))
  go_wp2_with fail
  have hbel : Below w'.heap.size w' _ := (((Below.refl _ _).alloc (Nat.le_refl _) (.cells #[.float .f64 0, .float .f64 0] 38)).drew).trans ((hb1.trans ((hb2.trans (hb3.mono hb2.size)).mono hb1.size)).mono (by simp))
  exact bodyPost_ret (v := .tuple #[iv (Dy.iEnds (Dy.dAdd a1 b1 false) (Dy.dAdd a2 b2 true)).1, .int .i64 (Dy.iEnds (Dy.dAdd a1 b1 false) (Dy.dAdd a2 b2 true)).2]) (by simp [results, Tryd.results61, go_sem, z0, z1]) rfl ⟨rfl, (hbel.setCell (Nat.le_refl _) _).setCell (Nat.le_refl _) _⟩

end Go.Proofs.YtinhbebjlbnejaaDoor
/-! Walks: package ival: a calculator's Add, Sub: the methods. -/
namespace Go.Proofs.YtinhbebjlbnejaaDoor
open Go.RowKit

theorem below5 (w : World) (o1 o2 o3 o4 o5 : Obj) : Below w.heap.size w (((((w.alloc o1).alloc o2).alloc o3).alloc o4).alloc o5) :=
  (((((Below.refl _ _).alloc (Nat.le_refl _) _).alloc (by simp) _).alloc (by simp; omega) _).alloc (by simp; omega) _).alloc (by simp; omega) _

set_option maxRecDepth 100000 in
set_option maxHeartbeats 4000000 in
theorem calAdd_any (c : Nat) (err : Int) (a b : Nat × Nat) (w : World) (hc : Cal c err w) (ha : Dy.WW a) (hb : Dy.WW b) :
    Calls Tryd.prog 40 #[.pointer (some ⟨c, 0, none⟩), iv a, iv b] w (Asked c (Dy.cAdd err a b) w) := by
  have HA := hid (fun (w1 : World) (k : Cal c err w1) (p q s t : Nat) (hi : Inn p q s (.func (Fn.func 59) #[.func (Fn.func 36) #[] #[]] #[]) a b w1) (ht : t < w1.heap.size) (t0 : w1.cell? ⟨t, 0, none⟩ = some (.float .f64 a.1)) (t1 : w1.cell? ⟨t, 1, none⟩ = some (.float .f64 a.2)) (t2 : w1.cell? ⟨t, 2, none⟩ = some (.float .f64 b.1)) (t3 : w1.cell? ⟨t, 3, none⟩ = some (.float .f64 b.2)) =>
    ask_add c err ⟨p, 0, none⟩ ⟨q, 0, none⟩ ⟨s, 0, none⟩ a b (Dy.iEnds (Dy.dAdd a.1 b.1 false) (Dy.dAdd a.2 b.2 true)) w1 t ht k ha hb t0 t1 t2 t3 (fun _ _ => hid (add1_ans a b p q s w1 ha hb hi)))
  have hE : Dy.cAdd err a b = Dy.cAsk err (Dy.ivR a && Dy.ivR b) (Dy.iEnds (Dy.dAdd a.1 b.1 false) (Dy.dAdd a.2 b.2 true)) := rfl
  rw [hE]
  generalize Dy.cAsk err (Dy.ivR a && Dy.ivR b) (Dy.iEnds (Dy.dAdd a.1 b.1 false) (Dy.dAdd a.2 b.2 true)) = r at *
  obtain ⟨⟨r1, r2⟩, re⟩ := r
  obtain ⟨a1, a2⟩ := a
  obtain ⟨b1, b2⟩ := b
  clear hE
  dsimp only at *
  have HC := hid hc
  clear hc ha hb
  go_enter Tryd.func40, Tryd.ntmps40
  go_wp2_with fail
  refine (HA.out _ (HC.out.keep (below5 w _ _ _ _ _)) (w.heap.size + 3) w.heap.size (w.heap.size + 1) (w.heap.size + 4) ⟨by simp <;> omega, by simp <;> omega, by simp <;> omega, by simp [go_sem], by simp [go_sem], by simp [go_sem], by simp [go_sem], by simp [go_sem]⟩ (by simp <;> omega) (by simp [go_sem]) (by simp [go_sem]) (by simp [go_sem]) (by simp [go_sem])).mono ?_
  rintro e w1 ⟨rfl, hB, hC⟩
  have hlt := HC.out.lt
  obtain ⟨q1, q2⟩ := asked_cells (q := w.heap.size + 2) hB (by simp <;> omega) (by omega)
  have c0 : w1.cell? ⟨w.heap.size + 2, 0, none⟩ = some (.float .f64 0) := (q1 0).trans (by simp [go_sem])
  have c1 : w1.cell? ⟨w.heap.size + 2, 1, none⟩ = some (.float .f64 0) := (q1 1).trans (by simp [go_sem])
  have f0 : w1.frozen? ⟨w.heap.size + 2, 0, none⟩ = false := (q2 0).trans (by simp [go_sem])
  have f1 : w1.frozen? ⟨w.heap.size + 2, 1, none⟩ = false := (q2 1).trans (by simp [go_sem])
  clear q1 q2
  go_wp2_with fail
  exact bodyPost_ret (v := iv (r1, r2)) (by simp [results, Tryd.results40, go_sem, c0, c1]) rfl ⟨rfl, asked_end (below5 w _ _ _ _ _) hB hC (by omega) (by omega)⟩

end Go.Proofs.YtinhbebjlbnejaaDoor
/-! Walks: package ival: Has, Pi, turned, bare, known. -/
namespace Go.Proofs.YtinhbebjlbnejaaDoor
open Go.RowKit

end Go.Proofs.YtinhbebjlbnejaaDoor
