/- Walks: package ival: an operation of two numbers, still without a way; down of one thing, up of another one. -/
import Derived.Test.YthfgdhobldejmaaMb
namespace Go.Proofs.Ythfgdhobldejmaa
open Go.RowKit

/-- What a function of two numbers and a way answers. -/
def OpC (K : Nat) (o : Nat → Nat → Bool → Nat × Int) : Prop :=
  ∀ x y up w, Dy.W x → Dy.W y → Calls Try.prog K #[.float .f64 x, .float .f64 y, .bool up] w fun e w' => e = .returned (.tuple #[.float .f64 (o x y up).1, .int .i64 (o x y up).2]) ∧ Below w.heap.size w w'

theorem opc_add : OpC 61 Dy.dAdd := fun x y up w hx hy => add_any x y up w hx hy
theorem opc_sub : OpC 51 Dy.dSub := fun x y up w hx hy => sub_any x y up w hx hy
theorem opc_mul : OpC 54 Dy.dMul := fun x y up w hx hy => mul_any x y up w hx hy
theorem opc_div : OpC 64 Dy.dDiv := fun x y up w hx hy => div_any x y up w hx hy

/-- An operation of two numbers, as it lies in memory from block B on. -/
abbrev clo (B : Nat) : Value := .func (Fn.func 86) #[] #[.pointer (some ⟨B, 0, none⟩), .pointer (some ⟨B + 1, 0, none⟩), .pointer (some ⟨B + 2, 0, none⟩)]
structure Clo (B : Nat) (K : Nat) (x y : Nat) (w : World) : Prop where
  lt : B + 2 < w.heap.size
  c0 : w.cell? ⟨B, 0, none⟩ = some (.func (Fn.func K) #[] #[])
  c1 : w.cell? ⟨B + 1, 0, none⟩ = some (.float .f64 x)
  c2 : w.cell? ⟨B + 2, 0, none⟩ = some (.float .f64 y)

theorem carry {n : Nat} {W W' : World} {b o : Nat} {v : Value} (hB : Below n W W') (hb : b < n) (h : W.cell? ⟨b, o, none⟩ = some v) : W'.cell? ⟨b, o, none⟩ = some v :=
  (hB.cell (p := ⟨b, o, none⟩) hb).trans h

theorem Clo.keep {B K x y : Nat} {w w' : World} (h : Clo B K x y w) (hb : Below w.heap.size w w') : Clo B K x y w' := by
  have hs := h.lt
  exact ⟨Nat.lt_of_lt_of_le hs hb.size, carry hb (by omega) h.c0, carry hb (by omega) h.c1, carry hb (by omega) h.c2⟩

/-- What 'of' leaves. -/
def OfPost (K x y : Nat) (w : World) (e : Ending) (w' : World) : Prop := e = .returned (clo w.heap.size) ∧ Below w.heap.size w w' ∧ Clo w.heap.size K x y w'

set_option maxHeartbeats 1000000 in
theorem ivOf2_any (K x y : Nat) (w : World) :
    Calls Try.prog 58 #[.func (Fn.func K) #[] #[], .float .f64 x, .float .f64 y] w (OfPost K x y w) := by
  go_enter Try.func58, Try.ntmps58
  go_wp2
  go_ret
  refine ⟨rfl, ?_, ?_⟩
  · exact (((Below.refl _ _).alloc (Nat.le_refl _) _).alloc (by simp) _).alloc (by simp; omega) _
  · exact ⟨by simp <;> omega, by simp [go_sem], by simp [go_sem], by simp [go_sem]⟩

set_option maxRecDepth 100000 in
set_option maxHeartbeats 1000000 in
theorem ofCall_add (B x y : Nat) (o : Nat → Nat → Bool → Nat × Int) (up : Bool) (w : World) (h : Clo B 61 x y w) (hx : Dy.W x) (hy : Dy.W y) (H : Hid (OpC 61 o)) :
    Calls Try.prog 86 #[.bool up, .pointer (some ⟨B, 0, none⟩), .pointer (some ⟨B + 1, 0, none⟩), .pointer (some ⟨B + 2, 0, none⟩)] w fun e w' => e = .returned (.tuple #[.float .f64 (o x y up).1, .int .i64 (o x y up).2]) ∧ Below w.heap.size w w' := by
  have c0 := h.c0
  have c1 := h.c1
  have c2 := h.c2
  have HC := hid (fun w => H.out x y up w hx hy)
  generalize o x y up = r at *
  clear h H
  go_enter Try.func86, Try.ntmps86
  go_wp2_with fail
  refine (HC.out _).mono ?_
  rintro e w1 ⟨rfl, hb⟩
  go_wp2_with fail
  go_ret2
  exact ⟨rfl, hb⟩

set_option maxRecDepth 100000 in
set_option maxHeartbeats 1000000 in
theorem ofCall_sub (B x y : Nat) (o : Nat → Nat → Bool → Nat × Int) (up : Bool) (w : World) (h : Clo B 51 x y w) (hx : Dy.W x) (hy : Dy.W y) (H : Hid (OpC 51 o)) :
    Calls Try.prog 86 #[.bool up, .pointer (some ⟨B, 0, none⟩), .pointer (some ⟨B + 1, 0, none⟩), .pointer (some ⟨B + 2, 0, none⟩)] w fun e w' => e = .returned (.tuple #[.float .f64 (o x y up).1, .int .i64 (o x y up).2]) ∧ Below w.heap.size w w' := by
  have c0 := h.c0
  have c1 := h.c1
  have c2 := h.c2
  have HC := hid (fun w => H.out x y up w hx hy)
  generalize o x y up = r at *
  clear h H
  go_enter Try.func86, Try.ntmps86
  go_wp2_with fail
  refine (HC.out _).mono ?_
  rintro e w1 ⟨rfl, hb⟩
  go_wp2_with fail
  go_ret2
  exact ⟨rfl, hb⟩

set_option maxRecDepth 100000 in
set_option maxHeartbeats 1000000 in
theorem ofCall_mul (B x y : Nat) (o : Nat → Nat → Bool → Nat × Int) (up : Bool) (w : World) (h : Clo B 54 x y w) (hx : Dy.W x) (hy : Dy.W y) (H : Hid (OpC 54 o)) :
    Calls Try.prog 86 #[.bool up, .pointer (some ⟨B, 0, none⟩), .pointer (some ⟨B + 1, 0, none⟩), .pointer (some ⟨B + 2, 0, none⟩)] w fun e w' => e = .returned (.tuple #[.float .f64 (o x y up).1, .int .i64 (o x y up).2]) ∧ Below w.heap.size w w' := by
  have c0 := h.c0
  have c1 := h.c1
  have c2 := h.c2
  have HC := hid (fun w => H.out x y up w hx hy)
  generalize o x y up = r at *
  clear h H
  go_enter Try.func86, Try.ntmps86
  go_wp2_with fail
  refine (HC.out _).mono ?_
  rintro e w1 ⟨rfl, hb⟩
  go_wp2_with fail
  go_ret2
  exact ⟨rfl, hb⟩

set_option maxRecDepth 100000 in
set_option maxHeartbeats 1000000 in
theorem ofCall_div (B x y : Nat) (o : Nat → Nat → Bool → Nat × Int) (up : Bool) (w : World) (h : Clo B 64 x y w) (hx : Dy.W x) (hy : Dy.W y) (H : Hid (OpC 64 o)) :
    Calls Try.prog 86 #[.bool up, .pointer (some ⟨B, 0, none⟩), .pointer (some ⟨B + 1, 0, none⟩), .pointer (some ⟨B + 2, 0, none⟩)] w fun e w' => e = .returned (.tuple #[.float .f64 (o x y up).1, .int .i64 (o x y up).2]) ∧ Below w.heap.size w w' := by
  have c0 := h.c0
  have c1 := h.c1
  have c2 := h.c2
  have HC := hid (fun w => H.out x y up w hx hy)
  generalize o x y up = r at *
  clear h H
  go_enter Try.func86, Try.ntmps86
  go_wp2_with fail
  refine (HC.out _).mono ?_
  rintro e w1 ⟨rfl, hb⟩
  go_wp2_with fail
  go_ret2
  exact ⟨rfl, hb⟩

set_option maxRecDepth 100000 in
set_option maxHeartbeats 1000000 in
theorem ofCall_sqrt (B x y : Nat) (o : Nat → Nat → Bool → Nat × Int) (up : Bool) (w : World) (h : Clo B 65 x y w) (hx : Dy.W x) (hy : Dy.W y) (H : Hid (OpC 65 o)) :
    Calls Try.prog 86 #[.bool up, .pointer (some ⟨B, 0, none⟩), .pointer (some ⟨B + 1, 0, none⟩), .pointer (some ⟨B + 2, 0, none⟩)] w fun e w' => e = .returned (.tuple #[.float .f64 (o x y up).1, .int .i64 (o x y up).2]) ∧ Below w.heap.size w w' := by
  have c0 := h.c0
  have c1 := h.c1
  have c2 := h.c2
  have HC := hid (fun w => H.out x y up w hx hy)
  generalize o x y up = r at *
  clear h H
  go_enter Try.func86, Try.ntmps86
  go_wp2_with fail
  refine (HC.out _).mono ?_
  rintro e w1 ⟨rfl, hb⟩
  go_wp2_with fail
  go_ret2
  exact ⟨rfl, hb⟩

/-- The five operations whose function values are called. -/
def Five (K : Nat) : Prop := K = 61 ∨ K = 51 ∨ K = 54 ∨ K = 64 ∨ K = 65
theorem ofCall_any (B K x y : Nat) (o : Nat → Nat → Bool → Nat × Int) (up : Bool) (w : World) (hK : Five K) (h : Clo B K x y w) (hx : Dy.W x) (hy : Dy.W y) (H : Hid (OpC K o)) :
    Calls Try.prog 86 #[.bool up, .pointer (some ⟨B, 0, none⟩), .pointer (some ⟨B + 1, 0, none⟩), .pointer (some ⟨B + 2, 0, none⟩)] w fun e w' => e = .returned (.tuple #[.float .f64 (o x y up).1, .int .i64 (o x y up).2]) ∧ Below w.heap.size w w' := by
  rcases hK with rfl | rfl | rfl | rfl | rfl
  · exact ofCall_add B x y o up w h hx hy H
  · exact ofCall_sub B x y o up w h hx hy H
  · exact ofCall_mul B x y o up w h hx hy H
  · exact ofCall_div B x y o up w h hx hy H
  · exact ofCall_sqrt B x y o up w h hx hy H

set_option maxHeartbeats 1000000 in
theorem ends_any (B C K x y x' y' : Nat) (o : Nat → Nat → Bool → Nat × Int) (w : World) (hK : Five K) (h : Clo B K x y w) (h' : Clo C K x' y' w) (hx : Dy.W x) (hy : Dy.W y) (hx' : Dy.W x') (hy' : Dy.W y') (H : Hid (OpC K o)) :
    Calls Try.prog 60 #[clo B, clo C] w fun e w' => e = .returned (.tuple #[iv (Dy.iEnds (o x y false) (o x' y' true)).1, .int .i64 (Dy.iEnds (o x y false) (o x' y' true)).2]) ∧ Below w.heap.size w w' := by
  have b0 : Below w.heap.size w (w.alloc (.cells #[.float .f64 0, .float .f64 0] 26)) := (Below.refl _ _).alloc (Nat.le_refl _) _
  have k1 := h.keep b0
  have k2 := h'.keep b0
  have H1 := hid (ofCall_any B K x y o false _ hK k1 hx hy H)
  have H2 := hid (fun w1 hb => ofCall_any C K x' y' o true w1 hK (k2.keep hb) hx' hy' H)
  have hE : ∀ r s : Nat × Int, Dy.iEnds r s = if r.2 = 0 then ((r.1, s.1), s.2) else Dy.ivNo r.2 := fun _ _ => rfl
  rw [hE]
  clear hE H h h' k1 k2
  generalize o x y false = r at *
  generalize o x' y' true = s at *
  obtain ⟨r1, r2⟩ := r
  obtain ⟨s1, s2⟩ := s
  dsimp only at *
  by_cases h0 : r2 = 0
  · subst h0
    rw [if_pos rfl]
    go_enter Try.func60, Try.ntmps60
    go_wp2_with fail
    refine H1.out.mono ?_
    rintro e w1 ⟨rfl, hb1⟩
    go_wp2_with fail
    refine (H2.out _ hb1).mono ?_
    rintro e w2 ⟨rfl, hb2⟩
    have hb := hb1.trans (hb2.mono hb1.size)
    have c0 : w2.cell? ⟨w.heap.size, 0, none⟩ = some (.float .f64 0) := carry hb (by simp) (by simp [go_sem])
    have c1 : w2.cell? ⟨w.heap.size, 1, none⟩ = some (.float .f64 0) := carry hb (by simp) (by simp [go_sem])
    have f0 : w2.frozen? ⟨w.heap.size, 0, none⟩ = false := (hb.frozen (p := ⟨w.heap.size, 0, none⟩) (by simp)).trans (by simp [go_sem])
    have f1 : w2.frozen? ⟨w.heap.size, 1, none⟩ = false := (hb.frozen (p := ⟨w.heap.size, 1, none⟩) (by simp)).trans (by simp [go_sem])
    have hz := hb.size
    simp at hz
    go_wp2_with fail
    refine bodyPost_ret (v := .tuple #[iv (r1, s1), .int .i64 s2]) (by simp [results, Try.results60, go_sem, c0, c1]) rfl ⟨rfl, ?_⟩
    exact ((b0.trans (hb.mono (by simp))).setCell (by simp) _).setCell (by simp) _
  · rw [if_neg h0]
    have h1 : (r2 != 0) = true := by simpa using h0
    go_enter Try.func60, Try.ntmps60
    go_wp2_with fail
    refine H1.out.mono ?_
    rintro e w1 ⟨rfl, hb1⟩
    go_wp2_with fail
    refine (H2.out _ hb1).mono ?_
    rintro e w2 ⟨rfl, hb2⟩
    have hb := hb1.trans (hb2.mono hb1.size)
    have c0 : w2.cell? ⟨w.heap.size, 0, none⟩ = some (.float .f64 0) := carry hb (by simp) (by simp [go_sem])
    have c1 : w2.cell? ⟨w.heap.size, 1, none⟩ = some (.float .f64 0) := carry hb (by simp) (by simp [go_sem])
    have f0 : w2.frozen? ⟨w.heap.size, 0, none⟩ = false := (hb.frozen (p := ⟨w.heap.size, 0, none⟩) (by simp)).trans (by simp [go_sem])
    have f1 : w2.frozen? ⟨w.heap.size, 1, none⟩ = false := (hb.frozen (p := ⟨w.heap.size, 1, none⟩) (by simp)).trans (by simp [go_sem])
    have hz := hb.size
    simp at hz
    go_wp2_with fail
    refine bodyPost_ret (v := .tuple #[iv (0, 0), .int .i64 r2]) (by simp [results, Try.results60, go_sem, c0, c1]) rfl ⟨rfl, ?_⟩
    exact ((b0.trans (hb.mono (by simp))).setCell (by simp) _).setCell (by simp) _
end Go.Proofs.Ythfgdhobldejmaa
