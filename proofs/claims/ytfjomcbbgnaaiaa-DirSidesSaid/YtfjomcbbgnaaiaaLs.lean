/- Walks: the law DirSides: what its rounds keep, and its calls. -/
import Derived.Test.YtfjomcbbgnaaiaaWz
import Derived.Test.YtfjomcbbgnaaiaaKh
import Derived.LoopTactic
import Derived.Deep.RegionHeld3
import Derived.StillTailTactics
import Derived.Outline
namespace Go.Proofs.Ytfjomcbbgnaaiaa
open Go.RowKit

abbrev fnv (k : Nat) (S : Nat) : Value := .func (Fn.func k) #[] #[.pointer (some ⟨S, 0, none⟩), .pointer (some ⟨S + 1, 0, none⟩)]

/-- What holds at the head of each round: both operands, the nearest results and the calls lie where they were. -/
structure Held (w0 : World) (a b n0 n1 n2 n3 n4 : Nat) (wr : World) : Prop where
  sz : w0.heap.size + 4 ≤ wr.heap.size
  bel : Below w0.heap.size w0 wr
  ca : wr.cell? ⟨w0.heap.size, 0, none⟩ = some (.float .f64 a)
  cb : wr.cell? ⟨w0.heap.size + 1, 0, none⟩ = some (.float .f64 b)
  c0 : wr.cell? ⟨w0.heap.size + 1 + 1, 0, none⟩ = some (.float .f64 n0)
  c1 : wr.cell? ⟨w0.heap.size + 1 + 1, 1, none⟩ = some (.float .f64 n1)
  c2 : wr.cell? ⟨w0.heap.size + 1 + 1, 2, none⟩ = some (.float .f64 n2)
  c3 : wr.cell? ⟨w0.heap.size + 1 + 1, 3, none⟩ = some (.float .f64 n3)
  c4 : wr.cell? ⟨w0.heap.size + 1 + 1, 4, none⟩ = some (.float .f64 n4)
  f0 : wr.cell? ⟨w0.heap.size + 1 + 1 + 1, 0, none⟩ = some (fnv 32 w0.heap.size)
  f1 : wr.cell? ⟨w0.heap.size + 1 + 1 + 1, 1, none⟩ = some (fnv 33 w0.heap.size)
  f2 : wr.cell? ⟨w0.heap.size + 1 + 1 + 1, 2, none⟩ = some (fnv 34 w0.heap.size)
  f3 : wr.cell? ⟨w0.heap.size + 1 + 1 + 1, 3, none⟩ = some (fnv 35 w0.heap.size)
  f4 : wr.cell? ⟨w0.heap.size + 1 + 1 + 1, 4, none⟩ = some (.func (Fn.func 36) #[] #[.pointer (some ⟨w0.heap.size, 0, none⟩)])

theorem carry' {n : Nat} {W W' : World} {b o : Nat} {v : Value} (hB : Below n W W') (hb : b < n) (h : W.cell? ⟨b, o, none⟩ = some v) : W'.cell? ⟨b, o, none⟩ = some v :=
  (hB.cell (p := ⟨b, o, none⟩) hb).trans h

theorem Held.keep {w0 : World} {a b n0 n1 n2 n3 n4 : Nat} {wr wc : World} (h : Held w0 a b n0 n1 n2 n3 n4 wr) (hB : Below wr.heap.size wr wc) : Held w0 a b n0 n1 n2 n3 n4 wc := by
  have hs := h.sz
  have hz := hB.size
  exact ⟨by omega, h.bel.trans (hB.mono (by omega)), carry' hB (by omega) h.ca, carry' hB (by omega) h.cb,
    carry' hB (by omega) h.c0, carry' hB (by omega) h.c1, carry' hB (by omega) h.c2, carry' hB (by omega) h.c3, carry' hB (by omega) h.c4, carry' hB (by omega) h.f0, carry' hB (by omega) h.f1, carry' hB (by omega) h.f2, carry' hB (by omega) h.f3, carry' hB (by omega) h.f4⟩

theorem side1_eq {a b : Nat} {up : Bool} {r : Nat × Int} (h : Dy.dAdd a b up = r) (p q : Addr) (w : World) (ha : Dy.W a) (hb : Dy.W b) (hp : w.cell? p = some (.float .f64 a)) (hq : w.cell? q = some (.float .f64 b)) :
    Calls Try.prog 32 #[.bool up, .pointer (some p), .pointer (some q)] w fun e w' => e = .returned (.tuple #[.float .f64 r.1, .int .i64 r.2]) ∧ Below w.heap.size w w' := by
  subst h; exact side1 a b up p q w ha hb hp hq
theorem side2_eq {a b : Nat} {up : Bool} {r : Nat × Int} (h : Dy.dSub a b up = r) (p q : Addr) (w : World) (ha : Dy.W a) (hb : Dy.W b) (hp : w.cell? p = some (.float .f64 a)) (hq : w.cell? q = some (.float .f64 b)) :
    Calls Try.prog 33 #[.bool up, .pointer (some p), .pointer (some q)] w fun e w' => e = .returned (.tuple #[.float .f64 r.1, .int .i64 r.2]) ∧ Below w.heap.size w w' := by
  subst h; exact side2 a b up p q w ha hb hp hq
theorem side3_eq {a b : Nat} {up : Bool} {r : Nat × Int} (h : Dy.dMul a b up = r) (p q : Addr) (w : World) (ha : Dy.W a) (hb : Dy.W b) (hp : w.cell? p = some (.float .f64 a)) (hq : w.cell? q = some (.float .f64 b)) :
    Calls Try.prog 34 #[.bool up, .pointer (some p), .pointer (some q)] w fun e w' => e = .returned (.tuple #[.float .f64 r.1, .int .i64 r.2]) ∧ Below w.heap.size w w' := by
  subst h; exact side3 a b up p q w ha hb hp hq
theorem side4_eq {a b : Nat} {up : Bool} {r : Nat × Int} (h : Dy.dDiv a b up = r) (p q : Addr) (w : World) (ha : Dy.W a) (hb : Dy.W b) (hp : w.cell? p = some (.float .f64 a)) (hq : w.cell? q = some (.float .f64 b)) :
    Calls Try.prog 35 #[.bool up, .pointer (some p), .pointer (some q)] w fun e w' => e = .returned (.tuple #[.float .f64 r.1, .int .i64 r.2]) ∧ Below w.heap.size w w' := by
  subst h; exact side4 a b up p q w ha hb hp hq
theorem side5_eq {a : Nat} {up : Bool} {r : Nat × Int} (h : Dy.dSqrt a up = r) (p : Addr) (w : World) (ha : Dy.W a) (hp : w.cell? p = some (.float .f64 a)) :
    Calls Try.prog 36 #[.bool up, .pointer (some p)] w fun e w' => e = .returned (.tuple #[.float .f64 r.1, .int .i64 r.2]) ∧ Below w.heap.size w w' := by
  subst h; exact side5 a up p w ha hp

theorem run_quo_none (a b : Nat) (t : TypeId) (w : World) (h : Ieee.double.div a b = none) : (binOp .quo t (.float .f64 a) (.float .f64 b)).run Try.prog w = .ok (.float .f64 ((Question.nanBits .f64 a b).cut (w.tape w.drawn (.nanBits .f64 a b)))) w.drew := by
  have h' : FloatKind.f64.format.div a b = none := h
  have hf : (Question.nanBits FloatKind.f64 a b).forced = false := rfl
  simp [binOp, Op.floatArith, h', hf]

theorem step_eq {x n : Nat} {up : Bool} {e : Int} (h : Dy.dNext x up = (n, e)) (w : World) (hx : Dy.W x) :
    Calls Try.prog 24 #[.float .f64 x, .bool up] w fun e' w' => e' = .returned (.tuple #[.float .f64 n, .bool (e == 0)]) ∧ Below w.heap.size w w' := by
  have H := step_any x up w hx
  rw [h] at H; exact H

end Go.Proofs.Ytfjomcbbgnaaiaa
