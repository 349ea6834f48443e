/- Walks: package ival: a calculator's Sqrt, Sqr: the methods. Walks: package lambert: what a formula tells, if all arguments are right, and within 0 and 1. Walks: package lambert: Value, Density, Cap. Walks: package lambert: Value, Density, Cap: the functions. -/
import Derived.Test.YtinhbebjlbnejaaDoorN3
import Derived.Test.YtinhbebjlbnejaaDoorN2
/-! Walks: package ival: a calculator's Sqrt, Sqr: the methods. -/
namespace Go.Proofs.YtinhbebjlbnejaaDoor
open Go.RowKit

theorem below3 (w : World) (o1 o2 o3 : Obj) : Below w.heap.size w (((w.alloc o1).alloc o2).alloc o3) :=
  (((Below.refl _ _).alloc (Nat.le_refl _) _).alloc (by simp) _).alloc (by simp; omega) _

end Go.Proofs.YtinhbebjlbnejaaDoor
/-! Walks: package lambert: what a formula tells, if all arguments are right, and within 0 and 1. -/
namespace Go.Proofs.YtinhbebjlbnejaaDoor
open Go.RowKit

theorem St.keepm {w w1 w2 : World} {m : Nat} (h : St w w1) (hb : Below m w1 w2) (hm : w.heap.size < m) (hs : w1.heap.size ≤ w2.heap.size) : St w w2 := by
  have hz := h.sz
  exact ⟨h.bel.trans (hb.mono (by omega)), by omega, carry hb hm h.z0, carry hb hm h.z1, (hb.frozen (p := ⟨w.heap.size, 0, none⟩) hm).trans h.f0, (hb.frozen (p := ⟨w.heap.size, 1, none⟩) hm).trans h.f1⟩

/-- Is an interval's end out of 0 to 1? -/
def oL (a : Nat × Nat) : Bool := Dy.flt a.1 0
def oH (a : Nat × Nat) : Bool := Dy.fgt a.2 4607182418800017408
/-- What 'of' answers. -/
def lamRes (r : (Nat × Nat) × Int) : (Nat × Nat) × Int := if r.2 = 0 then (r.1, 0) else Dy.ivNo r.2
def lam1 (a : Nat × Nat) (r : (Nat × Nat) × Int) : (Nat × Nat) × Int :=
  if Dy.ivR a then (if oL a || oH a then Dy.ivNo 2 else lamRes r) else Dy.ivNo 20
def lam2 (a b : Nat × Nat) (r : (Nat × Nat) × Int) : (Nat × Nat) × Int :=
  if Dy.ivR a && Dy.ivR b then (if oL a || oH a || oL b || oH b then Dy.ivNo 2 else lamRes r) else Dy.ivNo 20

/-- What a formula answers, asked with any new calculator, in each world that holds what this one holds. -/
def AnsF (K : Nat) (args : Value → Array Value) (r : (Nat × Nat) × Int) (w : World) : Prop :=
  ∀ w' c, Below w.heap.size w w' → Cal c 0 w' → w.heap.size ≤ c → Calls Tryd.prog K (args (.pointer (some ⟨c, 0, none⟩))) w' (Asked c r w')

end Go.Proofs.YtinhbebjlbnejaaDoor
/-! Walks: package lambert: Value, Density, Cap. -/
namespace Go.Proofs.YtinhbebjlbnejaaDoor
open Go.RowKit

theorem Ivl.keepBut {s c : Nat} {b : Nat × Nat} {w w' : World} (h : Ivl s b w) (hB : But c w.heap.size w w') (hc : s ≠ c) : Ivl s b w' :=
  ⟨Nat.lt_of_lt_of_le h.lt hB.size, (hB.cell h.lt hc).trans h.s0, (hB.cell h.lt hc).trans h.s1⟩
theorem Out.keepBut {t c : Nat} {w w' : World} (h : Out t w) (hB : But c w.heap.size w w') (hc : t ≠ c) : Out t w' :=
  ⟨Nat.lt_of_lt_of_le h.lt hB.size, (hB.cell h.lt hc).trans h.z0, (hB.cell h.lt hc).trans h.z1, (hB.frozen h.lt hc).trans h.f0, (hB.frozen h.lt hc).trans h.f1⟩

theorem WW_pi : Dy.WW piIv := ⟨W_lit (by decide), W_lit (by decide)⟩

/-- What Cap's formula tells. -/
def capF (a b : Nat × Nat) : (Nat × Nat) × Int :=
  Dy.cMul (Dy.cSub (Dy.cSqr 0 b).2 (4607182418800017408, 4607182418800017408) (Dy.cSqr 0 b).1).2 a (Dy.cSub (Dy.cSqr 0 b).2 (4607182418800017408, 4607182418800017408) (Dy.cSqr 0 b).1).1

theorem num_one : Dy.cNum 0 4607182418800017408 = ((4607182418800017408, 4607182418800017408), 0) := by
  unfold Dy.cNum Dy.cAsk; rw [Dy.right_one]; rfl
theorem WW_one : Dy.WW (4607182418800017408, 4607182418800017408) := ⟨Dy.W_one, Dy.W_one⟩

end Go.Proofs.YtinhbebjlbnejaaDoor
/-! Walks: package lambert: Value, Density, Cap: the functions. -/
namespace Go.Proofs.YtinhbebjlbnejaaDoor
open Go.RowKit

theorem below2 (w : World) (o1 o2 : Obj) : Below w.heap.size w ((w.alloc o1).alloc o2) := ((Below.refl _ _).alloc (Nat.le_refl _) _).alloc (by simp) _

/-- A value. -/
def lamV (a : Nat × Nat) : (Nat × Nat) × Int := lam1 a (Dy.cDiv 0 a piIv)
/-- What a cap scatters. -/
def lamC (a b : Nat × Nat) : (Nat × Nat) × Int := lam2 a b (capF a b)

end Go.Proofs.YtinhbebjlbnejaaDoor
