/- Walks: package ival: a calculator's Sqrt, Sqr: the methods. Walks: package lambert: what a formula tells, if all arguments are right, and within 0 and 1. Walks: package lambert: Value, Density, Cap. Walks: package lambert: Value, Density, Cap: the functions. -/
import Derived.Test.YtiphdhpacklboaaN3
import Derived.Test.YtiphdhpacklboaaN2
/-! Walks: package ival: a calculator's Sqrt, Sqr: the methods. -/
namespace Go.Proofs.Ytiphdhpacklboaa
open Go.RowKit

theorem below3 (w : World) (o1 o2 o3 : Obj) : Below w.heap.size w (((w.alloc o1).alloc o2).alloc o3) :=
  (((Below.refl _ _).alloc (Nat.le_refl _) _).alloc (by simp) _).alloc (by simp; omega) _

set_option maxRecDepth 100000 in
set_option maxHeartbeats 4000000 in
theorem calSqrt_any (c : Nat) (err : Int) (a : Nat × Nat) (w : World) (hc : Cal c err w) (ha : Dy.WW a) :
    Calls Try.prog 50 #[.pointer (some ⟨c, 0, none⟩), iv a] w (Asked c (Dy.cSqrt err a) w) := by
  have HA := hid (fun (w1 : World) (k : Cal c err w1) (p q t : Nat) (hi : Inn p q q (.func (Fn.func 96) #[.func (Fn.func 109) #[] #[]] #[]) a a w1) (ht : t < w1.heap.size) (t0 : w1.cell? ⟨t, 0, none⟩ = some (.float .f64 a.1)) (t1 : w1.cell? ⟨t, 1, none⟩ = some (.float .f64 a.2)) =>
    ask_sqrt c err ⟨p, 0, none⟩ ⟨q, 0, none⟩ a (Dy.iEnds (Dy.dSqrt a.1 false) (Dy.dSqrt a.2 true)) w1 t ht k ha t0 t1 (fun _ => hid (sqrt2_ans a p q w1 ha hi)))
  have hE : Dy.cSqrt err a = Dy.cAsk err (Dy.ivR a) (Dy.iEnds (Dy.dSqrt a.1 false) (Dy.dSqrt a.2 true)) := rfl
  rw [hE]
  generalize Dy.cAsk err (Dy.ivR a) (Dy.iEnds (Dy.dSqrt a.1 false) (Dy.dSqrt a.2 true)) = r at *
  obtain ⟨⟨r1, r2⟩, re⟩ := r
  obtain ⟨a1, a2⟩ := a
  clear hE
  dsimp only at *
  have HC := hid hc
  clear hc ha
  go_enter Try.func50, Try.ntmps50
  go_wp2_with fail
  refine (HA.out _ (HC.out.keep (below4 w _ _ _ _)) (w.heap.size + 2) w.heap.size (w.heap.size + 3) ⟨by simp <;> omega, by simp <;> omega, by simp <;> omega, by simp [go_sem], by simp [go_sem], by simp [go_sem], by simp [go_sem], by simp [go_sem]⟩ (by simp <;> omega) (by simp [go_sem]) (by simp [go_sem])).mono ?_
  rintro e w1 ⟨rfl, hB, hC⟩
  have hlt := HC.out.lt
  obtain ⟨q1, q2⟩ := asked_cells (q := w.heap.size + 1) hB (by simp <;> omega) (by omega)
  have c0 : w1.cell? ⟨w.heap.size + 1, 0, none⟩ = some (.float .f64 0) := (q1 0).trans (by simp [go_sem])
  have c1 : w1.cell? ⟨w.heap.size + 1, 1, none⟩ = some (.float .f64 0) := (q1 1).trans (by simp [go_sem])
  have f0 : w1.frozen? ⟨w.heap.size + 1, 0, none⟩ = false := (q2 0).trans (by simp [go_sem])
  have f1 : w1.frozen? ⟨w.heap.size + 1, 1, none⟩ = false := (q2 1).trans (by simp [go_sem])
  clear q1 q2
  go_wp2_with fail
  exact bodyPost_ret (v := iv (r1, r2)) (by simp [results, Try.results50, go_sem, c0, c1]) rfl ⟨rfl, asked_end (below4 w _ _ _ _) hB hC (by omega) (by omega)⟩

set_option maxRecDepth 100000 in
set_option maxHeartbeats 4000000 in
theorem calSqr_any (c : Nat) (err : Int) (a : Nat × Nat) (w : World) (hc : Cal c err w) (ha : Dy.WW a) :
    Calls Try.prog 42 #[.pointer (some ⟨c, 0, none⟩), iv a] w (Asked c (Dy.cSqr err a) w) := by
  have HA := hid (fun (w1 : World) (k : Cal c err w1) (q t : Nat) (hi : Ivl q a w1) (ht : t < w1.heap.size) (t0 : w1.cell? ⟨t, 0, none⟩ = some (.float .f64 a.1)) (t1 : w1.cell? ⟨t, 1, none⟩ = some (.float .f64 a.2)) =>
    ask_sqr c err ⟨q, 0, none⟩ a (Dy.iEnds (Dy.dMul (Dy.iBare a).1 (Dy.iBare a).1 false) (Dy.dMul (Dy.iBare a).2 (Dy.iBare a).2 true)) w1 t ht k ha t0 t1 (fun ra => hid (sqr1_ans a q w1 ha ra hi)))
  have hE : Dy.cSqr err a = Dy.cAsk err (Dy.ivR a) (Dy.iEnds (Dy.dMul (Dy.iBare a).1 (Dy.iBare a).1 false) (Dy.dMul (Dy.iBare a).2 (Dy.iBare a).2 true)) := rfl
  rw [hE]
  generalize Dy.cAsk err (Dy.ivR a) (Dy.iEnds (Dy.dMul (Dy.iBare a).1 (Dy.iBare a).1 false) (Dy.dMul (Dy.iBare a).2 (Dy.iBare a).2 true)) = r at *
  obtain ⟨⟨r1, r2⟩, re⟩ := r
  obtain ⟨a1, a2⟩ := a
  clear hE
  dsimp only at *
  have HC := hid hc
  clear hc ha
  go_enter Try.func42, Try.ntmps42
  go_wp2_with fail
  refine (HA.out _ (HC.out.keep (below3 w _ _ _)) w.heap.size (w.heap.size + 2) ⟨by simp <;> omega, by simp [go_sem], by simp [go_sem]⟩ (by simp <;> omega) (by simp [go_sem]) (by simp [go_sem])).mono ?_
  rintro e w1 ⟨rfl, hB, hC⟩
  have hlt := HC.out.lt
  obtain ⟨q1, q2⟩ := asked_cells (q := w.heap.size + 1) hB (by simp <;> omega) (by omega)
  have c0 : w1.cell? ⟨w.heap.size + 1, 0, none⟩ = some (.float .f64 0) := (q1 0).trans (by simp [go_sem])
  have c1 : w1.cell? ⟨w.heap.size + 1, 1, none⟩ = some (.float .f64 0) := (q1 1).trans (by simp [go_sem])
  have f0 : w1.frozen? ⟨w.heap.size + 1, 0, none⟩ = false := (q2 0).trans (by simp [go_sem])
  have f1 : w1.frozen? ⟨w.heap.size + 1, 1, none⟩ = false := (q2 1).trans (by simp [go_sem])
  clear q1 q2
  go_wp2_with fail
  exact bodyPost_ret (v := iv (r1, r2)) (by simp [results, Try.results42, go_sem, c0, c1]) rfl ⟨rfl, asked_end (below3 w _ _ _) hB hC (by omega) (by omega)⟩

end Go.Proofs.Ytiphdhpacklboaa
/-! Walks: package lambert: what a formula tells, if all arguments are right, and within 0 and 1. -/
namespace Go.Proofs.Ytiphdhpacklboaa
open Go.RowKit

theorem St.keepm {w w1 w2 : World} {m : Nat} (h : St w w1) (hb : Below m w1 w2) (hm : w.heap.size < m) (hs : w1.heap.size ≤ w2.heap.size) : St w w2 := by
  have hz := h.sz
  exact ⟨h.bel.trans (hb.mono (by omega)), by omega, carry hb hm h.z0, carry hb hm h.z1, (hb.frozen (p := ⟨w.heap.size, 0, none⟩) hm).trans h.f0, (hb.frozen (p := ⟨w.heap.size, 1, none⟩) hm).trans h.f1⟩

/-- Is an interval's end out of 0 to 1? -/
def oL (a : Nat × Nat) : Bool := Dy.flt a.1 0
def oH (a : Nat × Nat) : Bool := Dy.fgt a.2 4607182418800017408
/-- What 'of' answers. -/
def lamRes (r : (Nat × Nat) × Int) : (Nat × Nat) × Int := if r.2 = 0 then (r.1, 0) else Dy.ivNo r.2
def lam1 (a : Nat × Nat) (r : (Nat × Nat) × Int) : (Nat × Nat) × Int :=
  if Dy.ivR a then (if oL a || oH a then Dy.ivNo 2 else lamRes r) else Dy.ivNo 20
def lam2 (a b : Nat × Nat) (r : (Nat × Nat) × Int) : (Nat × Nat) × Int :=
  if Dy.ivR a && Dy.ivR b then (if oL a || oH a || oL b || oH b then Dy.ivNo 2 else lamRes r) else Dy.ivNo 20

/-- What a formula answers, asked with any new calculator, in each world that holds what this one holds. -/
def AnsF (K : Nat) (args : Value → Array Value) (r : (Nat × Nat) × Int) (w : World) : Prop :=
  ∀ w' c, Below w.heap.size w w' → Cal c 0 w' → w.heap.size ≤ c → Calls Try.prog K (args (.pointer (some ⟨c, 0, none⟩))) w' (Asked c r w')

end Go.Proofs.Ytiphdhpacklboaa
/-! Walks: package lambert: Value, Density, Cap. -/
namespace Go.Proofs.Ytiphdhpacklboaa
open Go.RowKit

theorem Ivl.keepBut {s c : Nat} {b : Nat × Nat} {w w' : World} (h : Ivl s b w) (hB : But c w.heap.size w w') (hc : s ≠ c) : Ivl s b w' :=
  ⟨Nat.lt_of_lt_of_le h.lt hB.size, (hB.cell h.lt hc).trans h.s0, (hB.cell h.lt hc).trans h.s1⟩
theorem Out.keepBut {t c : Nat} {w w' : World} (h : Out t w) (hB : But c w.heap.size w w') (hc : t ≠ c) : Out t w' :=
  ⟨Nat.lt_of_lt_of_le h.lt hB.size, (hB.cell h.lt hc).trans h.z0, (hB.cell h.lt hc).trans h.z1, (hB.frozen h.lt hc).trans h.f0, (hB.frozen h.lt hc).trans h.f1⟩

theorem WW_pi : Dy.WW piIv := ⟨W_lit (by decide), W_lit (by decide)⟩

/-- What Cap's formula tells. -/
def capF (a b : Nat × Nat) : (Nat × Nat) × Int :=
  Dy.cMul (Dy.cSub (Dy.cSqr 0 b).2 (4607182418800017408, 4607182418800017408) (Dy.cSqr 0 b).1).2 a (Dy.cSub (Dy.cSqr 0 b).2 (4607182418800017408, 4607182418800017408) (Dy.cSqr 0 b).1).1

theorem num_one : Dy.cNum 0 4607182418800017408 = ((4607182418800017408, 4607182418800017408), 0) := by
  unfold Dy.cNum Dy.cAsk; rw [Dy.right_one]; rfl
theorem WW_one : Dy.WW (4607182418800017408, 4607182418800017408) := ⟨Dy.W_one, Dy.W_one⟩

end Go.Proofs.Ytiphdhpacklboaa
/-! Walks: package lambert: Value, Density, Cap: the functions. -/
namespace Go.Proofs.Ytiphdhpacklboaa
open Go.RowKit

theorem below2 (w : World) (o1 o2 : Obj) : Below w.heap.size w ((w.alloc o1).alloc o2) := ((Below.refl _ _).alloc (Nat.le_refl _) _).alloc (by simp) _

/-- A value. -/
def lamV (a : Nat × Nat) : (Nat × Nat) × Int := lam1 a (Dy.cDiv 0 a piIv)
/-- What a cap scatters. -/
def lamC (a b : Nat × Nat) : (Nat × Nat) × Int := lam2 a b (capF a b)

end Go.Proofs.Ytiphdhpacklboaa
