/- Walks: package lambert: Value, Density, Cap: the functions. -/
import Derived.Test.YthfgdhobldejmaaMw
namespace Go.Proofs.Ythfgdhobldejmaa
open Go.RowKit

theorem below2 (w : World) (o1 o2 : Obj) : Below w.heap.size w ((w.alloc o1).alloc o2) := ((Below.refl _ _).alloc (Nat.le_refl _) _).alloc (by simp) _

/-- A value. -/
def lamV (a : Nat × Nat) : (Nat × Nat) × Int := lam1 a (Dy.cDiv 0 a piIv)
/-- What a cap scatters. -/
def lamC (a b : Nat × Nat) : (Nat × Nat) × Int := lam2 a b (capF a b)

set_option maxRecDepth 100000 in
set_option maxHeartbeats 4000000 in
theorem lamValue_any (a : Nat × Nat) (w : World) (ha : Dy.WW a) :
    Calls Try.prog 13 #[iv a] w fun e w' => e = .returned (.tuple #[iv (lamV a).1, .int .i64 (lamV a).2]) ∧ Below w.heap.size w w' := by
  have HV := hid (fun (w1 : World) (p s : Nat) (hi : Ivl p a w1) (hj : Ivl s a w1) => of_value ⟨p, 0, none⟩ a (Dy.cDiv 0 a piIv) w1 s hj.lt ha hj.s0 hj.s1 (hid (value1_ans a p w1 ha hi)))
  have hE : lam1 a (Dy.cDiv 0 a piIv) = lamV a := rfl
  rw [hE] at HV
  clear hE ha
  generalize lamV a = r at *
  obtain ⟨⟨r1, r2⟩, re⟩ := r
  obtain ⟨a1, a2⟩ := a
  dsimp only at *
  go_enter Try.func13, Try.ntmps13
  go_wp2_with fail
  refine (HV.out _ w.heap.size (w.heap.size + 2) ⟨by simp <;> omega, by simp [go_sem], by simp [go_sem]⟩ ⟨by simp <;> omega, by simp [go_sem], by simp [go_sem]⟩).mono ?_
  rintro e w1 ⟨rfl, hb⟩
  have c0 : w1.cell? ⟨w.heap.size + 1, 0, none⟩ = some (.float .f64 0) := carry hb (by simp <;> omega) (by simp [go_sem])
  have c1 : w1.cell? ⟨w.heap.size + 1, 1, none⟩ = some (.float .f64 0) := carry hb (by simp <;> omega) (by simp [go_sem])
  have f0 : w1.frozen? ⟨w.heap.size + 1, 0, none⟩ = false := (hb.frozen (p := ⟨w.heap.size + 1, 0, none⟩) (by simp <;> omega)).trans (by simp [go_sem])
  have f1 : w1.frozen? ⟨w.heap.size + 1, 1, none⟩ = false := (hb.frozen (p := ⟨w.heap.size + 1, 1, none⟩) (by simp <;> omega)).trans (by simp [go_sem])
  have hb' := (below3 w _ _ _).trans (hb.mono (below3 w _ _ _).size)
  clear hb
  go_wp2_with fail
  exact bodyPost_ret (v := .tuple #[iv (r1, r2), .int .i64 re]) (by simp [results, Try.results13, go_sem, c0, c1]) rfl ⟨rfl, (hb'.setCell (by simp; try omega) _).setCell (by simp; try omega) _⟩

set_option maxRecDepth 100000 in
set_option maxHeartbeats 4000000 in
theorem lamCap_any (a b : Nat × Nat) (w : World) (ha : Dy.WW a) (hb : Dy.WW b) :
    Calls Try.prog 12 #[iv a, iv b] w fun e w' => e = .returned (.tuple #[iv (lamC a b).1, .int .i64 (lamC a b).2]) ∧ Below w.heap.size w w' := by
  have HV := hid (fun (w1 : World) (p q s : Nat) (hi : Ivl p a w1) (hj : Ivl q b w1) (ls : s < w1.heap.size) (s0 : w1.cell? ⟨s, 0, none⟩ = some (.float .f64 a.1)) (s1 : w1.cell? ⟨s, 1, none⟩ = some (.float .f64 a.2)) (s2 : w1.cell? ⟨s, 2, none⟩ = some (.float .f64 b.1)) (s3 : w1.cell? ⟨s, 3, none⟩ = some (.float .f64 b.2)) =>
    of_cap ⟨p, 0, none⟩ ⟨q, 0, none⟩ a b (capF a b) w1 s ls ha hb s0 s1 s2 s3 (hid (cap1_ans a b p q w1 ha hb hi hj)))
  have hE : lam2 a b (capF a b) = lamC a b := rfl
  rw [hE] at HV
  clear hE ha hb
  generalize lamC a b = r at *
  obtain ⟨⟨r1, r2⟩, re⟩ := r
  obtain ⟨a1, a2⟩ := a
  obtain ⟨b1, b2⟩ := b
  dsimp only at *
  go_enter Try.func12, Try.ntmps12
  go_wp2_with fail
  refine (HV.out _ w.heap.size (w.heap.size + 1) (w.heap.size + 3) ⟨by simp <;> omega, by simp [go_sem], by simp [go_sem]⟩ ⟨by simp <;> omega, by simp [go_sem], by simp [go_sem]⟩ (by simp <;> omega) (by simp [go_sem]) (by simp [go_sem]) (by simp [go_sem]) (by simp [go_sem])).mono ?_
  rintro e w1 ⟨rfl, hb⟩
  have c0 : w1.cell? ⟨w.heap.size + 2, 0, none⟩ = some (.float .f64 0) := carry hb (by simp <;> omega) (by simp [go_sem])
  have c1 : w1.cell? ⟨w.heap.size + 2, 1, none⟩ = some (.float .f64 0) := carry hb (by simp <;> omega) (by simp [go_sem])
  have f0 : w1.frozen? ⟨w.heap.size + 2, 0, none⟩ = false := (hb.frozen (p := ⟨w.heap.size + 2, 0, none⟩) (by simp <;> omega)).trans (by simp [go_sem])
  have f1 : w1.frozen? ⟨w.heap.size + 2, 1, none⟩ = false := (hb.frozen (p := ⟨w.heap.size + 2, 1, none⟩) (by simp <;> omega)).trans (by simp [go_sem])
  have hb' := (below4 w _ _ _ _).trans (hb.mono (below4 w _ _ _ _).size)
  clear hb
  go_wp2_with fail
  exact bodyPost_ret (v := .tuple #[iv (r1, r2), .int .i64 re]) (by simp [results, Try.results12, go_sem, c0, c1]) rfl ⟨rfl, (hb'.setCell (by simp; try omega) _).setCell (by simp; try omega) _⟩

set_option maxHeartbeats 1000000 in
theorem lamDens_any (a : Nat × Nat) (w : World) (ha : Dy.WW a) :
    Calls Try.prog 31 #[iv a] w fun e w' => e = .returned (.tuple #[iv (lamV a).1, .int .i64 (lamV a).2]) ∧ Below w.heap.size w w' := by
  have H := hid (fun w => lamValue_any a w ha)
  clear ha
  generalize lamV a = r at *
  obtain ⟨⟨r1, r2⟩, re⟩ := r
  obtain ⟨a1, a2⟩ := a
  dsimp only at *
  go_enter Try.func31, Try.ntmps31
  go_wp2_with fail
  refine (H.out _).mono ?_
  rintro e w1 ⟨rfl, hb⟩
  have c0 : w1.cell? ⟨w.heap.size + 1, 0, none⟩ = some (.float .f64 0) := carry hb (by simp <;> omega) (by simp [go_sem])
  have c1 : w1.cell? ⟨w.heap.size + 1, 1, none⟩ = some (.float .f64 0) := carry hb (by simp <;> omega) (by simp [go_sem])
  have f0 : w1.frozen? ⟨w.heap.size + 1, 0, none⟩ = false := (hb.frozen (p := ⟨w.heap.size + 1, 0, none⟩) (by simp <;> omega)).trans (by simp [go_sem])
  have f1 : w1.frozen? ⟨w.heap.size + 1, 1, none⟩ = false := (hb.frozen (p := ⟨w.heap.size + 1, 1, none⟩) (by simp <;> omega)).trans (by simp [go_sem])
  have hb' := (below2 w _ _).trans (hb.mono (below2 w _ _).size)
  clear hb
  go_wp2_with fail
  exact bodyPost_ret (v := .tuple #[iv (r1, r2), .int .i64 re]) (by simp [results, Try.results31, go_sem, c0, c1]) rfl ⟨rfl, (hb'.setCell (by simp; try omega) _).setCell (by simp; try omega) _⟩
end Go.Proofs.Ythfgdhobldejmaa
