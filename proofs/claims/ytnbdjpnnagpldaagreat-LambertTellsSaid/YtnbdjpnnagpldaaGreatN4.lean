/- Walks: package ival: a calculator's Sqrt, Sqr: the methods. Walks: package lambert: what a formula tells, if all arguments are right, and within 0 and 1. Walks: package lambert: Value, Density, Cap. Walks: package lambert: Value, Density, Cap: the functions. -/
import Derived.Test.YtnbdjpnnagpldaaGreatN3
import Derived.Test.YtnbdjpnnagpldaaGreatN2
/-! Walks: package ival: a calculator's Sqrt, Sqr: the methods. -/
namespace Go.Proofs.YtnbdjpnnagpldaaGreat
open Go.RowKit

theorem below3 (w : World) (o1 o2 o3 : Obj) : Below w.heap.size w (((w.alloc o1).alloc o2).alloc o3) :=
  (((Below.refl _ _).alloc (Nat.le_refl _) _).alloc (by simp) _).alloc (by simp; omega) _

set_option maxRecDepth 100000 in
set_option maxHeartbeats 4000000 in
theorem calSqrt_any (c : Nat) (err : Int) (a : Nat × Nat) (w : World) (hc : Cal c err w) (ha : Dy.WW a) :
    Calls Tryz.prog 57 #[.pointer (some ⟨c, 0, none⟩), iv a] w (Asked c (Dy.cSqrt err a) w) := by
  have HA := hid (fun (w1 : World) (k : Cal c err w1) (p q t : Nat) (hi : Inn p q q (.func (Fn.func 79) #[.func (Fn.func 98) #[] #[]] #[]) a a w1) (ht : t < w1.heap.size) (t0 : w1.cell? ⟨t, 0, none⟩ = some (.float .f64 a.1)) (t1 : w1.cell? ⟨t, 1, none⟩ = some (.float .f64 a.2)) =>
    ask_sqrt c err ⟨p, 0, none⟩ ⟨q, 0, none⟩ a (Dy.iEnds (Dy.dSqrt a.1 false) (Dy.dSqrt a.2 true)) w1 t ht k ha t0 t1 (fun _ => hid (sqrt2_ans a p q w1 ha hi)))
  have hE : Dy.cSqrt err a = Dy.cAsk err (Dy.ivR a) (Dy.iEnds (Dy.dSqrt a.1 false) (Dy.dSqrt a.2 true)) := rfl
  rw [hE]
  generalize Dy.cAsk err (Dy.ivR a) (Dy.iEnds (Dy.dSqrt a.1 false) (Dy.dSqrt a.2 true)) = r at *
  obtain ⟨⟨r1, r2⟩, re⟩ := r
  obtain ⟨a1, a2⟩ := a
  clear hE
  dsimp only at *
  have HC := hid hc
  clear hc ha
  go_enter Tryz.func57, Tryz.ntmps57
  go_wp2_with fail
  refine (HA.out _ (HC.out.keep (below4 w _ _ _ _)) (w.heap.size + 2) w.heap.size (w.heap.size + 3) ⟨by simp <;> omega, by simp <;> omega, by simp <;> omega, by simp [go_sem], by simp [go_sem], by simp [go_sem], by simp [go_sem], by simp [go_sem]⟩ (by simp <;> omega) (by simp [go_sem]) (by simp [go_sem])).mono ?_
  rintro e w1 ⟨rfl, hB, hC⟩
  have hlt := HC.out.lt
  obtain ⟨q1, q2⟩ := asked_cells (q := w.heap.size + 1) hB (by simp <;> omega) (by omega)
  have c0 : w1.cell? ⟨w.heap.size + 1, 0, none⟩ = some (.float .f64 0) := (q1 0).trans (by simp [go_sem])
  have c1 : w1.cell? ⟨w.heap.size + 1, 1, none⟩ = some (.float .f64 0) := (q1 1).trans (by simp [go_sem])
  have f0 : w1.frozen? ⟨w.heap.size + 1, 0, none⟩ = false := (q2 0).trans (by simp [go_sem])
  have f1 : w1.frozen? ⟨w.heap.size + 1, 1, none⟩ = false := (q2 1).trans (by simp [go_sem])
  clear q1 q2
  go_wp2_with fail
  exact bodyPost_ret (v := iv (r1, r2)) (by simp [results, Tryz.results57, go_sem, c0, c1]) rfl ⟨rfl, asked_end (below4 w _ _ _ _) hB hC (by omega) (by omega)⟩

set_option maxRecDepth 100000 in
set_option maxHeartbeats 4000000 in
theorem calSqr_any (c : Nat) (err : Int) (a : Nat × Nat) (w : World) (hc : Cal c err w) (ha : Dy.WW a) :
    Calls Tryz.prog 39 #[.pointer (some ⟨c, 0, none⟩), iv a] w (Asked c (Dy.cSqr err a) w) := by
  have HA := hid (fun (w1 : World) (k : Cal c err w1) (q t : Nat) (hi : Ivl q a w1) (ht : t < w1.heap.size) (t0 : w1.cell? ⟨t, 0, none⟩ = some (.float .f64 a.1)) (t1 : w1.cell? ⟨t, 1, none⟩ = some (.float .f64 a.2)) =>
    ask_sqr c err ⟨q, 0, none⟩ a (Dy.iEnds (Dy.dMul (Dy.iBare a).1 (Dy.iBare a).1 false) (Dy.dMul (Dy.iBare a).2 (Dy.iBare a).2 true)) w1 t ht k ha t0 t1 (fun ra => hid (sqr1_ans a q w1 ha ra hi)))
  have hE : Dy.cSqr err a = Dy.cAsk err (Dy.ivR a) (Dy.iEnds (Dy.dMul (Dy.iBare a).1 (Dy.iBare a).1 false) (Dy.dMul (Dy.iBare a).2 (Dy.iBare a).2 true)) := rfl
  rw [hE]
  generalize Dy.cAsk err (Dy.ivR a) (Dy.iEnds (Dy.dMul (Dy.iBare a).1 (Dy.iBare a).1 false) (Dy.dMul (Dy.iBare a).2 (Dy.iBare a).2 true)) = r at *
  obtain ⟨⟨r1, r2⟩, re⟩ := r
  obtain ⟨a1, a2⟩ := a
  clear hE
  dsimp only at *
  have HC := hid hc
  clear hc ha
  go_enter Tryz.func39, Tryz.ntmps39
  go_wp2_with fail
  refine (HA.out _ (HC.out.keep (below3 w _ _ _)) w.heap.size (w.heap.size + 2) ⟨by simp <;> omega, by simp [go_sem], by simp [go_sem]⟩ (by simp <;> omega) (by simp [go_sem]) (by simp [go_sem])).mono ?_
  rintro e w1 ⟨rfl, hB, hC⟩
  have hlt := HC.out.lt
  obtain ⟨q1, q2⟩ := asked_cells (q := w.heap.size + 1) hB (by simp <;> omega) (by omega)
  have c0 : w1.cell? ⟨w.heap.size + 1, 0, none⟩ = some (.float .f64 0) := (q1 0).trans (by simp [go_sem])
  have c1 : w1.cell? ⟨w.heap.size + 1, 1, none⟩ = some (.float .f64 0) := (q1 1).trans (by simp [go_sem])
  have f0 : w1.frozen? ⟨w.heap.size + 1, 0, none⟩ = false := (q2 0).trans (by simp [go_sem])
  have f1 : w1.frozen? ⟨w.heap.size + 1, 1, none⟩ = false := (q2 1).trans (by simp [go_sem])
  clear q1 q2
  go_wp2_with fail
  exact bodyPost_ret (v := iv (r1, r2)) (by simp [results, Tryz.results39, go_sem, c0, c1]) rfl ⟨rfl, asked_end (below3 w _ _ _) hB hC (by omega) (by omega)⟩

end Go.Proofs.YtnbdjpnnagpldaaGreat
/-! Walks: package lambert: what a formula tells, if all arguments are right, and within 0 and 1. -/
namespace Go.Proofs.YtnbdjpnnagpldaaGreat
open Go.RowKit

theorem St.keepm {w w1 w2 : World} {m : Nat} (h : St w w1) (hb : Below m w1 w2) (hm : w.heap.size < m) (hs : w1.heap.size ≤ w2.heap.size) : St w w2 := by
  have hz := h.sz
  exact ⟨h.bel.trans (hb.mono (by omega)), by omega, carry hb hm h.z0, carry hb hm h.z1, (hb.frozen (p := ⟨w.heap.size, 0, none⟩) hm).trans h.f0, (hb.frozen (p := ⟨w.heap.size, 1, none⟩) hm).trans h.f1⟩

/-- Is an interval's end out of 0 to 1? -/
def oL (a : Nat × Nat) : Bool := Dy.flt a.1 0
def oH (a : Nat × Nat) : Bool := Dy.fgt a.2 4607182418800017408
/-- What 'of' answers. -/
def lamRes (r : (Nat × Nat) × Int) : (Nat × Nat) × Int := if r.2 = 0 then (r.1, 0) else Dy.ivNo r.2
def lam1 (a : Nat × Nat) (r : (Nat × Nat) × Int) : (Nat × Nat) × Int :=
  if Dy.ivR a then (if oL a || oH a then Dy.ivNo 2 else lamRes r) else Dy.ivNo 20
def lam2 (a b : Nat × Nat) (r : (Nat × Nat) × Int) : (Nat × Nat) × Int :=
  if Dy.ivR a && Dy.ivR b then (if oL a || oH a || oL b || oH b then Dy.ivNo 2 else lamRes r) else Dy.ivNo 20

/-- What a formula answers, asked with any new calculator, in each world that holds what this one holds. -/
def AnsF (K : Nat) (args : Value → Array Value) (r : (Nat × Nat) × Int) (w : World) : Prop :=
  ∀ w' c, Below w.heap.size w w' → Cal c 0 w' → w.heap.size ≤ c → Calls Tryz.prog K (args (.pointer (some ⟨c, 0, none⟩))) w' (Asked c r w')

set_option maxRecDepth 100000 in
set_option maxHeartbeats 4000000 in
theorem of_value (p0 : Addr) (a : Nat × Nat) (r : (Nat × Nat) × Int) (w : World) (s : Nat) (hs : s < w.heap.size) (ha : Dy.WW a) (s0 : w.cell? ⟨s, 0, none⟩ = some (.float .f64 a.1)) (s1 : w.cell? ⟨s, 1, none⟩ = some (.float .f64 a.2)) (G : Hid (AnsF 28 (fun x => #[x, .pointer (some p0)]) r w)) :
    Calls Tryz.prog 27 #[.func (Fn.func 28) #[] #[.pointer (some p0)], .slice (some ⟨s, 0, none⟩) 1 1] w fun e w' => e = .returned (.tuple #[iv (lam1 a r).1, .int .i64 (lam1 a r).2]) ∧ Below w.heap.size w w' := by
  have st := St.start w
  have t0 := carry st.bel hs s0
  have t1 := carry st.bel hs s1
  have hs0 : s < (w.alloc (.cells #[.float .f64 0, .float .f64 0] 24)).heap.size := Nat.lt_of_lt_of_le hs st.bel.size
  cases ra : Dy.ivR a
  · have eC : lam1 a r = Dy.ivNo 20 := by unfold lam1; simp [ra]
    rw [eC]
    go_enter Tryz.func27, Tryz.ntmps27
    go_wp2_with fail
    refine wp_loop_rounds 1 ?_
    rw [rounds_succ]
    go_wp2_with fail
    refine (ivRight_any a _ ha).mono ?_
    rintro e w1 ⟨rfl, hb1⟩
    have st1 := (st.alloc _).keep hb1
    have u10 := carry st1.bel hs s0
    have u11 := carry st1.bel hs s1
    have hs1 : s < w1.heap.size := Nat.lt_of_lt_of_le hs st1.bel.size
    have ns1 : s ≠ w1.heap.size := by omega
    have nr1 : w.heap.size ≠ w1.heap.size := by have := st1.sz; omega
    have z0 := st1.z0
    have z1 := st1.z1
    have f0 := st1.f0
    have f1 := st1.f1
    go_wp2_with fail
    refine bodyPost_ret (v := .tuple #[iv (0, 0), .int .i64 20]) (by simp [results, Tryz.results27, go_sem, *]) rfl ⟨rfl, ((st1.bel.setCell (Nat.le_refl _) _).setCell (Nat.le_refl _) _)⟩
  · skip
    cases la : oL a
    · cases ha' : oH a
      · skip
        have eC : lam1 a r = lamRes r := by unfold lam1; simp [ra, la, ha']
        rw [eC]
        unfold oL at la
        unfold oH at ha'
        obtain ⟨⟨r1, r2⟩, re⟩ := r
        by_cases hre : re = 0
        · subst hre
          have eD : lamRes ((r1, r2), 0) = ((r1, r2), 0) := rfl
          rw [eD]
          go_enter Tryz.func27, Tryz.ntmps27
          go_wp2_with fail
          refine wp_loop_rounds 2 ?_
          rw [rounds_succ]
          go_wp2_with fail
          refine (ivRight_any a _ ha).mono ?_
          rintro e w1 ⟨rfl, hb1⟩
          have st1 := (st.alloc _).keep hb1
          have u10 := carry st1.bel hs s0
          have u11 := carry st1.bel hs s1
          have hs1 : s < w1.heap.size := Nat.lt_of_lt_of_le hs st1.bel.size
          have ns1 : s ≠ w1.heap.size := by omega
          have nr1 : w.heap.size ≠ w1.heap.size := by have := st1.sz; omega
          go_wp2_with fail
          rw [rounds_succ]
          go_wp2_with fail
          refine wp_loop_rounds 2 ?_
          rw [rounds_succ]
          go_wp2_with fail
          rw [rounds_succ]
          go_wp2_with fail
          have lz := st1.sz
          refine (G.out _ (w1.heap.size + 1) ((st1.bel.alloc (by omega) _).alloc (by simp; omega) _) ⟨by simp; try omega, by simp [go_sem], by simp [go_sem]⟩ (by omega)).mono ?_
          rintro e w9 ⟨rfl, hB, hC⟩
          have hN : Below (w1.heap.size + 1) _ w9 := (hB.mono (by simp; try omega)).below (Nat.le_refl _)
          have st9 : St w w9 := ((st1.alloc _).alloc _).keepm hN (by omega) hB.size
          have z0 := st9.z0
          have z1 := st9.z1
          have f0 := st9.f0
          have f1 := st9.f1
          have lz9 := st9.sz
          have HE := hid (calErr_any _ _ _ (hC.keep ((Below.refl _ _).alloc (Nat.le_refl _) (.cells #[.float .f64 r1, .float .f64 r2] 24))))
          clear hB hN
          have hC := hid hC
          go_wp2_with fail
          refine HE.out.mono ?_
          rintro e wx ⟨rfl, rfl⟩
          go_wp2_with fail
          refine bodyPost_ret (v := .tuple #[iv (r1, r2), .int .i64 0]) (by simp [results, Tryz.results27, go_sem, *]) rfl ⟨rfl, ?_⟩
          exact (((st9.bel.setCell (Nat.le_refl _) _).setCell (Nat.le_refl _) _).alloc (by simp; omega) _)
        · have eD : lamRes ((r1, r2), re) = Dy.ivNo re := by unfold lamRes; rw [if_neg hre]
          have h1 : (re != 0) = true := by simpa using hre
          rw [eD]
          go_enter Tryz.func27, Tryz.ntmps27
          go_wp2_with fail
          refine wp_loop_rounds 2 ?_
          rw [rounds_succ]
          go_wp2_with fail
          refine (ivRight_any a _ ha).mono ?_
          rintro e w1 ⟨rfl, hb1⟩
          have st1 := (st.alloc _).keep hb1
          have u10 := carry st1.bel hs s0
          have u11 := carry st1.bel hs s1
          have hs1 : s < w1.heap.size := Nat.lt_of_lt_of_le hs st1.bel.size
          have ns1 : s ≠ w1.heap.size := by omega
          have nr1 : w.heap.size ≠ w1.heap.size := by have := st1.sz; omega
          go_wp2_with fail
          rw [rounds_succ]
          go_wp2_with fail
          refine wp_loop_rounds 2 ?_
          rw [rounds_succ]
          go_wp2_with fail
          rw [rounds_succ]
          go_wp2_with fail
          have lz := st1.sz
          refine (G.out _ (w1.heap.size + 1) ((st1.bel.alloc (by omega) _).alloc (by simp; omega) _) ⟨by simp; try omega, by simp [go_sem], by simp [go_sem]⟩ (by omega)).mono ?_
          rintro e w9 ⟨rfl, hB, hC⟩
          have hN : Below (w1.heap.size + 1) _ w9 := (hB.mono (by simp; try omega)).below (Nat.le_refl _)
          have st9 : St w w9 := ((st1.alloc _).alloc _).keepm hN (by omega) hB.size
          have z0 := st9.z0
          have z1 := st9.z1
          have f0 := st9.f0
          have f1 := st9.f1
          have lz9 := st9.sz
          have HE := hid (calErr_any _ _ _ (hC.keep ((Below.refl _ _).alloc (Nat.le_refl _) (.cells #[.float .f64 r1, .float .f64 r2] 24))))
          clear hB hN
          have hC := hid hC
          go_wp2_with fail
          refine HE.out.mono ?_
          rintro e wx ⟨rfl, rfl⟩
          go_wp2_with fail
          refine bodyPost_ret (v := .tuple #[iv (0, 0), .int .i64 re]) (by simp [results, Tryz.results27, go_sem, *]) rfl ⟨rfl, ?_⟩
          exact (((st9.bel.setCell (Nat.le_refl _) _).setCell (Nat.le_refl _) _).alloc (by simp; omega) _)
      · skip
        have eC : lam1 a r = Dy.ivNo 2 := by unfold lam1; simp [ra, la, ha']
        rw [eC]
        unfold oL at la
        unfold oH at ha'
        go_enter Tryz.func27, Tryz.ntmps27
        go_wp2_with fail
        refine wp_loop_rounds 2 ?_
        rw [rounds_succ]
        go_wp2_with fail
        refine (ivRight_any a _ ha).mono ?_
        rintro e w1 ⟨rfl, hb1⟩
        have st1 := (st.alloc _).keep hb1
        have u10 := carry st1.bel hs s0
        have u11 := carry st1.bel hs s1
        have hs1 : s < w1.heap.size := Nat.lt_of_lt_of_le hs st1.bel.size
        have ns1 : s ≠ w1.heap.size := by omega
        have nr1 : w.heap.size ≠ w1.heap.size := by have := st1.sz; omega
        go_wp2_with fail
        rw [rounds_succ]
        go_wp2_with fail
        refine wp_loop_rounds 1 ?_
        rw [rounds_succ]
        have z0 := st1.z0
        have z1 := st1.z1
        have f0 := st1.f0
        have f1 := st1.f1
        have lz := st1.sz
        have lb := st1.bel
        go_wp2_with fail
        refine bodyPost_ret (v := .tuple #[iv (0, 0), .int .i64 2]) (by simp [results, Tryz.results27, go_sem, *]) rfl ⟨rfl, ?_⟩
        first | exact (((lb.setCell (Nat.le_refl _) _).setCell (Nat.le_refl _) _).alloc (by simp; omega) _) | exact ((((lb.setCell (Nat.le_refl _) _).setCell (Nat.le_refl _) _).alloc (by simp; omega) _).alloc (by simp; omega) _)
    · skip
      have eC : lam1 a r = Dy.ivNo 2 := by unfold lam1; simp [ra, la]
      rw [eC]
      unfold oL at la
      go_enter Tryz.func27, Tryz.ntmps27
      go_wp2_with fail
      refine wp_loop_rounds 2 ?_
      rw [rounds_succ]
      go_wp2_with fail
      refine (ivRight_any a _ ha).mono ?_
      rintro e w1 ⟨rfl, hb1⟩
      have st1 := (st.alloc _).keep hb1
      have u10 := carry st1.bel hs s0
      have u11 := carry st1.bel hs s1
      have hs1 : s < w1.heap.size := Nat.lt_of_lt_of_le hs st1.bel.size
      have ns1 : s ≠ w1.heap.size := by omega
      have nr1 : w.heap.size ≠ w1.heap.size := by have := st1.sz; omega
      go_wp2_with fail
      rw [rounds_succ]
      go_wp2_with fail
      refine wp_loop_rounds 1 ?_
      rw [rounds_succ]
      have z0 := st1.z0
      have z1 := st1.z1
      have f0 := st1.f0
      have f1 := st1.f1
      have lz := st1.sz
      have lb := st1.bel
      go_wp2_with fail
      refine bodyPost_ret (v := .tuple #[iv (0, 0), .int .i64 2]) (by simp [results, Tryz.results27, go_sem, *]) rfl ⟨rfl, ?_⟩
      first | exact (((lb.setCell (Nat.le_refl _) _).setCell (Nat.le_refl _) _).alloc (by simp; omega) _) | exact ((((lb.setCell (Nat.le_refl _) _).setCell (Nat.le_refl _) _).alloc (by simp; omega) _).alloc (by simp; omega) _)

set_option maxRecDepth 100000 in
set_option maxHeartbeats 4000000 in
theorem of_cap (p0 : Addr) (p1 : Addr) (a : Nat × Nat) (b : Nat × Nat) (r : (Nat × Nat) × Int) (w : World) (s : Nat) (hs : s < w.heap.size) (ha : Dy.WW a) (hb : Dy.WW b) (s0 : w.cell? ⟨s, 0, none⟩ = some (.float .f64 a.1)) (s1 : w.cell? ⟨s, 1, none⟩ = some (.float .f64 a.2)) (s2 : w.cell? ⟨s, 2, none⟩ = some (.float .f64 b.1)) (s3 : w.cell? ⟨s, 3, none⟩ = some (.float .f64 b.2)) (G : Hid (AnsF 35 (fun x => #[x, .pointer (some p0), .pointer (some p1)]) r w)) :
    Calls Tryz.prog 27 #[.func (Fn.func 35) #[] #[.pointer (some p0), .pointer (some p1)], .slice (some ⟨s, 0, none⟩) 2 2] w fun e w' => e = .returned (.tuple #[iv (lam2 a b r).1, .int .i64 (lam2 a b r).2]) ∧ Below w.heap.size w w' := by
  have st := St.start w
  have t0 := carry st.bel hs s0
  have t1 := carry st.bel hs s1
  have t2 := carry st.bel hs s2
  have t3 := carry st.bel hs s3
  have hs0 : s < (w.alloc (.cells #[.float .f64 0, .float .f64 0] 24)).heap.size := Nat.lt_of_lt_of_le hs st.bel.size
  cases ra : Dy.ivR a
  · have eC : lam2 a b r = Dy.ivNo 20 := by unfold lam2; simp [ra]
    rw [eC]
    go_enter Tryz.func27, Tryz.ntmps27
    go_wp2_with fail
    refine wp_loop_rounds 1 ?_
    rw [rounds_succ]
    go_wp2_with fail
    refine (ivRight_any a _ ha).mono ?_
    rintro e w1 ⟨rfl, hb1⟩
    have st1 := (st.alloc _).keep hb1
    have u10 := carry st1.bel hs s0
    have u11 := carry st1.bel hs s1
    have u12 := carry st1.bel hs s2
    have u13 := carry st1.bel hs s3
    have hs1 : s < w1.heap.size := Nat.lt_of_lt_of_le hs st1.bel.size
    have ns1 : s ≠ w1.heap.size := by omega
    have nr1 : w.heap.size ≠ w1.heap.size := by have := st1.sz; omega
    have z0 := st1.z0
    have z1 := st1.z1
    have f0 := st1.f0
    have f1 := st1.f1
    go_wp2_with fail
    refine bodyPost_ret (v := .tuple #[iv (0, 0), .int .i64 20]) (by simp [results, Tryz.results27, go_sem, *]) rfl ⟨rfl, ((st1.bel.setCell (Nat.le_refl _) _).setCell (Nat.le_refl _) _)⟩
  · skip
    cases rb : Dy.ivR b
    · have eC : lam2 a b r = Dy.ivNo 20 := by unfold lam2; simp [rb]
      rw [eC]
      go_enter Tryz.func27, Tryz.ntmps27
      go_wp2_with fail
      refine wp_loop_rounds 2 ?_
      rw [rounds_succ]
      go_wp2_with fail
      refine (ivRight_any a _ ha).mono ?_
      rintro e w1 ⟨rfl, hb1⟩
      have st1 := (st.alloc _).keep hb1
      have u10 := carry st1.bel hs s0
      have u11 := carry st1.bel hs s1
      have u12 := carry st1.bel hs s2
      have u13 := carry st1.bel hs s3
      have hs1 : s < w1.heap.size := Nat.lt_of_lt_of_le hs st1.bel.size
      have ns1 : s ≠ w1.heap.size := by omega
      have nr1 : w.heap.size ≠ w1.heap.size := by have := st1.sz; omega
      go_wp2_with fail
      rw [rounds_succ]
      go_wp2_with fail
      refine (ivRight_any b _ hb).mono ?_
      rintro e w2 ⟨rfl, hb2⟩
      have st2 := (st1.alloc _).keep hb2
      have u20 := carry st2.bel hs s0
      have u21 := carry st2.bel hs s1
      have u22 := carry st2.bel hs s2
      have u23 := carry st2.bel hs s3
      have hs2 : s < w2.heap.size := Nat.lt_of_lt_of_le hs st2.bel.size
      have ns2 : s ≠ w2.heap.size := by omega
      have nr2 : w.heap.size ≠ w2.heap.size := by have := st2.sz; omega
      have z0 := st2.z0
      have z1 := st2.z1
      have f0 := st2.f0
      have f1 := st2.f1
      go_wp2_with fail
      refine bodyPost_ret (v := .tuple #[iv (0, 0), .int .i64 20]) (by simp [results, Tryz.results27, go_sem, *]) rfl ⟨rfl, ((st2.bel.setCell (Nat.le_refl _) _).setCell (Nat.le_refl _) _)⟩
    · skip
      cases la : oL a
      · cases ha' : oH a
        · skip
          cases lb : oL b
          · cases hb' : oH b
            · skip
              have eC : lam2 a b r = lamRes r := by unfold lam2; simp [ra, rb, la, ha', lb, hb']
              rw [eC]
              unfold oL at la
              unfold oH at ha'
              unfold oL at lb
              unfold oH at hb'
              obtain ⟨⟨r1, r2⟩, re⟩ := r
              by_cases hre : re = 0
              · subst hre
                have eD : lamRes ((r1, r2), 0) = ((r1, r2), 0) := rfl
                rw [eD]
                go_enter Tryz.func27, Tryz.ntmps27
                go_wp2_with fail
                refine wp_loop_rounds 3 ?_
                rw [rounds_succ]
                go_wp2_with fail
                refine (ivRight_any a _ ha).mono ?_
                rintro e w1 ⟨rfl, hb1⟩
                have st1 := (st.alloc _).keep hb1
                have u10 := carry st1.bel hs s0
                have u11 := carry st1.bel hs s1
                have u12 := carry st1.bel hs s2
                have u13 := carry st1.bel hs s3
                have hs1 : s < w1.heap.size := Nat.lt_of_lt_of_le hs st1.bel.size
                have ns1 : s ≠ w1.heap.size := by omega
                have nr1 : w.heap.size ≠ w1.heap.size := by have := st1.sz; omega
                go_wp2_with fail
                rw [rounds_succ]
                go_wp2_with fail
                refine (ivRight_any b _ hb).mono ?_
                rintro e w2 ⟨rfl, hb2⟩
                have st2 := (st1.alloc _).keep hb2
                have u20 := carry st2.bel hs s0
                have u21 := carry st2.bel hs s1
                have u22 := carry st2.bel hs s2
                have u23 := carry st2.bel hs s3
                have hs2 : s < w2.heap.size := Nat.lt_of_lt_of_le hs st2.bel.size
                have ns2 : s ≠ w2.heap.size := by omega
                have nr2 : w.heap.size ≠ w2.heap.size := by have := st2.sz; omega
                go_wp2_with fail
                rw [rounds_succ]
                go_wp2_with fail
                refine wp_loop_rounds 3 ?_
                rw [rounds_succ]
                go_wp2_with fail
                rw [rounds_succ]
                go_wp2_with fail
                rw [rounds_succ]
                go_wp2_with fail
                have lz := st2.sz
                refine (G.out _ (w2.heap.size + 2) (((st2.bel.alloc (by omega) _).alloc (by simp; omega) _).alloc (by simp; omega) _) ⟨by simp; try omega, by simp [go_sem], by simp [go_sem]⟩ (by omega)).mono ?_
                rintro e w9 ⟨rfl, hB, hC⟩
                have hN : Below (w2.heap.size + 2) _ w9 := (hB.mono (by simp; try omega)).below (Nat.le_refl _)
                have st9 : St w w9 := (((st2.alloc _).alloc _).alloc _).keepm hN (by omega) hB.size
                have z0 := st9.z0
                have z1 := st9.z1
                have f0 := st9.f0
                have f1 := st9.f1
                have lz9 := st9.sz
                have HE := hid (calErr_any _ _ _ (hC.keep ((Below.refl _ _).alloc (Nat.le_refl _) (.cells #[.float .f64 r1, .float .f64 r2] 24))))
                clear hB hN
                have hC := hid hC
                go_wp2_with fail
                refine HE.out.mono ?_
                rintro e wx ⟨rfl, rfl⟩
                go_wp2_with fail
                refine bodyPost_ret (v := .tuple #[iv (r1, r2), .int .i64 0]) (by simp [results, Tryz.results27, go_sem, *]) rfl ⟨rfl, ?_⟩
                exact (((st9.bel.setCell (Nat.le_refl _) _).setCell (Nat.le_refl _) _).alloc (by simp; omega) _)
              · have eD : lamRes ((r1, r2), re) = Dy.ivNo re := by unfold lamRes; rw [if_neg hre]
                have h1 : (re != 0) = true := by simpa using hre
                rw [eD]
                go_enter Tryz.func27, Tryz.ntmps27
                go_wp2_with fail
                refine wp_loop_rounds 3 ?_
                rw [rounds_succ]
                go_wp2_with fail
                refine (ivRight_any a _ ha).mono ?_
                rintro e w1 ⟨rfl, hb1⟩
                have st1 := (st.alloc _).keep hb1
                have u10 := carry st1.bel hs s0
                have u11 := carry st1.bel hs s1
                have u12 := carry st1.bel hs s2
                have u13 := carry st1.bel hs s3
                have hs1 : s < w1.heap.size := Nat.lt_of_lt_of_le hs st1.bel.size
                have ns1 : s ≠ w1.heap.size := by omega
                have nr1 : w.heap.size ≠ w1.heap.size := by have := st1.sz; omega
                go_wp2_with fail
                rw [rounds_succ]
                go_wp2_with fail
                refine (ivRight_any b _ hb).mono ?_
                rintro e w2 ⟨rfl, hb2⟩
                have st2 := (st1.alloc _).keep hb2
                have u20 := carry st2.bel hs s0
                have u21 := carry st2.bel hs s1
                have u22 := carry st2.bel hs s2
                have u23 := carry st2.bel hs s3
                have hs2 : s < w2.heap.size := Nat.lt_of_lt_of_le hs st2.bel.size
                have ns2 : s ≠ w2.heap.size := by omega
                have nr2 : w.heap.size ≠ w2.heap.size := by have := st2.sz; omega
                go_wp2_with fail
                rw [rounds_succ]
                go_wp2_with fail
                refine wp_loop_rounds 3 ?_
                rw [rounds_succ]
                go_wp2_with fail
                rw [rounds_succ]
                go_wp2_with fail
                rw [rounds_succ]
                go_wp2_with fail
                have lz := st2.sz
                refine (G.out _ (w2.heap.size + 2) (((st2.bel.alloc (by omega) _).alloc (by simp; omega) _).alloc (by simp; omega) _) ⟨by simp; try omega, by simp [go_sem], by simp [go_sem]⟩ (by omega)).mono ?_
                rintro e w9 ⟨rfl, hB, hC⟩
                have hN : Below (w2.heap.size + 2) _ w9 := (hB.mono (by simp; try omega)).below (Nat.le_refl _)
                have st9 : St w w9 := (((st2.alloc _).alloc _).alloc _).keepm hN (by omega) hB.size
                have z0 := st9.z0
                have z1 := st9.z1
                have f0 := st9.f0
                have f1 := st9.f1
                have lz9 := st9.sz
                have HE := hid (calErr_any _ _ _ (hC.keep ((Below.refl _ _).alloc (Nat.le_refl _) (.cells #[.float .f64 r1, .float .f64 r2] 24))))
                clear hB hN
                have hC := hid hC
                go_wp2_with fail
                refine HE.out.mono ?_
                rintro e wx ⟨rfl, rfl⟩
                go_wp2_with fail
                refine bodyPost_ret (v := .tuple #[iv (0, 0), .int .i64 re]) (by simp [results, Tryz.results27, go_sem, *]) rfl ⟨rfl, ?_⟩
                exact (((st9.bel.setCell (Nat.le_refl _) _).setCell (Nat.le_refl _) _).alloc (by simp; omega) _)
            · skip
              have eC : lam2 a b r = Dy.ivNo 2 := by unfold lam2; simp [ra, rb, la, ha', lb, hb']
              rw [eC]
              unfold oL at la
              unfold oH at ha'
              unfold oL at lb
              unfold oH at hb'
              go_enter Tryz.func27, Tryz.ntmps27
              go_wp2_with fail
              refine wp_loop_rounds 3 ?_
              rw [rounds_succ]
              go_wp2_with fail
              refine (ivRight_any a _ ha).mono ?_
              rintro e w1 ⟨rfl, hb1⟩
              have st1 := (st.alloc _).keep hb1
              have u10 := carry st1.bel hs s0
              have u11 := carry st1.bel hs s1
              have u12 := carry st1.bel hs s2
              have u13 := carry st1.bel hs s3
              have hs1 : s < w1.heap.size := Nat.lt_of_lt_of_le hs st1.bel.size
              have ns1 : s ≠ w1.heap.size := by omega
              have nr1 : w.heap.size ≠ w1.heap.size := by have := st1.sz; omega
              go_wp2_with fail
              rw [rounds_succ]
              go_wp2_with fail
              refine (ivRight_any b _ hb).mono ?_
              rintro e w2 ⟨rfl, hb2⟩
              have st2 := (st1.alloc _).keep hb2
              have u20 := carry st2.bel hs s0
              have u21 := carry st2.bel hs s1
              have u22 := carry st2.bel hs s2
              have u23 := carry st2.bel hs s3
              have hs2 : s < w2.heap.size := Nat.lt_of_lt_of_le hs st2.bel.size
              have ns2 : s ≠ w2.heap.size := by omega
              have nr2 : w.heap.size ≠ w2.heap.size := by have := st2.sz; omega
              go_wp2_with fail
              rw [rounds_succ]
              go_wp2_with fail
              refine wp_loop_rounds 2 ?_
              rw [rounds_succ]
              go_wp2_with fail
              rw [rounds_succ]
              have z0 := st2.z0
              have z1 := st2.z1
              have f0 := st2.f0
              have f1 := st2.f1
              have lz := st2.sz
              have lb := st2.bel
              go_wp2_with fail
              refine bodyPost_ret (v := .tuple #[iv (0, 0), .int .i64 2]) (by simp [results, Tryz.results27, go_sem, *]) rfl ⟨rfl, ?_⟩
              first | exact (((lb.setCell (Nat.le_refl _) _).setCell (Nat.le_refl _) _).alloc (by simp; omega) _) | exact ((((lb.setCell (Nat.le_refl _) _).setCell (Nat.le_refl _) _).alloc (by simp; omega) _).alloc (by simp; omega) _)
          · skip
            have eC : lam2 a b r = Dy.ivNo 2 := by unfold lam2; simp [ra, rb, la, ha', lb]
            rw [eC]
            unfold oL at la
            unfold oH at ha'
            unfold oL at lb
            go_enter Tryz.func27, Tryz.ntmps27
            go_wp2_with fail
            refine wp_loop_rounds 3 ?_
            rw [rounds_succ]
            go_wp2_with fail
            refine (ivRight_any a _ ha).mono ?_
            rintro e w1 ⟨rfl, hb1⟩
            have st1 := (st.alloc _).keep hb1
            have u10 := carry st1.bel hs s0
            have u11 := carry st1.bel hs s1
            have u12 := carry st1.bel hs s2
            have u13 := carry st1.bel hs s3
            have hs1 : s < w1.heap.size := Nat.lt_of_lt_of_le hs st1.bel.size
            have ns1 : s ≠ w1.heap.size := by omega
            have nr1 : w.heap.size ≠ w1.heap.size := by have := st1.sz; omega
            go_wp2_with fail
            rw [rounds_succ]
            go_wp2_with fail
            refine (ivRight_any b _ hb).mono ?_
            rintro e w2 ⟨rfl, hb2⟩
            have st2 := (st1.alloc _).keep hb2
            have u20 := carry st2.bel hs s0
            have u21 := carry st2.bel hs s1
            have u22 := carry st2.bel hs s2
            have u23 := carry st2.bel hs s3
            have hs2 : s < w2.heap.size := Nat.lt_of_lt_of_le hs st2.bel.size
            have ns2 : s ≠ w2.heap.size := by omega
            have nr2 : w.heap.size ≠ w2.heap.size := by have := st2.sz; omega
            go_wp2_with fail
            rw [rounds_succ]
            go_wp2_with fail
            refine wp_loop_rounds 2 ?_
            rw [rounds_succ]
            go_wp2_with fail
            rw [rounds_succ]
            have z0 := st2.z0
            have z1 := st2.z1
            have f0 := st2.f0
            have f1 := st2.f1
            have lz := st2.sz
            have lb := st2.bel
            go_wp2_with fail
            refine bodyPost_ret (v := .tuple #[iv (0, 0), .int .i64 2]) (by simp [results, Tryz.results27, go_sem, *]) rfl ⟨rfl, ?_⟩
            first | exact (((lb.setCell (Nat.le_refl _) _).setCell (Nat.le_refl _) _).alloc (by simp; omega) _) | exact ((((lb.setCell (Nat.le_refl _) _).setCell (Nat.le_refl _) _).alloc (by simp; omega) _).alloc (by simp; omega) _)
        · skip
          have eC : lam2 a b r = Dy.ivNo 2 := by unfold lam2; simp [ra, rb, la, ha']
          rw [eC]
          unfold oL at la
          unfold oH at ha'
          go_enter Tryz.func27, Tryz.ntmps27
          go_wp2_with fail
          refine wp_loop_rounds 3 ?_
          rw [rounds_succ]
          go_wp2_with fail
          refine (ivRight_any a _ ha).mono ?_
          rintro e w1 ⟨rfl, hb1⟩
          have st1 := (st.alloc _).keep hb1
          have u10 := carry st1.bel hs s0
          have u11 := carry st1.bel hs s1
          have u12 := carry st1.bel hs s2
          have u13 := carry st1.bel hs s3
          have hs1 : s < w1.heap.size := Nat.lt_of_lt_of_le hs st1.bel.size
          have ns1 : s ≠ w1.heap.size := by omega
          have nr1 : w.heap.size ≠ w1.heap.size := by have := st1.sz; omega
          go_wp2_with fail
          rw [rounds_succ]
          go_wp2_with fail
          refine (ivRight_any b _ hb).mono ?_
          rintro e w2 ⟨rfl, hb2⟩
          have st2 := (st1.alloc _).keep hb2
          have u20 := carry st2.bel hs s0
          have u21 := carry st2.bel hs s1
          have u22 := carry st2.bel hs s2
          have u23 := carry st2.bel hs s3
          have hs2 : s < w2.heap.size := Nat.lt_of_lt_of_le hs st2.bel.size
          have ns2 : s ≠ w2.heap.size := by omega
          have nr2 : w.heap.size ≠ w2.heap.size := by have := st2.sz; omega
          go_wp2_with fail
          rw [rounds_succ]
          go_wp2_with fail
          refine wp_loop_rounds 1 ?_
          rw [rounds_succ]
          have z0 := st2.z0
          have z1 := st2.z1
          have f0 := st2.f0
          have f1 := st2.f1
          have lz := st2.sz
          have lb := st2.bel
          go_wp2_with fail
          refine bodyPost_ret (v := .tuple #[iv (0, 0), .int .i64 2]) (by simp [results, Tryz.results27, go_sem, *]) rfl ⟨rfl, ?_⟩
          first | exact (((lb.setCell (Nat.le_refl _) _).setCell (Nat.le_refl _) _).alloc (by simp; omega) _) | exact ((((lb.setCell (Nat.le_refl _) _).setCell (Nat.le_refl _) _).alloc (by simp; omega) _).alloc (by simp; omega) _)
      · skip
        have eC : lam2 a b r = Dy.ivNo 2 := by unfold lam2; simp [ra, rb, la]
        rw [eC]
        unfold oL at la
        go_enter Tryz.func27, Tryz.ntmps27
        go_wp2_with fail
        refine wp_loop_rounds 3 ?_
        rw [rounds_succ]
        go_wp2_with fail
        refine (ivRight_any a _ ha).mono ?_
        rintro e w1 ⟨rfl, hb1⟩
        have st1 := (st.alloc _).keep hb1
        have u10 := carry st1.bel hs s0
        have u11 := carry st1.bel hs s1
        have u12 := carry st1.bel hs s2
        have u13 := carry st1.bel hs s3
        have hs1 : s < w1.heap.size := Nat.lt_of_lt_of_le hs st1.bel.size
        have ns1 : s ≠ w1.heap.size := by omega
        have nr1 : w.heap.size ≠ w1.heap.size := by have := st1.sz; omega
        go_wp2_with fail
        rw [rounds_succ]
        go_wp2_with fail
        refine (ivRight_any b _ hb).mono ?_
        rintro e w2 ⟨rfl, hb2⟩
        have st2 := (st1.alloc _).keep hb2
        have u20 := carry st2.bel hs s0
        have u21 := carry st2.bel hs s1
        have u22 := carry st2.bel hs s2
        have u23 := carry st2.bel hs s3
        have hs2 : s < w2.heap.size := Nat.lt_of_lt_of_le hs st2.bel.size
        have ns2 : s ≠ w2.heap.size := by omega
        have nr2 : w.heap.size ≠ w2.heap.size := by have := st2.sz; omega
        go_wp2_with fail
        rw [rounds_succ]
        go_wp2_with fail
        refine wp_loop_rounds 1 ?_
        rw [rounds_succ]
        have z0 := st2.z0
        have z1 := st2.z1
        have f0 := st2.f0
        have f1 := st2.f1
        have lz := st2.sz
        have lb := st2.bel
        go_wp2_with fail
        refine bodyPost_ret (v := .tuple #[iv (0, 0), .int .i64 2]) (by simp [results, Tryz.results27, go_sem, *]) rfl ⟨rfl, ?_⟩
        first | exact (((lb.setCell (Nat.le_refl _) _).setCell (Nat.le_refl _) _).alloc (by simp; omega) _) | exact ((((lb.setCell (Nat.le_refl _) _).setCell (Nat.le_refl _) _).alloc (by simp; omega) _).alloc (by simp; omega) _)

end Go.Proofs.YtnbdjpnnagpldaaGreat
/-! Walks: package lambert: Value, Density, Cap. -/
namespace Go.Proofs.YtnbdjpnnagpldaaGreat
open Go.RowKit

theorem Ivl.keepBut {s c : Nat} {b : Nat × Nat} {w w' : World} (h : Ivl s b w) (hB : But c w.heap.size w w') (hc : s ≠ c) : Ivl s b w' :=
  ⟨Nat.lt_of_lt_of_le h.lt hB.size, (hB.cell h.lt hc).trans h.s0, (hB.cell h.lt hc).trans h.s1⟩
theorem Out.keepBut {t c : Nat} {w w' : World} (h : Out t w) (hB : But c w.heap.size w w') (hc : t ≠ c) : Out t w' :=
  ⟨Nat.lt_of_lt_of_le h.lt hB.size, (hB.cell h.lt hc).trans h.z0, (hB.cell h.lt hc).trans h.z1, (hB.frozen h.lt hc).trans h.f0, (hB.frozen h.lt hc).trans h.f1⟩

theorem WW_pi : Dy.WW piIv := ⟨W_lit (by decide), W_lit (by decide)⟩

set_option maxRecDepth 100000 in
set_option maxHeartbeats 4000000 in
theorem value1_ans (a : Nat × Nat) (p : Nat) (w : World) (ha : Dy.WW a) (hi : Ivl p a w) :
    AnsF 28 (fun x => #[x, .pointer (some ⟨p, 0, none⟩)]) (Dy.cDiv 0 a piIv) w := by
  intro w' c hbw hc hle
  have hi' := hi.keep hbw
  have hpc : p ≠ c := by have := hi.lt; omega
  have HD := hid (fun w h => calDiv_any c 0 a piIv w h ha WW_pi)
  generalize Dy.cDiv 0 a piIv = r at *
  obtain ⟨⟨r1, r2⟩, re⟩ := r
  obtain ⟨a1, a2⟩ := a
  dsimp only at *
  have hI0 : Ivl p (a1, a2) (w'.alloc (.cells #[.float .f64 0, .float .f64 0] 24)).drew := hi'.keep ((Below.refl _ _).alloc (Nat.le_refl _) _).drew
  have hO0 : Out w'.heap.size (w'.alloc (.cells #[.float .f64 0, .float .f64 0] 24)).drew := ⟨by simp, by simp [go_sem], by simp [go_sem], by simp [go_sem], by simp [go_sem]⟩
  have hC0 : Cal c 0 (w'.alloc (.cells #[.float .f64 0, .float .f64 0] 24)).drew := hc.keep ((Below.refl _ _).alloc (Nat.le_refl _) _).drew
  have hW : Below w'.heap.size w' (w'.alloc (.cells #[.float .f64 0, .float .f64 0] 24)).drew := ((Below.refl _ _).alloc (Nat.le_refl _) _).drew
  have lp := hi'.lt
  have lc := hc.lt
  have np : p ≠ w'.heap.size := by omega
  have nc : c ≠ w'.heap.size := by omega
  have hC0 := hid hC0
  clear hi hbw hi' hc hle ha
  go_enter Tryz.func28, Tryz.ntmps28
  go_wp2_with fail
  go_region_held3 (fun w1 => w1.cell? ⟨p, 0, none⟩ = some (.float .f64 a1) ∧ w1.cell? ⟨p, 1, none⟩ = some (.float .f64 a2) ∧ (∃ v, w1.cell? ⟨w'.heap.size, 0, none⟩ = some v) ∧ (∃ v, w1.cell? ⟨w'.heap.size, 1, none⟩ = some v) ∧ w1.frozen? ⟨w'.heap.size, 0, none⟩ = false ∧ w1.frozen? ⟨w'.heap.size, 1, none⟩ = false)
    (first | exact ⟨hI2.s0, hI2.s1, ⟨_, hO2.z0⟩, ⟨_, hO2.z1⟩, hO2.f0, hO2.f1⟩ | exact ⟨hI1.s0, hI1.s1, ⟨_, hO1.z0⟩, ⟨_, hO1.z1⟩, hO1.f0, hO1.f1⟩ | exact ⟨hI0.s0, hI0.s1, ⟨_, hO0.z0⟩, ⟨_, hO0.z1⟩, hO0.f0, hO0.f1⟩ | (refine ⟨?_, ?_, ?_, ?_, ?_, ?_⟩ <;> first | (simp [go_sem, *]; done) | (refine ex_cell' ?_; simp [go_sem, *]; done)))
    (first | (go_at_call 30; refine (ivPi_any _).mono ?_; rintro e w1 ⟨rfl, hb1⟩; have hI1 := hI0.keep hb1; have hO1 := hO0.keep hb1; have hC1 := hid (hC0.out.keep hb1)) | (go_at_call 29; refine (HD.out _ hC1.out).mono ?_; rintro e w2 ⟨rfl, hB, hC2⟩; have hI2 := hI1.keepBut hB hpc; have hO2 := hO1.keepBut hB nc.symm; have z0 := hO2.z0; have z1 := hO2.z1; have f0 := hO2.f0; have f1 := hO2.f1))
  go_wp2_with fail
  exact bodyPost_ret (v := iv (r1, r2)) (by simp [results, Tryz.results28, go_sem, z0, z1]) rfl ⟨rfl, asked_end (hW.trans (hb1.mono hW.size)) hB hC2 (Nat.le_refl _) nc⟩

/-- What Cap's formula tells. -/
def capF (a b : Nat × Nat) : (Nat × Nat) × Int :=
  Dy.cMul (Dy.cSub (Dy.cSqr 0 b).2 (4607182418800017408, 4607182418800017408) (Dy.cSqr 0 b).1).2 a (Dy.cSub (Dy.cSqr 0 b).2 (4607182418800017408, 4607182418800017408) (Dy.cSqr 0 b).1).1

theorem num_one : Dy.cNum 0 4607182418800017408 = ((4607182418800017408, 4607182418800017408), 0) := by
  unfold Dy.cNum Dy.cAsk; rw [Dy.right_one]; rfl
theorem WW_one : Dy.WW (4607182418800017408, 4607182418800017408) := ⟨Dy.W_one, Dy.W_one⟩

set_option maxRecDepth 100000 in
set_option maxHeartbeats 4000000 in
theorem cap1_ans (a b : Nat × Nat) (p q : Nat) (w : World) (ha : Dy.WW a) (hb : Dy.WW b) (hi : Ivl p a w) (hj : Ivl q b w) :
    AnsF 35 (fun x => #[x, .pointer (some ⟨p, 0, none⟩), .pointer (some ⟨q, 0, none⟩)]) (capF a b) w := by
  intro w' c hbw hc hle
  have hi' := hi.keep hbw
  have hj' := hj.keep hbw
  have hpc : p ≠ c := by have := hi.lt; omega
  have hqc : q ≠ c := by have := hj.lt; omega
  have HN := hid (fun w h => calNum_any c 0 4607182418800017408 w h Dy.W_one)
  rw [num_one] at HN
  have HQ := hid (fun w h => calSqr_any c 0 b w h hb)
  have hE : capF a b = Dy.cMul (Dy.cSub (Dy.cSqr 0 b).2 (4607182418800017408, 4607182418800017408) (Dy.cSqr 0 b).1).2 a (Dy.cSub (Dy.cSqr 0 b).2 (4607182418800017408, 4607182418800017408) (Dy.cSqr 0 b).1).1 := rfl
  rw [hE]
  clear hE
  have g := (Dy.good_sqr (err := 0) hb).1
  generalize Dy.cSqr 0 b = x at *
  have HS := hid (fun w h => calSub_any c x.2 (4607182418800017408, 4607182418800017408) x.1 w h WW_one g)
  have g := (Dy.good_sub (err := x.2) (a := (4607182418800017408, 4607182418800017408)) g).1
  generalize Dy.cSub x.2 (4607182418800017408, 4607182418800017408) x.1 = y at *
  have HM := hid (fun w h => calMul_any c y.2 a y.1 w h ha g)
  generalize Dy.cMul y.2 a y.1 = r at *
  obtain ⟨⟨r1, r2⟩, re⟩ := r
  obtain ⟨⟨x1, x2⟩, xe⟩ := x
  obtain ⟨⟨y1, y2⟩, ye⟩ := y
  obtain ⟨a1, a2⟩ := a
  obtain ⟨b1, b2⟩ := b
  dsimp only at *
  have hI0 : Ivl p (a1, a2) (w'.alloc (.cells #[.float .f64 0, .float .f64 0] 24)).drew := hi'.keep ((Below.refl _ _).alloc (Nat.le_refl _) _).drew
  have hJ0 : Ivl q (b1, b2) (w'.alloc (.cells #[.float .f64 0, .float .f64 0] 24)).drew := hj'.keep ((Below.refl _ _).alloc (Nat.le_refl _) _).drew
  have hO0 : Out w'.heap.size (w'.alloc (.cells #[.float .f64 0, .float .f64 0] 24)).drew := ⟨by simp, by simp [go_sem], by simp [go_sem], by simp [go_sem], by simp [go_sem]⟩
  have hC0 : Cal c 0 (w'.alloc (.cells #[.float .f64 0, .float .f64 0] 24)).drew := hc.keep ((Below.refl _ _).alloc (Nat.le_refl _) _).drew
  have hW : Below w'.heap.size w' (w'.alloc (.cells #[.float .f64 0, .float .f64 0] 24)).drew := ((Below.refl _ _).alloc (Nat.le_refl _) _).drew
  have lp := hi'.lt
  have lq := hj'.lt
  have lc := hc.lt
  have np : p ≠ w'.heap.size := by omega
  have nq : q ≠ w'.heap.size := by omega
  have nc : c ≠ w'.heap.size := by omega
  have hC0 := hid hC0
  clear hi hj hbw hi' hj' hc hle ha hb g
  go_enter Tryz.func35, Tryz.ntmps35
  go_wp2_with fail
  go_region_held3 (fun w1 => w1.cell? ⟨p, 0, none⟩ = some (.float .f64 a1) ∧ w1.cell? ⟨p, 1, none⟩ = some (.float .f64 a2) ∧ w1.cell? ⟨q, 0, none⟩ = some (.float .f64 b1) ∧ w1.cell? ⟨q, 1, none⟩ = some (.float .f64 b2) ∧ (∃ v, w1.cell? ⟨w'.heap.size, 0, none⟩ = some v) ∧ (∃ v, w1.cell? ⟨w'.heap.size, 1, none⟩ = some v) ∧ w1.frozen? ⟨w'.heap.size, 0, none⟩ = false ∧ w1.frozen? ⟨w'.heap.size, 1, none⟩ = false)
    (first | exact ⟨hI4.s0, hI4.s1, hJ4.s0, hJ4.s1, ⟨_, hO4.z0⟩, ⟨_, hO4.z1⟩, hO4.f0, hO4.f1⟩ | exact ⟨hI3.s0, hI3.s1, hJ3.s0, hJ3.s1, ⟨_, hO3.z0⟩, ⟨_, hO3.z1⟩, hO3.f0, hO3.f1⟩ | exact ⟨hI2.s0, hI2.s1, hJ2.s0, hJ2.s1, ⟨_, hO2.z0⟩, ⟨_, hO2.z1⟩, hO2.f0, hO2.f1⟩ | exact ⟨hI1.s0, hI1.s1, hJ1.s0, hJ1.s1, ⟨_, hO1.z0⟩, ⟨_, hO1.z1⟩, hO1.f0, hO1.f1⟩ | exact ⟨hI0.s0, hI0.s1, hJ0.s0, hJ0.s1, ⟨_, hO0.z0⟩, ⟨_, hO0.z1⟩, hO0.f0, hO0.f1⟩ | (refine ⟨?_, ?_, ?_, ?_, ?_, ?_, ?_, ?_⟩ <;> first | (simp [go_sem, *]; done) | (refine ex_cell' ?_; simp [go_sem, *]; done)))
    (first | (go_at_call 38; refine (HN.out _ hC0.out).mono ?_; rintro e w1 ⟨rfl, hB1, hC1⟩; have hI1 := hI0.keepBut hB1 hpc; have hJ1 := hJ0.keepBut hB1 hqc; have hO1 := hO0.keepBut hB1 nc.symm; have hC1 := hid hC1) | (go_at_call 39; refine (HQ.out _ hC1.out).mono ?_; rintro e w2 ⟨rfl, hB2, hC2⟩; have hI2 := hI1.keepBut hB2 hpc; have hJ2 := hJ1.keepBut hB2 hqc; have hO2 := hO1.keepBut hB2 nc.symm; have hC2 := hid hC2) | (go_at_call 37; refine (HS.out _ hC2.out).mono ?_; rintro e w3 ⟨rfl, hB3, hC3⟩; have hI3 := hI2.keepBut hB3 hpc; have hJ3 := hJ2.keepBut hB3 hqc; have hO3 := hO2.keepBut hB3 nc.symm; have hC3 := hid hC3) | (go_at_call 36; refine (HM.out _ hC3.out).mono ?_; rintro e w4 ⟨rfl, hB4, hC4⟩; have hI4 := hI3.keepBut hB4 hpc; have hJ4 := hJ3.keepBut hB4 hqc; have hO4 := hO3.keepBut hB4 nc.symm; have hC4 := hid hC4; have z0 := hO4.z0; have z1 := hO4.z1; have f0 := hO4.f0; have f1 := hO4.f1))
  go_wp2_with fail
  have hB : But c (w'.alloc (.cells #[.float .f64 0, .float .f64 0] 24)).drew.heap.size _ w4 := hB1.trans ((hB2.trans ((hB3.trans (hB4.mono hB3.size)).mono hB2.size)).mono hB1.size)
  exact bodyPost_ret (v := iv (r1, r2)) (by simp [results, Tryz.results35, go_sem, z0, z1]) rfl ⟨rfl, asked_end hW hB hC4.out (Nat.le_refl _) nc⟩
end Go.Proofs.YtnbdjpnnagpldaaGreat
/-! Walks: package lambert: Value, Density, Cap: the functions. -/
namespace Go.Proofs.YtnbdjpnnagpldaaGreat
open Go.RowKit

theorem below2 (w : World) (o1 o2 : Obj) : Below w.heap.size w ((w.alloc o1).alloc o2) := ((Below.refl _ _).alloc (Nat.le_refl _) _).alloc (by simp) _

/-- A value. -/
def lamV (a : Nat × Nat) : (Nat × Nat) × Int := lam1 a (Dy.cDiv 0 a piIv)
/-- What a cap scatters. -/
def lamC (a b : Nat × Nat) : (Nat × Nat) × Int := lam2 a b (capF a b)

set_option maxRecDepth 100000 in
set_option maxHeartbeats 4000000 in
theorem lamValue_any (a : Nat × Nat) (w : World) (ha : Dy.WW a) :
    Calls Tryz.prog 7 #[iv a] w fun e w' => e = .returned (.tuple #[iv (lamV a).1, .int .i64 (lamV a).2]) ∧ Below w.heap.size w w' := by
  have HV := hid (fun (w1 : World) (p s : Nat) (hi : Ivl p a w1) (hj : Ivl s a w1) => of_value ⟨p, 0, none⟩ a (Dy.cDiv 0 a piIv) w1 s hj.lt ha hj.s0 hj.s1 (hid (value1_ans a p w1 ha hi)))
  have hE : lam1 a (Dy.cDiv 0 a piIv) = lamV a := rfl
  rw [hE] at HV
  clear hE ha
  generalize lamV a = r at *
  obtain ⟨⟨r1, r2⟩, re⟩ := r
  obtain ⟨a1, a2⟩ := a
  dsimp only at *
  go_enter Tryz.func7, Tryz.ntmps7
  go_wp2_with fail
  refine (HV.out _ w.heap.size (w.heap.size + 2) ⟨by simp <;> omega, by simp [go_sem], by simp [go_sem]⟩ ⟨by simp <;> omega, by simp [go_sem], by simp [go_sem]⟩).mono ?_
  rintro e w1 ⟨rfl, hb⟩
  have c0 : w1.cell? ⟨w.heap.size + 1, 0, none⟩ = some (.float .f64 0) := carry hb (by simp <;> omega) (by simp [go_sem])
  have c1 : w1.cell? ⟨w.heap.size + 1, 1, none⟩ = some (.float .f64 0) := carry hb (by simp <;> omega) (by simp [go_sem])
  have f0 : w1.frozen? ⟨w.heap.size + 1, 0, none⟩ = false := (hb.frozen (p := ⟨w.heap.size + 1, 0, none⟩) (by simp <;> omega)).trans (by simp [go_sem])
  have f1 : w1.frozen? ⟨w.heap.size + 1, 1, none⟩ = false := (hb.frozen (p := ⟨w.heap.size + 1, 1, none⟩) (by simp <;> omega)).trans (by simp [go_sem])
  have hb' := (below3 w _ _ _).trans (hb.mono (below3 w _ _ _).size)
  clear hb
  go_wp2_with fail
  exact bodyPost_ret (v := .tuple #[iv (r1, r2), .int .i64 re]) (by simp [results, Tryz.results7, go_sem, c0, c1]) rfl ⟨rfl, (hb'.setCell (by simp; try omega) _).setCell (by simp; try omega) _⟩

set_option maxRecDepth 100000 in
set_option maxHeartbeats 4000000 in
theorem lamCap_any (a b : Nat × Nat) (w : World) (ha : Dy.WW a) (hb : Dy.WW b) :
    Calls Tryz.prog 10 #[iv a, iv b] w fun e w' => e = .returned (.tuple #[iv (lamC a b).1, .int .i64 (lamC a b).2]) ∧ Below w.heap.size w w' := by
  have HV := hid (fun (w1 : World) (p q s : Nat) (hi : Ivl p a w1) (hj : Ivl q b w1) (ls : s < w1.heap.size) (s0 : w1.cell? ⟨s, 0, none⟩ = some (.float .f64 a.1)) (s1 : w1.cell? ⟨s, 1, none⟩ = some (.float .f64 a.2)) (s2 : w1.cell? ⟨s, 2, none⟩ = some (.float .f64 b.1)) (s3 : w1.cell? ⟨s, 3, none⟩ = some (.float .f64 b.2)) =>
    of_cap ⟨p, 0, none⟩ ⟨q, 0, none⟩ a b (capF a b) w1 s ls ha hb s0 s1 s2 s3 (hid (cap1_ans a b p q w1 ha hb hi hj)))
  have hE : lam2 a b (capF a b) = lamC a b := rfl
  rw [hE] at HV
  clear hE ha hb
  generalize lamC a b = r at *
  obtain ⟨⟨r1, r2⟩, re⟩ := r
  obtain ⟨a1, a2⟩ := a
  obtain ⟨b1, b2⟩ := b
  dsimp only at *
  go_enter Tryz.func10, Tryz.ntmps10
  go_wp2_with fail
  refine (HV.out _ w.heap.size (w.heap.size + 1) (w.heap.size + 3) ⟨by simp <;> omega, by simp [go_sem], by simp [go_sem]⟩ ⟨by simp <;> omega, by simp [go_sem], by simp [go_sem]⟩ (by simp <;> omega) (by simp [go_sem]) (by simp [go_sem]) (by simp [go_sem]) (by simp [go_sem])).mono ?_
  rintro e w1 ⟨rfl, hb⟩
  have c0 : w1.cell? ⟨w.heap.size + 2, 0, none⟩ = some (.float .f64 0) := carry hb (by simp <;> omega) (by simp [go_sem])
  have c1 : w1.cell? ⟨w.heap.size + 2, 1, none⟩ = some (.float .f64 0) := carry hb (by simp <;> omega) (by simp [go_sem])
  have f0 : w1.frozen? ⟨w.heap.size + 2, 0, none⟩ = false := (hb.frozen (p := ⟨w.heap.size + 2, 0, none⟩) (by simp <;> omega)).trans (by simp [go_sem])
  have f1 : w1.frozen? ⟨w.heap.size + 2, 1, none⟩ = false := (hb.frozen (p := ⟨w.heap.size + 2, 1, none⟩) (by simp <;> omega)).trans (by simp [go_sem])
  have hb' := (below4 w _ _ _ _).trans (hb.mono (below4 w _ _ _ _).size)
  clear hb
  go_wp2_with fail
  exact bodyPost_ret (v := .tuple #[iv (r1, r2), .int .i64 re]) (by simp [results, Tryz.results10, go_sem, c0, c1]) rfl ⟨rfl, (hb'.setCell (by simp; try omega) _).setCell (by simp; try omega) _⟩

set_option maxHeartbeats 1000000 in
theorem lamDens_any (a : Nat × Nat) (w : World) (ha : Dy.WW a) :
    Calls Tryz.prog 9 #[iv a] w fun e w' => e = .returned (.tuple #[iv (lamV a).1, .int .i64 (lamV a).2]) ∧ Below w.heap.size w w' := by
  have H := hid (fun w => lamValue_any a w ha)
  clear ha
  generalize lamV a = r at *
  obtain ⟨⟨r1, r2⟩, re⟩ := r
  obtain ⟨a1, a2⟩ := a
  dsimp only at *
  go_enter Tryz.func9, Tryz.ntmps9
  go_wp2_with fail
  refine (H.out _).mono ?_
  rintro e w1 ⟨rfl, hb⟩
  have c0 : w1.cell? ⟨w.heap.size + 1, 0, none⟩ = some (.float .f64 0) := carry hb (by simp <;> omega) (by simp [go_sem])
  have c1 : w1.cell? ⟨w.heap.size + 1, 1, none⟩ = some (.float .f64 0) := carry hb (by simp <;> omega) (by simp [go_sem])
  have f0 : w1.frozen? ⟨w.heap.size + 1, 0, none⟩ = false := (hb.frozen (p := ⟨w.heap.size + 1, 0, none⟩) (by simp <;> omega)).trans (by simp [go_sem])
  have f1 : w1.frozen? ⟨w.heap.size + 1, 1, none⟩ = false := (hb.frozen (p := ⟨w.heap.size + 1, 1, none⟩) (by simp <;> omega)).trans (by simp [go_sem])
  have hb' := (below2 w _ _).trans (hb.mono (below2 w _ _).size)
  clear hb
  go_wp2_with fail
  exact bodyPost_ret (v := .tuple #[iv (r1, r2), .int .i64 re]) (by simp [results, Tryz.results9, go_sem, c0, c1]) rfl ⟨rfl, (hb'.setCell (by simp; try omega) _).setCell (by simp; try omega) _⟩
end Go.Proofs.YtnbdjpnnagpldaaGreat
