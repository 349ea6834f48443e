/- Walks: package lambert: what a formula tells, if all arguments are right, and within 0 and 1. -/
import Derived.Test.YthfgdhobldejmaaMu
namespace Go.Proofs.Ythfgdhobldejmaa
open Go.RowKit

theorem St.keepm {w w1 w2 : World} {m : Nat} (h : St w w1) (hb : Below m w1 w2) (hm : w.heap.size < m) (hs : w1.heap.size ≤ w2.heap.size) : St w w2 := by
  have hz := h.sz
  exact ⟨h.bel.trans (hb.mono (by omega)), by omega, carry hb hm h.z0, carry hb hm h.z1, (hb.frozen (p := ⟨w.heap.size, 0, none⟩) hm).trans h.f0, (hb.frozen (p := ⟨w.heap.size, 1, none⟩) hm).trans h.f1⟩

/-- Is an interval's end out of 0 to 1? -/
def oL (a : Nat × Nat) : Bool := Dy.flt a.1 0
def oH (a : Nat × Nat) : Bool := Dy.fgt a.2 4607182418800017408
/-- What 'of' answers. -/
def lamRes (r : (Nat × Nat) × Int) : (Nat × Nat) × Int := if r.2 = 0 then (r.1, 0) else Dy.ivNo r.2
def lam1 (a : Nat × Nat) (r : (Nat × Nat) × Int) : (Nat × Nat) × Int :=
  if Dy.ivR a then (if oL a || oH a then Dy.ivNo 2 else lamRes r) else Dy.ivNo 20
def lam2 (a b : Nat × Nat) (r : (Nat × Nat) × Int) : (Nat × Nat) × Int :=
  if Dy.ivR a && Dy.ivR b then (if oL a || oH a || oL b || oH b then Dy.ivNo 2 else lamRes r) else Dy.ivNo 20

/-- What a formula answers, asked with any new calculator, in each world that holds what this one holds. -/
def AnsF (K : Nat) (args : Value → Array Value) (r : (Nat × Nat) × Int) (w : World) : Prop :=
  ∀ w' c, Below w.heap.size w w' → Cal c 0 w' → w.heap.size ≤ c → Calls Try.prog K (args (.pointer (some ⟨c, 0, none⟩))) w' (Asked c r w')

set_option maxRecDepth 100000 in
set_option maxHeartbeats 4000000 in
theorem of_value (p0 : Addr) (a : Nat × Nat) (r : (Nat × Nat) × Int) (w : World) (s : Nat) (hs : s < w.heap.size) (ha : Dy.WW a) (s0 : w.cell? ⟨s, 0, none⟩ = some (.float .f64 a.1)) (s1 : w.cell? ⟨s, 1, none⟩ = some (.float .f64 a.2)) (G : Hid (AnsF 45 (fun x => #[x, .pointer (some p0)]) r w)) :
    Calls Try.prog 42 #[.func (Fn.func 45) #[] #[.pointer (some p0)], .slice (some ⟨s, 0, none⟩) 1 1] w fun e w' => e = .returned (.tuple #[iv (lam1 a r).1, .int .i64 (lam1 a r).2]) ∧ Below w.heap.size w w' := by
  have st := St.start w
  have t0 := carry st.bel hs s0
  have t1 := carry st.bel hs s1
  have hs0 : s < (w.alloc (.cells #[.float .f64 0, .float .f64 0] 26)).heap.size := Nat.lt_of_lt_of_le hs st.bel.size
  cases ra : Dy.ivR a
  · have eC : lam1 a r = Dy.ivNo 20 := by unfold lam1; simp [ra]
    rw [eC]
    go_enter Try.func42, Try.ntmps42
    go_wp2_with fail
    refine wp_loop_rounds 1 ?_
    rw [rounds_succ]
    go_wp2_with fail
    refine (ivRight_any a _ ha).mono ?_
    rintro e w1 ⟨rfl, hb1⟩
    have st1 := (st.alloc _).keep hb1
    have u10 := carry st1.bel hs s0
    have u11 := carry st1.bel hs s1
    have hs1 : s < w1.heap.size := Nat.lt_of_lt_of_le hs st1.bel.size
    have ns1 : s ≠ w1.heap.size := by omega
    have nr1 : w.heap.size ≠ w1.heap.size := by have := st1.sz; omega
    have z0 := st1.z0
    have z1 := st1.z1
    have f0 := st1.f0
    have f1 := st1.f1
    go_wp2_with fail
    refine bodyPost_ret (v := .tuple #[iv (0, 0), .int .i64 20]) (by simp [results, Try.results42, go_sem, *]) rfl ⟨rfl, ((st1.bel.setCell (Nat.le_refl _) _).setCell (Nat.le_refl _) _)⟩
  · skip
    cases la : oL a
    · cases ha' : oH a
      · skip
        have eC : lam1 a r = lamRes r := by unfold lam1; simp [ra, la, ha']
        rw [eC]
        unfold oL at la
        unfold oH at ha'
        obtain ⟨⟨r1, r2⟩, re⟩ := r
        by_cases hre : re = 0
        · subst hre
          have eD : lamRes ((r1, r2), 0) = ((r1, r2), 0) := rfl
          rw [eD]
          go_enter Try.func42, Try.ntmps42
          go_wp2_with fail
          refine wp_loop_rounds 2 ?_
          rw [rounds_succ]
          go_wp2_with fail
          refine (ivRight_any a _ ha).mono ?_
          rintro e w1 ⟨rfl, hb1⟩
          have st1 := (st.alloc _).keep hb1
          have u10 := carry st1.bel hs s0
          have u11 := carry st1.bel hs s1
          have hs1 : s < w1.heap.size := Nat.lt_of_lt_of_le hs st1.bel.size
          have ns1 : s ≠ w1.heap.size := by omega
          have nr1 : w.heap.size ≠ w1.heap.size := by have := st1.sz; omega
          go_wp2_with fail
          rw [rounds_succ]
          go_wp2_with fail
          refine wp_loop_rounds 2 ?_
          rw [rounds_succ]
          go_wp2_with fail
          rw [rounds_succ]
          go_wp2_with fail
          have lz := st1.sz
          refine (G.out _ (w1.heap.size + 1) ((st1.bel.alloc (by omega) _).alloc (by simp; omega) _) ⟨by simp; try omega, by simp [go_sem], by simp [go_sem]⟩ (by omega)).mono ?_
          rintro e w9 ⟨rfl, hB, hC⟩
          have hN : Below (w1.heap.size + 1) _ w9 := (hB.mono (by simp; try omega)).below (Nat.le_refl _)
          have st9 : St w w9 := ((st1.alloc _).alloc _).keepm hN (by omega) hB.size
          have z0 := st9.z0
          have z1 := st9.z1
          have f0 := st9.f0
          have f1 := st9.f1
          have lz9 := st9.sz
          have HE := hid (calErr_any _ _ _ (hC.keep ((Below.refl _ _).alloc (Nat.le_refl _) (.cells #[.float .f64 r1, .float .f64 r2] 26))))
          clear hB hN
          have hC := hid hC
          go_wp2_with fail
          refine HE.out.mono ?_
          rintro e wx ⟨rfl, rfl⟩
          go_wp2_with fail
          refine bodyPost_ret (v := .tuple #[iv (r1, r2), .int .i64 0]) (by simp [results, Try.results42, go_sem, *]) rfl ⟨rfl, ?_⟩
          exact (((st9.bel.setCell (Nat.le_refl _) _).setCell (Nat.le_refl _) _).alloc (by simp; omega) _)
        · have eD : lamRes ((r1, r2), re) = Dy.ivNo re := by unfold lamRes; rw [if_neg hre]
          have h1 : (re != 0) = true := by simpa using hre
          rw [eD]
          go_enter Try.func42, Try.ntmps42
          go_wp2_with fail
          refine wp_loop_rounds 2 ?_
          rw [rounds_succ]
          go_wp2_with fail
          refine (ivRight_any a _ ha).mono ?_
          rintro e w1 ⟨rfl, hb1⟩
          have st1 := (st.alloc _).keep hb1
          have u10 := carry st1.bel hs s0
          have u11 := carry st1.bel hs s1
          have hs1 : s < w1.heap.size := Nat.lt_of_lt_of_le hs st1.bel.size
          have ns1 : s ≠ w1.heap.size := by omega
          have nr1 : w.heap.size ≠ w1.heap.size := by have := st1.sz; omega
          go_wp2_with fail
          rw [rounds_succ]
          go_wp2_with fail
          refine wp_loop_rounds 2 ?_
          rw [rounds_succ]
          go_wp2_with fail
          rw [rounds_succ]
          go_wp2_with fail
          have lz := st1.sz
          refine (G.out _ (w1.heap.size + 1) ((st1.bel.alloc (by omega) _).alloc (by simp; omega) _) ⟨by simp; try omega, by simp [go_sem], by simp [go_sem]⟩ (by omega)).mono ?_
          rintro e w9 ⟨rfl, hB, hC⟩
          have hN : Below (w1.heap.size + 1) _ w9 := (hB.mono (by simp; try omega)).below (Nat.le_refl _)
          have st9 : St w w9 := ((st1.alloc _).alloc _).keepm hN (by omega) hB.size
          have z0 := st9.z0
          have z1 := st9.z1
          have f0 := st9.f0
          have f1 := st9.f1
          have lz9 := st9.sz
          have HE := hid (calErr_any _ _ _ (hC.keep ((Below.refl _ _).alloc (Nat.le_refl _) (.cells #[.float .f64 r1, .float .f64 r2] 26))))
          clear hB hN
          have hC := hid hC
          go_wp2_with fail
          refine HE.out.mono ?_
          rintro e wx ⟨rfl, rfl⟩
          go_wp2_with fail
          refine bodyPost_ret (v := .tuple #[iv (0, 0), .int .i64 re]) (by simp [results, Try.results42, go_sem, *]) rfl ⟨rfl, ?_⟩
          exact (((st9.bel.setCell (Nat.le_refl _) _).setCell (Nat.le_refl _) _).alloc (by simp; omega) _)
      · skip
        have eC : lam1 a r = Dy.ivNo 2 := by unfold lam1; simp [ra, la, ha']
        rw [eC]
        unfold oL at la
        unfold oH at ha'
        go_enter Try.func42, Try.ntmps42
        go_wp2_with fail
        refine wp_loop_rounds 2 ?_
        rw [rounds_succ]
        go_wp2_with fail
        refine (ivRight_any a _ ha).mono ?_
        rintro e w1 ⟨rfl, hb1⟩
        have st1 := (st.alloc _).keep hb1
        have u10 := carry st1.bel hs s0
        have u11 := carry st1.bel hs s1
        have hs1 : s < w1.heap.size := Nat.lt_of_lt_of_le hs st1.bel.size
        have ns1 : s ≠ w1.heap.size := by omega
        have nr1 : w.heap.size ≠ w1.heap.size := by have := st1.sz; omega
        go_wp2_with fail
        rw [rounds_succ]
        go_wp2_with fail
        refine wp_loop_rounds 1 ?_
        rw [rounds_succ]
        have z0 := st1.z0
        have z1 := st1.z1
        have f0 := st1.f0
        have f1 := st1.f1
        have lz := st1.sz
        have lb := st1.bel
        go_wp2_with fail
        refine bodyPost_ret (v := .tuple #[iv (0, 0), .int .i64 2]) (by simp [results, Try.results42, go_sem, *]) rfl ⟨rfl, ?_⟩
        first | exact (((lb.setCell (Nat.le_refl _) _).setCell (Nat.le_refl _) _).alloc (by simp; omega) _) | exact ((((lb.setCell (Nat.le_refl _) _).setCell (Nat.le_refl _) _).alloc (by simp; omega) _).alloc (by simp; omega) _)
    · skip
      have eC : lam1 a r = Dy.ivNo 2 := by unfold lam1; simp [ra, la]
      rw [eC]
      unfold oL at la
      go_enter Try.func42, Try.ntmps42
      go_wp2_with fail
      refine wp_loop_rounds 2 ?_
      rw [rounds_succ]
      go_wp2_with fail
      refine (ivRight_any a _ ha).mono ?_
      rintro e w1 ⟨rfl, hb1⟩
      have st1 := (st.alloc _).keep hb1
      have u10 := carry st1.bel hs s0
      have u11 := carry st1.bel hs s1
      have hs1 : s < w1.heap.size := Nat.lt_of_lt_of_le hs st1.bel.size
      have ns1 : s ≠ w1.heap.size := by omega
      have nr1 : w.heap.size ≠ w1.heap.size := by have := st1.sz; omega
      go_wp2_with fail
      rw [rounds_succ]
      go_wp2_with fail
      refine wp_loop_rounds 1 ?_
      rw [rounds_succ]
      have z0 := st1.z0
      have z1 := st1.z1
      have f0 := st1.f0
      have f1 := st1.f1
      have lz := st1.sz
      have lb := st1.bel
      go_wp2_with fail
      refine bodyPost_ret (v := .tuple #[iv (0, 0), .int .i64 2]) (by simp [results, Try.results42, go_sem, *]) rfl ⟨rfl, ?_⟩
      first | exact (((lb.setCell (Nat.le_refl _) _).setCell (Nat.le_refl _) _).alloc (by simp; omega) _) | exact ((((lb.setCell (Nat.le_refl _) _).setCell (Nat.le_refl _) _).alloc (by simp; omega) _).alloc (by simp; omega) _)

set_option maxRecDepth 100000 in
set_option maxHeartbeats 4000000 in
theorem of_cap (p0 : Addr) (p1 : Addr) (a : Nat × Nat) (b : Nat × Nat) (r : (Nat × Nat) × Int) (w : World) (s : Nat) (hs : s < w.heap.size) (ha : Dy.WW a) (hb : Dy.WW b) (s0 : w.cell? ⟨s, 0, none⟩ = some (.float .f64 a.1)) (s1 : w.cell? ⟨s, 1, none⟩ = some (.float .f64 a.2)) (s2 : w.cell? ⟨s, 2, none⟩ = some (.float .f64 b.1)) (s3 : w.cell? ⟨s, 3, none⟩ = some (.float .f64 b.2)) (G : Hid (AnsF 43 (fun x => #[x, .pointer (some p0), .pointer (some p1)]) r w)) :
    Calls Try.prog 42 #[.func (Fn.func 43) #[] #[.pointer (some p0), .pointer (some p1)], .slice (some ⟨s, 0, none⟩) 2 2] w fun e w' => e = .returned (.tuple #[iv (lam2 a b r).1, .int .i64 (lam2 a b r).2]) ∧ Below w.heap.size w w' := by
  have st := St.start w
  have t0 := carry st.bel hs s0
  have t1 := carry st.bel hs s1
  have t2 := carry st.bel hs s2
  have t3 := carry st.bel hs s3
  have hs0 : s < (w.alloc (.cells #[.float .f64 0, .float .f64 0] 26)).heap.size := Nat.lt_of_lt_of_le hs st.bel.size
  cases ra : Dy.ivR a
  · have eC : lam2 a b r = Dy.ivNo 20 := by unfold lam2; simp [ra]
    rw [eC]
    go_enter Try.func42, Try.ntmps42
    go_wp2_with fail
    refine wp_loop_rounds 1 ?_
    rw [rounds_succ]
    go_wp2_with fail
    refine (ivRight_any a _ ha).mono ?_
    rintro e w1 ⟨rfl, hb1⟩
    have st1 := (st.alloc _).keep hb1
    have u10 := carry st1.bel hs s0
    have u11 := carry st1.bel hs s1
    have u12 := carry st1.bel hs s2
    have u13 := carry st1.bel hs s3
    have hs1 : s < w1.heap.size := Nat.lt_of_lt_of_le hs st1.bel.size
    have ns1 : s ≠ w1.heap.size := by omega
    have nr1 : w.heap.size ≠ w1.heap.size := by have := st1.sz; omega
    have z0 := st1.z0
    have z1 := st1.z1
    have f0 := st1.f0
    have f1 := st1.f1
    go_wp2_with fail
    refine bodyPost_ret (v := .tuple #[iv (0, 0), .int .i64 20]) (by simp [results, Try.results42, go_sem, *]) rfl ⟨rfl, ((st1.bel.setCell (Nat.le_refl _) _).setCell (Nat.le_refl _) _)⟩
  · skip
    cases rb : Dy.ivR b
    · have eC : lam2 a b r = Dy.ivNo 20 := by unfold lam2; simp [rb]
      rw [eC]
      go_enter Try.func42, Try.ntmps42
      go_wp2_with fail
      refine wp_loop_rounds 2 ?_
      rw [rounds_succ]
      go_wp2_with fail
      refine (ivRight_any a _ ha).mono ?_
      rintro e w1 ⟨rfl, hb1⟩
      have st1 := (st.alloc _).keep hb1
      have u10 := carry st1.bel hs s0
      have u11 := carry st1.bel hs s1
      have u12 := carry st1.bel hs s2
      have u13 := carry st1.bel hs s3
      have hs1 : s < w1.heap.size := Nat.lt_of_lt_of_le hs st1.bel.size
      have ns1 : s ≠ w1.heap.size := by omega
      have nr1 : w.heap.size ≠ w1.heap.size := by have := st1.sz; omega
      go_wp2_with fail
      rw [rounds_succ]
      go_wp2_with fail
      refine (ivRight_any b _ hb).mono ?_
      rintro e w2 ⟨rfl, hb2⟩
      have st2 := (st1.alloc _).keep hb2
      have u20 := carry st2.bel hs s0
      have u21 := carry st2.bel hs s1
      have u22 := carry st2.bel hs s2
      have u23 := carry st2.bel hs s3
      have hs2 : s < w2.heap.size := Nat.lt_of_lt_of_le hs st2.bel.size
      have ns2 : s ≠ w2.heap.size := by omega
      have nr2 : w.heap.size ≠ w2.heap.size := by have := st2.sz; omega
      have z0 := st2.z0
      have z1 := st2.z1
      have f0 := st2.f0
      have f1 := st2.f1
      go_wp2_with fail
      refine bodyPost_ret (v := .tuple #[iv (0, 0), .int .i64 20]) (by simp [results, Try.results42, go_sem, *]) rfl ⟨rfl, ((st2.bel.setCell (Nat.le_refl _) _).setCell (Nat.le_refl _) _)⟩
    · skip
      cases la : oL a
      · cases ha' : oH a
        · skip
          cases lb : oL b
          · cases hb' : oH b
            · skip
              have eC : lam2 a b r = lamRes r := by unfold lam2; simp [ra, rb, la, ha', lb, hb']
              rw [eC]
              unfold oL at la
              unfold oH at ha'
              unfold oL at lb
              unfold oH at hb'
              obtain ⟨⟨r1, r2⟩, re⟩ := r
              by_cases hre : re = 0
              · subst hre
                have eD : lamRes ((r1, r2), 0) = ((r1, r2), 0) := rfl
                rw [eD]
                go_enter Try.func42, Try.ntmps42
                go_wp2_with fail
                refine wp_loop_rounds 3 ?_
                rw [rounds_succ]
                go_wp2_with fail
                refine (ivRight_any a _ ha).mono ?_
                rintro e w1 ⟨rfl, hb1⟩
                have st1 := (st.alloc _).keep hb1
                have u10 := carry st1.bel hs s0
                have u11 := carry st1.bel hs s1
                have u12 := carry st1.bel hs s2
                have u13 := carry st1.bel hs s3
                have hs1 : s < w1.heap.size := Nat.lt_of_lt_of_le hs st1.bel.size
                have ns1 : s ≠ w1.heap.size := by omega
                have nr1 : w.heap.size ≠ w1.heap.size := by have := st1.sz; omega
                go_wp2_with fail
                rw [rounds_succ]
                go_wp2_with fail
                refine (ivRight_any b _ hb).mono ?_
                rintro e w2 ⟨rfl, hb2⟩
                have st2 := (st1.alloc _).keep hb2
                have u20 := carry st2.bel hs s0
                have u21 := carry st2.bel hs s1
                have u22 := carry st2.bel hs s2
                have u23 := carry st2.bel hs s3
                have hs2 : s < w2.heap.size := Nat.lt_of_lt_of_le hs st2.bel.size
                have ns2 : s ≠ w2.heap.size := by omega
                have nr2 : w.heap.size ≠ w2.heap.size := by have := st2.sz; omega
                go_wp2_with fail
                rw [rounds_succ]
                go_wp2_with fail
                refine wp_loop_rounds 3 ?_
                rw [rounds_succ]
                go_wp2_with fail
                rw [rounds_succ]
                go_wp2_with fail
                rw [rounds_succ]
                go_wp2_with fail
                have lz := st2.sz
                refine (G.out _ (w2.heap.size + 2) (((st2.bel.alloc (by omega) _).alloc (by simp; omega) _).alloc (by simp; omega) _) ⟨by simp; try omega, by simp [go_sem], by simp [go_sem]⟩ (by omega)).mono ?_
                rintro e w9 ⟨rfl, hB, hC⟩
                have hN : Below (w2.heap.size + 2) _ w9 := (hB.mono (by simp; try omega)).below (Nat.le_refl _)
                have st9 : St w w9 := (((st2.alloc _).alloc _).alloc _).keepm hN (by omega) hB.size
                have z0 := st9.z0
                have z1 := st9.z1
                have f0 := st9.f0
                have f1 := st9.f1
                have lz9 := st9.sz
                have HE := hid (calErr_any _ _ _ (hC.keep ((Below.refl _ _).alloc (Nat.le_refl _) (.cells #[.float .f64 r1, .float .f64 r2] 26))))
                clear hB hN
                have hC := hid hC
                go_wp2_with fail
                refine HE.out.mono ?_
                rintro e wx ⟨rfl, rfl⟩
                go_wp2_with fail
                refine bodyPost_ret (v := .tuple #[iv (r1, r2), .int .i64 0]) (by simp [results, Try.results42, go_sem, *]) rfl ⟨rfl, ?_⟩
                exact (((st9.bel.setCell (Nat.le_refl _) _).setCell (Nat.le_refl _) _).alloc (by simp; omega) _)
              · have eD : lamRes ((r1, r2), re) = Dy.ivNo re := by unfold lamRes; rw [if_neg hre]
                have h1 : (re != 0) = true := by simpa using hre
                rw [eD]
                go_enter Try.func42, Try.ntmps42
                go_wp2_with fail
                refine wp_loop_rounds 3 ?_
                rw [rounds_succ]
                go_wp2_with fail
                refine (ivRight_any a _ ha).mono ?_
                rintro e w1 ⟨rfl, hb1⟩
                have st1 := (st.alloc _).keep hb1
                have u10 := carry st1.bel hs s0
                have u11 := carry st1.bel hs s1
                have u12 := carry st1.bel hs s2
                have u13 := carry st1.bel hs s3
                have hs1 : s < w1.heap.size := Nat.lt_of_lt_of_le hs st1.bel.size
                have ns1 : s ≠ w1.heap.size := by omega
                have nr1 : w.heap.size ≠ w1.heap.size := by have := st1.sz; omega
                go_wp2_with fail
                rw [rounds_succ]
                go_wp2_with fail
                refine (ivRight_any b _ hb).mono ?_
                rintro e w2 ⟨rfl, hb2⟩
                have st2 := (st1.alloc _).keep hb2
                have u20 := carry st2.bel hs s0
                have u21 := carry st2.bel hs s1
                have u22 := carry st2.bel hs s2
                have u23 := carry st2.bel hs s3
                have hs2 : s < w2.heap.size := Nat.lt_of_lt_of_le hs st2.bel.size
                have ns2 : s ≠ w2.heap.size := by omega
                have nr2 : w.heap.size ≠ w2.heap.size := by have := st2.sz; omega
                go_wp2_with fail
                rw [rounds_succ]
                go_wp2_with fail
                refine wp_loop_rounds 3 ?_
                rw [rounds_succ]
                go_wp2_with fail
                rw [rounds_succ]
                go_wp2_with fail
                rw [rounds_succ]
                go_wp2_with fail
                have lz := st2.sz
                refine (G.out _ (w2.heap.size + 2) (((st2.bel.alloc (by omega) _).alloc (by simp; omega) _).alloc (by simp; omega) _) ⟨by simp; try omega, by simp [go_sem], by simp [go_sem]⟩ (by omega)).mono ?_
                rintro e w9 ⟨rfl, hB, hC⟩
                have hN : Below (w2.heap.size + 2) _ w9 := (hB.mono (by simp; try omega)).below (Nat.le_refl _)
                have st9 : St w w9 := (((st2.alloc _).alloc _).alloc _).keepm hN (by omega) hB.size
                have z0 := st9.z0
                have z1 := st9.z1
                have f0 := st9.f0
                have f1 := st9.f1
                have lz9 := st9.sz
                have HE := hid (calErr_any _ _ _ (hC.keep ((Below.refl _ _).alloc (Nat.le_refl _) (.cells #[.float .f64 r1, .float .f64 r2] 26))))
                clear hB hN
                have hC := hid hC
                go_wp2_with fail
                refine HE.out.mono ?_
                rintro e wx ⟨rfl, rfl⟩
                go_wp2_with fail
                refine bodyPost_ret (v := .tuple #[iv (0, 0), .int .i64 re]) (by simp [results, Try.results42, go_sem, *]) rfl ⟨rfl, ?_⟩
                exact (((st9.bel.setCell (Nat.le_refl _) _).setCell (Nat.le_refl _) _).alloc (by simp; omega) _)
            · skip
              have eC : lam2 a b r = Dy.ivNo 2 := by unfold lam2; simp [ra, rb, la, ha', lb, hb']
              rw [eC]
              unfold oL at la
              unfold oH at ha'
              unfold oL at lb
              unfold oH at hb'
              go_enter Try.func42, Try.ntmps42
              go_wp2_with fail
              refine wp_loop_rounds 3 ?_
              rw [rounds_succ]
              go_wp2_with fail
              refine (ivRight_any a _ ha).mono ?_
              rintro e w1 ⟨rfl, hb1⟩
              have st1 := (st.alloc _).keep hb1
              have u10 := carry st1.bel hs s0
              have u11 := carry st1.bel hs s1
              have u12 := carry st1.bel hs s2
              have u13 := carry st1.bel hs s3
              have hs1 : s < w1.heap.size := Nat.lt_of_lt_of_le hs st1.bel.size
              have ns1 : s ≠ w1.heap.size := by omega
              have nr1 : w.heap.size ≠ w1.heap.size := by have := st1.sz; omega
              go_wp2_with fail
              rw [rounds_succ]
              go_wp2_with fail
              refine (ivRight_any b _ hb).mono ?_
              rintro e w2 ⟨rfl, hb2⟩
              have st2 := (st1.alloc _).keep hb2
              have u20 := carry st2.bel hs s0
              have u21 := carry st2.bel hs s1
              have u22 := carry st2.bel hs s2
              have u23 := carry st2.bel hs s3
              have hs2 : s < w2.heap.size := Nat.lt_of_lt_of_le hs st2.bel.size
              have ns2 : s ≠ w2.heap.size := by omega
              have nr2 : w.heap.size ≠ w2.heap.size := by have := st2.sz; omega
              go_wp2_with fail
              rw [rounds_succ]
              go_wp2_with fail
              refine wp_loop_rounds 2 ?_
              rw [rounds_succ]
              go_wp2_with fail
              rw [rounds_succ]
              have z0 := st2.z0
              have z1 := st2.z1
              have f0 := st2.f0
              have f1 := st2.f1
              have lz := st2.sz
              have lb := st2.bel
              go_wp2_with fail
              refine bodyPost_ret (v := .tuple #[iv (0, 0), .int .i64 2]) (by simp [results, Try.results42, go_sem, *]) rfl ⟨rfl, ?_⟩
              first | exact (((lb.setCell (Nat.le_refl _) _).setCell (Nat.le_refl _) _).alloc (by simp; omega) _) | exact ((((lb.setCell (Nat.le_refl _) _).setCell (Nat.le_refl _) _).alloc (by simp; omega) _).alloc (by simp; omega) _)
          · skip
            have eC : lam2 a b r = Dy.ivNo 2 := by unfold lam2; simp [ra, rb, la, ha', lb]
            rw [eC]
            unfold oL at la
            unfold oH at ha'
            unfold oL at lb
            go_enter Try.func42, Try.ntmps42
            go_wp2_with fail
            refine wp_loop_rounds 3 ?_
            rw [rounds_succ]
            go_wp2_with fail
            refine (ivRight_any a _ ha).mono ?_
            rintro e w1 ⟨rfl, hb1⟩
            have st1 := (st.alloc _).keep hb1
            have u10 := carry st1.bel hs s0
            have u11 := carry st1.bel hs s1
            have u12 := carry st1.bel hs s2
            have u13 := carry st1.bel hs s3
            have hs1 : s < w1.heap.size := Nat.lt_of_lt_of_le hs st1.bel.size
            have ns1 : s ≠ w1.heap.size := by omega
            have nr1 : w.heap.size ≠ w1.heap.size := by have := st1.sz; omega
            go_wp2_with fail
            rw [rounds_succ]
            go_wp2_with fail
            refine (ivRight_any b _ hb).mono ?_
            rintro e w2 ⟨rfl, hb2⟩
            have st2 := (st1.alloc _).keep hb2
            have u20 := carry st2.bel hs s0
            have u21 := carry st2.bel hs s1
            have u22 := carry st2.bel hs s2
            have u23 := carry st2.bel hs s3
            have hs2 : s < w2.heap.size := Nat.lt_of_lt_of_le hs st2.bel.size
            have ns2 : s ≠ w2.heap.size := by omega
            have nr2 : w.heap.size ≠ w2.heap.size := by have := st2.sz; omega
            go_wp2_with fail
            rw [rounds_succ]
            go_wp2_with fail
            refine wp_loop_rounds 2 ?_
            rw [rounds_succ]
            go_wp2_with fail
            rw [rounds_succ]
            have z0 := st2.z0
            have z1 := st2.z1
            have f0 := st2.f0
            have f1 := st2.f1
            have lz := st2.sz
            have lb := st2.bel
            go_wp2_with fail
            refine bodyPost_ret (v := .tuple #[iv (0, 0), .int .i64 2]) (by simp [results, Try.results42, go_sem, *]) rfl ⟨rfl, ?_⟩
            first | exact (((lb.setCell (Nat.le_refl _) _).setCell (Nat.le_refl _) _).alloc (by simp; omega) _) | exact ((((lb.setCell (Nat.le_refl _) _).setCell (Nat.le_refl _) _).alloc (by simp; omega) _).alloc (by simp; omega) _)
        · skip
          have eC : lam2 a b r = Dy.ivNo 2 := by unfold lam2; simp [ra, rb, la, ha']
          rw [eC]
          unfold oL at la
          unfold oH at ha'
          go_enter Try.func42, Try.ntmps42
          go_wp2_with fail
          refine wp_loop_rounds 3 ?_
          rw [rounds_succ]
          go_wp2_with fail
          refine (ivRight_any a _ ha).mono ?_
          rintro e w1 ⟨rfl, hb1⟩
          have st1 := (st.alloc _).keep hb1
          have u10 := carry st1.bel hs s0
          have u11 := carry st1.bel hs s1
          have u12 := carry st1.bel hs s2
          have u13 := carry st1.bel hs s3
          have hs1 : s < w1.heap.size := Nat.lt_of_lt_of_le hs st1.bel.size
          have ns1 : s ≠ w1.heap.size := by omega
          have nr1 : w.heap.size ≠ w1.heap.size := by have := st1.sz; omega
          go_wp2_with fail
          rw [rounds_succ]
          go_wp2_with fail
          refine (ivRight_any b _ hb).mono ?_
          rintro e w2 ⟨rfl, hb2⟩
          have st2 := (st1.alloc _).keep hb2
          have u20 := carry st2.bel hs s0
          have u21 := carry st2.bel hs s1
          have u22 := carry st2.bel hs s2
          have u23 := carry st2.bel hs s3
          have hs2 : s < w2.heap.size := Nat.lt_of_lt_of_le hs st2.bel.size
          have ns2 : s ≠ w2.heap.size := by omega
          have nr2 : w.heap.size ≠ w2.heap.size := by have := st2.sz; omega
          go_wp2_with fail
          rw [rounds_succ]
          go_wp2_with fail
          refine wp_loop_rounds 1 ?_
          rw [rounds_succ]
          have z0 := st2.z0
          have z1 := st2.z1
          have f0 := st2.f0
          have f1 := st2.f1
          have lz := st2.sz
          have lb := st2.bel
          go_wp2_with fail
          refine bodyPost_ret (v := .tuple #[iv (0, 0), .int .i64 2]) (by simp [results, Try.results42, go_sem, *]) rfl ⟨rfl, ?_⟩
          first | exact (((lb.setCell (Nat.le_refl _) _).setCell (Nat.le_refl _) _).alloc (by simp; omega) _) | exact ((((lb.setCell (Nat.le_refl _) _).setCell (Nat.le_refl _) _).alloc (by simp; omega) _).alloc (by simp; omega) _)
      · skip
        have eC : lam2 a b r = Dy.ivNo 2 := by unfold lam2; simp [ra, rb, la]
        rw [eC]
        unfold oL at la
        go_enter Try.func42, Try.ntmps42
        go_wp2_with fail
        refine wp_loop_rounds 3 ?_
        rw [rounds_succ]
        go_wp2_with fail
        refine (ivRight_any a _ ha).mono ?_
        rintro e w1 ⟨rfl, hb1⟩
        have st1 := (st.alloc _).keep hb1
        have u10 := carry st1.bel hs s0
        have u11 := carry st1.bel hs s1
        have u12 := carry st1.bel hs s2
        have u13 := carry st1.bel hs s3
        have hs1 : s < w1.heap.size := Nat.lt_of_lt_of_le hs st1.bel.size
        have ns1 : s ≠ w1.heap.size := by omega
        have nr1 : w.heap.size ≠ w1.heap.size := by have := st1.sz; omega
        go_wp2_with fail
        rw [rounds_succ]
        go_wp2_with fail
        refine (ivRight_any b _ hb).mono ?_
        rintro e w2 ⟨rfl, hb2⟩
        have st2 := (st1.alloc _).keep hb2
        have u20 := carry st2.bel hs s0
        have u21 := carry st2.bel hs s1
        have u22 := carry st2.bel hs s2
        have u23 := carry st2.bel hs s3
        have hs2 : s < w2.heap.size := Nat.lt_of_lt_of_le hs st2.bel.size
        have ns2 : s ≠ w2.heap.size := by omega
        have nr2 : w.heap.size ≠ w2.heap.size := by have := st2.sz; omega
        go_wp2_with fail
        rw [rounds_succ]
        go_wp2_with fail
        refine wp_loop_rounds 1 ?_
        rw [rounds_succ]
        have z0 := st2.z0
        have z1 := st2.z1
        have f0 := st2.f0
        have f1 := st2.f1
        have lz := st2.sz
        have lb := st2.bel
        go_wp2_with fail
        refine bodyPost_ret (v := .tuple #[iv (0, 0), .int .i64 2]) (by simp [results, Try.results42, go_sem, *]) rfl ⟨rfl, ?_⟩
        first | exact (((lb.setCell (Nat.le_refl _) _).setCell (Nat.le_refl _) _).alloc (by simp; omega) _) | exact ((((lb.setCell (Nat.le_refl _) _).setCell (Nat.le_refl _) _).alloc (by simp; omega) _).alloc (by simp; omega) _)

end Go.Proofs.Ythfgdhobldejmaa
