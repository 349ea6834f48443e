/- Walks: package ival: ask, for roots, squares and what is known. -/
import Derived.Test.YthfgdhobldejmaaMp
import Derived.LoopTactic
import Derived.LoopN
namespace Go.Proofs.Ythfgdhobldejmaa
open Go.RowKit

set_option maxRecDepth 100000 in
set_option maxHeartbeats 4000000 in
theorem ask_sqrt (c : Nat) (err : Int) (p0 p1 : Addr) (a : Nat × Nat) (r : (Nat × Nat) × Int) (w : World) (s : Nat) (hs : s < w.heap.size) (hc : Cal c err w) (ha : Dy.WW a) (s0 : w.cell? ⟨s, 0, none⟩ = some (.float .f64 a.1)) (s1 : w.cell? ⟨s, 1, none⟩ = some (.float .f64 a.2)) (G : Dy.ivR a = true → Hid (Ans 67 #[.pointer (some p0), .pointer (some p1)] r w)) :
    Calls Try.prog 52 #[.pointer (some ⟨c, 0, none⟩), .func (Fn.func 67) #[] #[.pointer (some p0), .pointer (some p1)], .slice (some ⟨s, 0, none⟩) 1 1] w (Asked c (Dy.cAsk err (Dy.ivR a) r) w) := by
  by_cases he : err = 0
  · subst he
    have st := St.start w
    have k0 := hc.keep st.bel
    have E1 := hid (calErr_any c 0 _ k0)
    have t0 := carry st.bel hs s0
    have t1 := carry st.bel hs s1
    have hs' : s < (w.alloc (.cells #[.float .f64 0, .float .f64 0] 26)).heap.size := Nat.lt_of_lt_of_le hs st.bel.size
    cases ra : Dy.ivR a
    · have eC : Dy.cAsk 0 (false) r = Dy.ivNo 20 := by unfold Dy.cAsk; rw [if_neg (by decide), if_pos (by first | rfl | (simp))]
      rw [eC]
      go_enter Try.func52, Try.ntmps52
      go_wp2_with fail
      refine E1.out.mono ?_
      rintro e w1 ⟨rfl, rfl⟩
      go_wp2_with fail
      refine wp_loop_rounds 1 ?_
      rw [rounds_succ]
      go_wp2_with fail
      refine (ivRight_any a _ ha).mono ?_
      rintro e wz ⟨rfl, hbz⟩
      have sz := (st.alloc _).keep hbz
      have z0 := sz.z0
      have z1 := sz.z1
      have f0 := sz.f0
      have f1 := sz.f1
      have kz := hc.keep sz.bel
      have kc := kz.cell
      have kf := kz.free
      have kl := kz.lt
      have lz := sz.sz
      have ne : w.heap.size ≠ c := by have := hc.lt; omega
      have ne4 : c ≠ w.heap.size := fun h => ne h.symm
      go_wp2_with fail
      refine bodyPost_ret (v := iv (0, 0)) (by simp [results, Try.results52, go_sem, *]) rfl ⟨rfl, (((But.of sz.bel).set _ 0).trans (But.of (((Below.refl w.heap.size _).setCell (by exact Nat.le_refl _) _).setCell (by exact Nat.le_refl _) _))), ⟨?_, ?_, ?_⟩⟩
      · first | exact kl | (simp; omega)
      · show _ = some (Value.int IntKind.i64 20)
        simp [go_sem, *]
      · simp [go_sem, *]
    · skip
      have GG := G ra
      obtain ⟨⟨r1, r2⟩, re⟩ := r
      by_cases hre : re = 0
      · subst hre
        have eC : Dy.cAsk 0 (true) ((r1, r2), 0) = ((r1, r2), 0) := rfl
        rw [eC]
        go_enter Try.func52, Try.ntmps52
        go_wp2_with fail
        refine E1.out.mono ?_
        rintro e w1 ⟨rfl, rfl⟩
        go_wp2_with fail
        refine wp_loop_rounds 2 ?_
        rw [rounds_succ]
        go_wp2_with fail
        refine (ivRight_any a _ ha).mono ?_
        rintro e w2 ⟨rfl, hb2⟩
        have st2 := (st.alloc _).keep hb2
        go_wp2_with fail
        rw [rounds_succ]
        go_wp2_with fail
        refine (GG.out _ st2.bel).mono ?_
        rintro e wz ⟨rfl, hbz⟩
        have sz := st2.keep hbz
        have z0 := sz.z0
        have z1 := sz.z1
        have f0 := sz.f0
        have f1 := sz.f1
        have kz := hc.keep sz.bel
        have kc := kz.cell
        have kf := kz.free
        have kl := kz.lt
        have lz := sz.sz
        have ne : w.heap.size ≠ c := by have := hc.lt; omega
        have ne2 : c ≠ wz.heap.size := by omega
        have ne3 : w.heap.size ≠ wz.heap.size := by omega
        have ne4 : c ≠ w.heap.size := fun h => ne h.symm
        go_wp2_with fail
        refine bodyPost_ret (v := iv (r1, r2)) (by simp [results, Try.results52, go_sem, z0, z1, lz]) rfl ⟨rfl, But.of ?_, ⟨?_, ?_, ?_⟩⟩
        · exact ((sz.bel.setCell (Nat.le_refl _) _).setCell (Nat.le_refl _) _).alloc (by simp; omega) _
        · simp; omega
        · simp [go_sem, kc, kl]
        · simp [go_sem, kf, kl]
      · have eC : Dy.cAsk 0 (true) ((r1, r2), re) = Dy.ivNo re := by unfold Dy.cAsk; rw [if_neg (by decide), if_neg (by decide), if_pos hre]
        rw [eC]
        have h1 : (re != 0) = true := by simpa using hre
        go_enter Try.func52, Try.ntmps52
        go_wp2_with fail
        refine E1.out.mono ?_
        rintro e w1 ⟨rfl, rfl⟩
        go_wp2_with fail
        refine wp_loop_rounds 2 ?_
        rw [rounds_succ]
        go_wp2_with fail
        refine (ivRight_any a _ ha).mono ?_
        rintro e w2 ⟨rfl, hb2⟩
        have st2 := (st.alloc _).keep hb2
        go_wp2_with fail
        rw [rounds_succ]
        go_wp2_with fail
        refine (GG.out _ st2.bel).mono ?_
        rintro e wz ⟨rfl, hbz⟩
        have sz := st2.keep hbz
        have z0 := sz.z0
        have z1 := sz.z1
        have f0 := sz.f0
        have f1 := sz.f1
        have kz := hc.keep sz.bel
        have kc := kz.cell
        have kf := kz.free
        have kl := kz.lt
        have lz := sz.sz
        have ne : w.heap.size ≠ c := by have := hc.lt; omega
        have ne2 : c ≠ wz.heap.size := by omega
        have ne3 : w.heap.size ≠ wz.heap.size := by omega
        have ne4 : c ≠ w.heap.size := fun h => ne h.symm
        go_wp2_with fail
        refine bodyPost_ret (v := iv (0, 0)) (by simp [results, Try.results52, go_sem, *]) rfl ⟨rfl, (((But.of sz.bel).set _ 0).trans (But.of (((Below.refl w.heap.size _).setCell (by exact Nat.le_refl _) _).setCell (by exact Nat.le_refl _) _))).trans (But.of ((Below.refl _ _).alloc (by simp; omega) _)), ⟨?_, ?_, ?_⟩⟩
        · first | exact kl | (simp; omega)
        · show _ = some (Value.int IntKind.i64 re)
          simp [go_sem, *]
        · simp [go_sem, *]
  · have eC : Dy.cAsk err (Dy.ivR a) r = Dy.ivNo err := by unfold Dy.cAsk; rw [if_pos he]
    rw [eC]
    exact ask_err c err _ _ w hc he

set_option maxRecDepth 100000 in
set_option maxHeartbeats 4000000 in
theorem ask_sqr (c : Nat) (err : Int) (p0 : Addr) (a : Nat × Nat) (r : (Nat × Nat) × Int) (w : World) (s : Nat) (hs : s < w.heap.size) (hc : Cal c err w) (ha : Dy.WW a) (s0 : w.cell? ⟨s, 0, none⟩ = some (.float .f64 a.1)) (s1 : w.cell? ⟨s, 1, none⟩ = some (.float .f64 a.2)) (G : Dy.ivR a = true → Hid (Ans 74 #[.pointer (some p0)] r w)) :
    Calls Try.prog 52 #[.pointer (some ⟨c, 0, none⟩), .func (Fn.func 74) #[] #[.pointer (some p0)], .slice (some ⟨s, 0, none⟩) 1 1] w (Asked c (Dy.cAsk err (Dy.ivR a) r) w) := by
  by_cases he : err = 0
  · subst he
    have st := St.start w
    have k0 := hc.keep st.bel
    have E1 := hid (calErr_any c 0 _ k0)
    have t0 := carry st.bel hs s0
    have t1 := carry st.bel hs s1
    have hs' : s < (w.alloc (.cells #[.float .f64 0, .float .f64 0] 26)).heap.size := Nat.lt_of_lt_of_le hs st.bel.size
    cases ra : Dy.ivR a
    · have eC : Dy.cAsk 0 (false) r = Dy.ivNo 20 := by unfold Dy.cAsk; rw [if_neg (by decide), if_pos (by first | rfl | (simp))]
      rw [eC]
      go_enter Try.func52, Try.ntmps52
      go_wp2_with fail
      refine E1.out.mono ?_
      rintro e w1 ⟨rfl, rfl⟩
      go_wp2_with fail
      refine wp_loop_rounds 1 ?_
      rw [rounds_succ]
      go_wp2_with fail
      refine (ivRight_any a _ ha).mono ?_
      rintro e wz ⟨rfl, hbz⟩
      have sz := (st.alloc _).keep hbz
      have z0 := sz.z0
      have z1 := sz.z1
      have f0 := sz.f0
      have f1 := sz.f1
      have kz := hc.keep sz.bel
      have kc := kz.cell
      have kf := kz.free
      have kl := kz.lt
      have lz := sz.sz
      have ne : w.heap.size ≠ c := by have := hc.lt; omega
      have ne4 : c ≠ w.heap.size := fun h => ne h.symm
      go_wp2_with fail
      refine bodyPost_ret (v := iv (0, 0)) (by simp [results, Try.results52, go_sem, *]) rfl ⟨rfl, (((But.of sz.bel).set _ 0).trans (But.of (((Below.refl w.heap.size _).setCell (by exact Nat.le_refl _) _).setCell (by exact Nat.le_refl _) _))), ⟨?_, ?_, ?_⟩⟩
      · first | exact kl | (simp; omega)
      · show _ = some (Value.int IntKind.i64 20)
        simp [go_sem, *]
      · simp [go_sem, *]
    · skip
      have GG := G ra
      obtain ⟨⟨r1, r2⟩, re⟩ := r
      by_cases hre : re = 0
      · subst hre
        have eC : Dy.cAsk 0 (true) ((r1, r2), 0) = ((r1, r2), 0) := rfl
        rw [eC]
        go_enter Try.func52, Try.ntmps52
        go_wp2_with fail
        refine E1.out.mono ?_
        rintro e w1 ⟨rfl, rfl⟩
        go_wp2_with fail
        refine wp_loop_rounds 2 ?_
        rw [rounds_succ]
        go_wp2_with fail
        refine (ivRight_any a _ ha).mono ?_
        rintro e w2 ⟨rfl, hb2⟩
        have st2 := (st.alloc _).keep hb2
        go_wp2_with fail
        rw [rounds_succ]
        go_wp2_with fail
        refine (GG.out _ st2.bel).mono ?_
        rintro e wz ⟨rfl, hbz⟩
        have sz := st2.keep hbz
        have z0 := sz.z0
        have z1 := sz.z1
        have f0 := sz.f0
        have f1 := sz.f1
        have kz := hc.keep sz.bel
        have kc := kz.cell
        have kf := kz.free
        have kl := kz.lt
        have lz := sz.sz
        have ne : w.heap.size ≠ c := by have := hc.lt; omega
        have ne2 : c ≠ wz.heap.size := by omega
        have ne3 : w.heap.size ≠ wz.heap.size := by omega
        have ne4 : c ≠ w.heap.size := fun h => ne h.symm
        go_wp2_with fail
        refine bodyPost_ret (v := iv (r1, r2)) (by simp [results, Try.results52, go_sem, z0, z1, lz]) rfl ⟨rfl, But.of ?_, ⟨?_, ?_, ?_⟩⟩
        · exact ((sz.bel.setCell (Nat.le_refl _) _).setCell (Nat.le_refl _) _).alloc (by simp; omega) _
        · simp; omega
        · simp [go_sem, kc, kl]
        · simp [go_sem, kf, kl]
      · have eC : Dy.cAsk 0 (true) ((r1, r2), re) = Dy.ivNo re := by unfold Dy.cAsk; rw [if_neg (by decide), if_neg (by decide), if_pos hre]
        rw [eC]
        have h1 : (re != 0) = true := by simpa using hre
        go_enter Try.func52, Try.ntmps52
        go_wp2_with fail
        refine E1.out.mono ?_
        rintro e w1 ⟨rfl, rfl⟩
        go_wp2_with fail
        refine wp_loop_rounds 2 ?_
        rw [rounds_succ]
        go_wp2_with fail
        refine (ivRight_any a _ ha).mono ?_
        rintro e w2 ⟨rfl, hb2⟩
        have st2 := (st.alloc _).keep hb2
        go_wp2_with fail
        rw [rounds_succ]
        go_wp2_with fail
        refine (GG.out _ st2.bel).mono ?_
        rintro e wz ⟨rfl, hbz⟩
        have sz := st2.keep hbz
        have z0 := sz.z0
        have z1 := sz.z1
        have f0 := sz.f0
        have f1 := sz.f1
        have kz := hc.keep sz.bel
        have kc := kz.cell
        have kf := kz.free
        have kl := kz.lt
        have lz := sz.sz
        have ne : w.heap.size ≠ c := by have := hc.lt; omega
        have ne2 : c ≠ wz.heap.size := by omega
        have ne3 : w.heap.size ≠ wz.heap.size := by omega
        have ne4 : c ≠ w.heap.size := fun h => ne h.symm
        go_wp2_with fail
        refine bodyPost_ret (v := iv (0, 0)) (by simp [results, Try.results52, go_sem, *]) rfl ⟨rfl, (((But.of sz.bel).set _ 0).trans (But.of (((Below.refl w.heap.size _).setCell (by exact Nat.le_refl _) _).setCell (by exact Nat.le_refl _) _))).trans (But.of ((Below.refl _ _).alloc (by simp; omega) _)), ⟨?_, ?_, ?_⟩⟩
        · first | exact kl | (simp; omega)
        · show _ = some (Value.int IntKind.i64 re)
          simp [go_sem, *]
        · simp [go_sem, *]
  · have eC : Dy.cAsk err (Dy.ivR a) r = Dy.ivNo err := by unfold Dy.cAsk; rw [if_pos he]
    rw [eC]
    exact ask_err c err _ _ w hc he

set_option maxRecDepth 100000 in
set_option maxHeartbeats 4000000 in
theorem ask_known1 (c : Nat) (err : Int) (p0 : Addr) (a : Nat × Nat) (r : (Nat × Nat) × Int) (w : World) (s : Nat) (hs : s < w.heap.size) (hc : Cal c err w) (ha : Dy.WW a) (s0 : w.cell? ⟨s, 0, none⟩ = some (.float .f64 a.1)) (s1 : w.cell? ⟨s, 1, none⟩ = some (.float .f64 a.2)) (G : Dy.ivR a = true → Hid (Ans 105 #[.pointer (some p0)] r w)) :
    Calls Try.prog 52 #[.pointer (some ⟨c, 0, none⟩), .func (Fn.func 105) #[] #[.pointer (some p0)], .slice (some ⟨s, 0, none⟩) 1 1] w (Asked c (Dy.cAsk err (Dy.ivR a) r) w) := by
  by_cases he : err = 0
  · subst he
    have st := St.start w
    have k0 := hc.keep st.bel
    have E1 := hid (calErr_any c 0 _ k0)
    have t0 := carry st.bel hs s0
    have t1 := carry st.bel hs s1
    have hs' : s < (w.alloc (.cells #[.float .f64 0, .float .f64 0] 26)).heap.size := Nat.lt_of_lt_of_le hs st.bel.size
    cases ra : Dy.ivR a
    · have eC : Dy.cAsk 0 (false) r = Dy.ivNo 20 := by unfold Dy.cAsk; rw [if_neg (by decide), if_pos (by first | rfl | (simp))]
      rw [eC]
      go_enter Try.func52, Try.ntmps52
      go_wp2_with fail
      refine E1.out.mono ?_
      rintro e w1 ⟨rfl, rfl⟩
      go_wp2_with fail
      refine wp_loop_rounds 1 ?_
      rw [rounds_succ]
      go_wp2_with fail
      refine (ivRight_any a _ ha).mono ?_
      rintro e wz ⟨rfl, hbz⟩
      have sz := (st.alloc _).keep hbz
      have z0 := sz.z0
      have z1 := sz.z1
      have f0 := sz.f0
      have f1 := sz.f1
      have kz := hc.keep sz.bel
      have kc := kz.cell
      have kf := kz.free
      have kl := kz.lt
      have lz := sz.sz
      have ne : w.heap.size ≠ c := by have := hc.lt; omega
      have ne4 : c ≠ w.heap.size := fun h => ne h.symm
      go_wp2_with fail
      refine bodyPost_ret (v := iv (0, 0)) (by simp [results, Try.results52, go_sem, *]) rfl ⟨rfl, (((But.of sz.bel).set _ 0).trans (But.of (((Below.refl w.heap.size _).setCell (by exact Nat.le_refl _) _).setCell (by exact Nat.le_refl _) _))), ⟨?_, ?_, ?_⟩⟩
      · first | exact kl | (simp; omega)
      · show _ = some (Value.int IntKind.i64 20)
        simp [go_sem, *]
      · simp [go_sem, *]
    · skip
      have GG := G ra
      obtain ⟨⟨r1, r2⟩, re⟩ := r
      by_cases hre : re = 0
      · subst hre
        have eC : Dy.cAsk 0 (true) ((r1, r2), 0) = ((r1, r2), 0) := rfl
        rw [eC]
        go_enter Try.func52, Try.ntmps52
        go_wp2_with fail
        refine E1.out.mono ?_
        rintro e w1 ⟨rfl, rfl⟩
        go_wp2_with fail
        refine wp_loop_rounds 2 ?_
        rw [rounds_succ]
        go_wp2_with fail
        refine (ivRight_any a _ ha).mono ?_
        rintro e w2 ⟨rfl, hb2⟩
        have st2 := (st.alloc _).keep hb2
        go_wp2_with fail
        rw [rounds_succ]
        go_wp2_with fail
        refine (GG.out _ st2.bel).mono ?_
        rintro e wz ⟨rfl, hbz⟩
        have sz := st2.keep hbz
        have z0 := sz.z0
        have z1 := sz.z1
        have f0 := sz.f0
        have f1 := sz.f1
        have kz := hc.keep sz.bel
        have kc := kz.cell
        have kf := kz.free
        have kl := kz.lt
        have lz := sz.sz
        have ne : w.heap.size ≠ c := by have := hc.lt; omega
        have ne2 : c ≠ wz.heap.size := by omega
        have ne3 : w.heap.size ≠ wz.heap.size := by omega
        have ne4 : c ≠ w.heap.size := fun h => ne h.symm
        go_wp2_with fail
        refine bodyPost_ret (v := iv (r1, r2)) (by simp [results, Try.results52, go_sem, z0, z1, lz]) rfl ⟨rfl, But.of ?_, ⟨?_, ?_, ?_⟩⟩
        · exact ((sz.bel.setCell (Nat.le_refl _) _).setCell (Nat.le_refl _) _).alloc (by simp; omega) _
        · simp; omega
        · simp [go_sem, kc, kl]
        · simp [go_sem, kf, kl]
      · have eC : Dy.cAsk 0 (true) ((r1, r2), re) = Dy.ivNo re := by unfold Dy.cAsk; rw [if_neg (by decide), if_neg (by decide), if_pos hre]
        rw [eC]
        have h1 : (re != 0) = true := by simpa using hre
        go_enter Try.func52, Try.ntmps52
        go_wp2_with fail
        refine E1.out.mono ?_
        rintro e w1 ⟨rfl, rfl⟩
        go_wp2_with fail
        refine wp_loop_rounds 2 ?_
        rw [rounds_succ]
        go_wp2_with fail
        refine (ivRight_any a _ ha).mono ?_
        rintro e w2 ⟨rfl, hb2⟩
        have st2 := (st.alloc _).keep hb2
        go_wp2_with fail
        rw [rounds_succ]
        go_wp2_with fail
        refine (GG.out _ st2.bel).mono ?_
        rintro e wz ⟨rfl, hbz⟩
        have sz := st2.keep hbz
        have z0 := sz.z0
        have z1 := sz.z1
        have f0 := sz.f0
        have f1 := sz.f1
        have kz := hc.keep sz.bel
        have kc := kz.cell
        have kf := kz.free
        have kl := kz.lt
        have lz := sz.sz
        have ne : w.heap.size ≠ c := by have := hc.lt; omega
        have ne2 : c ≠ wz.heap.size := by omega
        have ne3 : w.heap.size ≠ wz.heap.size := by omega
        have ne4 : c ≠ w.heap.size := fun h => ne h.symm
        go_wp2_with fail
        refine bodyPost_ret (v := iv (0, 0)) (by simp [results, Try.results52, go_sem, *]) rfl ⟨rfl, (((But.of sz.bel).set _ 0).trans (But.of (((Below.refl w.heap.size _).setCell (by exact Nat.le_refl _) _).setCell (by exact Nat.le_refl _) _))).trans (But.of ((Below.refl _ _).alloc (by simp; omega) _)), ⟨?_, ?_, ?_⟩⟩
        · first | exact kl | (simp; omega)
        · show _ = some (Value.int IntKind.i64 re)
          simp [go_sem, *]
        · simp [go_sem, *]
  · have eC : Dy.cAsk err (Dy.ivR a) r = Dy.ivNo err := by unfold Dy.cAsk; rw [if_pos he]
    rw [eC]
    exact ask_err c err _ _ w hc he

set_option maxRecDepth 100000 in
set_option maxHeartbeats 4000000 in
theorem ask_known2 (c : Nat) (err : Int) (p0 : Addr) (a : Nat × Nat) (b : Nat × Nat) (r : (Nat × Nat) × Int) (w : World) (s : Nat) (hs : s < w.heap.size) (hc : Cal c err w) (ha : Dy.WW a) (hb : Dy.WW b) (s0 : w.cell? ⟨s, 0, none⟩ = some (.float .f64 a.1)) (s1 : w.cell? ⟨s, 1, none⟩ = some (.float .f64 a.2)) (s2 : w.cell? ⟨s, 2, none⟩ = some (.float .f64 b.1)) (s3 : w.cell? ⟨s, 3, none⟩ = some (.float .f64 b.2)) (G : Dy.ivR a = true → Dy.ivR b = true → Hid (Ans 105 #[.pointer (some p0)] r w)) :
    Calls Try.prog 52 #[.pointer (some ⟨c, 0, none⟩), .func (Fn.func 105) #[] #[.pointer (some p0)], .slice (some ⟨s, 0, none⟩) 2 2] w (Asked c (Dy.cAsk err (Dy.ivR a && Dy.ivR b) r) w) := by
  by_cases he : err = 0
  · subst he
    have st := St.start w
    have k0 := hc.keep st.bel
    have E1 := hid (calErr_any c 0 _ k0)
    have t0 := carry st.bel hs s0
    have t1 := carry st.bel hs s1
    have t2 := carry st.bel hs s2
    have t3 := carry st.bel hs s3
    have hs' : s < (w.alloc (.cells #[.float .f64 0, .float .f64 0] 26)).heap.size := Nat.lt_of_lt_of_le hs st.bel.size
    cases ra : Dy.ivR a
    · have eC : Dy.cAsk 0 (false && Dy.ivR b) r = Dy.ivNo 20 := by unfold Dy.cAsk; rw [if_neg (by decide), if_pos (by first | rfl | (simp))]
      rw [eC]
      go_enter Try.func52, Try.ntmps52
      go_wp2_with fail
      refine E1.out.mono ?_
      rintro e w1 ⟨rfl, rfl⟩
      go_wp2_with fail
      refine wp_loop_rounds 1 ?_
      rw [rounds_succ]
      go_wp2_with fail
      refine (ivRight_any a _ ha).mono ?_
      rintro e wz ⟨rfl, hbz⟩
      have sz := (st.alloc _).keep hbz
      have z0 := sz.z0
      have z1 := sz.z1
      have f0 := sz.f0
      have f1 := sz.f1
      have kz := hc.keep sz.bel
      have kc := kz.cell
      have kf := kz.free
      have kl := kz.lt
      have lz := sz.sz
      have ne : w.heap.size ≠ c := by have := hc.lt; omega
      have ne4 : c ≠ w.heap.size := fun h => ne h.symm
      go_wp2_with fail
      refine bodyPost_ret (v := iv (0, 0)) (by simp [results, Try.results52, go_sem, *]) rfl ⟨rfl, (((But.of sz.bel).set _ 0).trans (But.of (((Below.refl w.heap.size _).setCell (by exact Nat.le_refl _) _).setCell (by exact Nat.le_refl _) _))), ⟨?_, ?_, ?_⟩⟩
      · first | exact kl | (simp; omega)
      · show _ = some (Value.int IntKind.i64 20)
        simp [go_sem, *]
      · simp [go_sem, *]
    · skip
      cases rb : Dy.ivR b
      · have eC : Dy.cAsk 0 (true && false) r = Dy.ivNo 20 := by unfold Dy.cAsk; rw [if_neg (by decide), if_pos (by first | rfl | (simp))]
        rw [eC]
        go_enter Try.func52, Try.ntmps52
        go_wp2_with fail
        refine E1.out.mono ?_
        rintro e w1 ⟨rfl, rfl⟩
        go_wp2_with fail
        refine wp_loop_rounds 2 ?_
        rw [rounds_succ]
        go_wp2_with fail
        refine (ivRight_any a _ ha).mono ?_
        rintro e w2 ⟨rfl, hb2⟩
        have st2 := (st.alloc _).keep hb2
        have u2 := carry st2.bel hs s2
        have u3 := carry st2.bel hs s3
        go_wp2_with fail
        rw [rounds_succ]
        go_wp2_with fail
        refine (ivRight_any b _ hb).mono ?_
        rintro e wz ⟨rfl, hbz⟩
        have sz := (st2.alloc _).keep hbz
        have z0 := sz.z0
        have z1 := sz.z1
        have f0 := sz.f0
        have f1 := sz.f1
        have kz := hc.keep sz.bel
        have kc := kz.cell
        have kf := kz.free
        have kl := kz.lt
        have lz := sz.sz
        have ne : w.heap.size ≠ c := by have := hc.lt; omega
        have ne4 : c ≠ w.heap.size := fun h => ne h.symm
        go_wp2_with fail
        refine bodyPost_ret (v := iv (0, 0)) (by simp [results, Try.results52, go_sem, *]) rfl ⟨rfl, (((But.of sz.bel).set _ 0).trans (But.of (((Below.refl w.heap.size _).setCell (by exact Nat.le_refl _) _).setCell (by exact Nat.le_refl _) _))), ⟨?_, ?_, ?_⟩⟩
        · first | exact kl | (simp; omega)
        · show _ = some (Value.int IntKind.i64 20)
          simp [go_sem, *]
        · simp [go_sem, *]
      · skip
        have GG := G ra rb
        obtain ⟨⟨r1, r2⟩, re⟩ := r
        by_cases hre : re = 0
        · subst hre
          have eC : Dy.cAsk 0 (true && true) ((r1, r2), 0) = ((r1, r2), 0) := rfl
          rw [eC]
          go_enter Try.func52, Try.ntmps52
          go_wp2_with fail
          refine E1.out.mono ?_
          rintro e w1 ⟨rfl, rfl⟩
          go_wp2_with fail
          refine wp_loop_rounds 3 ?_
          rw [rounds_succ]
          go_wp2_with fail
          refine (ivRight_any a _ ha).mono ?_
          rintro e w2 ⟨rfl, hb2⟩
          have st2 := (st.alloc _).keep hb2
          have u2 := carry st2.bel hs s2
          have u3 := carry st2.bel hs s3
          go_wp2_with fail
          rw [rounds_succ]
          go_wp2_with fail
          refine (ivRight_any b _ hb).mono ?_
          rintro e w3 ⟨rfl, hb3⟩
          have st3 := (st2.alloc _).keep hb3
          go_wp2_with fail
          rw [rounds_succ]
          go_wp2_with fail
          refine (GG.out _ st3.bel).mono ?_
          rintro e wz ⟨rfl, hbz⟩
          have sz := st3.keep hbz
          have z0 := sz.z0
          have z1 := sz.z1
          have f0 := sz.f0
          have f1 := sz.f1
          have kz := hc.keep sz.bel
          have kc := kz.cell
          have kf := kz.free
          have kl := kz.lt
          have lz := sz.sz
          have ne : w.heap.size ≠ c := by have := hc.lt; omega
          have ne2 : c ≠ wz.heap.size := by omega
          have ne3 : w.heap.size ≠ wz.heap.size := by omega
          have ne4 : c ≠ w.heap.size := fun h => ne h.symm
          go_wp2_with fail
          refine bodyPost_ret (v := iv (r1, r2)) (by simp [results, Try.results52, go_sem, z0, z1, lz]) rfl ⟨rfl, But.of ?_, ⟨?_, ?_, ?_⟩⟩
          · exact ((sz.bel.setCell (Nat.le_refl _) _).setCell (Nat.le_refl _) _).alloc (by simp; omega) _
          · simp; omega
          · simp [go_sem, kc, kl]
          · simp [go_sem, kf, kl]
        · have eC : Dy.cAsk 0 (true && true) ((r1, r2), re) = Dy.ivNo re := by unfold Dy.cAsk; rw [if_neg (by decide), if_neg (by decide), if_pos hre]
          rw [eC]
          have h1 : (re != 0) = true := by simpa using hre
          go_enter Try.func52, Try.ntmps52
          go_wp2_with fail
          refine E1.out.mono ?_
          rintro e w1 ⟨rfl, rfl⟩
          go_wp2_with fail
          refine wp_loop_rounds 3 ?_
          rw [rounds_succ]
          go_wp2_with fail
          refine (ivRight_any a _ ha).mono ?_
          rintro e w2 ⟨rfl, hb2⟩
          have st2 := (st.alloc _).keep hb2
          have u2 := carry st2.bel hs s2
          have u3 := carry st2.bel hs s3
          go_wp2_with fail
          rw [rounds_succ]
          go_wp2_with fail
          refine (ivRight_any b _ hb).mono ?_
          rintro e w3 ⟨rfl, hb3⟩
          have st3 := (st2.alloc _).keep hb3
          go_wp2_with fail
          rw [rounds_succ]
          go_wp2_with fail
          refine (GG.out _ st3.bel).mono ?_
          rintro e wz ⟨rfl, hbz⟩
          have sz := st3.keep hbz
          have z0 := sz.z0
          have z1 := sz.z1
          have f0 := sz.f0
          have f1 := sz.f1
          have kz := hc.keep sz.bel
          have kc := kz.cell
          have kf := kz.free
          have kl := kz.lt
          have lz := sz.sz
          have ne : w.heap.size ≠ c := by have := hc.lt; omega
          have ne2 : c ≠ wz.heap.size := by omega
          have ne3 : w.heap.size ≠ wz.heap.size := by omega
          have ne4 : c ≠ w.heap.size := fun h => ne h.symm
          go_wp2_with fail
          refine bodyPost_ret (v := iv (0, 0)) (by simp [results, Try.results52, go_sem, *]) rfl ⟨rfl, (((But.of sz.bel).set _ 0).trans (But.of (((Below.refl w.heap.size _).setCell (by exact Nat.le_refl _) _).setCell (by exact Nat.le_refl _) _))).trans (But.of ((Below.refl _ _).alloc (by simp; omega) _)), ⟨?_, ?_, ?_⟩⟩
          · first | exact kl | (simp; omega)
          · show _ = some (Value.int IntKind.i64 re)
            simp [go_sem, *]
          · simp [go_sem, *]
  · have eC : Dy.cAsk err (Dy.ivR a && Dy.ivR b) r = Dy.ivNo err := by unfold Dy.cAsk; rw [if_pos he]
    rw [eC]
    exact ask_err c err _ _ w hc he

end Go.Proofs.Ythfgdhobldejmaa
