/- Walks: package ival: ask, for roots, squares and what is known. Walks: package ival: a root, as an operation of two numbers. Walks: package ival: the closures of a calculator's Sqrt and Sqr. -/
import Derived.Test.YtkhplflbcgjkcaaGreatN2
import Derived.LoopTactic
import Derived.LoopN
import Derived.Deep.RegionHeld3
namespace Go.Proofs.YtkhplflbcgjkcaaGreat
open Go.RowKit
set_option maxRecDepth 100000 in
set_option maxHeartbeats 4000000 in
theorem ask_sqrt (c : Nat) (err : Int) (p0 p1 : Addr) (a : Nat × Nat) (r : (Nat × Nat) × Int) (w : World) (s : Nat) (hs : s < w.heap.size) (hc : Cal c err w) (ha : Dy.WW a) (s0 : w.cell? ⟨s, 0, none⟩ = some (.float .f64 a.1)) (s1 : w.cell? ⟨s, 1, none⟩ = some (.float .f64 a.2)) (G : Dy.ivR a = true → Hid (Ans 132 #[.pointer (some p0), .pointer (some p1)] r w)) :
  Calls Tryz.prog 102 #[.pointer (some ⟨c, 0, none⟩), .func (Fn.func 132) #[] #[.pointer (some p0), .pointer (some p1)], .slice (some ⟨s, 0, none⟩) 1 1] w (Asked c (Dy.cAsk err (Dy.ivR a) r) w) := by
 by_cases he : err = 0
 ·subst he
  have st := St.start w
  have k0 := hc.keep st.bel
  have E1 := hid (calErr_any c 0 _ k0)
  have t0 := carry st.bel hs s0
  have t1 := carry st.bel hs s1
  have hs' : s < (w.alloc (.cells #[.float .f64 0, .float .f64 0] 24)).heap.size := Nat.lt_of_lt_of_le hs st.bel.size
  cases ra : Dy.ivR a
  ·have eC : Dy.cAsk 0 (false) r = Dy.ivNo 20 := by unfold Dy.cAsk; rw [if_neg (by decide), if_pos (by first | rfl | (simp))]
   rw [eC]
   go_enter Tryz.func102, Tryz.ntmps102
   go_wp2_with fail
   refine E1.out.mono ?_
   rintro e w1 ⟨rfl, rfl⟩
   go_wp2_with fail
   refine wp_loop_rounds 1 ?_
   rw [rounds_succ]
   go_wp2_with fail
   refine (ivRight_any a _ ha).mono ?_
   rintro e wz ⟨rfl, hbz⟩
   have sz := (st.alloc _).keep hbz
   have z0 := sz.z0
   have z1 := sz.z1
   have f0 := sz.f0
   have f1 := sz.f1
   have kz := hc.keep sz.bel
   have kc := kz.cell
   have kf := kz.free
   have kl := kz.lt
   have lz := sz.sz
   have ne : w.heap.size ≠ c := by have := hc.lt; omega
   have ne4 : c ≠ w.heap.size := fun h => ne h.symm
   go_wp2_with fail
   refine bodyPost_ret (v := iv (0, 0)) (by simp [results, Tryz.results102, go_sem, *]) rfl ⟨rfl, (((But.of sz.bel).set _ 0).trans (But.of (((Below.refl w.heap.size _).setCell (by exact Nat.le_refl _) _).setCell (by exact Nat.le_refl _) _))), ⟨?_, ?_, ?_⟩⟩
   ·first | exact kl | (simp; omega)
   ·show _ = some (Value.int IntKind.i64 20)
    simp [go_sem, *]
   ·simp [go_sem, *]
  ·skip
   have GG := G ra
   obtain ⟨⟨r1, r2⟩, re⟩ := r
   by_cases hre : re = 0
   ·subst hre
    have eC : Dy.cAsk 0 (true) ((r1, r2), 0) = ((r1, r2), 0) := rfl
    rw [eC]
    go_enter Tryz.func102, Tryz.ntmps102
    go_wp2_with fail
    refine E1.out.mono ?_
    rintro e w1 ⟨rfl, rfl⟩
    go_wp2_with fail
    refine wp_loop_rounds 2 ?_
    rw [rounds_succ]
    go_wp2_with fail
    refine (ivRight_any a _ ha).mono ?_
    rintro e w2 ⟨rfl, hb2⟩
    have st2 := (st.alloc _).keep hb2
    go_wp2_with fail
    rw [rounds_succ]
    go_wp2_with fail
    refine (GG.out _ st2.bel).mono ?_
    rintro e wz ⟨rfl, hbz⟩
    have sz := st2.keep hbz
    have z0 := sz.z0
    have z1 := sz.z1
    have f0 := sz.f0
    have f1 := sz.f1
    have kz := hc.keep sz.bel
    have kc := kz.cell
    have kf := kz.free
    have kl := kz.lt
    have lz := sz.sz
    have ne : w.heap.size ≠ c := by have := hc.lt; omega
    have ne2 : c ≠ wz.heap.size := by omega
    have ne3 : w.heap.size ≠ wz.heap.size := by omega
    have ne4 : c ≠ w.heap.size := fun h => ne h.symm
    go_wp2_with fail
    refine bodyPost_ret (v := iv (r1, r2)) (by simp [results, Tryz.results102, go_sem, z0, z1, lz]) rfl ⟨rfl, But.of ?_, ⟨?_, ?_, ?_⟩⟩
    ·exact ((sz.bel.setCell (Nat.le_refl _) _).setCell (Nat.le_refl _) _).alloc (by simp; omega) _
    ·simp; omega
    ·simp [go_sem, kc, kl]
    ·simp [go_sem, kf, kl]
   ·have eC : Dy.cAsk 0 (true) ((r1, r2), re) = Dy.ivNo re := by unfold Dy.cAsk; rw [if_neg (by decide), if_neg (by decide), if_pos hre]
    rw [eC]
    have h1 : (re != 0) = true := by simpa using hre
    go_enter Tryz.func102, Tryz.ntmps102
    go_wp2_with fail
    refine E1.out.mono ?_
    rintro e w1 ⟨rfl, rfl⟩
    go_wp2_with fail
    refine wp_loop_rounds 2 ?_
    rw [rounds_succ]
    go_wp2_with fail
    refine (ivRight_any a _ ha).mono ?_
    rintro e w2 ⟨rfl, hb2⟩
    have st2 := (st.alloc _).keep hb2
    go_wp2_with fail
    rw [rounds_succ]
    go_wp2_with fail
    refine (GG.out _ st2.bel).mono ?_
    rintro e wz ⟨rfl, hbz⟩
    have sz := st2.keep hbz
    have z0 := sz.z0
    have z1 := sz.z1
    have f0 := sz.f0
    have f1 := sz.f1
    have kz := hc.keep sz.bel
    have kc := kz.cell
    have kf := kz.free
    have kl := kz.lt
    have lz := sz.sz
    have ne : w.heap.size ≠ c := by have := hc.lt; omega
    have ne2 : c ≠ wz.heap.size := by omega
    have ne3 : w.heap.size ≠ wz.heap.size := by omega
    have ne4 : c ≠ w.heap.size := fun h => ne h.symm
    go_wp2_with fail
    refine bodyPost_ret (v := iv (0, 0)) (by simp [results, Tryz.results102, go_sem, *]) rfl ⟨rfl, (((But.of sz.bel).set _ 0).trans (But.of (((Below.refl w.heap.size _).setCell (by exact Nat.le_refl _) _).setCell (by exact Nat.le_refl _) _))).trans (But.of ((Below.refl _ _).alloc (by simp; omega) _)), ⟨?_, ?_, ?_⟩⟩
    ·first | exact kl | (simp; omega)
    ·show _ = some (Value.int IntKind.i64 re)
     simp [go_sem, *]
    ·simp [go_sem, *]
 ·have eC : Dy.cAsk err (Dy.ivR a) r = Dy.ivNo err := by unfold Dy.cAsk; rw [if_pos he]
  rw [eC]
  exact ask_err c err _ _ w hc he
set_option maxRecDepth 100000 in
set_option maxHeartbeats 4000000 in
theorem ask_sqr (c : Nat) (err : Int) (p0 : Addr) (a : Nat × Nat) (r : (Nat × Nat) × Int) (w : World) (s : Nat) (hs : s < w.heap.size) (hc : Cal c err w) (ha : Dy.WW a) (s0 : w.cell? ⟨s, 0, none⟩ = some (.float .f64 a.1)) (s1 : w.cell? ⟨s, 1, none⟩ = some (.float .f64 a.2)) (G : Dy.ivR a = true → Hid (Ans 128 #[.pointer (some p0)] r w)) :
  Calls Tryz.prog 102 #[.pointer (some ⟨c, 0, none⟩), .func (Fn.func 128) #[] #[.pointer (some p0)], .slice (some ⟨s, 0, none⟩) 1 1] w (Asked c (Dy.cAsk err (Dy.ivR a) r) w) := by
 by_cases he : err = 0
 ·subst he
  have st := St.start w
  have k0 := hc.keep st.bel
  have E1 := hid (calErr_any c 0 _ k0)
  have t0 := carry st.bel hs s0
  have t1 := carry st.bel hs s1
  have hs' : s < (w.alloc (.cells #[.float .f64 0, .float .f64 0] 24)).heap.size := Nat.lt_of_lt_of_le hs st.bel.size
  cases ra : Dy.ivR a
  ·have eC : Dy.cAsk 0 (false) r = Dy.ivNo 20 := by unfold Dy.cAsk; rw [if_neg (by decide), if_pos (by first | rfl | (simp))]
   rw [eC]
   go_enter Tryz.func102, Tryz.ntmps102
   go_wp2_with fail
   refine E1.out.mono ?_
   rintro e w1 ⟨rfl, rfl⟩
   go_wp2_with fail
   refine wp_loop_rounds 1 ?_
   rw [rounds_succ]
   go_wp2_with fail
   refine (ivRight_any a _ ha).mono ?_
   rintro e wz ⟨rfl, hbz⟩
   have sz := (st.alloc _).keep hbz
   have z0 := sz.z0
   have z1 := sz.z1
   have f0 := sz.f0
   have f1 := sz.f1
   have kz := hc.keep sz.bel
   have kc := kz.cell
   have kf := kz.free
   have kl := kz.lt
   have lz := sz.sz
   have ne : w.heap.size ≠ c := by have := hc.lt; omega
   have ne4 : c ≠ w.heap.size := fun h => ne h.symm
   go_wp2_with fail
   refine bodyPost_ret (v := iv (0, 0)) (by simp [results, Tryz.results102, go_sem, *]) rfl ⟨rfl, (((But.of sz.bel).set _ 0).trans (But.of (((Below.refl w.heap.size _).setCell (by exact Nat.le_refl _) _).setCell (by exact Nat.le_refl _) _))), ⟨?_, ?_, ?_⟩⟩
   ·first | exact kl | (simp; omega)
   ·show _ = some (Value.int IntKind.i64 20)
    simp [go_sem, *]
   ·simp [go_sem, *]
  ·skip
   have GG := G ra
   obtain ⟨⟨r1, r2⟩, re⟩ := r
   by_cases hre : re = 0
   ·subst hre
    have eC : Dy.cAsk 0 (true) ((r1, r2), 0) = ((r1, r2), 0) := rfl
    rw [eC]
    go_enter Tryz.func102, Tryz.ntmps102
    go_wp2_with fail
    refine E1.out.mono ?_
    rintro e w1 ⟨rfl, rfl⟩
    go_wp2_with fail
    refine wp_loop_rounds 2 ?_
    rw [rounds_succ]
    go_wp2_with fail
    refine (ivRight_any a _ ha).mono ?_
    rintro e w2 ⟨rfl, hb2⟩
    have st2 := (st.alloc _).keep hb2
    go_wp2_with fail
    rw [rounds_succ]
    go_wp2_with fail
    refine (GG.out _ st2.bel).mono ?_
    rintro e wz ⟨rfl, hbz⟩
    have sz := st2.keep hbz
    have z0 := sz.z0
    have z1 := sz.z1
    have f0 := sz.f0
    have f1 := sz.f1
    have kz := hc.keep sz.bel
    have kc := kz.cell
    have kf := kz.free
    have kl := kz.lt
    have lz := sz.sz
    have ne : w.heap.size ≠ c := by have := hc.lt; omega
    have ne2 : c ≠ wz.heap.size := by omega
    have ne3 : w.heap.size ≠ wz.heap.size := by omega
    have ne4 : c ≠ w.heap.size := fun h => ne h.symm
    go_wp2_with fail
    refine bodyPost_ret (v := iv (r1, r2)) (by simp [results, Tryz.results102, go_sem, z0, z1, lz]) rfl ⟨rfl, But.of ?_, ⟨?_, ?_, ?_⟩⟩
    ·exact ((sz.bel.setCell (Nat.le_refl _) _).setCell (Nat.le_refl _) _).alloc (by simp; omega) _
    ·simp; omega
    ·simp [go_sem, kc, kl]
    ·simp [go_sem, kf, kl]
   ·have eC : Dy.cAsk 0 (true) ((r1, r2), re) = Dy.ivNo re := by unfold Dy.cAsk; rw [if_neg (by decide), if_neg (by decide), if_pos hre]
    rw [eC]
    have h1 : (re != 0) = true := by simpa using hre
    go_enter Tryz.func102, Tryz.ntmps102
    go_wp2_with fail
    refine E1.out.mono ?_
    rintro e w1 ⟨rfl, rfl⟩
    go_wp2_with fail
    refine wp_loop_rounds 2 ?_
    rw [rounds_succ]
    go_wp2_with fail
    refine (ivRight_any a _ ha).mono ?_
    rintro e w2 ⟨rfl, hb2⟩
    have st2 := (st.alloc _).keep hb2
    go_wp2_with fail
    rw [rounds_succ]
    go_wp2_with fail
    refine (GG.out _ st2.bel).mono ?_
    rintro e wz ⟨rfl, hbz⟩
    have sz := st2.keep hbz
    have z0 := sz.z0
    have z1 := sz.z1
    have f0 := sz.f0
    have f1 := sz.f1
    have kz := hc.keep sz.bel
    have kc := kz.cell
    have kf := kz.free
    have kl := kz.lt
    have lz := sz.sz
    have ne : w.heap.size ≠ c := by have := hc.lt; omega
    have ne2 : c ≠ wz.heap.size := by omega
    have ne3 : w.heap.size ≠ wz.heap.size := by omega
    have ne4 : c ≠ w.heap.size := fun h => ne h.symm
    go_wp2_with fail
    refine bodyPost_ret (v := iv (0, 0)) (by simp [results, Tryz.results102, go_sem, *]) rfl ⟨rfl, (((But.of sz.bel).set _ 0).trans (But.of (((Below.refl w.heap.size _).setCell (by exact Nat.le_refl _) _).setCell (by exact Nat.le_refl _) _))).trans (But.of ((Below.refl _ _).alloc (by simp; omega) _)), ⟨?_, ?_, ?_⟩⟩
    ·first | exact kl | (simp; omega)
    ·show _ = some (Value.int IntKind.i64 re)
     simp [go_sem, *]
    ·simp [go_sem, *]
 ·have eC : Dy.cAsk err (Dy.ivR a) r = Dy.ivNo err := by unfold Dy.cAsk; rw [if_pos he]
  rw [eC]
  exact ask_err c err _ _ w hc he
set_option maxRecDepth 100000 in
set_option maxHeartbeats 4000000 in
theorem ask_known1 (c : Nat) (err : Int) (p0 : Addr) (a : Nat × Nat) (r : (Nat × Nat) × Int) (w : World) (s : Nat) (hs : s < w.heap.size) (hc : Cal c err w) (ha : Dy.WW a) (s0 : w.cell? ⟨s, 0, none⟩ = some (.float .f64 a.1)) (s1 : w.cell? ⟨s, 1, none⟩ = some (.float .f64 a.2)) (G : Dy.ivR a = true → Hid (Ans 160 #[.pointer (some p0)] r w)) :
  Calls Tryz.prog 102 #[.pointer (some ⟨c, 0, none⟩), .func (Fn.func 160) #[] #[.pointer (some p0)], .slice (some ⟨s, 0, none⟩) 1 1] w (Asked c (Dy.cAsk err (Dy.ivR a) r) w) := by
 by_cases he : err = 0
 ·subst he
  have st := St.start w
  have k0 := hc.keep st.bel
  have E1 := hid (calErr_any c 0 _ k0)
  have t0 := carry st.bel hs s0
  have t1 := carry st.bel hs s1
  have hs' : s < (w.alloc (.cells #[.float .f64 0, .float .f64 0] 24)).heap.size := Nat.lt_of_lt_of_le hs st.bel.size
  cases ra : Dy.ivR a
  ·have eC : Dy.cAsk 0 (false) r = Dy.ivNo 20 := by unfold Dy.cAsk; rw [if_neg (by decide), if_pos (by first | rfl | (simp))]
   rw [eC]
   go_enter Tryz.func102, Tryz.ntmps102
   go_wp2_with fail
   refine E1.out.mono ?_
   rintro e w1 ⟨rfl, rfl⟩
   go_wp2_with fail
   refine wp_loop_rounds 1 ?_
   rw [rounds_succ]
   go_wp2_with fail
   refine (ivRight_any a _ ha).mono ?_
   rintro e wz ⟨rfl, hbz⟩
   have sz := (st.alloc _).keep hbz
   have z0 := sz.z0
   have z1 := sz.z1
   have f0 := sz.f0
   have f1 := sz.f1
   have kz := hc.keep sz.bel
   have kc := kz.cell
   have kf := kz.free
   have kl := kz.lt
   have lz := sz.sz
   have ne : w.heap.size ≠ c := by have := hc.lt; omega
   have ne4 : c ≠ w.heap.size := fun h => ne h.symm
   go_wp2_with fail
   refine bodyPost_ret (v := iv (0, 0)) (by simp [results, Tryz.results102, go_sem, *]) rfl ⟨rfl, (((But.of sz.bel).set _ 0).trans (But.of (((Below.refl w.heap.size _).setCell (by exact Nat.le_refl _) _).setCell (by exact Nat.le_refl _) _))), ⟨?_, ?_, ?_⟩⟩
   ·first | exact kl | (simp; omega)
   ·show _ = some (Value.int IntKind.i64 20)
    simp [go_sem, *]
   ·simp [go_sem, *]
  ·skip
   have GG := G ra
   obtain ⟨⟨r1, r2⟩, re⟩ := r
   by_cases hre : re = 0
   ·subst hre
    have eC : Dy.cAsk 0 (true) ((r1, r2), 0) = ((r1, r2), 0) := rfl
    rw [eC]
    go_enter Tryz.func102, Tryz.ntmps102
    go_wp2_with fail
    refine E1.out.mono ?_
    rintro e w1 ⟨rfl, rfl⟩
    go_wp2_with fail
    refine wp_loop_rounds 2 ?_
    rw [rounds_succ]
    go_wp2_with fail
    refine (ivRight_any a _ ha).mono ?_
    rintro e w2 ⟨rfl, hb2⟩
    have st2 := (st.alloc _).keep hb2
    go_wp2_with fail
    rw [rounds_succ]
    go_wp2_with fail
    refine (GG.out _ st2.bel).mono ?_
    rintro e wz ⟨rfl, hbz⟩
    have sz := st2.keep hbz
    have z0 := sz.z0
    have z1 := sz.z1
    have f0 := sz.f0
    have f1 := sz.f1
    have kz := hc.keep sz.bel
    have kc := kz.cell
    have kf := kz.free
    have kl := kz.lt
    have lz := sz.sz
    have ne : w.heap.size ≠ c := by have := hc.lt; omega
    have ne2 : c ≠ wz.heap.size := by omega
    have ne3 : w.heap.size ≠ wz.heap.size := by omega
    have ne4 : c ≠ w.heap.size := fun h => ne h.symm
    go_wp2_with fail
    refine bodyPost_ret (v := iv (r1, r2)) (by simp [results, Tryz.results102, go_sem, z0, z1, lz]) rfl ⟨rfl, But.of ?_, ⟨?_, ?_, ?_⟩⟩
    ·exact ((sz.bel.setCell (Nat.le_refl _) _).setCell (Nat.le_refl _) _).alloc (by simp; omega) _
    ·simp; omega
    ·simp [go_sem, kc, kl]
    ·simp [go_sem, kf, kl]
   ·have eC : Dy.cAsk 0 (true) ((r1, r2), re) = Dy.ivNo re := by unfold Dy.cAsk; rw [if_neg (by decide), if_neg (by decide), if_pos hre]
    rw [eC]
    have h1 : (re != 0) = true := by simpa using hre
    go_enter Tryz.func102, Tryz.ntmps102
    go_wp2_with fail
    refine E1.out.mono ?_
    rintro e w1 ⟨rfl, rfl⟩
    go_wp2_with fail
    refine wp_loop_rounds 2 ?_
    rw [rounds_succ]
    go_wp2_with fail
    refine (ivRight_any a _ ha).mono ?_
    rintro e w2 ⟨rfl, hb2⟩
    have st2 := (st.alloc _).keep hb2
    go_wp2_with fail
    rw [rounds_succ]
    go_wp2_with fail
    refine (GG.out _ st2.bel).mono ?_
    rintro e wz ⟨rfl, hbz⟩
    have sz := st2.keep hbz
    have z0 := sz.z0
    have z1 := sz.z1
    have f0 := sz.f0
    have f1 := sz.f1
    have kz := hc.keep sz.bel
    have kc := kz.cell
    have kf := kz.free
    have kl := kz.lt
    have lz := sz.sz
    have ne : w.heap.size ≠ c := by have := hc.lt; omega
    have ne2 : c ≠ wz.heap.size := by omega
    have ne3 : w.heap.size ≠ wz.heap.size := by omega
    have ne4 : c ≠ w.heap.size := fun h => ne h.symm
    go_wp2_with fail
    refine bodyPost_ret (v := iv (0, 0)) (by simp [results, Tryz.results102, go_sem, *]) rfl ⟨rfl, (((But.of sz.bel).set _ 0).trans (But.of (((Below.refl w.heap.size _).setCell (by exact Nat.le_refl _) _).setCell (by exact Nat.le_refl _) _))).trans (But.of ((Below.refl _ _).alloc (by simp; omega) _)), ⟨?_, ?_, ?_⟩⟩
    ·first | exact kl | (simp; omega)
    ·show _ = some (Value.int IntKind.i64 re)
     simp [go_sem, *]
    ·simp [go_sem, *]
 ·have eC : Dy.cAsk err (Dy.ivR a) r = Dy.ivNo err := by unfold Dy.cAsk; rw [if_pos he]
  rw [eC]
  exact ask_err c err _ _ w hc he
end Go.Proofs.YtkhplflbcgjkcaaGreat
namespace Go.Proofs.YtkhplflbcgjkcaaGreat
open Go.RowKit
theorem opc_sqrt : OpC 130 (fun x _ up => Dy.dSqrt x up) := by
 intro x y up w hx _
 have H := hid (fun w => sqrt_any x up w hx)
 show Calls Tryz.prog 130 #[.float .f64 x, .float .f64 y, .bool up] w fun e w' => e = .returned (.tuple #[.float .f64 (Dy.dSqrt x up).1, .int .i64 (Dy.dSqrt x up).2]) ∧ Below w.heap.size w w'
 generalize Dy.dSqrt x up = r at *
 go_enter Tryz.func130, Tryz.ntmps130
 go_wp2_with fail
 refine (H.out _).mono ?_
 rintro e w1 ⟨rfl, h1⟩
 go_wp2_with fail
 go_ret2
 exact ⟨rfl, h1⟩
end Go.Proofs.YtkhplflbcgjkcaaGreat
namespace Go.Proofs.YtkhplflbcgjkcaaGreat
open Go.RowKit
set_option maxRecDepth 100000 in
set_option maxHeartbeats 4000000 in
theorem sqrt2_ans (a : Nat × Nat) (p q : Nat) (w : World) (ha : Dy.WW a) (hi : Inn p q q (.func (Fn.func 121) #[.func (Fn.func 130) #[] #[]] #[]) a a w) :
  Ans 132 #[.pointer (some ⟨p, 0, none⟩), .pointer (some ⟨q, 0, none⟩)] (Dy.iEnds (Dy.dSqrt a.1 false) (Dy.dSqrt a.2 true)) w := by
 intro w' hbw
 have hi' := hi.keep hbw
 obtain ⟨a1, a2⟩ := a
 obtain ⟨wa1, wa2⟩ := ha
 have wz : Dy.W 0 := Dy.W_zero
 dsimp only at *
 have hI0 : Inn p q q (.func (Fn.func 121) #[.func (Fn.func 130) #[] #[]] #[]) (a1, a2) (a1, a2) (w'.alloc (.cells #[.float .f64 0, .float .f64 0] 24)).drew := hi'.keep ((Below.refl _ _).alloc (Nat.le_refl _) _).drew
 have hO0 : Out w'.heap.size (w'.alloc (.cells #[.float .f64 0, .float .f64 0] 24)).drew := ⟨by simp, by simp [go_sem], by simp [go_sem], by simp [go_sem], by simp [go_sem]⟩
 have HS : Hid ((w'.alloc (.cells #[.float .f64 0, .float .f64 0] 24)).drew.heap.size = w'.heap.size + 1) := hid (by simp)
 have lp := hi'.lp
 have lq := hi'.lq
 have np : p ≠ w'.heap.size := by omega
 have nq : q ≠ w'.heap.size := by omega
 clear hi hbw hi'
 go_enter Tryz.func132, Tryz.ntmps132
 go_wp2_with fail
 go_region_held3 (fun w1 => w1.cell? ⟨p, 0, none⟩ = some (.func (Fn.func 121) #[.func (Fn.func 130) #[] #[]] #[]) ∧ w1.cell? ⟨q, 0, none⟩ = some (.float .f64 a1) ∧ w1.cell? ⟨q, 1, none⟩ = some (.float .f64 a2) ∧ (∃ v, w1.cell? ⟨w'.heap.size, 0, none⟩ = some v) ∧ (∃ v, w1.cell? ⟨w'.heap.size, 1, none⟩ = some v) ∧ w1.frozen? ⟨w'.heap.size, 0, none⟩ = false ∧ w1.frozen? ⟨w'.heap.size, 1, none⟩ = false)
  (first | exact ⟨hI3.p0, hI3.q0, hI3.q1, ⟨_, hO3.z0⟩, ⟨_, hO3.z1⟩, hO3.f0, hO3.f1⟩ | exact ⟨hI2.p0, hI2.q0, hI2.q1, ⟨_, hO2.z0⟩, ⟨_, hO2.z1⟩, hO2.f0, hO2.f1⟩ | exact ⟨hI1.p0, hI1.q0, hI1.q1, ⟨_, hO1.z0⟩, ⟨_, hO1.z1⟩, hO1.f0, hO1.f1⟩ | exact ⟨hI0.p0, hI0.q0, hI0.q1, ⟨_, hO0.z0⟩, ⟨_, hO0.z1⟩, hO0.f0, hO0.f1⟩ | (refine ⟨?_, ?_, ?_, ?_, ?_, ?_, ?_⟩ <;> first | (simp [go_sem, *]; done) | (refine ex_cell' ?_; simp [go_sem, *]; done)))
  (first | (go_at_call 121; first | (have tok := hk1; refine (ivOf2_any _ _ _ _).mono ?_; rintro e w2 ⟨rfl, hb2, hk2⟩; have hI2 := hI1.keep hb2; have hO2 := hO1.keep hb2; have hk3 := hk1.keep hb2) | (refine (ivOf2_any _ _ _ _).mono ?_; rintro e w2 ⟨rfl, hb1, hk1⟩; rw [HS.out] at hk1; have hI1 := hI0.keep hb1; have hO1 := hO0.keep hb1)) | (go_at_call 123; refine (ends_any _ _ 130 _ _ _ _ (fun x _ up => Dy.dSqrt x up) _ (Or.inr (Or.inr (Or.inr (Or.inr rfl)))) (by assumption) (by assumption) (by assumption) (by assumption) (by assumption) (by assumption) (hid opc_sqrt)).mono ?_; rintro e w3 ⟨rfl, hb3⟩; have hI3 := hI2.keep hb3; have hO3 := hO2.keep hb3; have z0 := hO3.z0; have z1 := hO3.z1; have f0 := hO3.f0; have f1 := hO3.f1))
 go_wp2_with fail
 have hbel : Below w'.heap.size w' _ := (((Below.refl _ _).alloc (Nat.le_refl _) (.cells #[.float .f64 0, .float .f64 0] 24)).drew).trans ((hb1.trans ((hb2.trans (hb3.mono hb2.size)).mono hb1.size)).mono (by simp))
 exact bodyPost_ret (v := .tuple #[iv (Dy.iEnds (Dy.dSqrt a1 false) (Dy.dSqrt a2 true)).1, .int .i64 (Dy.iEnds (Dy.dSqrt a1 false) (Dy.dSqrt a2 true)).2]) (by simp [results, Tryz.results132, go_sem, z0, z1]) rfl ⟨rfl, (hbel.setCell (Nat.le_refl _) _).setCell (Nat.le_refl _) _⟩
structure Ivl (s : Nat) (b : Nat × Nat) (w : World) : Prop where
 lt : s < w.heap.size
 s0 : w.cell? ⟨s, 0, none⟩ = some (.float .f64 b.1)
 s1 : w.cell? ⟨s, 1, none⟩ = some (.float .f64 b.2)
theorem Ivl.keep {s : Nat} {b : Nat × Nat} {w w' : World} (h : Ivl s b w) (hb : Below w.heap.size w w') : Ivl s b w' :=
 ⟨Nat.lt_of_lt_of_le h.lt hb.size, carry hb h.lt h.s0, carry hb h.lt h.s1⟩
set_option maxRecDepth 100000 in
set_option maxHeartbeats 4000000 in
theorem sqr1_ans (a : Nat × Nat) (q : Nat) (w : World) (ha : Dy.WW a) (ra : Dy.ivR a = true) (hi : Ivl q a w) :
  Ans 128 #[.pointer (some ⟨q, 0, none⟩)] (Dy.iEnds (Dy.dMul (Dy.iBare a).1 (Dy.iBare a).1 false) (Dy.dMul (Dy.iBare a).2 (Dy.iBare a).2 true)) w := by
 intro w' hbw
 have hi' := hi.keep hbw
 have HB := hid (fun w => bare_any a w ha ra)
 obtain ⟨⟨wx1, wx2⟩, _⟩ := Dy.bare_good ha ra
 generalize Dy.iBare a = x at *
 obtain ⟨a1, a2⟩ := a
 obtain ⟨x1, x2⟩ := x
 dsimp only at *
 have q0 := hi'.s0
 have q1 := hi'.s1
 have lq := hi'.lt
 have nq : q ≠ w'.heap.size := by omega
 clear hi hbw hi' ha ra
 go_enter Tryz.func128, Tryz.ntmps128
 go_wp2_with fail
 refine (HB.out _).mono ?_
 rintro e w1 ⟨rfl, b1⟩
 have hbel : Below w'.heap.size w' w1 := ((Below.refl _ _).alloc (Nat.le_refl _) (.cells #[.float .f64 0, .float .f64 0] 24)).trans (b1.mono (by simp))
 have hO : Out w'.heap.size w1 := Out.keep (w := w'.alloc (.cells #[.float .f64 0, .float .f64 0] 24)) ⟨by simp, by simp [go_sem], by simp [go_sem], by simp [go_sem], by simp [go_sem]⟩ b1
 clear q0 q1 lq nq b1
 go_wp2_with fail
 have hO0 : Out w'.heap.size (w1.alloc (.cells #[.float .f64 x1, .float .f64 x2] 24)).drew := hO.keep ((Below.refl _ _).alloc (Nat.le_refl _) _).drew
 have hI0 : Ivl w1.heap.size (x1, x2) (w1.alloc (.cells #[.float .f64 x1, .float .f64 x2] 24)).drew := ⟨by simp, by simp [go_sem], by simp [go_sem]⟩
 have HS : Hid ((w1.alloc (.cells #[.float .f64 x1, .float .f64 x2] 24)).drew.heap.size = w1.heap.size + 1) := hid (by simp)
 have HX : Hid (Below w'.heap.size w' (w1.alloc (.cells #[.float .f64 x1, .float .f64 x2] 24)).drew) := hid (hbel.trans (((Below.refl _ _).alloc hbel.size _).drew))
 have hlt := hO.lt
 have nx : w1.heap.size ≠ w'.heap.size := by omega
 have hz0 := hO.z0
 have hz1 := hO.z1
 have hf0 := hO.f0
 have hf1 := hO.f1
 clear hO hbel
 go_region_held3 (fun w2 => w2.cell? ⟨w1.heap.size, 0, none⟩ = some (.float .f64 x1) ∧ w2.cell? ⟨w1.heap.size, 1, none⟩ = some (.float .f64 x2) ∧ (∃ v, w2.cell? ⟨w'.heap.size, 0, none⟩ = some v) ∧ (∃ v, w2.cell? ⟨w'.heap.size, 1, none⟩ = some v) ∧ w2.frozen? ⟨w'.heap.size, 0, none⟩ = false ∧ w2.frozen? ⟨w'.heap.size, 1, none⟩ = false)
  (first | exact ⟨hI3.s0, hI3.s1, ⟨_, hO3.z0⟩, ⟨_, hO3.z1⟩, hO3.f0, hO3.f1⟩ | exact ⟨hI2.s0, hI2.s1, ⟨_, hO2.z0⟩, ⟨_, hO2.z1⟩, hO2.f0, hO2.f1⟩ | exact ⟨hI1.s0, hI1.s1, ⟨_, hO1.z0⟩, ⟨_, hO1.z1⟩, hO1.f0, hO1.f1⟩ | exact ⟨hI0.s0, hI0.s1, ⟨_, hO0.z0⟩, ⟨_, hO0.z1⟩, hO0.f0, hO0.f1⟩ | (refine ⟨?_, ?_, ?_, ?_, ?_, ?_⟩ <;> first | (simp [go_sem, *]; done) | (refine ex_cell' ?_; simp [go_sem, *]; done)))
  (first | (go_at_call 121; first | (have tok := hk1; refine (ivOf2_any _ _ _ _).mono ?_; rintro e w4 ⟨rfl, hb2, hk2⟩; have hI2 := hI1.keep hb2; have hO2 := hO1.keep hb2; have hk3 := hk1.keep hb2) | (refine (ivOf2_any _ _ _ _).mono ?_; rintro e w3 ⟨rfl, hb1, hk1⟩; rw [HS.out] at hk1; have hI1 := hI0.keep hb1; have hO1 := hO0.keep hb1)) | (go_at_call 123; refine (ends_any _ _ 104 _ _ _ _ Dy.dMul _ (Or.inr (Or.inr (Or.inl rfl))) (by assumption) (by assumption) (by assumption) (by assumption) (by assumption) (by assumption) (hid opc_mul)).mono ?_; rintro e w5 ⟨rfl, hb3⟩; have hI3 := hI2.keep hb3; have hO3 := hO2.keep hb3; have z0 := hO3.z0; have z1 := hO3.z1; have f0 := hO3.f0; have f1 := hO3.f1))
 go_wp2_with fail
 have hb : Below w'.heap.size w' _ := HX.out.trans ((hb1.trans ((hb2.trans (hb3.mono hb2.size)).mono hb1.size)).mono (by have := HX.out.size; omega))
 exact bodyPost_ret (v := .tuple #[iv (Dy.iEnds (Dy.dMul x1 x1 false) (Dy.dMul x2 x2 true)).1, .int .i64 (Dy.iEnds (Dy.dMul x1 x1 false) (Dy.dMul x2 x2 true)).2]) (by simp [results, Tryz.results128, go_sem, z0, z1]) rfl ⟨rfl, (hb.setCell (Nat.le_refl _) _).setCell (Nat.le_refl _) _⟩
end Go.Proofs.YtkhplflbcgjkcaaGreat
