/- Walks: package lambert: Value, Density, Cap. -/
import Derived.Test.YthfgdhobldejmaaMv
import Derived.Test.YthfgdhobldejmaaMp
namespace Go.Proofs.Ythfgdhobldejmaa
open Go.RowKit

theorem Ivl.keepBut {s c : Nat} {b : Nat × Nat} {w w' : World} (h : Ivl s b w) (hB : But c w.heap.size w w') (hc : s ≠ c) : Ivl s b w' :=
  ⟨Nat.lt_of_lt_of_le h.lt hB.size, (hB.cell h.lt hc).trans h.s0, (hB.cell h.lt hc).trans h.s1⟩
theorem Out.keepBut {t c : Nat} {w w' : World} (h : Out t w) (hB : But c w.heap.size w w') (hc : t ≠ c) : Out t w' :=
  ⟨Nat.lt_of_lt_of_le h.lt hB.size, (hB.cell h.lt hc).trans h.z0, (hB.cell h.lt hc).trans h.z1, (hB.frozen h.lt hc).trans h.f0, (hB.frozen h.lt hc).trans h.f1⟩

theorem WW_pi : Dy.WW piIv := ⟨W_lit (by decide), W_lit (by decide)⟩

set_option maxRecDepth 100000 in
set_option maxHeartbeats 4000000 in
theorem value1_ans (a : Nat × Nat) (p : Nat) (w : World) (ha : Dy.WW a) (hi : Ivl p a w) :
    AnsF 45 (fun x => #[x, .pointer (some ⟨p, 0, none⟩)]) (Dy.cDiv 0 a piIv) w := by
  intro w' c hbw hc hle
  have hi' := hi.keep hbw
  have hpc : p ≠ c := by have := hi.lt; omega
  have HD := hid (fun w h => calDiv_any c 0 a piIv w h ha WW_pi)
  generalize Dy.cDiv 0 a piIv = r at *
  obtain ⟨⟨r1, r2⟩, re⟩ := r
  obtain ⟨a1, a2⟩ := a
  dsimp only at *
  have hI0 : Ivl p (a1, a2) (w'.alloc (.cells #[.float .f64 0, .float .f64 0] 26)).drew := hi'.keep ((Below.refl _ _).alloc (Nat.le_refl _) _).drew
  have hO0 : Out w'.heap.size (w'.alloc (.cells #[.float .f64 0, .float .f64 0] 26)).drew := ⟨by simp, by simp [go_sem], by simp [go_sem], by simp [go_sem], by simp [go_sem]⟩
  have hC0 : Cal c 0 (w'.alloc (.cells #[.float .f64 0, .float .f64 0] 26)).drew := hc.keep ((Below.refl _ _).alloc (Nat.le_refl _) _).drew
  have hW : Below w'.heap.size w' (w'.alloc (.cells #[.float .f64 0, .float .f64 0] 26)).drew := ((Below.refl _ _).alloc (Nat.le_refl _) _).drew
  have lp := hi'.lt
  have lc := hc.lt
  have np : p ≠ w'.heap.size := by omega
  have nc : c ≠ w'.heap.size := by omega
  have hC0 := hid hC0
  clear hi hbw hi' hc hle ha
  go_enter Try.func45, Try.ntmps45
  go_wp2_with fail
  go_region_held3 (fun w1 => w1.cell? ⟨p, 0, none⟩ = some (.float .f64 a1) ∧ w1.cell? ⟨p, 1, none⟩ = some (.float .f64 a2) ∧ (∃ v, w1.cell? ⟨w'.heap.size, 0, none⟩ = some v) ∧ (∃ v, w1.cell? ⟨w'.heap.size, 1, none⟩ = some v) ∧ w1.frozen? ⟨w'.heap.size, 0, none⟩ = false ∧ w1.frozen? ⟨w'.heap.size, 1, none⟩ = false)
    (first | exact ⟨hI2.s0, hI2.s1, ⟨_, hO2.z0⟩, ⟨_, hO2.z1⟩, hO2.f0, hO2.f1⟩ | exact ⟨hI1.s0, hI1.s1, ⟨_, hO1.z0⟩, ⟨_, hO1.z1⟩, hO1.f0, hO1.f1⟩ | exact ⟨hI0.s0, hI0.s1, ⟨_, hO0.z0⟩, ⟨_, hO0.z1⟩, hO0.f0, hO0.f1⟩ | (refine ⟨?_, ?_, ?_, ?_, ?_, ?_⟩ <;> first | (simp [go_sem, *]; done) | (refine ex_cell' ?_; simp [go_sem, *]; done)))
    (first | (go_at_call 27; refine (ivPi_any _).mono ?_; rintro e w1 ⟨rfl, hb1⟩; have hI1 := hI0.keep hb1; have hO1 := hO0.keep hb1; have hC1 := hid (hC0.out.keep hb1)) | (go_at_call 33; refine (HD.out _ hC1.out).mono ?_; rintro e w2 ⟨rfl, hB, hC2⟩; have hI2 := hI1.keepBut hB hpc; have hO2 := hO1.keepBut hB nc.symm; have z0 := hO2.z0; have z1 := hO2.z1; have f0 := hO2.f0; have f1 := hO2.f1))
  go_wp2_with fail
  exact bodyPost_ret (v := iv (r1, r2)) (by simp [results, Try.results45, go_sem, z0, z1]) rfl ⟨rfl, asked_end (hW.trans (hb1.mono hW.size)) hB hC2 (Nat.le_refl _) nc⟩

/-- What Cap's formula tells. -/
def capF (a b : Nat × Nat) : (Nat × Nat) × Int :=
  Dy.cMul (Dy.cSub (Dy.cSqr 0 b).2 (4607182418800017408, 4607182418800017408) (Dy.cSqr 0 b).1).2 a (Dy.cSub (Dy.cSqr 0 b).2 (4607182418800017408, 4607182418800017408) (Dy.cSqr 0 b).1).1

theorem num_one : Dy.cNum 0 4607182418800017408 = ((4607182418800017408, 4607182418800017408), 0) := by
  unfold Dy.cNum Dy.cAsk; rw [Dy.right_one]; rfl
theorem WW_one : Dy.WW (4607182418800017408, 4607182418800017408) := ⟨Dy.W_one, Dy.W_one⟩

set_option maxRecDepth 100000 in
set_option maxHeartbeats 4000000 in
theorem cap1_ans (a b : Nat × Nat) (p q : Nat) (w : World) (ha : Dy.WW a) (hb : Dy.WW b) (hi : Ivl p a w) (hj : Ivl q b w) :
    AnsF 43 (fun x => #[x, .pointer (some ⟨p, 0, none⟩), .pointer (some ⟨q, 0, none⟩)]) (capF a b) w := by
  intro w' c hbw hc hle
  have hi' := hi.keep hbw
  have hj' := hj.keep hbw
  have hpc : p ≠ c := by have := hi.lt; omega
  have hqc : q ≠ c := by have := hj.lt; omega
  have HN := hid (fun w h => calNum_any c 0 4607182418800017408 w h Dy.W_one)
  rw [num_one] at HN
  have HQ := hid (fun w h => calSqr_any c 0 b w h hb)
  have hE : capF a b = Dy.cMul (Dy.cSub (Dy.cSqr 0 b).2 (4607182418800017408, 4607182418800017408) (Dy.cSqr 0 b).1).2 a (Dy.cSub (Dy.cSqr 0 b).2 (4607182418800017408, 4607182418800017408) (Dy.cSqr 0 b).1).1 := rfl
  rw [hE]
  clear hE
  have g := (Dy.good_sqr (err := 0) hb).1
  generalize Dy.cSqr 0 b = x at *
  have HS := hid (fun w h => calSub_any c x.2 (4607182418800017408, 4607182418800017408) x.1 w h WW_one g)
  have g := (Dy.good_sub (err := x.2) (a := (4607182418800017408, 4607182418800017408)) g).1
  generalize Dy.cSub x.2 (4607182418800017408, 4607182418800017408) x.1 = y at *
  have HM := hid (fun w h => calMul_any c y.2 a y.1 w h ha g)
  generalize Dy.cMul y.2 a y.1 = r at *
  obtain ⟨⟨r1, r2⟩, re⟩ := r
  obtain ⟨⟨x1, x2⟩, xe⟩ := x
  obtain ⟨⟨y1, y2⟩, ye⟩ := y
  obtain ⟨a1, a2⟩ := a
  obtain ⟨b1, b2⟩ := b
  dsimp only at *
  have hI0 : Ivl p (a1, a2) (w'.alloc (.cells #[.float .f64 0, .float .f64 0] 26)).drew := hi'.keep ((Below.refl _ _).alloc (Nat.le_refl _) _).drew
  have hJ0 : Ivl q (b1, b2) (w'.alloc (.cells #[.float .f64 0, .float .f64 0] 26)).drew := hj'.keep ((Below.refl _ _).alloc (Nat.le_refl _) _).drew
  have hO0 : Out w'.heap.size (w'.alloc (.cells #[.float .f64 0, .float .f64 0] 26)).drew := ⟨by simp, by simp [go_sem], by simp [go_sem], by simp [go_sem], by simp [go_sem]⟩
  have hC0 : Cal c 0 (w'.alloc (.cells #[.float .f64 0, .float .f64 0] 26)).drew := hc.keep ((Below.refl _ _).alloc (Nat.le_refl _) _).drew
  have hW : Below w'.heap.size w' (w'.alloc (.cells #[.float .f64 0, .float .f64 0] 26)).drew := ((Below.refl _ _).alloc (Nat.le_refl _) _).drew
  have lp := hi'.lt
  have lq := hj'.lt
  have lc := hc.lt
  have np : p ≠ w'.heap.size := by omega
  have nq : q ≠ w'.heap.size := by omega
  have nc : c ≠ w'.heap.size := by omega
  have hC0 := hid hC0
  clear hi hj hbw hi' hj' hc hle ha hb g
  go_enter Try.func43, Try.ntmps43
  go_wp2_with fail
  go_region_held3 (fun w1 => w1.cell? ⟨p, 0, none⟩ = some (.float .f64 a1) ∧ w1.cell? ⟨p, 1, none⟩ = some (.float .f64 a2) ∧ w1.cell? ⟨q, 0, none⟩ = some (.float .f64 b1) ∧ w1.cell? ⟨q, 1, none⟩ = some (.float .f64 b2) ∧ (∃ v, w1.cell? ⟨w'.heap.size, 0, none⟩ = some v) ∧ (∃ v, w1.cell? ⟨w'.heap.size, 1, none⟩ = some v) ∧ w1.frozen? ⟨w'.heap.size, 0, none⟩ = false ∧ w1.frozen? ⟨w'.heap.size, 1, none⟩ = false)
    (first | exact ⟨hI4.s0, hI4.s1, hJ4.s0, hJ4.s1, ⟨_, hO4.z0⟩, ⟨_, hO4.z1⟩, hO4.f0, hO4.f1⟩ | exact ⟨hI3.s0, hI3.s1, hJ3.s0, hJ3.s1, ⟨_, hO3.z0⟩, ⟨_, hO3.z1⟩, hO3.f0, hO3.f1⟩ | exact ⟨hI2.s0, hI2.s1, hJ2.s0, hJ2.s1, ⟨_, hO2.z0⟩, ⟨_, hO2.z1⟩, hO2.f0, hO2.f1⟩ | exact ⟨hI1.s0, hI1.s1, hJ1.s0, hJ1.s1, ⟨_, hO1.z0⟩, ⟨_, hO1.z1⟩, hO1.f0, hO1.f1⟩ | exact ⟨hI0.s0, hI0.s1, hJ0.s0, hJ0.s1, ⟨_, hO0.z0⟩, ⟨_, hO0.z1⟩, hO0.f0, hO0.f1⟩ | (refine ⟨?_, ?_, ?_, ?_, ?_, ?_, ?_, ?_⟩ <;> first | (simp [go_sem, *]; done) | (refine ex_cell' ?_; simp [go_sem, *]; done)))
    (first | (go_at_call 26; refine (HN.out _ hC0.out).mono ?_; rintro e w1 ⟨rfl, hB1, hC1⟩; have hI1 := hI0.keepBut hB1 hpc; have hJ1 := hJ0.keepBut hB1 hqc; have hO1 := hO0.keepBut hB1 nc.symm; have hC1 := hid hC1) | (go_at_call 44; refine (HQ.out _ hC1.out).mono ?_; rintro e w2 ⟨rfl, hB2, hC2⟩; have hI2 := hI1.keepBut hB2 hpc; have hJ2 := hJ1.keepBut hB2 hqc; have hO2 := hO1.keepBut hB2 nc.symm; have hC2 := hid hC2) | (go_at_call 28; refine (HS.out _ hC2.out).mono ?_; rintro e w3 ⟨rfl, hB3, hC3⟩; have hI3 := hI2.keepBut hB3 hpc; have hJ3 := hJ2.keepBut hB3 hqc; have hO3 := hO2.keepBut hB3 nc.symm; have hC3 := hid hC3) | (go_at_call 25; refine (HM.out _ hC3.out).mono ?_; rintro e w4 ⟨rfl, hB4, hC4⟩; have hI4 := hI3.keepBut hB4 hpc; have hJ4 := hJ3.keepBut hB4 hqc; have hO4 := hO3.keepBut hB4 nc.symm; have hC4 := hid hC4; have z0 := hO4.z0; have z1 := hO4.z1; have f0 := hO4.f0; have f1 := hO4.f1))
  go_wp2_with fail
  have hB : But c (w'.alloc (.cells #[.float .f64 0, .float .f64 0] 26)).drew.heap.size _ w4 := hB1.trans ((hB2.trans ((hB3.trans (hB4.mono hB3.size)).mono hB2.size)).mono hB1.size)
  exact bodyPost_ret (v := iv (r1, r2)) (by simp [results, Try.results43, go_sem, z0, z1]) rfl ⟨rfl, asked_end hW hB hC4.out (Nat.le_refl _) nc⟩
end Go.Proofs.Ythfgdhobldejmaa
