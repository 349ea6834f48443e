/- Walks: package ival: a calculator's Add, Sub. -/
import Derived.Test.YthfgdhobldejmaaMe
import Derived.Deep.RegionHeld3
namespace Go.Proofs.Ythfgdhobldejmaa
open Go.RowKit

theorem ex_cell' {w : World} {a : Addr} (h : (w.cell? a).isSome = true) : ∃ v, w.cell? a = some v := Option.isSome_iff_exists.1 h

/-- What a closure over an operation and two intervals reads. -/
structure Inn (p q s : Nat) (f : Value) (a b : Nat × Nat) (w : World) : Prop where
  lp : p < w.heap.size
  lq : q < w.heap.size
  ls : s < w.heap.size
  p0 : w.cell? ⟨p, 0, none⟩ = some f
  q0 : w.cell? ⟨q, 0, none⟩ = some (.float .f64 a.1)
  q1 : w.cell? ⟨q, 1, none⟩ = some (.float .f64 a.2)
  s0 : w.cell? ⟨s, 0, none⟩ = some (.float .f64 b.1)
  s1 : w.cell? ⟨s, 1, none⟩ = some (.float .f64 b.2)
theorem Inn.keep {p q s : Nat} {f : Value} {a b : Nat × Nat} {w w' : World} (h : Inn p q s f a b w) (hb : Below w.heap.size w w') : Inn p q s f a b w' :=
  ⟨Nat.lt_of_lt_of_le h.lp hb.size, Nat.lt_of_lt_of_le h.lq hb.size, Nat.lt_of_lt_of_le h.ls hb.size, carry hb h.lp h.p0, carry hb h.lq h.q0, carry hb h.lq h.q1, carry hb h.ls h.s0, carry hb h.ls h.s1⟩

/-- The result's variable, in block t. -/
structure Out (t : Nat) (w : World) : Prop where
  lt : t < w.heap.size
  z0 : w.cell? ⟨t, 0, none⟩ = some (.float .f64 0)
  z1 : w.cell? ⟨t, 1, none⟩ = some (.float .f64 0)
  f0 : w.frozen? ⟨t, 0, none⟩ = false
  f1 : w.frozen? ⟨t, 1, none⟩ = false
theorem Out.keep {t : Nat} {w w' : World} (h : Out t w) (hb : Below w.heap.size w w') : Out t w' :=
  ⟨Nat.lt_of_lt_of_le h.lt hb.size, carry hb h.lt h.z0, carry hb h.lt h.z1, (hb.frozen (p := ⟨t, 0, none⟩) h.lt).trans h.f0, (hb.frozen (p := ⟨t, 1, none⟩) h.lt).trans h.f1⟩

set_option maxRecDepth 100000 in
set_option maxHeartbeats 4000000 in
theorem add1_ans (a b : Nat × Nat) (p q s : Nat) (w : World) (ha : Dy.WW a) (hb : Dy.WW b) (hi : Inn p q s (.func (Fn.func 58) #[.func (Fn.func 61) #[] #[]] #[]) a b w) :
    Ans 62 #[.pointer (some ⟨p, 0, none⟩), .pointer (some ⟨q, 0, none⟩), .pointer (some ⟨s, 0, none⟩)] (Dy.iEnds (Dy.dAdd a.1 b.1 false) (Dy.dAdd a.2 b.2 true)) w := by
  intro w' hbw
  have hi' := hi.keep hbw
  obtain ⟨a1, a2⟩ := a
  obtain ⟨b1, b2⟩ := b
  obtain ⟨wa1, wa2⟩ := ha
  obtain ⟨wb1, wb2⟩ := hb
  dsimp only at *
  have hI0 : Inn p q s (.func (Fn.func 58) #[.func (Fn.func 61) #[] #[]] #[]) (a1, a2) (b1, b2) (w'.alloc (.cells #[.float .f64 0, .float .f64 0] 26)).drew := hi'.keep ((Below.refl _ _).alloc (Nat.le_refl _) _).drew
  have hO0 : Out w'.heap.size (w'.alloc (.cells #[.float .f64 0, .float .f64 0] 26)).drew := ⟨by simp, by simp [go_sem], by simp [go_sem], by simp [go_sem], by simp [go_sem]⟩
  have HS : Hid ((w'.alloc (.cells #[.float .f64 0, .float .f64 0] 26)).drew.heap.size = w'.heap.size + 1) := hid (by simp)
  have lp := hi'.lp
  have lq := hi'.lq
  have ls := hi'.ls
  have np : p ≠ w'.heap.size := by omega
  have nq : q ≠ w'.heap.size := by omega
  have ns : s ≠ w'.heap.size := by omega
  clear hi hbw hi'
  go_enter Try.func62, Try.ntmps62
  go_wp2_with fail
  go_region_held3 (fun w1 => w1.cell? ⟨p, 0, none⟩ = some (.func (Fn.func 58) #[.func (Fn.func 61) #[] #[]] #[]) ∧ w1.cell? ⟨q, 0, none⟩ = some (.float .f64 a1) ∧ w1.cell? ⟨q, 1, none⟩ = some (.float .f64 a2) ∧ w1.cell? ⟨s, 0, none⟩ = some (.float .f64 b1) ∧ w1.cell? ⟨s, 1, none⟩ = some (.float .f64 b2) ∧ (∃ v, w1.cell? ⟨w'.heap.size, 0, none⟩ = some v) ∧ (∃ v, w1.cell? ⟨w'.heap.size, 1, none⟩ = some v) ∧ w1.frozen? ⟨w'.heap.size, 0, none⟩ = false ∧ w1.frozen? ⟨w'.heap.size, 1, none⟩ = false)
    (first | exact ⟨hI3.p0, hI3.q0, hI3.q1, hI3.s0, hI3.s1, ⟨_, hO3.z0⟩, ⟨_, hO3.z1⟩, hO3.f0, hO3.f1⟩ | exact ⟨hI2.p0, hI2.q0, hI2.q1, hI2.s0, hI2.s1, ⟨_, hO2.z0⟩, ⟨_, hO2.z1⟩, hO2.f0, hO2.f1⟩ | exact ⟨hI1.p0, hI1.q0, hI1.q1, hI1.s0, hI1.s1, ⟨_, hO1.z0⟩, ⟨_, hO1.z1⟩, hO1.f0, hO1.f1⟩ | exact ⟨hI0.p0, hI0.q0, hI0.q1, hI0.s0, hI0.s1, ⟨_, hO0.z0⟩, ⟨_, hO0.z1⟩, hO0.f0, hO0.f1⟩ | (refine ⟨?_, ?_, ?_, ?_, ?_, ?_, ?_, ?_, ?_⟩ <;> first | (simp [go_sem, *]; done) | (refine ex_cell' ?_; simp [go_sem, *]; done)))
    (first | (go_at_call 58; first | (have tok := hk1; refine (ivOf2_any _ _ _ _).mono ?_; rintro e w2 ⟨rfl, hb2, hk2⟩; have hI2 := hI1.keep hb2; have hO2 := hO1.keep hb2; have hk3 := hk1.keep hb2) | (refine (ivOf2_any _ _ _ _).mono ?_; rintro e w2 ⟨rfl, hb1, hk1⟩; rw [HS.out] at hk1; have hI1 := hI0.keep hb1; have hO1 := hO0.keep hb1)) | (go_at_call 60; refine (ends_any _ _ 61 _ _ _ _ Dy.dAdd _ (Or.inl rfl) (by assumption) (by assumption) (by assumption) (by assumption) (by assumption) (by assumption) (hid opc_add)).mono ?_; rintro e w3 ⟨rfl, hb3⟩; have hI3 := hI2.keep hb3; have hO3 := hO2.keep hb3; have z0 := hO3.z0; have z1 := hO3.z1; have f0 := hO3.f0; have f1 := hO3.f1))
  go_wp2_with fail
  have hbel : Below w'.heap.size w' _ := (((Below.refl _ _).alloc (Nat.le_refl _) (.cells #[.float .f64 0, .float .f64 0] 26)).drew).trans ((hb1.trans ((hb2.trans (hb3.mono hb2.size)).mono hb1.size)).mono (by simp))
  exact bodyPost_ret (v := .tuple #[iv (Dy.iEnds (Dy.dAdd a1 b1 false) (Dy.dAdd a2 b2 true)).1, .int .i64 (Dy.iEnds (Dy.dAdd a1 b1 false) (Dy.dAdd a2 b2 true)).2]) (by simp [results, Try.results62, go_sem, z0, z1]) rfl ⟨rfl, (hbel.setCell (Nat.le_refl _) _).setCell (Nat.le_refl _) _⟩

set_option maxRecDepth 100000 in
set_option maxHeartbeats 4000000 in
theorem sub1_ans (a b : Nat × Nat) (p q s : Nat) (w : World) (ha : Dy.WW a) (hb : Dy.WW b) (hi : Inn p q s (.func (Fn.func 58) #[.func (Fn.func 51) #[] #[]] #[]) a b w) :
    Ans 59 #[.pointer (some ⟨p, 0, none⟩), .pointer (some ⟨q, 0, none⟩), .pointer (some ⟨s, 0, none⟩)] (Dy.iEnds (Dy.dSub a.1 b.2 false) (Dy.dSub a.2 b.1 true)) w := by
  intro w' hbw
  have hi' := hi.keep hbw
  obtain ⟨a1, a2⟩ := a
  obtain ⟨b1, b2⟩ := b
  obtain ⟨wa1, wa2⟩ := ha
  obtain ⟨wb1, wb2⟩ := hb
  dsimp only at *
  have hI0 : Inn p q s (.func (Fn.func 58) #[.func (Fn.func 51) #[] #[]] #[]) (a1, a2) (b1, b2) (w'.alloc (.cells #[.float .f64 0, .float .f64 0] 26)).drew := hi'.keep ((Below.refl _ _).alloc (Nat.le_refl _) _).drew
  have hO0 : Out w'.heap.size (w'.alloc (.cells #[.float .f64 0, .float .f64 0] 26)).drew := ⟨by simp, by simp [go_sem], by simp [go_sem], by simp [go_sem], by simp [go_sem]⟩
  have HS : Hid ((w'.alloc (.cells #[.float .f64 0, .float .f64 0] 26)).drew.heap.size = w'.heap.size + 1) := hid (by simp)
  have lp := hi'.lp
  have lq := hi'.lq
  have ls := hi'.ls
  have np : p ≠ w'.heap.size := by omega
  have nq : q ≠ w'.heap.size := by omega
  have ns : s ≠ w'.heap.size := by omega
  clear hi hbw hi'
  go_enter Try.func59, Try.ntmps59
  go_wp2_with fail
  go_region_held3 (fun w1 => w1.cell? ⟨p, 0, none⟩ = some (.func (Fn.func 58) #[.func (Fn.func 51) #[] #[]] #[]) ∧ w1.cell? ⟨q, 0, none⟩ = some (.float .f64 a1) ∧ w1.cell? ⟨q, 1, none⟩ = some (.float .f64 a2) ∧ w1.cell? ⟨s, 0, none⟩ = some (.float .f64 b1) ∧ w1.cell? ⟨s, 1, none⟩ = some (.float .f64 b2) ∧ (∃ v, w1.cell? ⟨w'.heap.size, 0, none⟩ = some v) ∧ (∃ v, w1.cell? ⟨w'.heap.size, 1, none⟩ = some v) ∧ w1.frozen? ⟨w'.heap.size, 0, none⟩ = false ∧ w1.frozen? ⟨w'.heap.size, 1, none⟩ = false)
    (first | exact ⟨hI3.p0, hI3.q0, hI3.q1, hI3.s0, hI3.s1, ⟨_, hO3.z0⟩, ⟨_, hO3.z1⟩, hO3.f0, hO3.f1⟩ | exact ⟨hI2.p0, hI2.q0, hI2.q1, hI2.s0, hI2.s1, ⟨_, hO2.z0⟩, ⟨_, hO2.z1⟩, hO2.f0, hO2.f1⟩ | exact ⟨hI1.p0, hI1.q0, hI1.q1, hI1.s0, hI1.s1, ⟨_, hO1.z0⟩, ⟨_, hO1.z1⟩, hO1.f0, hO1.f1⟩ | exact ⟨hI0.p0, hI0.q0, hI0.q1, hI0.s0, hI0.s1, ⟨_, hO0.z0⟩, ⟨_, hO0.z1⟩, hO0.f0, hO0.f1⟩ | (refine ⟨?_, ?_, ?_, ?_, ?_, ?_, ?_, ?_, ?_⟩ <;> first | (simp [go_sem, *]; done) | (refine ex_cell' ?_; simp [go_sem, *]; done)))
    (first | (go_at_call 58; first | (have tok := hk1; refine (ivOf2_any _ _ _ _).mono ?_; rintro e w2 ⟨rfl, hb2, hk2⟩; have hI2 := hI1.keep hb2; have hO2 := hO1.keep hb2; have hk3 := hk1.keep hb2) | (refine (ivOf2_any _ _ _ _).mono ?_; rintro e w2 ⟨rfl, hb1, hk1⟩; rw [HS.out] at hk1; have hI1 := hI0.keep hb1; have hO1 := hO0.keep hb1)) | (go_at_call 60; refine (ends_any _ _ 51 _ _ _ _ Dy.dSub _ (Or.inr (Or.inl rfl)) (by assumption) (by assumption) (by assumption) (by assumption) (by assumption) (by assumption) (hid opc_sub)).mono ?_; rintro e w3 ⟨rfl, hb3⟩; have hI3 := hI2.keep hb3; have hO3 := hO2.keep hb3; have z0 := hO3.z0; have z1 := hO3.z1; have f0 := hO3.f0; have f1 := hO3.f1))
  go_wp2_with fail
  have hbel : Below w'.heap.size w' _ := (((Below.refl _ _).alloc (Nat.le_refl _) (.cells #[.float .f64 0, .float .f64 0] 26)).drew).trans ((hb1.trans ((hb2.trans (hb3.mono hb2.size)).mono hb1.size)).mono (by simp))
  exact bodyPost_ret (v := .tuple #[iv (Dy.iEnds (Dy.dSub a1 b2 false) (Dy.dSub a2 b1 true)).1, .int .i64 (Dy.iEnds (Dy.dSub a1 b2 false) (Dy.dSub a2 b1 true)).2]) (by simp [results, Try.results59, go_sem, z0, z1]) rfl ⟨rfl, (hbel.setCell (Nat.le_refl _) _).setCell (Nat.le_refl _) _⟩

end Go.Proofs.Ythfgdhobldejmaa
