/- Walks: package ival: a calculator's Div. -/
import Derived.Test.YthfgdhobldejmaaMo
namespace Go.Proofs.Ythfgdhobldejmaa
open Go.RowKit

theorem div_good {a b : Nat × Nat} (hb : Dy.WW b) (ra : Dy.ivR a = true) (rb : Dy.ivR b = true) : ∀ x y, (x = a.1 ∨ x = a.2) → (y = b.1 ∨ y = b.2) → (Dy.iEnds (Dy.dDiv x y false) (Dy.dDiv x y true)).2 = 0 → Dy.Good (Dy.iEnds (Dy.dDiv x y false) (Dy.dDiv x y true)) := by
  intro x y hx hy h
  obtain ⟨a1, a2, _⟩ := Dy.ivR_of ra
  obtain ⟨b1, b2, _⟩ := Dy.ivR_of rb
  have rx : Dy.right x = true := by rcases hx with rfl | rfl <;> assumption
  have ry : Dy.right y = true := by rcases hy with rfl | rfl <;> assumption
  have wy : Dy.W y := by
    rcases hy with rfl | rfl
    · exact hb.1
    · exact hb.2
  have d : ∀ up, Dy.dDiv x y up = if y = 0 then (0, 11) else Dy.out (Dy.divR (Dy.dec x) (Dy.dec y) up) up := by
    intro up; unfold Dy.dDiv; rw [rx, ry, if_neg (by decide)]
  by_cases y0 : y = 0
  · rw [d, d, if_pos y0, if_pos y0] at h
    exact absurd h (by decide)
  · rw [d, d, if_neg y0, if_neg y0] at h ⊢
    refine Dy.good_ends (Dy.divR_le ?_) h
    intro h0
    have := Dy.enc_of_dec wy ry
    rw [h0] at this
    exact y0 (by rw [← this]; rfl)

set_option maxHeartbeats 1000000 in
theorem div1_ans (a b : Nat × Nat) (p q : Nat) (w : World) (ha : Dy.WW a) (hb : Dy.WW b) (ra : Dy.ivR a = true) (rb : Dy.ivR b = true) (lp : p < w.heap.size) (lq : q < w.heap.size)
    (p0 : w.cell? ⟨p, 0, none⟩ = some (.float .f64 a.1)) (p1 : w.cell? ⟨p, 1, none⟩ = some (.float .f64 a.2)) (q0 : w.cell? ⟨q, 0, none⟩ = some (.float .f64 b.1)) (q1 : w.cell? ⟨q, 1, none⟩ = some (.float .f64 b.2)) :
    Ans 63 #[.pointer (some ⟨q, 0, none⟩), .pointer (some ⟨p, 0, none⟩)] (if Dy.ivHas b 0 then Dy.ivNo 11 else Dy.iAll Dy.dDiv a b) w := by
  intro w' hbw
  have H := hid (fun w => all_any 64 Dy.dDiv a b w ha hb (Or.inr (Or.inr (Or.inr (Or.inl rfl)))) (hid opc_div) (div_good hb ra rb))
  have HH := hid (fun w => ivHas_any b 0 w hb)
  have c0 := carry hbw lp p0
  have c1 := carry hbw lp p1
  have d0 := carry hbw lq q0
  have d1 := carry hbw lq q1
  have hp' : p < w'.heap.size := Nat.lt_of_lt_of_le lp hbw.size
  have hq' : q < w'.heap.size := Nat.lt_of_lt_of_le lq hbw.size
  generalize Dy.ivHas b 0 = hs at *
  generalize Dy.iAll Dy.dDiv a b = r at *
  obtain ⟨⟨r1, r2⟩, re⟩ := r
  obtain ⟨a1, a2⟩ := a
  obtain ⟨b1, b2⟩ := b
  dsimp only at *
  clear ha hb ra rb p0 p1 q0 q1 hbw lp lq
  cases hs
  · rw [if_neg (by decide)]
    go_enter Try.func63, Try.ntmps63
    go_wp2_with fail
    refine (HH.out _).mono ?_
    rintro e w0 ⟨rfl, h0⟩
    have bW : Below w'.heap.size w' w0 := ((Below.refl _ _).alloc (Nat.le_refl _) (.cells #[.float .f64 0, .float .f64 0] 26)).trans (h0.mono (by simp))
    have e0 := carry bW hp' c0
    have e1 := carry bW hp' c1
    have g0 := carry bW hq' d0
    have g1 := carry bW hq' d1
    go_wp2_with fail
    refine (H.out _).mono ?_
    rintro e w1 ⟨rfl, h1⟩
    have h2 := h0.trans (h1.mono h0.size)
    have z0 : w1.cell? ⟨w'.heap.size, 0, none⟩ = some (.float .f64 0) := carry h2 (by simp) (by simp [go_sem])
    have z1 : w1.cell? ⟨w'.heap.size, 1, none⟩ = some (.float .f64 0) := carry h2 (by simp) (by simp [go_sem])
    have f0 : w1.frozen? ⟨w'.heap.size, 0, none⟩ = false := (h2.frozen (p := ⟨w'.heap.size, 0, none⟩) (by simp)).trans (by simp [go_sem])
    have f1 : w1.frozen? ⟨w'.heap.size, 1, none⟩ = false := (h2.frozen (p := ⟨w'.heap.size, 1, none⟩) (by simp)).trans (by simp [go_sem])
    go_wp2_with fail
    refine bodyPost_ret (v := .tuple #[iv (r1, r2), .int .i64 re]) (by simp [results, Try.results63, go_sem, z0, z1]) rfl ⟨rfl, ?_⟩
    exact ((((Below.refl _ _).alloc (Nat.le_refl _) _).trans (h2.mono (by simp))).setCell (by simp) _).setCell (by simp) _
  · rw [if_pos rfl]
    go_enter Try.func63, Try.ntmps63
    go_wp2_with fail
    refine (HH.out _).mono ?_
    rintro e w1 ⟨rfl, h2⟩
    have z0 : w1.cell? ⟨w'.heap.size, 0, none⟩ = some (.float .f64 0) := carry h2 (by simp) (by simp [go_sem])
    have z1 : w1.cell? ⟨w'.heap.size, 1, none⟩ = some (.float .f64 0) := carry h2 (by simp) (by simp [go_sem])
    have f0 : w1.frozen? ⟨w'.heap.size, 0, none⟩ = false := (h2.frozen (p := ⟨w'.heap.size, 0, none⟩) (by simp)).trans (by simp [go_sem])
    have f1 : w1.frozen? ⟨w'.heap.size, 1, none⟩ = false := (h2.frozen (p := ⟨w'.heap.size, 1, none⟩) (by simp)).trans (by simp [go_sem])
    go_wp2_with fail
    refine bodyPost_ret (v := .tuple #[iv (0, 0), .int .i64 11]) (by simp [results, Try.results63, go_sem, z0, z1]) rfl ⟨rfl, ?_⟩
    exact ((((Below.refl _ _).alloc (Nat.le_refl _) _).trans (h2.mono (by simp))).setCell (by simp) _).setCell (by simp) _

set_option maxRecDepth 100000 in
set_option maxHeartbeats 4000000 in
theorem calDiv_any (c : Nat) (err : Int) (a b : Nat × Nat) (w : World) (hc : Cal c err w) (ha : Dy.WW a) (hb : Dy.WW b) :
    Calls Try.prog 33 #[.pointer (some ⟨c, 0, none⟩), iv a, iv b] w (Asked c (Dy.cDiv err a b) w) := by
  have HA := hid (fun (w1 : World) (k : Cal c err w1) (p q t : Nat) (lp : p < w1.heap.size) (lq : q < w1.heap.size) (p0 : w1.cell? ⟨p, 0, none⟩ = some (.float .f64 a.1)) (p1 : w1.cell? ⟨p, 1, none⟩ = some (.float .f64 a.2)) (q0 : w1.cell? ⟨q, 0, none⟩ = some (.float .f64 b.1)) (q1 : w1.cell? ⟨q, 1, none⟩ = some (.float .f64 b.2))
      (ht : t < w1.heap.size) (t0 : w1.cell? ⟨t, 0, none⟩ = some (.float .f64 a.1)) (t1 : w1.cell? ⟨t, 1, none⟩ = some (.float .f64 a.2)) (t2 : w1.cell? ⟨t, 2, none⟩ = some (.float .f64 b.1)) (t3 : w1.cell? ⟨t, 3, none⟩ = some (.float .f64 b.2)) =>
    ask_div c err ⟨q, 0, none⟩ ⟨p, 0, none⟩ a b (if Dy.ivHas b 0 then Dy.ivNo 11 else Dy.iAll Dy.dDiv a b) w1 t ht k ha hb t0 t1 t2 t3 (fun ra rb => hid (div1_ans a b p q w1 ha hb ra rb lp lq p0 p1 q0 q1)))
  have hE : Dy.cDiv err a b = Dy.cAsk err (Dy.ivR a && Dy.ivR b) (if Dy.ivHas b 0 then Dy.ivNo 11 else Dy.iAll Dy.dDiv a b) := rfl
  rw [hE]
  generalize Dy.cAsk err (Dy.ivR a && Dy.ivR b) (if Dy.ivHas b 0 then Dy.ivNo 11 else Dy.iAll Dy.dDiv a b) = r at *
  obtain ⟨⟨r1, r2⟩, re⟩ := r
  obtain ⟨a1, a2⟩ := a
  obtain ⟨b1, b2⟩ := b
  clear hE
  dsimp only at *
  have HC := hid hc
  clear hc ha hb
  go_enter Try.func33, Try.ntmps33
  go_wp2_with fail
  refine (HA.out _ (HC.out.keep (below4 w _ _ _ _)) w.heap.size (w.heap.size + 1) (w.heap.size + 3) (by simp <;> omega) (by simp <;> omega) (by simp [go_sem]) (by simp [go_sem]) (by simp [go_sem]) (by simp [go_sem]) (by simp <;> omega) (by simp [go_sem]) (by simp [go_sem]) (by simp [go_sem]) (by simp [go_sem])).mono ?_
  rintro e w1 ⟨rfl, hB, hC⟩
  have hlt := HC.out.lt
  obtain ⟨q1, q2⟩ := asked_cells (q := w.heap.size + 2) hB (by simp <;> omega) (by omega)
  have c0 : w1.cell? ⟨w.heap.size + 2, 0, none⟩ = some (.float .f64 0) := (q1 0).trans (by simp [go_sem])
  have c1 : w1.cell? ⟨w.heap.size + 2, 1, none⟩ = some (.float .f64 0) := (q1 1).trans (by simp [go_sem])
  have f0 : w1.frozen? ⟨w.heap.size + 2, 0, none⟩ = false := (q2 0).trans (by simp [go_sem])
  have f1 : w1.frozen? ⟨w.heap.size + 2, 1, none⟩ = false := (q2 1).trans (by simp [go_sem])
  clear q1 q2
  go_wp2_with fail
  exact bodyPost_ret (v := iv (r1, r2)) (by simp [results, Try.results33, go_sem, c0, c1]) rfl ⟨rfl, asked_end (below4 w _ _ _ _) hB hC (by omega) (by omega)⟩
end Go.Proofs.Ythfgdhobldejmaa
