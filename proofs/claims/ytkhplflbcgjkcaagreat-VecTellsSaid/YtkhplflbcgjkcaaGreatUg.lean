/- Plain facts: burnishref02's calculator is that of ival. -/
import Derived.Test.YtkhplflbcgjkcaaGreatUf
namespace Go.Proofs.YtkhplflbcgjkcaaGreat
open Go Go.RowKit
set_option linter.unusedSimpArgs false
set_option linter.unusedVariables false
open Dy
theorem offT_cases (c : Int) (r : Bool) : (c ≠ 0 ∧ offT c r = (true, c)) ∨ (c = 0 ∧ r = false ∧ offT c r = (true, 20)) ∨ (c = 0 ∧ r = true ∧ offT c r = (false, 0)) := by
 unfold offT
 by_cases h : c = 0
 ·cases r
  ·right; left; exact ⟨h, rfl, by rw [if_pos h]; rfl⟩
  ·right; right; exact ⟨h, rfl, by rw [if_pos h]; rfl⟩
 ·left; exact ⟨h, by rw [if_neg h]⟩
theorem keep_ends (l h : Nat × Int) : keepT 0 l.1 l.2 h.1 h.2 = if (iEnds l h).2 ≠ 0 then ivNo (iEnds l h).2 else ((iEnds l h).1, 0) := by
 obtain ⟨l1, l2⟩ := l
 obtain ⟨h1, h2⟩ := h
 unfold keepT iEnds
 dsimp only
 by_cases e1 : l2 = 0
 ·subst e1
  by_cases e2 : h2 = 0
  ·subst e2; simp
  ·simp [e2, ivNo]
 ·simp [e1, ivNo]
theorem ask_no {c : Int} {r : Bool} {x : (Nat × Nat) × Int} : (c ≠ 0 → cAsk c r x = ((0, 0), c)) ∧ (c = 0 → r = false → cAsk c r x = ((0, 0), 20)) ∧ (c = 0 → r = true → cAsk c r x = if x.2 ≠ 0 then ivNo x.2 else (x.1, 0)) := by
 unfold cAsk ivNo
 refine ⟨fun h => by rw [if_pos h], fun h k => ?_, fun h k => ?_⟩
 ·rw [if_neg (by omega), if_pos k]
 ·rw [if_neg (by omega), if_neg (by rw [k]; decide)]
theorem off_any {c : Int} {r : Bool} {x : (Nat × Nat) × Int} (y : Int → (Nat × Nat) × Int) (h : c = 0 → r = true → y 0 = if x.2 ≠ 0 then ivNo x.2 else (x.1, 0)) : (if (offT c r).1 = true then ((0, 0), (offT c r).2) else y (offT c r).2) = cAsk c r x := by
 obtain ⟨k1, k2, k3⟩ := @ask_no c r x
 rcases offT_cases c r with ⟨h1, e⟩ | ⟨h1, h2, e⟩ | ⟨h1, h2, e⟩
 ·rw [e, k1 h1]; rfl
 ·rw [e, k2 h1 h2]; rfl
 ·rw [e, k3 h1 h2, ← h h1 h2]; rfl
theorem off_keep {c : Int} {r : Bool} (l h : Nat × Int) : (if (offT c r).1 = true then ((0, 0), (offT c r).2) else keepT (offT c r).2 l.1 l.2 h.1 h.2) = cAsk c r (iEnds l h) :=
 off_any (fun e => keepT e l.1 l.2 h.1 h.2) fun _ _ => keep_ends l h
theorem addT_eq (c : Int) (a b : Nat × Nat) : addT c a b = cAdd c a b := by
 unfold addT cAdd; exact off_keep _ _
theorem subT_eq (c : Int) (a b : Nat × Nat) : subT c a b = cSub c a b := by
 unfold subT cSub; exact off_keep _ _
theorem sqrtT_eq (c : Int) (a : Nat × Nat) : sqrtT c a = cSqrt c a := by
 unfold sqrtT cSqrt; exact off_keep _ _
theorem lessT_eq {a b : Nat} (ha : Dy.W a) (hb : Dy.W b) (ra : right a = true) (rb : right b = true) : lessT a b = dmin a b := by
 unfold lessT dmin
 rw [flt_dec hb ha rb ra]
 by_cases h : dec b < dec a
 ·rw [if_pos (decide_eq_true h), if_pos h]
 ·rw [if_neg (by simpa using h), if_neg h]
theorem moreT_eq {a b : Nat} (ha : Dy.W a) (hb : Dy.W b) (ra : right a = true) (rb : right b = true) : moreT a b = dmax a b := by
 unfold moreT dmax
 rw [fgt_dec hb ha rb ra]
 by_cases h : dec a < dec b
 ·rw [if_pos (decide_eq_true h), if_pos h]
 ·rw [if_neg (by simpa using h), if_neg h]
theorem hullT_eq {a b : Nat × Nat} (ha : WW a) (hb : WW b) (ra : ivR a = true) (rb : ivR b = true) : hullT a b = iHull a b := by
 obtain ⟨a1, a2, a3⟩ := ivR_of ra
 obtain ⟨b1, b2, b3⟩ := ivR_of rb
 unfold hullT iHull
 rw [lessT_eq ha.1 hb.1 a1 b1, moreT_eq ha.2 hb.2 a2 b2]
theorem fourT_eq {o : Nat → Nat → Bool → Nat × Int} {a b : Nat × Nat} (h : ∀ x y, (x = a.1 ∨ x = a.2) → (y = b.1 ∨ y = b.2) → (iEnds (o x y false) (o x y true)).2 = 0 → Dy.Good (iEnds (o x y false) (o x y true))) : fourT o 0 a b = if (iAll o a b).2 ≠ 0 then ivNo (iAll o a b).2 else ((iAll o a b).1, 0) := by
 have hp := h a.1 b.1 (Or.inl rfl) (Or.inl rfl)
 have hq := h a.1 b.2 (Or.inl rfl) (Or.inr rfl)
 have hr := h a.2 b.1 (Or.inr rfl) (Or.inl rfl)
 have hs := h a.2 b.2 (Or.inr rfl) (Or.inr rfl)
 have kp := keep_ends (o a.1 b.1 false) (o a.1 b.1 true)
 have kq := keep_ends (o a.1 b.2 false) (o a.1 b.2 true)
 have kr := keep_ends (o a.2 b.1 false) (o a.2 b.1 true)
 have ks := keep_ends (o a.2 b.2 false) (o a.2 b.2 true)
 unfold fourT iAll
 dsimp only
 rw [kp]
 generalize iEnds (o a.1 b.1 false) (o a.1 b.1 true) = p at *
 generalize iEnds (o a.1 b.2 false) (o a.1 b.2 true) = q at *
 generalize iEnds (o a.2 b.1 false) (o a.2 b.1 true) = r at *
 generalize iEnds (o a.2 b.2 false) (o a.2 b.2 true) = s at *
 by_cases p0 : p.2 = 0
 ·rw [if_neg (show ¬ p.2 ≠ 0 by omega), if_neg (show ¬ p.2 ≠ 0 by omega)]
  dsimp only
  rw [if_neg (by decide), kq]
  by_cases q0 : q.2 = 0
  ·rw [if_neg (show ¬ q.2 ≠ 0 by omega), if_neg (show ¬ q.2 ≠ 0 by omega)]
   dsimp only
   rw [if_neg (by decide), kr]
   by_cases r0 : r.2 = 0
   ·rw [if_neg (show ¬ r.2 ≠ 0 by omega), if_neg (show ¬ r.2 ≠ 0 by omega)]
    dsimp only
    rw [if_neg (by decide), ks]
    by_cases s0 : s.2 = 0
    ·rw [if_neg (show ¬ s.2 ≠ 0 by omega), if_neg (show ¬ s.2 ≠ 0 by omega)]
     dsimp only
     rw [if_neg (by decide), if_neg (by decide)]
     obtain ⟨p1, p2⟩ := hp p0
     obtain ⟨q1, q2⟩ := hq q0
     obtain ⟨r1, r2⟩ := hr r0
     obtain ⟨s1, s2⟩ := hs s0
     obtain ⟨a1, a2⟩ := good_hull p1 p1 p2 p2
     obtain ⟨b1, b2⟩ := good_hull a1 q1 a2 q2
     obtain ⟨c1, c2⟩ := good_hull b1 r1 b2 r2
     rw [hullT_eq p1 p1 p2 p2, hullT_eq a1 q1 a2 q2, hullT_eq b1 r1 b2 r2, hullT_eq c1 s1 c2 s2]
    ·rw [if_pos s0, if_pos s0]; simp [ivNo, s0]
   ·rw [if_pos r0, if_pos r0]; simp [ivNo, r0]
  ·rw [if_pos q0, if_pos q0]; simp [ivNo, q0]
 ·rw [if_pos p0, if_pos p0]; simp [ivNo, p0]
theorem mulT_eq (c : Int) (a b : Nat × Nat) : mulT c a b = cMul c a b := by
 unfold mulT cMul
 refine off_any (fun e => fourT dMul e a b) fun _ h2 => ?_
 rw [Bool.and_eq_true] at h2
 obtain ⟨a1, a2, _⟩ := ivR_of h2.1
 obtain ⟨b1, b2, _⟩ := ivR_of h2.2
 refine fourT_eq fun x y hx hy h3 => ?_
 have rx : right x = true := by rcases hx with rfl | rfl <;> assumption
 have ry : right y = true := by rcases hy with rfl | rfl <;> assumption
 rw [dMul_out rx ry, dMul_out rx ry] at h3 ⊢
 exact good_ends (fl_le_up one_pos) h3
theorem divT_eq (c : Int) {a b : Nat × Nat} (hb : WW b) : divT c a b = cDiv c a b := by
 unfold divT cDiv
 refine off_any (fun e => if (flt b.1 0 || feq b.1 0) = true then (if (fgt b.2 0 || feq b.2 0) = true then ((0, 0), 11) else fourT dDiv e a b) else fourT dDiv e a b) fun _ h2 => ?_
 rw [Bool.and_eq_true] at h2
 obtain ⟨a1, a2, _⟩ := ivR_of h2.1
 obtain ⟨b1, b2, _⟩ := ivR_of h2.2
 have f1 : (flt b.1 0 || feq b.1 0) = decide (dec b.1 ≤ 0) := fle_dec hb.1 W_zero b1 right_zero
 have f2 : (fgt b.2 0 || feq b.2 0) = decide (0 ≤ dec b.2) := fge_dec hb.2 W_zero b2 right_zero
 have g1 : (fgt 0 b.1 || feq 0 b.1) = decide (dec b.1 ≤ 0) := fge_dec W_zero hb.1 right_zero b1
 have g2 : (flt 0 b.2 || feq 0 b.2) = decide (0 ≤ dec b.2) := fle_dec W_zero hb.2 right_zero b2
 have hh : ivHas b 0 = (decide (dec b.1 ≤ 0) && decide (0 ≤ dec b.2)) := by
  unfold ivHas; rw [h2.2, g1, g2]; rfl
 have four : ivHas b 0 = false → fourT dDiv 0 a b = if (iAll dDiv a b).2 ≠ 0 then ivNo (iAll dDiv a b).2 else ((iAll dDiv a b).1, 0) := fun hf => by
  refine fourT_eq fun x y hx hy h3 => ?_
  have rx : right x = true := by rcases hx with rfl | rfl <;> assumption
  have ry : right y = true := by rcases hy with rfl | rfl <;> assumption
  have wy : Dy.W y := by rcases hy with rfl | rfl; exact hb.1; exact hb.2
  have d : ∀ up, dDiv x y up = if y = 0 then (0, 11) else out (divR (dec x) (dec y) up) up := by
   intro up; unfold dDiv; rw [rx, ry, if_neg (by decide)]
  by_cases y0 : y = 0
  ·rw [d, d, if_pos y0, if_pos y0] at h3
   exact absurd h3 (by decide)
  ·rw [d, d, if_neg y0, if_neg y0] at h3 ⊢
   refine good_ends (divR_le ?_) h3
   intro h0
   have := enc_of_dec wy ry
   rw [h0] at this
   exact y0 (by rw [← this]; rfl)
 rw [f1, f2, hh]
 generalize fourT dDiv 0 a b = F at *
 generalize iAll dDiv a b = G at *
 by_cases d1 : dec b.1 ≤ 0
 ·by_cases d2 : 0 ≤ dec b.2
  ·rw [decide_eq_true d1, decide_eq_true d2]; simp [ivNo]
  ·rw [decide_eq_true d1, decide_eq_false d2]
   have := four (by rw [hh, decide_eq_false d2, Bool.and_false])
   simpa using this
 ·rw [decide_eq_false d1]
  have := four (by rw [hh, decide_eq_false d1, Bool.false_and])
  simpa using this
theorem numT_eq (c : Int) {x : Nat} (hx : Dy.W x) : numT c x = cNum c x := by
 unfold numT ofT cNum
 rw [rrT_right hx]
 obtain ⟨k1, k2, k3⟩ := @ask_no c true (if right x then ((x, x), 0) else ivNo 13)
 by_cases h : c = 0
 ·rw [k3 h rfl, if_pos h]
  cases right x
  ·rfl
  ·rfl
 ·rw [k1 h, if_neg h]
end Go.Proofs.YtkhplflbcgjkcaaGreat
