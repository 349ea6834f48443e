/- The law IvalMeets: walk and plain law joined. -/
import Derived.Test.YtikiegcncliocaaLa17
import Derived.Test.YtikiegcncliocaaEb
namespace Go.Dy
theorem has_val {p : Int × Int} {x : Nat} (hp : Rk p) (hx : W x) : ivHas (enc p.1, enc p.2) x = (!nan x && decide (p.1 ≤ dec x ∧ dec x ≤ p.2)) := by
  have a := W_enc hp.lo; have b := W_enc hp.hi
  have e : ivR (enc p.1, enc p.2) = true := hp.E_R
  unfold ivHas
  rw [e, fgt_eq hx.lt a.lt, feq_eq hx.lt a.lt, flt_eq hx.lt b.lt, feq_eq hx.lt b.lt, nan_enc hp.lo, nan_enc hp.hi, dec_enc hp.lo, dec_enc hp.hi]
  cases nan x with
  | true => rfl
  | false =>
    rw [Bool.eq_iff_iff]; simp; omega
/-- How wide: its rank, as long as there is one. -/
def wz (p : Int × Int) : Int := fl (V p.2 - V p.1) 1 true
theorem wz_nn {p : Int × Int} (h : p.1 ≤ p.2) : 0 ≤ wz p := fl_nonneg (by decide) (by have := V_le_iff.2 h; omega)
theorem wz_0 {p : Int × Int} (h : p.1 ≤ p.2) : wz p = 0 ↔ p.1 = p.2 := by
  have n := wz_nn h
  have k := fl_up (z := 0) (num := V p.2 - V p.1) (den := 1) (by decide)
  rw [show fl (V p.2 - V p.1) 1 true = wz p from rfl, V_zero] at k
  constructor
  · intro e
    have := k.1 (by omega)
    have := V_le_iff.1 (show V p.2 ≤ V p.1 by omega)
    omega
  · intro e
    have := k.2 (by rw [e]; omega)
    omega
theorem wz_mono {p q : Int × Int} (h1 : q.1 ≤ p.1) (h2 : p.2 ≤ q.2) : wz p ≤ wz q := by
  have a := V_le_iff.2 h1; have b := V_le_iff.2 h2
  exact fl_mono (by decide) (by omega)
theorem dSub_encM {y z : Int} {up : Bool} (hy : ok y) (hz : ok z) : dSub (enc y) (enc z) up = out (fl (V y - V z) 1 up) up := by
  unfold dSub dAdd
  rw [right_enc hz, if_pos rfl, minus_enc hz, right_enc hy, right_enc (ok_neg hz), dec_enc hy, dec_enc (ok_neg hz)]
  show out (fl (V y + V (-z)) 1 up) up = _
  rw [V_neg, Int.sub_eq_add_neg]
theorem width_E {p : Int × Int} (hp : Rk p) : dSub (enc p.2) (enc p.1) true = if wz p < (top : Int) then (enc (pin (wz p)), 0) else (0, 10) := by
  rw [dSub_encM hp.hi hp.lo, out_hi]; rfl
end Go.Dy
namespace Go.Proofs.Ytikiegcncliocaa
open Go Go.RowKit

theorem iWidth_E {p : Int × Int} (hp : Dy.Rk p) : iWidth (Dy.enc p.1, Dy.enc p.2) = if Dy.wz p < (Dy.top : Int) then (Dy.enc (Dy.pin (Dy.wz p)), 0) else (0, 10) := by
  unfold iWidth
  rw [if_pos (show Dy.ivR (Dy.enc p.1, Dy.enc p.2) = true from hp.E_R)]
  exact Dy.width_E hp
/-- Widths of an interval, and of one that has it. -/
theorem widths {p q : Int × Int} (hp : Dy.Rk p) (hq : Dy.Rk q) (h1 : q.1 ≤ p.1) (h2 : p.2 ≤ q.2) :
    (((iWidth (Dy.enc q.1, Dy.enc q.2)).2 != 0) = true ∧ ((iWidth (Dy.enc p.1, Dy.enc p.2)).2 != 0) = true) ∨
    (((iWidth (Dy.enc q.1, Dy.enc q.2)).2 != 0) = true ∧ ((iWidth (Dy.enc p.1, Dy.enc p.2)).2 != 0) = false ∧ (Dy.feq (iWidth (Dy.enc p.1, Dy.enc p.2)).1 0 == Dy.feq (Dy.enc p.1) (Dy.enc p.2)) = true) ∨
    (((iWidth (Dy.enc q.1, Dy.enc q.2)).2 != 0) = false ∧ ((iWidth (Dy.enc p.1, Dy.enc p.2)).2 == 0) = true ∧ (Dy.flt (iWidth (Dy.enc p.1, Dy.enc p.2)).1 (iWidth (Dy.enc q.1, Dy.enc q.2)).1 || Dy.feq (iWidth (Dy.enc p.1, Dy.enc p.2)).1 (iWidth (Dy.enc q.1, Dy.enc q.2)).1) = true ∧ ((iWidth (Dy.enc p.1, Dy.enc p.2)).2 != 0) = false ∧ (Dy.feq (iWidth (Dy.enc p.1, Dy.enc p.2)).1 0 == Dy.feq (Dy.enc p.1) (Dy.enc p.2)) = true) := by
  rw [iWidth_E hp, iWidth_E hq]
  have m := Dy.wz_mono h1 h2
  have n := Dy.wz_nn hp.le
  have z0 := Dy.wz_0 hp.le
  have T := Dy.top_eq
  have pn : Dy.wz p < (Dy.top : Int) → Dy.pin (Dy.wz p) = Dy.wz p := fun h => Dy.pin_id ⟨by omega, h⟩
  have pq : Dy.wz q < (Dy.top : Int) → Dy.pin (Dy.wz q) = Dy.wz q := fun h => Dy.pin_id ⟨by omega, h⟩
  have eqs : Dy.wz p < (Dy.top : Int) → (Dy.feq (Dy.enc (Dy.pin (Dy.wz p))) 0 == Dy.feq (Dy.enc p.1) (Dy.enc p.2)) = true := fun h => by
    rw [pn h, show Dy.feq (Dy.enc (Dy.wz p)) 0 = Dy.feq (Dy.enc (Dy.wz p)) (Dy.enc 0) from rfl, Dy.feq_enc ⟨by omega, h⟩ Dy.ok_zero, Dy.feq_enc hp.lo hp.hi, beq_iff_eq, Bool.eq_iff_iff]
    simp [z0]
  by_cases c : Dy.wz q < (Dy.top : Int)
  · have c' : Dy.wz p < (Dy.top : Int) := by omega
    refine Or.inr (Or.inr ?_)
    rw [if_pos c, if_pos c']
    refine ⟨rfl, rfl, ?_, rfl, eqs c'⟩
    show (Dy.flt (Dy.enc (Dy.pin (Dy.wz p))) (Dy.enc (Dy.pin (Dy.wz q))) || Dy.feq (Dy.enc (Dy.pin (Dy.wz p))) (Dy.enc (Dy.pin (Dy.wz q)))) = true
    rw [pn c', pq c, Dy.fle_enc ⟨by omega, c'⟩ ⟨by omega, c⟩]
    exact decide_eq_true m
  · by_cases c' : Dy.wz p < (Dy.top : Int)
    · refine Or.inr (Or.inl ?_)
      rw [if_neg c, if_pos c']
      exact ⟨rfl, rfl, eqs c'⟩
    · refine Or.inl ?_
      rw [if_neg c, if_neg c']
      exact ⟨rfl, rfl⟩
theorem meet_E {p q : Int × Int} (hp : Dy.Rk p) (hq : Dy.Rk q) : iMeet (Dy.enc p.1, Dy.enc p.2) (Dy.enc q.1, Dy.enc q.2) = if min p.2 q.2 < max p.1 q.1 then ((0, 0), false) else ((Dy.enc (max p.1 q.1), Dy.enc (min p.2 q.2)), true) := by
  unfold iMeet
  rw [show Dy.dmax (Dy.enc p.1, Dy.enc p.2).1 (Dy.enc q.1, Dy.enc q.2).1 = Dy.enc (max p.1 q.1) from Dy.dmax_enc hp.lo hq.lo, show Dy.dmin (Dy.enc p.1, Dy.enc p.2).2 (Dy.enc q.1, Dy.enc q.2).2 = Dy.enc (min p.2 q.2) from Dy.dmin_enc hp.hi hq.hi,
    Dy.fgt_enc (Dy.ok_max2 hp.lo hq.lo) (Dy.ok_min2 hp.hi hq.hi)]
  by_cases c : min p.2 q.2 < max p.1 q.1
  · rw [decide_eq_true c, if_pos c]; rfl
  · rw [decide_eq_false c, if_neg c]; rfl
theorem iw2 (r : Nat × Int) : r = (r.1, r.2) := rfl
attribute [local irreducible] iWidth iMeet
set_option maxRecDepth 100000 in
set_option maxHeartbeats 4000000 in
theorem ivalmeets_any (a b : Nat × Nat) (x : Nat) (w : World) (wa : Dy.WW a) (wb : Dy.WW b) (w5 : Dy.W x) : Calls Try.prog 3 #[.agg #[.float .f64 a.1, .float .f64 a.2], .agg #[.float .f64 b.1, .float .f64 b.2], .float .f64 x] w fun e w' => e = .returned (.bool true) ∧ Below w.heap.size w w' := by
  obtain ⟨a1, a2⟩ := a
  obtain ⟨b1, b2⟩ := b
  obtain ⟨w1, w2⟩ := wa
  obtain ⟨w3, w4⟩ := wb
  by_cases ra : Dy.ivR (a1, a2) = true
  case neg => exact m_ra a1 a2 b1 b2 x w w1 w2 w3 w4 w5 (by simpa using ra)
  by_cases rb : Dy.ivR (b1, b2) = true
  case neg => exact m_rb a1 a2 b1 b2 x w w1 w2 w3 w4 w5 ra (by simpa using rb)
  obtain ⟨p, hp, ep⟩ := Dy.rk_of ⟨w1, w2⟩ ra
  obtain ⟨q, hq, eq⟩ := Dy.rk_of ⟨w3, w4⟩ rb
  obtain ⟨rfl, rfl⟩ := Prod.mk.inj (show (a1, a2) = (Dy.enc p.1, Dy.enc p.2) from ep)
  obtain ⟨rfl, rfl⟩ := Prod.mk.inj (show (b1, b2) = (Dy.enc q.1, Dy.enc q.2) from eq)
  have lp := hp.le; have lq := hq.le
  have hh := hp.hull hq
  have r1 : rN [.f (Dy.enc p.1), .f (Dy.enc q.1)] = true := by show (Dy.right (Dy.enc p.1) && Dy.right (Dy.enc q.1)) = true; rw [Dy.right_enc hp.lo, Dy.right_enc hq.lo]; rfl
  have r2 : rN [.f (Dy.enc p.2), .f (Dy.enc q.2)] = true := by show (Dy.right (Dy.enc p.2) && Dy.right (Dy.enc q.2)) = true; rw [Dy.right_enc hp.hi, Dy.right_enc hq.hi]; rfl
  have r3 : rN [.f (Dy.enc q.1), .f (Dy.enc p.1)] = true := by show (Dy.right (Dy.enc q.1) && Dy.right (Dy.enc p.1)) = true; rw [Dy.right_enc hp.lo, Dy.right_enc hq.lo]; rfl
  have r4 : rN [.f (Dy.enc q.2), .f (Dy.enc p.2)] = true := by show (Dy.right (Dy.enc q.2) && Dy.right (Dy.enc p.2)) = true; rw [Dy.right_enc hp.hi, Dy.right_enc hq.hi]; rfl
  have d1 : Dy.dmin (Dy.enc p.1) (Dy.enc q.1) = Dy.enc (min p.1 q.1) := Dy.dmin_enc hp.lo hq.lo
  have d2 : Dy.dmax (Dy.enc p.2) (Dy.enc q.2) = Dy.enc (max p.2 q.2) := Dy.dmax_enc hp.hi hq.hi
  have d3 : Dy.dmin (Dy.enc q.1) (Dy.enc p.1) = Dy.enc (min p.1 q.1) := by rw [Dy.dmin_enc hq.lo hp.lo, Int.min_comm]
  have d4 : Dy.dmax (Dy.enc q.2) (Dy.enc p.2) = Dy.enc (max p.2 q.2) := by rw [Dy.dmax_enc hq.hi hp.hi, Int.max_comm]
  have hhull : Dy.ivR (Dy.enc (min p.1 q.1), Dy.enc (max p.2 q.2)) = true := hh.E_R
  have W := widths hp hh (q := (min p.1 q.1, max p.2 q.2)) (by dsimp only; omega) (by dsimp only; omega)
  dsimp only at W
  have f1 : Dy.flt (Dy.enc p.2) (Dy.enc q.1) = decide (p.2 < q.1) := Dy.flt_enc hp.hi hq.lo
  have f2 : Dy.flt (Dy.enc q.2) (Dy.enc p.1) = decide (q.2 < p.1) := Dy.flt_enc hq.hi hp.lo
  have hA := Dy.has_val hp w5
  have hB := Dy.has_val hq w5
  have hH : Dy.ivHas (Dy.enc (min p.1 q.1), Dy.enc (max p.2 q.2)) x = _ := Dy.has_val hh w5
  have hH1 : Dy.ivHas (Dy.enc p.1, Dy.enc p.2) x = true → Dy.ivHas (Dy.enc (min p.1 q.1), Dy.enc (max p.2 q.2)) x = true := fun h => by
    rw [hA] at h; rw [hH]; simp at h ⊢; exact ⟨h.1, by omega, by omega⟩
  have hH2 : Dy.ivHas (Dy.enc q.1, Dy.enc q.2) x = true → Dy.ivHas (Dy.enc (min p.1 q.1), Dy.enc (max p.2 q.2)) x = true := fun h => by
    rw [hB] at h; rw [hH]; simp at h ⊢; exact ⟨h.1, by omega, by omega⟩
  by_cases c : min p.2 q.2 < max p.1 q.1
  · have e1 := meet_E hp hq
    have e2 := meet_E hq hp
    rw [if_pos c] at e1
    rw [if_pos (by omega)] at e2
    have nb : Dy.ivHas (Dy.enc p.1, Dy.enc p.2) x = true → Dy.ivHas (Dy.enc q.1, Dy.enc q.2) x = true → False := fun h k => by
      rw [hA] at h; rw [hB] at k; simp at h k; omega
    by_cases l : p.2 < q.1
    · cases A : Dy.ivHas (Dy.enc p.1, Dy.enc p.2) x with
      | true =>
        cases B : Dy.ivHas (Dy.enc q.1, Dy.enc q.2) x with
        | true => exact (nb A B).elim
        | false => exact m_n1tf _ _ _ _ x w w1 w2 w3 w4 w5 ra rb e1 ra rb e2 d1 d2 r1 r2 rfl (decide_eq_true rfl) d3 d4 r3 r4 (decide_eq_true rfl) hhull (by rw [f1]; exact decide_eq_true l) (decide_eq_true rfl) A (hH1 A) (iw2 _) (iw2 _) rfl W
      | false =>
        cases B : Dy.ivHas (Dy.enc q.1, Dy.enc q.2) x with
        | true => exact m_n1ft _ _ _ _ x w w1 w2 w3 w4 w5 ra rb e1 ra rb e2 d1 d2 r1 r2 rfl (decide_eq_true rfl) d3 d4 r3 r4 (decide_eq_true rfl) hhull (by rw [f1]; exact decide_eq_true l) (decide_eq_true rfl) A B (hH2 B) (iw2 _) (iw2 _) rfl W
        | false => exact m_n1ff _ _ _ _ x w w1 w2 w3 w4 w5 ra rb e1 ra rb e2 d1 d2 r1 r2 rfl (decide_eq_true rfl) d3 d4 r3 r4 (decide_eq_true rfl) hhull (by rw [f1]; exact decide_eq_true l) (decide_eq_true rfl) A B (iw2 _) (iw2 _) rfl W
    · cases A : Dy.ivHas (Dy.enc p.1, Dy.enc p.2) x with
      | true =>
        cases B : Dy.ivHas (Dy.enc q.1, Dy.enc q.2) x with
        | true => exact (nb A B).elim
        | false => exact m_n2tf _ _ _ _ x w w1 w2 w3 w4 w5 ra rb e1 ra rb e2 d1 d2 r1 r2 rfl (decide_eq_true rfl) d3 d4 r3 r4 (decide_eq_true rfl) hhull (by rw [f1]; exact decide_eq_false l) (by rw [f2]; exact decide_eq_true (by omega)) (decide_eq_true rfl) A (hH1 A) (iw2 _) (iw2 _) rfl W
      | false =>
        cases B : Dy.ivHas (Dy.enc q.1, Dy.enc q.2) x with
        | true => exact m_n2ft _ _ _ _ x w w1 w2 w3 w4 w5 ra rb e1 ra rb e2 d1 d2 r1 r2 rfl (decide_eq_true rfl) d3 d4 r3 r4 (decide_eq_true rfl) hhull (by rw [f1]; exact decide_eq_false l) (by rw [f2]; exact decide_eq_true (by omega)) (decide_eq_true rfl) A B (hH2 B) (iw2 _) (iw2 _) rfl W
        | false => exact m_n2ff _ _ _ _ x w w1 w2 w3 w4 w5 ra rb e1 ra rb e2 d1 d2 r1 r2 rfl (decide_eq_true rfl) d3 d4 r3 r4 (decide_eq_true rfl) hhull (by rw [f1]; exact decide_eq_false l) (by rw [f2]; exact decide_eq_true (by omega)) (decide_eq_true rfl) A B (iw2 _) (iw2 _) rfl W
  · have e1 := meet_E hp hq
    have e2 := meet_E hq hp
    rw [if_neg c] at e1
    rw [if_neg (by omega), Int.max_comm, Int.min_comm] at e2
    have hm : Dy.Rk (max p.1 q.1, min p.2 q.2) := ⟨Dy.ok_max2 hp.lo hq.lo, Dy.ok_min2 hp.hi hq.hi, by dsimp only; omega⟩
    have hM : Dy.ivHas (Dy.enc (max p.1 q.1), Dy.enc (min p.2 q.2)) x = (Dy.ivHas (Dy.enc p.1, Dy.enc p.2) x && Dy.ivHas (Dy.enc q.1, Dy.enc q.2) x) := by
      rw [show Dy.ivHas (Dy.enc (max p.1 q.1), Dy.enc (min p.2 q.2)) x = _ from Dy.has_val hm w5, hA, hB]
      cases Dy.nan x with
      | true => rfl
      | false => rw [Bool.eq_iff_iff]; simp; omega
    cases A : Dy.ivHas (Dy.enc p.1, Dy.enc p.2) x with
    | true =>
      cases B : Dy.ivHas (Dy.enc q.1, Dy.enc q.2) x with
      | true => rw [A, B] at hM; exact m_ytt _ _ _ _ x w w1 w2 w3 w4 w5 ra rb e1 ra rb e2 d1 d2 r1 r2 rfl (decide_eq_true rfl) d3 d4 r3 r4 (decide_eq_true rfl) hhull (by rw [f1]; exact decide_eq_false (by omega)) (by rw [f2]; exact decide_eq_false (by omega)) hm.E_R hM A B rfl A (hH1 A) (iw2 _) (iw2 _) rfl W
      | false => rw [A, B] at hM; exact m_ytf _ _ _ _ x w w1 w2 w3 w4 w5 ra rb e1 ra rb e2 d1 d2 r1 r2 rfl (decide_eq_true rfl) d3 d4 r3 r4 (decide_eq_true rfl) hhull (by rw [f1]; exact decide_eq_false (by omega)) (by rw [f2]; exact decide_eq_false (by omega)) hm.E_R hM A B rfl A (hH1 A) (iw2 _) (iw2 _) rfl W
    | false =>
      cases B : Dy.ivHas (Dy.enc q.1, Dy.enc q.2) x with
      | true => rw [A, B] at hM; exact m_yft _ _ _ _ x w w1 w2 w3 w4 w5 ra rb e1 ra rb e2 d1 d2 r1 r2 rfl (decide_eq_true rfl) d3 d4 r3 r4 (decide_eq_true rfl) hhull (by rw [f1]; exact decide_eq_false (by omega)) (by rw [f2]; exact decide_eq_false (by omega)) hm.E_R hM A rfl A B (hH2 B) (iw2 _) (iw2 _) rfl W
      | false => rw [A, B] at hM; exact m_yff _ _ _ _ x w w1 w2 w3 w4 w5 ra rb e1 ra rb e2 d1 d2 r1 r2 rfl (decide_eq_true rfl) d3 d4 r3 r4 (decide_eq_true rfl) hhull (by rw [f1]; exact decide_eq_false (by omega)) (by rw [f2]; exact decide_eq_false (by omega)) hm.E_R hM A rfl A B (iw2 _) (iw2 _) rfl W
end Go.Proofs.Ytikiegcncliocaa
