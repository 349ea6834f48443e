/- Walks: burnishref01.far: a sum that is great (P1.2). -/
import Derived.Test.YtnbdjpnnagpldaaTj
namespace Go.Proofs.Ytnbdjpnnagpldaa
open Go Go.RowKit
set_option linter.unusedSimpArgs false
set_option linter.unusedVariables false
open Dy
theorem fn_some {g : Nat → Nat → Option Nat} {x y r : Nat} (h : g x y = some r) (hr : Dy.W r) : fN g [.f x, .f y] = true := by
  show okF (g x y) = true
  rw [h]; exact decide_eq_true hr.lt
theorem nan_enc' {z : Int} (o : ok z) : nSideT [.f (enc z)] = true := by
  show (!nan (enc z)) = true
  rw [nan_enc o]; rfl
theorem nrst_near {z : Int} : nan (nrst z) = false := by
  unfold nrst
  split
  · decide
  · split
    · decide
    · exact nan_enc (by unfold ok; omega)
theorem nLdx60 : nLdx [.i (-60)] = true := by decide
theorem far_any (a b : Nat) (up : Bool) (w : World) (ha : Dy.W a) (hb : Dy.W b) (ra : right a = true) (rb : right b = true) (os : ok (nz (V (dec a) + V (dec b)))) (hs : V K1000 ≤ (V (nz (V (dec a) + V (dec b)))).natAbs) :
    Calls Try.prog 32 #[.float .f64 a, .float .f64 b, .float .f64 (enc (nz (V (dec a) + V (dec b)))), .bool up] w fun e w' => e = .returned (.tuple #[.float .f64 (dAdd a b up).1, .int .i64 (dAdd a b up).2]) ∧ Below w.heap.size w w' := by
  obtain ⟨ea, oa⟩ := enc_dec ha.lt ra
  obtain ⟨eb, ob⟩ := enc_dec hb.lt rb
  rw [dAdd_out ra rb]
  generalize dec a = x at *
  generalize dec b = y at *
  obtain ⟨z, hz⟩ : ∃ z, nz (V x + V y) = z := ⟨_, rfl⟩
  have hS : V z = rn (V x + V y) := by rw [← hz]; rfl
  rw [hz] at os hs ⊢
  subst ea; subst eb
  have ws := W_enc os
  have q := V_K1000_pos
  have kone := K_one
  have hcb : Cb (enc z) (nz (V x + V y)) := by rw [hz]; exact .inr (.inr ⟨os, right_fin (right_enc os), ws, dec_enc os⟩)
  have o1 : (0 : Int) < one := by have := one_big; have := big_pos; omega
  obtain ⟨fe, er1, er2⟩ := fl_err (Fl.ofV x) (Fl.ofV y)
  rw [← hS] at fe er1 er2
  have gS : (2 : Int) ^ 2000 ∣ V z := by
    refine grid_of (Fl.ofV z) ?_
    have : ((2 ^ 53 * 2 ^ 2000 : Nat) : Int) ≤ V K1000 := by decide +kernel
    omega
  have small : ∀ u v : Int, ok u → ok v → V u + V v = V x + V y → (V u).natAbs < (one : Int) * 2 ^ 60 → V z = V v := fun u v ou ov e h => by
    have h1 := rn_near (n := V x + V y) (Fl.ofV v)
    rw [← hS, ← e] at h1
    have e2 : V u + V v - V v = V u := by omega
    rw [e2] at h1
    have p61 : (one : Int) * 2 ^ 60 * 2 < V K1000 - one * 2 ^ 60 * 4 := by decide +kernel
    have gV : (2 : Int) ^ 1200 ∣ V v := by
      refine grid_of (Fl.ofV v) ?_
      have : ((2 ^ 53 * 2 ^ 1200 : Nat) : Int) ≤ V K1000 - one * 2 ^ 60 * 4 := by decide +kernel
      obtain ⟨P, hP⟩ : ∃ P : Nat, 2 ^ 53 * 2 ^ 1200 = P := ⟨_, rfl⟩
      rw [hP] at this ⊢
      omega
    have gD : (2 : Int) ^ 1200 ∣ V z - V v := Int.dvd_sub (dvd_less (by omega) gS) gV
    have lt : (V z - V v).natAbs < ((2 : Int) ^ 1200).natAbs := by
      have : (one : Int) * 2 ^ 60 * 2 < (((2 : Int) ^ 1200).natAbs : Int) := by decide +kernel
      obtain ⟨P, hP⟩ : ∃ P : Nat, ((2 : Int) ^ 1200).natAbs = P := ⟨_, rfl⟩
      rw [hP] at this ⊢
      omega
    have := Int.eq_zero_of_dvd_of_natAbs_lt_natAbs gD lt
    omega
  obtain ⟨sx1, sx2⟩ := ldx60_small oa
  obtain ⟨sy1, sy2⟩ := ldx60_small ob
  cases c1 : flt (abs (ldx (enc x) (-60))) 4607182418800017408 with
  | true =>
    have e := small x y oa ob rfl (sx1 c1)
    obtain ⟨g1, g2⟩ := sign_enc oa
    have R : sideF (enc z) (enc x) up = out (fl (V x + V y) 1 up) up := sum_side hcb (fun _ => by rw [hz, g1, e]; congr 1; rw [eq_iff_iff]; omega) (fun _ => by rw [hz, g2, e]; congr 1; rw [eq_iff_iff]; omega)
    exact far_0 _ _ _ up w ha hb ws rfl nLdx60 rfl rfl rfl c1 R (nan_enc' os) (out_W _ _)
  | false =>
    cases c2 : flt (abs (ldx (enc y) (-60))) 4607182418800017408 with
    | true =>
      have e := small y x ob oa (Int.add_comm _ _) (sy1 c2)
      obtain ⟨g1, g2⟩ := sign_enc ob
      have R : sideF (enc z) (enc y) up = out (fl (V x + V y) 1 up) up := sum_side hcb (fun _ => by rw [hz, g1, e]; congr 1; rw [eq_iff_iff]; omega) (fun _ => by rw [hz, g2, e]; congr 1; rw [eq_iff_iff]; omega)
      exact far_1 _ _ _ up w ha hb ws rfl nLdx60 rfl rfl rfl c1 rfl c2 R (nan_enc' os) (out_W _ _)
    | false =>
      obtain ⟨X, oX, lX, eX⟩ := ldx60 oa (sx2 c1)
      obtain ⟨Y, oY, lY, eY⟩ := ldx60 ob (sy2 c2)
      obtain ⟨T, oT, lT, eT⟩ := ldx60 os (by
        have : (one : Int) * 2 ^ 59 ≤ V K1000 := by decide +kernel
        omega)
      have p0 : (0 : Int) < 2 ^ 60 := by decide
      have hT : V T = rn (V X + V Y) := by
        have h1 := rn_scale (V X + V Y) 60
        rw [Int.add_mul, ← eX, ← eY, ← hS, eT] at h1
        exact Int.eq_of_mul_eq_mul_right (by omega) h1
      obtain ⟨k1, k2, k3, k4⟩ := two_sum (Fl.ofV X) (Fl.ofV Y) hT rfl
      have bX : ∀ u v : Int, ok u → V u = V v * 2 ^ 60 → -(16 * V K1000) < V v ∧ V v < 16 * V K1000 := fun u v ou e => by
        have t := V_top
        have h1 : V u < V top := V_lt ou.2
        have h2 : V (-(top : Int)) < V u := V_lt ou.1
        rw [V_neg] at h2
        rw [t] at h1 h2
        rw [e] at h1 h2
        constructor <;> omega
      obtain ⟨x1, x2⟩ := bX x X oa eX
      obtain ⟨y1, y2⟩ := bX y Y ob eY
      obtain ⟨t1, t2⟩ := bX z T os eT
      have f64 : Fl (64 * V K1000) := by
        rw [show 64 * V K1000 = 2 * (2 * (2 * (2 * (2 * (2 * V K1000))))) by omega]; exact (Fl.ofV K1000).twice.twice.twice.twice.twice.twice
      have r1 := rn_le (n := V T - V X) f64 (by omega)
      have r2 := le_rn (n := V T - V X) f64.neg (by omega)
      have okr := fun n h1 h2 => (ok_rn (n := n) h1 h2)
      have oc : ok (nz (V T - V X)) := okr _ (by omega) (by omega)
      have s1 := sub_mid oT oX oc
      obtain ⟨c, hc⟩ : ∃ c, nz (V T - V X) = c := ⟨_, rfl⟩
      have hcV : V c = rn (V T - V X) := by rw [← hc]; rfl
      rw [hc] at s1 oc
      rw [← hcV] at k1 k2 k3 k4 r1 r2
      have o2 : ok (nz (V T - V c)) := okr _ (by omega) (by omega)
      have s2 := sub_mid oT oc o2
      obtain ⟨p, hp⟩ : ∃ p, nz (V T - V c) = p := ⟨_, rfl⟩
      have hpV : V p = V T - V c := by rw [← hp]; exact k1
      rw [hp] at s2 o2
      rw [← hpV] at k2 k4
      have o3 : ok (nz (V X - V p)) := okr _ (by omega) (by omega)
      have s3 := sub_mid oX o2 o3
      obtain ⟨m, hm⟩ : ∃ m, nz (V X - V p) = m := ⟨_, rfl⟩
      have hmV : V m = V X - V p := by rw [← hm]; exact k2
      rw [hm] at s3 o3
      have o4 : ok (nz (V Y - V c)) := okr _ (by omega) (by omega)
      have s4 := sub_mid oY oc o4
      obtain ⟨n, hn⟩ : ∃ n, nz (V Y - V c) = n := ⟨_, rfl⟩
      have hnV : V n = V Y - V c := by rw [← hn]; exact k3
      rw [hn] at s4 o4
      rw [← hmV, ← hnV] at k4
      have o5 : ok (nz (V m + V n)) := okr _ (by omega) (by omega)
      have s5 := add_mid o3 o4 o5
      obtain ⟨d, hd⟩ : ∃ d, nz (V m + V n) = d := ⟨_, rfl⟩
      have hdV : V d = V X + V Y - V T := by rw [← hd]; exact k4
      rw [hd] at s5 o5
      obtain ⟨g1, g2⟩ := sign_enc o5
      have R : sideF (enc z) (enc d) up = out (fl (V x + V y) 1 up) up := sum_side hcb (fun _ => by rw [hz, g1, hdV, eX, eY, eT]; congr 1; rw [eq_iff_iff]; omega) (fun _ => by rw [hz, g2, hdV, eX, eY, eT]; congr 1; rw [eq_iff_iff]; omega)
      exact far_2 _ _ _ up w ha hb ws lX nLdx60 lY lT rfl (by rw [← lX]; exact c1) rfl (by rw [← lY]; exact c2) (by rw [s1]; rfl) (fn_some s1 (W_enc oc)) (by rw [s2]; rfl) (fn_some s2 (W_enc o2)) (by rw [s3]; rfl) (fn_some s3 (W_enc o3)) (by rw [s4]; rfl) (fn_some s4 (W_enc o4)) (by rw [s5]; rfl) (fn_some s5 (W_enc o5)) R (nan_enc' os) (out_W _ _)
end Go.Proofs.Ytnbdjpnnagpldaa
