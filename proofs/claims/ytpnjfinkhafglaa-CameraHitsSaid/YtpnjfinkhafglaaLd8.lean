/- The law CameraHits: its join. -/
import Derived.Test.YtpnjfinkhafglaaLd7
namespace Go.Proofs.Ytpnjfinkhafglaa
open Go Go.RowKit
set_option linter.unusedSimpArgs false
set_option linter.unusedVariables false
theorem sq_bound {x : Int} (h1 : -300 ≤ x) (h2 : x ≤ 300) : 0 ≤ x * x ∧ x * x ≤ 90000 := by
  have e : x * x = (x.natAbs : Int) * x.natAbs := (Int.natAbs_mul_self' x).symm
  have h := Nat.mul_le_mul (show x.natAbs ≤ 300 by omega) (show x.natAbs ≤ 300 by omega)
  rw [e, ← Int.natCast_mul]
  omega
theorem wrap_small {x : Int} (h1 : -1000000 ≤ x) (h2 : x ≤ 1000000) : IntKind.i64.wrap x = x := by rw [IntKind.wrap_i64]; omega
theorem cond_circ {n κ l : Nat} (hn : n ≤ 256) (h1 : κ < n) (h2 : l < n) : (decide ((IntKind.i64.wrap ((IntKind.i64.wrap ((IntKind.i64.wrap ((IntKind.i64.wrap ((IntKind.i64.wrap (2 * (κ : Int))) + 1)) - (n : Int))) * (IntKind.i64.wrap ((IntKind.i64.wrap ((IntKind.i64.wrap (2 * (κ : Int))) + 1)) - (n : Int))))) + (IntKind.i64.wrap ((IntKind.i64.wrap ((IntKind.i64.wrap ((IntKind.i64.wrap (2 * (l : Int))) + 1)) - (n : Int))) * (IntKind.i64.wrap ((IntKind.i64.wrap ((IntKind.i64.wrap (2 * (l : Int))) + 1)) - (n : Int))))))) < (IntKind.i64.wrap ((n : Int) * n)))) = circ n κ l := by
  have b1 := sq_bound (x := 2 * (κ : Int) + 1 - n) (by omega) (by omega)
  have b2 := sq_bound (x := 2 * (l : Int) + 1 - n) (by omega) (by omega)
  have b3 := sq_bound (x := (n : Int)) (by omega) (by omega)
  rw [wrap_small (x := 2 * (κ : Int)) (by omega) (by omega), wrap_small (x := 2 * (κ : Int) + 1) (by omega) (by omega), wrap_small (x := 2 * (κ : Int) + 1 - n) (by omega) (by omega),
    wrap_small (x := 2 * (l : Int)) (by omega) (by omega), wrap_small (x := 2 * (l : Int) + 1) (by omega) (by omega), wrap_small (x := 2 * (l : Int) + 1 - n) (by omega) (by omega)]
  rw [wrap_small (x := (2 * (κ : Int) + 1 - n) * (2 * (κ : Int) + 1 - n)) (by omega) (by omega), wrap_small (x := (2 * (l : Int) + 1 - n) * (2 * (l : Int) + 1 - n)) (by omega) (by omega), wrap_small (x := (n : Int) * n) (by omega) (by omega)]
  rw [wrap_small (by omega) (by omega)]
  rfl
theorem camhits_ok (a : Nat) (w : World) (ha : a < 256) : Calls Try.prog 5 #[.int .u8 (a : Int)] w fun e w' => e = .returned (.bool true) ∧ Below w.heap.size w w' := by
  obtain ⟨n, hn⟩ : ∃ n : Nat, n = 1 + a := ⟨_, rfl⟩
  have e0 : IntKind.i64.wrap (a : Int) = (a : Int) := by rw [IntKind.wrap_i64]; omega
  have e1 : IntKind.i64.wrap (1 + (a : Int)) = (n : Int) := by rw [IntKind.wrap_i64]; omega
  have wl : ∀ κ, κ ≤ n → wantN n κ ≤ 65536 := fun κ h => Nat.le_trans (wantN_le n κ) (Nat.le_trans (Nat.mul_le_mul h (Nat.le_refl n)) (Nat.mul_le_mul (show n ≤ 256 by omega) (show n ≤ 256 by omega)))
  have nn : n * n ≤ 65536 := Nat.mul_le_mul (show n ≤ 256 by omega) (show n ≤ 256 by omega)
  have en : IntKind.i64.wrap ((n : Int) * n) = ((n * n : Nat) : Int) := by rw [wrap_small (by rw [← Int.natCast_mul]; omega) (by rw [← Int.natCast_mul]; omega), Int.natCast_mul]
  have HF : hitsF (n : Int) = ((wantN n n : Int), 0) := by
    unfold hitsF; rw [if_pos (by omega), Int.toNat_natCast, hitsN_want (by omega) (by omega)]
  have T := hit_tab n (by omega) (by omega)
  unfold hitB at T
  simp only [Bool.and_eq_true, Bool.not_eq_true'] at T
  rw [← fast_want n n (Nat.le_refl _)] at T
  obtain ⟨t1, t2, t3, t4⟩ := T
  have hwn := wl n (Nat.le_refl _)
  have nN' : ∀ m : Nat, m ≤ 65536 → nN [.i (m : Int)] = true := fun m hm => by
    show decide (FloatKind.f64.nearest (m : Int) < W64) = true
    rw [Dy.near_fiR]; exact decide_eq_true (Dy.fi_spec (m := m) (by omega)).2.1.lt
  refine camhits_w a w e0 e1 (fun c k => ∃ κ : Nat, k = (κ : Int) ∧ κ ≤ n ∧ c = (wantN n κ : Int)) (fun k e l => ∃ κ j : Nat, k = (κ : Int) ∧ l = (j : Int) ∧ κ < n ∧ j ≤ n ∧ e = ((wantN n κ + rowN n κ j : Nat) : Int)) ⟨0, rfl, by omega, rfl⟩ ?_ ?_ ?_ ?_ ?_ ?_
  · rintro c k ⟨κ, rfl, h1, rfl⟩ h2
    rw [decide_eq_true_eq] at h2
    exact ⟨κ, 0, rfl, rfl, by omega, by omega, rfl⟩
  · rintro k e l ⟨κ, j, rfl, rfl, h1, h2, rfl⟩ h3 h4
    rw [decide_eq_true_eq] at h3
    rw [cond_circ (by omega) h1 (by omega)] at h4
    have b1 := wl κ (by omega)
    have b2 := rowN_le n κ j
    refine ⟨κ, j + 1, rfl, by rw [wrap_small (by omega) (by omega)]; rfl, h1, by omega, ?_⟩
    rw [rowN_succ, if_pos h4, wrap_small (by omega) (by omega)]; omega
  · rintro k e l ⟨κ, j, rfl, rfl, h1, h2, rfl⟩ h3 h4
    rw [decide_eq_true_eq] at h3
    rw [cond_circ (by omega) h1 (by omega)] at h4
    refine ⟨κ, j + 1, rfl, by rw [wrap_small (by omega) (by omega)]; rfl, h1, by omega, ?_⟩
    rw [rowN_succ, if_neg (by rw [h4]; decide)]; rfl
  · rintro k e l ⟨κ, j, rfl, rfl, h1, h2, rfl⟩ h3
    rw [decide_eq_true_eq] at h3
    rw [wrap_small (by omega) (by omega)]; omega
  · rintro k e l ⟨κ, j, rfl, rfl, h1, h2, rfl⟩ h3
    rw [decide_eq_false_iff_not] at h3
    have ej : j = n := by omega
    subst ej
    refine ⟨⟨κ + 1, by rw [wrap_small (by omega) (by omega)]; rfl, by omega, rfl⟩, ?_⟩
    rw [wrap_small (by omega) (by omega)]; omega
  · rintro c k ⟨κ, rfl, h1, rfl⟩ h2
    rw [decide_eq_false_iff_not] at h2
    have ek : κ = n := by omega
    subst ek
    have w16 : IntKind.i64.wrap (16 * (κ : Int)) = 16 * κ := wrap_small (by omega) (by omega)
    have ws : IntKind.i64.wrap ((wantN κ κ : Int) + 16 * κ) = (wantN κ κ : Int) + 16 * κ := wrap_small (by omega) (by omega)
    rw [HF, en, w16, ws, Dy.near_fiR, Dy.near_fiR, Dy.near_fiR]
    exact ⟨rfl, nN' _ hwn, nN' _ nn, t1, t2, nN' _ (by omega), t3, t4, by simp, by simp, by simp; omega⟩
end Go.Proofs.Ytpnjfinkhafglaa
