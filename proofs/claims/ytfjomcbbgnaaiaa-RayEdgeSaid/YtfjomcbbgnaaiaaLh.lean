/- Walks: the law RayEdge. -/
import Derived.Test.YtfjomcbbgnaaiaaLe
import Derived.Test.YtfjomcbbgnaaiaaDf
import Derived.RegionTactic
import Derived.BigRegion
namespace Go.Proofs.Ytfjomcbbgnaaiaa
open Go.RowKit

theorem sq20 {x : Nat} (h : x ≤ 1048576) : x * x ≤ 1099511627776 := Nat.le_trans (Nat.mul_le_mul h h) (by decide)
theorem wrap_in {z : Int} (h0 : 0 ≤ z) (h1 : z < 18446744073709551616) : IntKind.u64.wrap z = z := by rw [IntKind.wrap_u64]; omega

set_option maxRecDepth 100000 in
set_option maxHeartbeats 4000000 in
theorem rayEdge_walk (k a b : Nat) (w : World) (hk : k < 256) (ha : a < 4294967296) (hb : b < 4294967296) :
    Calls Try.prog 11 #[.int .u8 (k : Int), .int .u32 (a : Int), .int .u32 (b : Int)] w fun e w' => e = .returned (.bool true) ∧ Below w.heap.size w w' := by
  have AW := awakes25
  have hB : Below w.heap.size w w := Below.refl _ _
  obtain ⟨n, hn⟩ : ∃ n : Nat, n = 2 ^ (k % 21) := ⟨_, rfl⟩
  have n0 : 0 < n := by rw [hn]; exact Nat.two_pow_pos _
  have n1 : n ≤ 1048576 := by
    rw [hn]
    exact Nat.le_trans (Nat.pow_le_pow_right (by omega) (show k % 21 ≤ 20 by omega)) (by decide)
  have e1 : IntKind.u64.wrap ((2 : Int) ^ (k % 21)) = (n : Int) := by
    have : ((2 : Int) ^ (k % 21)) = (n : Int) := by rw [hn]; simp
    rw [this]; exact wrap_in (by omega) (by omega)
  obtain ⟨x, hx⟩ : ∃ x : Nat, x = a % (n + 1) := ⟨_, rfl⟩
  obtain ⟨y, hy⟩ : ∃ y : Nat, y = b % (n + 1) := ⟨_, rfl⟩
  have x1 : x ≤ n := by have := Nat.mod_lt a (show n + 1 > 0 by omega); omega
  have y1 : y ≤ n := by have := Nat.mod_lt b (show n + 1 > 0 by omega); omega
  obtain ⟨R, r1, dr, mr⟩ := Dy.quo_pow (x := x) (j := k % 21) (by omega) (by omega)
  obtain ⟨S, s1, ds, ms⟩ := Dy.quo_pow (x := y) (j := k % 21) (by omega) (by omega)
  rw [← hn] at dr mr ds ms
  have HI := Dy.in_edge n0 r1 s1 mr ms
  have I1 := hid (fun w => inside_any R S w (Dy.dec_small r1).2.1 (Dy.dec_small s1).2.1)
  rw [HI] at I1
  have q1 : ∀ t w, (binOp .quo t (.float .f64 (Dy.fi x)) (.float .f64 (Dy.fi n))).run Try.prog w = .ok (.float .f64 R) w := fun t w => run_float_arith w .quo t .f64 _ _ _ dr
  have q2 : ∀ t w, (binOp .quo t (.float .f64 (Dy.fi y)) (.float .f64 (Dy.fi n))).run Try.prog w = .ok (.float .f64 S) w := fun t w => run_float_arith w .quo t .f64 _ _ _ ds
  have f1 := fi_conv x
  have f2 := fi_conv y
  have f3 := fi_conv n
  obtain ⟨N, hN⟩ : ∃ N : Int, N = (n : Int) + 1 := ⟨_, rfl⟩
  have e2 : IntKind.u64.wrap ((n : Int) + 1) = N := by rw [hN]; exact wrap_in (by omega) (by omega)
  have N0 : 0 < N := by omega
  have N1 : N ≤ 1048577 := by omega
  have e3 : (a : Int) % N = (x : Int) := by rw [hN, hx]; simp
  have e4 : (b : Int) % N = (y : Int) := by rw [hN, hy]; simp
  have e3' : (a : Int).tmod N = (x : Int) := by rw [Int.tmod_eq_emod_of_nonneg (by omega)]; exact e3
  have e4' : (b : Int).tmod N = (y : Int) := by rw [Int.tmod_eq_emod_of_nonneg (by omega)]; exact e4
  have N2 : (N == 0) = false := by rw [beq_eq_false_iff_ne]; omega
  obtain ⟨xx, hxx⟩ : ∃ xx : Nat, xx = x * x := ⟨_, rfl⟩
  obtain ⟨yy, hyy⟩ : ∃ yy : Nat, yy = y * y := ⟨_, rfl⟩
  obtain ⟨nn, hnn⟩ : ∃ nn : Nat, nn = n * n := ⟨_, rfl⟩
  have bx : xx ≤ 1099511627776 := by rw [hxx]; exact sq20 (by omega)
  have bY : yy ≤ 1099511627776 := by rw [hyy]; exact sq20 (by omega)
  have bn : nn ≤ 1099511627776 := by rw [hnn]; exact sq20 (by omega)
  have p1 : IntKind.u64.wrap ((x : Int) * (x : Int)) = (xx : Int) := by rw [← Int.natCast_mul, ← hxx]; exact wrap_in (by omega) (by omega)
  have p2 : IntKind.u64.wrap ((y : Int) * (y : Int)) = (yy : Int) := by rw [← Int.natCast_mul, ← hyy]; exact wrap_in (by omega) (by omega)
  have p3 : IntKind.u64.wrap ((n : Int) * (n : Int)) = (nn : Int) := by rw [← Int.natCast_mul, ← hnn]; exact wrap_in (by omega) (by omega)
  rw [← hxx, ← hyy, ← hnn] at I1
  obtain ⟨c, hc⟩ : ∃ c : Bool, decide (xx + yy < nn) = c := ⟨_, rfl⟩
  rw [hc] at I1
  have hc2 : decide ((xx : Int) + (yy : Int) < (nn : Int)) = c := by
    rw [← hc, Bool.eq_iff_iff]; simp only [decide_eq_true_eq]; omega
  have D1 := hid (fun w => div_any 4613937818241073152 4617315517961601024 false w (W_lit (by omega)) (W_lit (by omega)))
  have D2 := hid (fun w => div_any 4616189618054758400 4617315517961601024 false w (W_lit (by omega)) (W_lit (by omega)))
  have D3 := hid (fun w => div_any 4613937818241073152 4617315517961601024 true w (W_lit (by omega)) (W_lit (by omega)))
  have D4 := hid (fun w => div_any 4616189618054758400 4617315517961601024 true w (W_lit (by omega)) (W_lit (by omega)))
  have I2 := hid (fun w => inside_any 4603579539098121011 4605380978949069209 w (W_lit (by omega)) (W_lit (by omega)))
  have I3 := hid (fun w => inside_any 4603579539098121012 4605380978949069210 w (W_lit (by omega)) (W_lit (by omega)))
  rw [Dy.edge1.1] at D1
  rw [Dy.edge1.2] at D2
  rw [Dy.edge2.1] at D3
  rw [Dy.edge2.2] at D4
  rw [Dy.edge3.1] at I2
  rw [Dy.edge3.2] at I3
  generalize Dy.fi x = fx at *
  generalize Dy.fi y = fy at *
  generalize Dy.fi n = fn at *
  clear HI dr mr ds ms r1 s1 hn hx hy x1 y1 n1 hxx hyy hnn hN hc
  cases c
  all_goals
    go_enter Try.func11, Try.ntmps11
    go_wp2_with fail
    go_region
    have hB : Below w.heap.size w w.drew := (Below.refl _ _).drew
    go_wp2_with (first | (go_at_call 15; first | ((with_reducible refine (chain I1 hB).mono ?_); clear hB I1; rintro e w' ⟨rfl, hB⟩) | ((with_reducible refine (chain I2 hB).mono ?_); clear hB I2; rintro e w' ⟨rfl, hB⟩) | ((with_reducible refine (chain I3 hB).mono ?_); clear hB I3; rintro e w' ⟨rfl, hB⟩)) | (go_at_call 26; first | ((with_reducible refine (chain D1 hB).mono ?_); clear hB D1; rintro e w' ⟨rfl, hB⟩) | ((with_reducible refine (chain D2 hB).mono ?_); clear hB D2; rintro e w' ⟨rfl, hB⟩) | ((with_reducible refine (chain D3 hB).mono ?_); clear hB D3; rintro e w' ⟨rfl, hB⟩) | ((with_reducible refine (chain D4 hB).mono ?_); clear hB D4; rintro e w' ⟨rfl, hB⟩)) | (go_at_call 18; first | ((with_reducible refine (chain AW hB).mono ?_); clear hB AW; rintro e w' ⟨rfl, hB⟩)))
    go_ret
    exact ⟨rfl, hB⟩
end Go.Proofs.Ytfjomcbbgnaaiaa
