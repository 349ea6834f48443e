/- Walks: math.Ldexp. -/
import Derived.Test.YtfjomcbbgnaaiaaWd
import Derived.Test.YtfjomcbbgnaaiaaDyG
namespace Go.Proofs.Ytfjomcbbgnaaiaa
open Go.RowKit

theorem run_fmul (t : TypeId) (x y : Nat) (w : World) (hx : Dy.W x) (hy : Dy.W y) (fx : Dy.fin x) (fy : Dy.fin y) :
    (binOp .mul t (.float .f64 x) (.float .f64 y)).run Try.prog w = .ok (.float .f64 (Dy.fmul x y)) w :=
  run_float_arith w .mul t .f64 x y _ (Dy.mul_eq hx hy fx fy)

theorem ret_tuple2 {u v : Value} {a b : Int} {k : IntKind} (h : a = b) (h2 : u = v) : Ending.returned (.tuple #[u, .int k a]) = .returned (.tuple #[v, .int k b]) := by rw [h, h2]

set_option maxHeartbeats 400000 in
theorem normalize_any (b : Nat) (w : World) (hb : Dy.W b) (hf : Dy.fin b) :
    Calls Try.prog 98 #[.float .f64 b] w fun e w' => e = .returned (.tuple #[.float .f64 (Dy.norm1 b), .int .i64 (Dy.norm2 b)]) ∧ w = w' := by
  have h1 := Dy.flt_abs_least (b := b) hb hf
  have hop := run_fmul (x := b) (y := 4841369599423283200) (hx := hb) (hy := by unfold Dy.W; omega) (fx := hf) (fy := by unfold Dy.fin; decide)
  clear hf
  by_cases hs : Dy.abs b < 2 ^ 52
  · have e1 := Dy.norm1_sub hs
    have e2 := Dy.norm2_sub hs
    rw [e1, e2]
    have h2 : Dy.flt (Dy.abs b) 4503599627370496 = true := by rw [h1]; exact decide_eq_true hs
    clear h1 hs e1 e2
    go_enter Try.func98, Try.ntmps98
    go_wp2_with (go_at_call 20; refine (abs_any b _ hb).mono ?_; rintro e w' ⟨rfl, rfl⟩)
    go_ret2
    exact ⟨rfl, rfl⟩
  · have e1 := Dy.norm1_nor hs
    have e2 := Dy.norm2_nor hs
    rw [e1, e2]
    have h2 : Dy.flt (Dy.abs b) 4503599627370496 = false := by rw [h1]; exact decide_eq_false hs
    clear h1 hs e1 e2
    go_enter Try.func98, Try.ntmps98
    go_wp2_with (go_at_call 20; refine (abs_any b _ hb).mono ?_; rintro e w' ⟨rfl, rfl⟩)
    go_ret2
    exact ⟨rfl, rfl⟩

theorem i64_and2047 (n : Int) : bits .and .i64 n 2047 = n % 2048 := by
  have h127 : (BitVec.ofInt 64 2047).toNat = 2 ^ 11 - 1 := by decide
  have key : (BitVec.ofInt 64 n &&& BitVec.ofInt 64 2047).toNat = (n % ((2 ^ 64 : Nat) : Int)).toNat % 2 ^ 11 := by
    rw [BitVec.toNat_and, BitVec.toNat_ofInt, h127, Nat.and_two_pow_sub_one_eq_mod]
  show IntKind.i64.wrap ((BitVec.ofInt 64 n &&& BitVec.ofInt 64 2047).toNat : Nat) = n % 2048
  rw [key, IntKind.wrap_i64]
  omega

theorem field_bits {N : Nat} (hN : Dy.W N) : bits BinOp.and IntKind.i64 (wrap64 ((N : Int) / 4503599627370496)) 2047 = ((Dy.field N : Nat) : Int) := by
  have h := hN.lt
  have e1 : wrap64 ((N : Int) / 4503599627370496) = ((N / 4503599627370496 : Nat) : Int) := by
    unfold wrap64; omega
  rw [e1, i64_and2047]
  unfold Dy.field
  omega

theorem built_bits {b : Nat} {E : Int} (hb : Dy.W b) (hf : Dy.fin b) (h0 : b % 2 ^ 63 ≠ 0) (h1 : -1022 ≤ E) (h2 : E ≤ 1023) :
    bits BinOp.or IntKind.u64 (bits BinOp.andNot IntKind.u64 ((Dy.norm1 b : Nat) : Int) 9218868437227405312) ((E + 1023) * 4503599627370496) = ((Dy.built b E : Nat) : Int) := by
  obtain ⟨_, _, _, w1, _⟩ := Dy.fin_facts hb hf h0
  have e1 := u64_andNot_nat (Dy.norm1 b) 9218868437227405312 w1.lt (by omega)
  have e1' : bits BinOp.andNot IntKind.u64 ((Dy.norm1 b : Nat) : Int) 9218868437227405312 = ((Dy.norm1 b &&& (18446744073709551615 - 9218868437227405312) : Nat) : Int) := e1
  rw [e1']
  obtain ⟨k, hk⟩ : ∃ k : Nat, (E + 1023).toNat = k := ⟨_, rfl⟩
  have e2 : (E + 1023) * 4503599627370496 = ((k * 4503599627370496 : Nat) : Int) := by omega
  rw [e2, u64_or_nat _ _ (Nat.lt_of_le_of_lt (Nat.and_le_left) w1.lt) (by omega)]
  have e3 := Dy.built_or (E := E) rfl hb hf h0 h1 h2
  rw [hk] at e3
  exact congrArg Int.ofNat e3

set_option maxHeartbeats 400000 in
theorem copysign_zero (b : Nat) (w : World) (hb : Dy.W b) :
    Calls Try.prog 97 #[.float .f64 0, .float .f64 b] w fun e w' => e = .returned (.float .f64 (Dy.word (Dy.sgn b) 0)) ∧ w = w' := by
  have e1 : bits BinOp.andNot IntKind.u64 0 9223372036854775808 = 0 := by decide
  have e2 : bits BinOp.and IntKind.u64 (b : Int) 9223372036854775808 = ((Dy.word (Dy.sgn b) 0 : Nat) : Int) := by
    have h := u64_and_nat b 9223372036854775808 hb.lt (by omega)
    have h2 := hb.lt
    have e : b &&& 9223372036854775808 = Dy.word (Dy.sgn b) 0 := by
      rw [show 9223372036854775808 = 2 ^ 63 from rfl, nat_bit]
      unfold Dy.word Dy.sgn
      by_cases h3 : 2 ^ 63 ≤ b
      · simp [h3]; omega
      · simp [h3]; omega
    rw [e] at h
    exact h
  have e3 : bits BinOp.or IntKind.u64 0 ((Dy.word (Dy.sgn b) 0 : Nat) : Int) = ((Dy.word (Dy.sgn b) 0 : Nat) : Int) := by
    have h := u64_or_nat 0 (Dy.word (Dy.sgn b) 0) (by omega) (Dy.word_lt (by omega))
    rw [Nat.zero_or] at h
    exact h
  generalize Dy.word (Dy.sgn b) 0 = v at *
  go_enter Try.func97, Try.ntmps97
  go_wp2
  go_ret
  exact ⟨rfl, rfl⟩

set_option maxHeartbeats 400000 in
theorem inf_plus (w : World) :
    Calls Try.prog 85 #[.int .i64 1] w fun e w' => e = .returned (.float .f64 9218868437227405312) ∧ w = w' := by
  go_enter Try.func85, Try.ntmps85
  go_wp2
  go_ret
  exact ⟨rfl, rfl⟩

set_option maxHeartbeats 400000 in
theorem inf_minus (w : World) :
    Calls Try.prog 85 #[.int .i64 (-1)] w fun e w' => e = .returned (.float .f64 18442240474082181120) ∧ w = w' := by
  go_enter Try.func85, Try.ntmps85
  go_wp2
  go_ret
  exact ⟨rfl, rfl⟩

set_option maxRecDepth 100000 in
set_option maxHeartbeats 400000 in
theorem ldexp_zero (b : Nat) (e : Int) (w : World) (hz : Dy.feq b 0 = true) :
    Calls Try.prog 87 #[.float .f64 b, .int .i64 e] w fun e' w' => e' = .returned (.float .f64 b) ∧ w = w' := by
  go_enter Try.func87, Try.ntmps87
  go_wp2_with fail
  go_ret
  exact ⟨rfl, rfl⟩

set_option maxRecDepth 100000 in
set_option maxHeartbeats 400000 in
theorem ldexp_wild (b : Nat) (e : Int) (w : World) (hb : Dy.W b) (hf : ¬ Dy.fin b) :
    Calls Try.prog 87 #[.float .f64 b, .int .i64 e] w fun e' w' => e' = .returned (.float .f64 b) ∧ w = w' := by
  have hz : Dy.feq b 0 = false := by
    rw [Dy.feq_zero hb]; unfold Dy.fin at hf; rw [Dy.top_eq] at hf; exact decide_eq_false (by omega)
  have hn : Dy.nan b = true ∨ Dy.nan b = false ∧ Dy.inf b = true := by
    unfold Dy.fin at hf; unfold Dy.nan Dy.inf
    by_cases h : Dy.top < b % 2 ^ 63
    · exact Or.inl (decide_eq_true h)
    · exact Or.inr ⟨decide_eq_false h, decide_eq_true (by omega)⟩
  clear hf
  by_cases hi : Dy.inf b = true
  · go_enter Try.func87, Try.ntmps87
    go_wp2_with (first | (go_at_call 68; refine (isNaN_any b _ hb).mono ?_; rintro e w' ⟨rfl, rfl⟩) | (go_at_call 69; refine (isInf_any b _ hb).mono ?_; rintro e w' ⟨rfl, rfl⟩))
    go_ret
    exact ⟨rfl, rfl⟩
  · have hn2 : Dy.nan b = true := by
      rcases hn with h | h
      · exact h
      · exact absurd h.2 hi
    have hi2 : Dy.inf b = false := by simpa using hi
    clear hi hn
    go_enter Try.func87, Try.ntmps87
    go_wp2_with (first | (go_at_call 68; refine (isNaN_any b _ hb).mono ?_; rintro e w' ⟨rfl, rfl⟩) | (go_at_call 69; refine (isInf_any b _ hb).mono ?_; rintro e w' ⟨rfl, rfl⟩))
    go_ret
    exact ⟨rfl, rfl⟩

set_option maxRecDepth 100000 in
set_option maxHeartbeats 400000 in
theorem ldexp_mid (b : Nat) (e : Int) (w : World) (hb : Dy.W b) (hf : Dy.fin b) (h0 : b % 2 ^ 63 ≠ 0) (_he1 : -1000000 ≤ e) (_he2 : e ≤ 1000000) (h1 : -1022 ≤ Dy.lexp b e) (h2 : Dy.lexp b e ≤ 1023) :
    Calls Try.prog 87 #[.float .f64 b, .int .i64 e] w fun e' w' => e' = .returned (.float .f64 (Dy.ldx b e)) ∧ w = w' := by
  obtain ⟨hz, hn, hi, hN, hs⟩ := Dy.fin_facts hb hf h0
  have hl := Dy.ldx_mid (e := e) hb hf h0 h1 h2
  have hx := field_bits hN
  have hd := built_bits hb hf h0 h1 h2
  have hop := run_fmul (x := 4607182418800017408) (y := Dy.built b (Dy.lexp b e)) (hx := by unfold Dy.W; omega) (hy := (Dy.fin_built h1 h2).2) (fx := by unfold Dy.fin; decide) (fy := (Dy.fin_built h1 h2).1)
  rw [hl]
  rw [Dy.lexp_field] at hd hop h1 h2 ⊢
  have b1 := Dy.norm2_bounds b
  have b2 := Dy.field_lt (Dy.norm1 b)
  have HN := hid (fun w => normalize_any b w hb hf)
  generalize Dy.norm2 b = n2 at *
  generalize Dy.norm1 b = N at *
  generalize Dy.field N = X at *
  clear hl h0 hN hs
  go_enter Try.func87, Try.ntmps87
  go_wp2_with (first | (go_at_call 68; refine (isNaN_any b _ hb).mono ?_; rintro e w' ⟨rfl, rfl⟩) | (go_at_call 69; refine (isInf_any b _ hb).mono ?_; rintro e w' ⟨rfl, rfl⟩) | (go_at_call 98; refine (HN.out _).mono ?_; rintro e w' ⟨rfl, rfl⟩))
  go_ret
  exact ⟨rfl, rfl⟩

set_option maxRecDepth 100000 in
set_option maxHeartbeats 400000 in
theorem ldexp_sub (b : Nat) (e : Int) (w : World) (hb : Dy.W b) (hf : Dy.fin b) (h0 : b % 2 ^ 63 ≠ 0) (_he1 : -1000000 ≤ e) (_he2 : e ≤ 1000000) (h1 : -1075 ≤ Dy.lexp b e) (h2 : Dy.lexp b e < -1022) :
    Calls Try.prog 87 #[.float .f64 b, .int .i64 e] w fun e' w' => e' = .returned (.float .f64 (Dy.ldx b e)) ∧ w = w' := by
  obtain ⟨hz, hn, hi, hN, hs⟩ := Dy.fin_facts hb hf h0
  have hl := Dy.ldx_sub (e := e) hb hf h0 h1 h2
  have hx := field_bits hN
  have g1 : -1022 ≤ Dy.lexp b e + 53 := by omega
  have g2 : Dy.lexp b e + 53 ≤ 1023 := by omega
  have hd := built_bits hb hf h0 g1 g2
  have hop := run_fmul (x := 4368491638549381120) (y := Dy.built b (Dy.lexp b e + 53)) (hx := by unfold Dy.W; omega) (hy := (Dy.fin_built g1 g2).2) (fx := by unfold Dy.fin; decide) (fy := (Dy.fin_built g1 g2).1)
  rw [hl]
  rw [Dy.lexp_field] at hd hop h1 h2 ⊢
  have b1 := Dy.norm2_bounds b
  have b2 := Dy.field_lt (Dy.norm1 b)
  have HN := hid (fun w => normalize_any b w hb hf)
  generalize Dy.norm2 b = n2 at *
  generalize Dy.norm1 b = N at *
  generalize Dy.field N = X at *
  clear hl h0 hN hs g1 g2
  go_enter Try.func87, Try.ntmps87
  go_wp2_with (first | (go_at_call 68; refine (isNaN_any b _ hb).mono ?_; rintro e w' ⟨rfl, rfl⟩) | (go_at_call 69; refine (isInf_any b _ hb).mono ?_; rintro e w' ⟨rfl, rfl⟩) | (go_at_call 98; refine (HN.out _).mono ?_; rintro e w' ⟨rfl, rfl⟩))
  go_ret
  exact ⟨rfl, rfl⟩

set_option maxRecDepth 100000 in
set_option maxHeartbeats 400000 in
theorem ldexp_low (b : Nat) (e : Int) (w : World) (hb : Dy.W b) (hf : Dy.fin b) (h0 : b % 2 ^ 63 ≠ 0) (he1 : -1000000 ≤ e) (he2 : e ≤ 1000000) (h1 : Dy.lexp b e < -1075) :
    Calls Try.prog 87 #[.float .f64 b, .int .i64 e] w fun e' w' => e' = .returned (.float .f64 (Dy.ldx b e)) ∧ w = w' := by
  obtain ⟨hz, hn, hi, hN, hs⟩ := Dy.fin_facts hb hf h0
  have hl := Dy.ldx_low (e := e) hb hf h0 h1
  have hx := field_bits hN
  rw [hl]
  rw [Dy.lexp_field] at h1
  have b1 := Dy.norm2_bounds b
  have b2 := Dy.field_lt (Dy.norm1 b)
  have HN := hid (fun w => normalize_any b w hb hf)
  have HC := hid (fun w => copysign_zero _ w hN)
  rw [hs] at HC
  generalize Dy.norm2 b = n2 at *
  generalize Dy.norm1 b = N at *
  generalize Dy.field N = X at *
  clear hl h0 hN hs
  go_enter Try.func87, Try.ntmps87
  go_wp2_with (first | (go_at_call 68; refine (isNaN_any b _ hb).mono ?_; rintro e w' ⟨rfl, rfl⟩) | (go_at_call 69; refine (isInf_any b _ hb).mono ?_; rintro e w' ⟨rfl, rfl⟩) | (go_at_call 98; refine (HN.out _).mono ?_; rintro e w' ⟨rfl, rfl⟩) | (go_at_call 97; refine (HC.out _).mono ?_; rintro e w' ⟨rfl, rfl⟩))
  go_ret
  exact ⟨rfl, rfl⟩

set_option maxRecDepth 100000 in
set_option maxHeartbeats 400000 in
theorem ldexp_high (b : Nat) (e : Int) (w : World) (hb : Dy.W b) (hf : Dy.fin b) (h0 : b % 2 ^ 63 ≠ 0) (he1 : -1000000 ≤ e) (he2 : e ≤ 1000000) (h1 : 1023 < Dy.lexp b e) :
    Calls Try.prog 87 #[.float .f64 b, .int .i64 e] w fun e' w' => e' = .returned (.float .f64 (Dy.ldx b e)) ∧ w = w' := by
  obtain ⟨hz, hn, hi, hN, hs⟩ := Dy.fin_facts hb hf h0
  have hl := Dy.ldx_high (e := e) hb hf h0 h1
  have hx := field_bits hN
  have hm := Dy.flt_norm1 hb hf h0
  rw [hl]
  rw [Dy.lexp_field] at h1
  have b1 := Dy.norm2_bounds b
  have b2 := Dy.field_lt (Dy.norm1 b)
  have HN := hid (fun w => normalize_any b w hb hf)
  generalize Dy.norm2 b = n2 at *
  generalize Dy.norm1 b = N at *
  generalize Dy.field N = X at *
  clear hl h0 hN hs
  cases hsg : Dy.sgn b
  · rw [hsg] at hm
    clear hsg
    go_enter Try.func87, Try.ntmps87
    go_wp2_with (first | (go_at_call 68; refine (isNaN_any b _ hb).mono ?_; rintro e w' ⟨rfl, rfl⟩) | (go_at_call 69; refine (isInf_any b _ hb).mono ?_; rintro e w' ⟨rfl, rfl⟩) | (go_at_call 98; refine (HN.out _).mono ?_; rintro e w' ⟨rfl, rfl⟩) | (go_at_call 85; refine (inf_plus _).mono ?_; rintro e w' ⟨rfl, rfl⟩))
    go_ret
    exact ⟨rfl, rfl⟩
  · rw [hsg] at hm
    clear hsg
    go_enter Try.func87, Try.ntmps87
    go_wp2_with (first | (go_at_call 68; refine (isNaN_any b _ hb).mono ?_; rintro e w' ⟨rfl, rfl⟩) | (go_at_call 69; refine (isInf_any b _ hb).mono ?_; rintro e w' ⟨rfl, rfl⟩) | (go_at_call 98; refine (HN.out _).mono ?_; rintro e w' ⟨rfl, rfl⟩) | (go_at_call 85; refine (inf_minus _).mono ?_; rintro e w' ⟨rfl, rfl⟩))
    go_ret
    exact ⟨rfl, rfl⟩

theorem ldexp_in (b : Nat) (e : Int) (w : World) (hb : Dy.W b) (he1 : -1000000 ≤ e) (he2 : e ≤ 1000000) :
    Calls Try.prog 87 #[.float .f64 b, .int .i64 e] w fun e' w' => e' = .returned (.float .f64 (Dy.ldx b e)) ∧ w = w' := by
  by_cases hf : Dy.fin b
  · by_cases h0 : b % 2 ^ 63 = 0
    · have h1 : Dy.ldx b e = b := Dy.ldx_zero hb h0
      rw [h1]
      exact ldexp_zero b e w (by rw [Dy.feq_zero hb]; exact decide_eq_true h0)
    · by_cases h1 : Dy.lexp b e < -1075
      · exact ldexp_low b e w hb hf h0 he1 he2 h1
      · by_cases h2 : Dy.lexp b e < -1022
        · exact ldexp_sub b e w hb hf h0 he1 he2 (by omega) h2
        · by_cases h3 : Dy.lexp b e ≤ 1023
          · exact ldexp_mid b e w hb hf h0 he1 he2 (by omega) h3
          · exact ldexp_high b e w hb hf h0 he1 he2 (by omega)
  · have h1 : Dy.ldx b e = b := by unfold Dy.ldx; rw [if_neg (show ¬ b % 2 ^ 63 < Dy.top from hf)]
    rw [h1]
    exact ldexp_wild b e w hb hf

set_option maxHeartbeats 400000 in
/-- math.Ldexp: the number nearest to b by 2^e; what is infinite, or none, stays. -/
theorem ldexp_any (b : Nat) (e : Int) (w : World) (hb : Dy.W b) (he1 : -1000000 ≤ e) (he2 : e ≤ 1000000) :
    Calls Try.prog 49 #[.float .f64 b, .int .i64 e] w fun e' w' => e' = .returned (.float .f64 (Dy.ldx b e)) ∧ w = w' := by
  have H := hid (fun w => ldexp_in b e w hb he1 he2)
  go_enter Try.func49, Try.ntmps49
  go_wp2_with (go_at_call 87; refine (H.out _).mono ?_; rintro e w' ⟨rfl, rfl⟩)
  go_ret
  exact ⟨rfl, rfl⟩
end Go.Proofs.Ytfjomcbbgnaaiaa
