/- Walks: math.Ldexp, dir.rounded, dir.parts, dir.Mul. -/
import Derived.Test.YtinhbebjlbnejaaDoorKc
import Derived.Test.YtinhbebjlbnejaaDoorKa
/- Walks: math.Ldexp. -/
namespace Go.Proofs.YtinhbebjlbnejaaDoor
open Go.RowKit

theorem run_fmul (t : TypeId) (x y : Nat) (w : World) (hx : Dy.W x) (hy : Dy.W y) (fx : Dy.fin x) (fy : Dy.fin y) :
    (binOp .mul t (.float .f64 x) (.float .f64 y)).run Tryd.prog w = .ok (.float .f64 (Dy.fmul x y)) w :=
  run_float_arith w .mul t .f64 x y _ (Dy.mul_eq hx hy fx fy)

theorem ret_tuple2 {u v : Value} {a b : Int} {k : IntKind} (h : a = b) (h2 : u = v) : Ending.returned (.tuple #[u, .int k a]) = .returned (.tuple #[v, .int k b]) := by rw [h, h2]

set_option maxHeartbeats 400000 in
theorem normalize_any (b : Nat) (w : World) (hb : Dy.W b) (hf : Dy.fin b) :
    Calls Tryd.prog 100 #[.float .f64 b] w fun e w' => e = .returned (.tuple #[.float .f64 (Dy.norm1 b), .int .i64 (Dy.norm2 b)]) ∧ w = w' := by
  have h1 := Dy.flt_abs_least (b := b) hb hf
  have hop := run_fmul (x := b) (y := 4841369599423283200) (hx := hb) (hy := by unfold Dy.W; omega) (fx := hf) (fy := by unfold Dy.fin; decide)
  clear hf
  by_cases hs : Dy.abs b < 2 ^ 52
  · have e1 := Dy.norm1_sub hs
    have e2 := Dy.norm2_sub hs
    rw [e1, e2]
    have h2 : Dy.flt (Dy.abs b) 4503599627370496 = true := by rw [h1]; exact decide_eq_true hs
    clear h1 hs e1 e2
    go_enter Tryd.func100, Tryd.ntmps100
    go_wp2_with (go_at_call 79; refine (abs_any b _ hb).mono ?_; rintro e w' ⟨rfl, rfl⟩)
    go_ret2
    exact ⟨rfl, rfl⟩
  · have e1 := Dy.norm1_nor hs
    have e2 := Dy.norm2_nor hs
    rw [e1, e2]
    have h2 : Dy.flt (Dy.abs b) 4503599627370496 = false := by rw [h1]; exact decide_eq_false hs
    clear h1 hs e1 e2
    go_enter Tryd.func100, Tryd.ntmps100
    go_wp2_with (go_at_call 79; refine (abs_any b _ hb).mono ?_; rintro e w' ⟨rfl, rfl⟩)
    go_ret2
    exact ⟨rfl, rfl⟩

theorem i64_and2047 (n : Int) : bits .and .i64 n 2047 = n % 2048 := by
  have h127 : (BitVec.ofInt 64 2047).toNat = 2 ^ 11 - 1 := by decide
  have key : (BitVec.ofInt 64 n &&& BitVec.ofInt 64 2047).toNat = (n % ((2 ^ 64 : Nat) : Int)).toNat % 2 ^ 11 := by
    rw [BitVec.toNat_and, BitVec.toNat_ofInt, h127, Nat.and_two_pow_sub_one_eq_mod]
  show IntKind.i64.wrap ((BitVec.ofInt 64 n &&& BitVec.ofInt 64 2047).toNat : Nat) = n % 2048
  rw [key, IntKind.wrap_i64]
  omega

theorem field_bits {N : Nat} (hN : Dy.W N) : bits BinOp.and IntKind.i64 (wrap64 ((N : Int) / 4503599627370496)) 2047 = ((Dy.field N : Nat) : Int) := by
  have h := hN.lt
  have e1 : wrap64 ((N : Int) / 4503599627370496) = ((N / 4503599627370496 : Nat) : Int) := by
    unfold wrap64; omega
  rw [e1, i64_and2047]
  unfold Dy.field
  omega

theorem built_bits {b : Nat} {E : Int} (hb : Dy.W b) (hf : Dy.fin b) (h0 : b % 2 ^ 63 ≠ 0) (h1 : -1022 ≤ E) (h2 : E ≤ 1023) :
    bits BinOp.or IntKind.u64 (bits BinOp.andNot IntKind.u64 ((Dy.norm1 b : Nat) : Int) 9218868437227405312) ((E + 1023) * 4503599627370496) = ((Dy.built b E : Nat) : Int) := by
  obtain ⟨_, _, _, w1, _⟩ := Dy.fin_facts hb hf h0
  have e1 := u64_andNot_nat (Dy.norm1 b) 9218868437227405312 w1.lt (by omega)
  have e1' : bits BinOp.andNot IntKind.u64 ((Dy.norm1 b : Nat) : Int) 9218868437227405312 = ((Dy.norm1 b &&& (18446744073709551615 - 9218868437227405312) : Nat) : Int) := e1
  rw [e1']
  obtain ⟨k, hk⟩ : ∃ k : Nat, (E + 1023).toNat = k := ⟨_, rfl⟩
  have e2 : (E + 1023) * 4503599627370496 = ((k * 4503599627370496 : Nat) : Int) := by omega
  rw [e2, u64_or_nat _ _ (Nat.lt_of_le_of_lt (Nat.and_le_left) w1.lt) (by omega)]
  have e3 := Dy.built_or (E := E) rfl hb hf h0 h1 h2
  rw [hk] at e3
  exact congrArg Int.ofNat e3

set_option maxHeartbeats 400000 in
theorem copysign_zero (b : Nat) (w : World) (hb : Dy.W b) :
    Calls Tryd.prog 101 #[.float .f64 0, .float .f64 b] w fun e w' => e = .returned (.float .f64 (Dy.word (Dy.sgn b) 0)) ∧ w = w' := by
  have e1 : bits BinOp.andNot IntKind.u64 0 9223372036854775808 = 0 := by decide
  have e2 : bits BinOp.and IntKind.u64 (b : Int) 9223372036854775808 = ((Dy.word (Dy.sgn b) 0 : Nat) : Int) := by
    have h := u64_and_nat b 9223372036854775808 hb.lt (by omega)
    have h2 := hb.lt
    have e : b &&& 9223372036854775808 = Dy.word (Dy.sgn b) 0 := by
      rw [show 9223372036854775808 = 2 ^ 63 from rfl, nat_bit]
      unfold Dy.word Dy.sgn
      by_cases h3 : 2 ^ 63 ≤ b
      · simp [h3]; omega
      · simp [h3]; omega
    rw [e] at h
    exact h
  have e3 : bits BinOp.or IntKind.u64 0 ((Dy.word (Dy.sgn b) 0 : Nat) : Int) = ((Dy.word (Dy.sgn b) 0 : Nat) : Int) := by
    have h := u64_or_nat 0 (Dy.word (Dy.sgn b) 0) (by omega) (Dy.word_lt (by omega))
    rw [Nat.zero_or] at h
    exact h
  generalize Dy.word (Dy.sgn b) 0 = v at *
  go_enter Tryd.func101, Tryd.ntmps101
  go_wp2
  go_ret
  exact ⟨rfl, rfl⟩

set_option maxHeartbeats 400000 in
theorem inf_plus (w : World) :
    Calls Tryd.prog 102 #[.int .i64 1] w fun e w' => e = .returned (.float .f64 9218868437227405312) ∧ w = w' := by
  go_enter Tryd.func102, Tryd.ntmps102
  go_wp2
  go_ret
  exact ⟨rfl, rfl⟩

set_option maxHeartbeats 400000 in
theorem inf_minus (w : World) :
    Calls Tryd.prog 102 #[.int .i64 (-1)] w fun e w' => e = .returned (.float .f64 18442240474082181120) ∧ w = w' := by
  go_enter Tryd.func102, Tryd.ntmps102
  go_wp2
  go_ret
  exact ⟨rfl, rfl⟩

set_option maxRecDepth 100000 in
set_option maxHeartbeats 400000 in
theorem ldexp_zero (b : Nat) (e : Int) (w : World) (hz : Dy.feq b 0 = true) :
    Calls Tryd.prog 92 #[.float .f64 b, .int .i64 e] w fun e' w' => e' = .returned (.float .f64 b) ∧ w = w' := by
  go_enter Tryd.func92, Tryd.ntmps92
  go_wp2_with fail
  go_ret
  exact ⟨rfl, rfl⟩

set_option maxRecDepth 100000 in
set_option maxHeartbeats 400000 in
theorem ldexp_wild (b : Nat) (e : Int) (w : World) (hb : Dy.W b) (hf : ¬ Dy.fin b) :
    Calls Tryd.prog 92 #[.float .f64 b, .int .i64 e] w fun e' w' => e' = .returned (.float .f64 b) ∧ w = w' := by
  have hz : Dy.feq b 0 = false := by
    rw [Dy.feq_zero hb]; unfold Dy.fin at hf; rw [Dy.top_eq] at hf; exact decide_eq_false (by omega)
  have hn : Dy.nan b = true ∨ Dy.nan b = false ∧ Dy.inf b = true := by
    unfold Dy.fin at hf; unfold Dy.nan Dy.inf
    by_cases h : Dy.top < b % 2 ^ 63
    · exact Or.inl (decide_eq_true h)
    · exact Or.inr ⟨decide_eq_false h, decide_eq_true (by omega)⟩
  clear hf
  by_cases hi : Dy.inf b = true
  · go_enter Tryd.func92, Tryd.ntmps92
    go_wp2_with (first | (go_at_call 55; refine (isNaN_any b _ hb).mono ?_; rintro e w' ⟨rfl, rfl⟩) | (go_at_call 56; refine (isInf_any b _ hb).mono ?_; rintro e w' ⟨rfl, rfl⟩))
    go_ret
    exact ⟨rfl, rfl⟩
  · have hn2 : Dy.nan b = true := by
      rcases hn with h | h
      · exact h
      · exact absurd h.2 hi
    have hi2 : Dy.inf b = false := by simpa using hi
    clear hi hn
    go_enter Tryd.func92, Tryd.ntmps92
    go_wp2_with (first | (go_at_call 55; refine (isNaN_any b _ hb).mono ?_; rintro e w' ⟨rfl, rfl⟩) | (go_at_call 56; refine (isInf_any b _ hb).mono ?_; rintro e w' ⟨rfl, rfl⟩))
    go_ret
    exact ⟨rfl, rfl⟩

set_option maxRecDepth 100000 in
set_option maxHeartbeats 400000 in
theorem ldexp_mid (b : Nat) (e : Int) (w : World) (hb : Dy.W b) (hf : Dy.fin b) (h0 : b % 2 ^ 63 ≠ 0) (_he1 : -1000000 ≤ e) (_he2 : e ≤ 1000000) (h1 : -1022 ≤ Dy.lexp b e) (h2 : Dy.lexp b e ≤ 1023) :
    Calls Tryd.prog 92 #[.float .f64 b, .int .i64 e] w fun e' w' => e' = .returned (.float .f64 (Dy.ldx b e)) ∧ w = w' := by
  obtain ⟨hz, hn, hi, hN, hs⟩ := Dy.fin_facts hb hf h0
  have hl := Dy.ldx_mid (e := e) hb hf h0 h1 h2
  have hx := field_bits hN
  have hd := built_bits hb hf h0 h1 h2
  have hop := run_fmul (x := 4607182418800017408) (y := Dy.built b (Dy.lexp b e)) (hx := by unfold Dy.W; omega) (hy := (Dy.fin_built h1 h2).2) (fx := by unfold Dy.fin; decide) (fy := (Dy.fin_built h1 h2).1)
  rw [hl]
  rw [Dy.lexp_field] at hd hop h1 h2 ⊢
  have b1 := Dy.norm2_bounds b
  have b2 := Dy.field_lt (Dy.norm1 b)
  have HN := hid (fun w => normalize_any b w hb hf)
  generalize Dy.norm2 b = n2 at *
  generalize Dy.norm1 b = N at *
  generalize Dy.field N = X at *
  clear hl h0 hN hs
  go_enter Tryd.func92, Tryd.ntmps92
  go_wp2_with (first | (go_at_call 55; refine (isNaN_any b _ hb).mono ?_; rintro e w' ⟨rfl, rfl⟩) | (go_at_call 56; refine (isInf_any b _ hb).mono ?_; rintro e w' ⟨rfl, rfl⟩) | (go_at_call 100; refine (HN.out _).mono ?_; rintro e w' ⟨rfl, rfl⟩))
  go_ret
  exact ⟨rfl, rfl⟩

set_option maxRecDepth 100000 in
set_option maxHeartbeats 400000 in
theorem ldexp_sub (b : Nat) (e : Int) (w : World) (hb : Dy.W b) (hf : Dy.fin b) (h0 : b % 2 ^ 63 ≠ 0) (_he1 : -1000000 ≤ e) (_he2 : e ≤ 1000000) (h1 : -1075 ≤ Dy.lexp b e) (h2 : Dy.lexp b e < -1022) :
    Calls Tryd.prog 92 #[.float .f64 b, .int .i64 e] w fun e' w' => e' = .returned (.float .f64 (Dy.ldx b e)) ∧ w = w' := by
  obtain ⟨hz, hn, hi, hN, hs⟩ := Dy.fin_facts hb hf h0
  have hl := Dy.ldx_sub (e := e) hb hf h0 h1 h2
  have hx := field_bits hN
  have g1 : -1022 ≤ Dy.lexp b e + 53 := by omega
  have g2 : Dy.lexp b e + 53 ≤ 1023 := by omega
  have hd := built_bits hb hf h0 g1 g2
  have hop := run_fmul (x := 4368491638549381120) (y := Dy.built b (Dy.lexp b e + 53)) (hx := by unfold Dy.W; omega) (hy := (Dy.fin_built g1 g2).2) (fx := by unfold Dy.fin; decide) (fy := (Dy.fin_built g1 g2).1)
  rw [hl]
  rw [Dy.lexp_field] at hd hop h1 h2 ⊢
  have b1 := Dy.norm2_bounds b
  have b2 := Dy.field_lt (Dy.norm1 b)
  have HN := hid (fun w => normalize_any b w hb hf)
  generalize Dy.norm2 b = n2 at *
  generalize Dy.norm1 b = N at *
  generalize Dy.field N = X at *
  clear hl h0 hN hs g1 g2
  go_enter Tryd.func92, Tryd.ntmps92
  go_wp2_with (first | (go_at_call 55; refine (isNaN_any b _ hb).mono ?_; rintro e w' ⟨rfl, rfl⟩) | (go_at_call 56; refine (isInf_any b _ hb).mono ?_; rintro e w' ⟨rfl, rfl⟩) | (go_at_call 100; refine (HN.out _).mono ?_; rintro e w' ⟨rfl, rfl⟩))
  go_ret
  exact ⟨rfl, rfl⟩

set_option maxRecDepth 100000 in
set_option maxHeartbeats 400000 in
theorem ldexp_low (b : Nat) (e : Int) (w : World) (hb : Dy.W b) (hf : Dy.fin b) (h0 : b % 2 ^ 63 ≠ 0) (he1 : -1000000 ≤ e) (he2 : e ≤ 1000000) (h1 : Dy.lexp b e < -1075) :
    Calls Tryd.prog 92 #[.float .f64 b, .int .i64 e] w fun e' w' => e' = .returned (.float .f64 (Dy.ldx b e)) ∧ w = w' := by
  obtain ⟨hz, hn, hi, hN, hs⟩ := Dy.fin_facts hb hf h0
  have hl := Dy.ldx_low (e := e) hb hf h0 h1
  have hx := field_bits hN
  rw [hl]
  rw [Dy.lexp_field] at h1
  have b1 := Dy.norm2_bounds b
  have b2 := Dy.field_lt (Dy.norm1 b)
  have HN := hid (fun w => normalize_any b w hb hf)
  have HC := hid (fun w => copysign_zero _ w hN)
  rw [hs] at HC
  generalize Dy.norm2 b = n2 at *
  generalize Dy.norm1 b = N at *
  generalize Dy.field N = X at *
  clear hl h0 hN hs
  go_enter Tryd.func92, Tryd.ntmps92
  go_wp2_with (first | (go_at_call 55; refine (isNaN_any b _ hb).mono ?_; rintro e w' ⟨rfl, rfl⟩) | (go_at_call 56; refine (isInf_any b _ hb).mono ?_; rintro e w' ⟨rfl, rfl⟩) | (go_at_call 100; refine (HN.out _).mono ?_; rintro e w' ⟨rfl, rfl⟩) | (go_at_call 101; refine (HC.out _).mono ?_; rintro e w' ⟨rfl, rfl⟩))
  go_ret
  exact ⟨rfl, rfl⟩

set_option maxRecDepth 100000 in
set_option maxHeartbeats 400000 in
theorem ldexp_high (b : Nat) (e : Int) (w : World) (hb : Dy.W b) (hf : Dy.fin b) (h0 : b % 2 ^ 63 ≠ 0) (he1 : -1000000 ≤ e) (he2 : e ≤ 1000000) (h1 : 1023 < Dy.lexp b e) :
    Calls Tryd.prog 92 #[.float .f64 b, .int .i64 e] w fun e' w' => e' = .returned (.float .f64 (Dy.ldx b e)) ∧ w = w' := by
  obtain ⟨hz, hn, hi, hN, hs⟩ := Dy.fin_facts hb hf h0
  have hl := Dy.ldx_high (e := e) hb hf h0 h1
  have hx := field_bits hN
  have hm := Dy.flt_norm1 hb hf h0
  rw [hl]
  rw [Dy.lexp_field] at h1
  have b1 := Dy.norm2_bounds b
  have b2 := Dy.field_lt (Dy.norm1 b)
  have HN := hid (fun w => normalize_any b w hb hf)
  generalize Dy.norm2 b = n2 at *
  generalize Dy.norm1 b = N at *
  generalize Dy.field N = X at *
  clear hl h0 hN hs
  cases hsg : Dy.sgn b
  · rw [hsg] at hm
    clear hsg
    go_enter Tryd.func92, Tryd.ntmps92
    go_wp2_with (first | (go_at_call 55; refine (isNaN_any b _ hb).mono ?_; rintro e w' ⟨rfl, rfl⟩) | (go_at_call 56; refine (isInf_any b _ hb).mono ?_; rintro e w' ⟨rfl, rfl⟩) | (go_at_call 100; refine (HN.out _).mono ?_; rintro e w' ⟨rfl, rfl⟩) | (go_at_call 102; refine (inf_plus _).mono ?_; rintro e w' ⟨rfl, rfl⟩))
    go_ret
    exact ⟨rfl, rfl⟩
  · rw [hsg] at hm
    clear hsg
    go_enter Tryd.func92, Tryd.ntmps92
    go_wp2_with (first | (go_at_call 55; refine (isNaN_any b _ hb).mono ?_; rintro e w' ⟨rfl, rfl⟩) | (go_at_call 56; refine (isInf_any b _ hb).mono ?_; rintro e w' ⟨rfl, rfl⟩) | (go_at_call 100; refine (HN.out _).mono ?_; rintro e w' ⟨rfl, rfl⟩) | (go_at_call 102; refine (inf_minus _).mono ?_; rintro e w' ⟨rfl, rfl⟩))
    go_ret
    exact ⟨rfl, rfl⟩

theorem ldexp_in (b : Nat) (e : Int) (w : World) (hb : Dy.W b) (he1 : -1000000 ≤ e) (he2 : e ≤ 1000000) :
    Calls Tryd.prog 92 #[.float .f64 b, .int .i64 e] w fun e' w' => e' = .returned (.float .f64 (Dy.ldx b e)) ∧ w = w' := by
  by_cases hf : Dy.fin b
  · by_cases h0 : b % 2 ^ 63 = 0
    · have h1 : Dy.ldx b e = b := Dy.ldx_zero hb h0
      rw [h1]
      exact ldexp_zero b e w (by rw [Dy.feq_zero hb]; exact decide_eq_true h0)
    · by_cases h1 : Dy.lexp b e < -1075
      · exact ldexp_low b e w hb hf h0 he1 he2 h1
      · by_cases h2 : Dy.lexp b e < -1022
        · exact ldexp_sub b e w hb hf h0 he1 he2 (by omega) h2
        · by_cases h3 : Dy.lexp b e ≤ 1023
          · exact ldexp_mid b e w hb hf h0 he1 he2 (by omega) h3
          · exact ldexp_high b e w hb hf h0 he1 he2 (by omega)
  · have h1 : Dy.ldx b e = b := by unfold Dy.ldx; rw [if_neg (show ¬ b % 2 ^ 63 < Dy.top from hf)]
    rw [h1]
    exact ldexp_wild b e w hb hf

set_option maxHeartbeats 400000 in
/-- math.Ldexp: the number nearest to b by 2^e; what is infinite, or none, stays. -/
theorem ldexp_any (b : Nat) (e : Int) (w : World) (hb : Dy.W b) (he1 : -1000000 ≤ e) (he2 : e ≤ 1000000) :
    Calls Tryd.prog 78 #[.float .f64 b, .int .i64 e] w fun e' w' => e' = .returned (.float .f64 (Dy.ldx b e)) ∧ w = w' := by
  have H := hid (fun w => ldexp_in b e w hb he1 he2)
  go_enter Tryd.func78, Tryd.ntmps78
  go_wp2_with (go_at_call 92; refine (H.out _).mono ?_; rintro e w' ⟨rfl, rfl⟩)
  go_ret
  exact ⟨rfl, rfl⟩
end Go.Proofs.YtinhbebjlbnejaaDoor

/- Walks: dir.rounded. -/
namespace Go.Proofs.YtinhbebjlbnejaaDoor
open Go.RowKit

abbrev xv (minus : Bool) (h l : Nat) (more : Bool) (e : Int) : Value := .agg #[.bool minus, .int .u64 (h : Int), .int .u64 (l : Int), .bool more, .int .i64 e]

theorem fi_conv (m : Nat) : floatOfInt .f64 (m : Int) = Dy.fi m := by
  unfold floatOfInt FloatKind.nearest FloatKind.encode Ieee.Format.write Dy.fi
  have : decide ((m : Int) < 0) = false := decide_eq_false (by omega)
  simp only [this, Int.natAbs_natCast]
  rfl

@[go_sem] theorem unary_negf (b : Nat) : Op.unary .neg (.float .f64 b) = pure (.float .f64 (Dy.flip b)) := rfl

theorem len64_z (x : Int) (w : World) (h0 : 0 ≤ x) (h1 : x ≤ 9007199254740992) :
    Calls Tryd.prog 77 #[.int .u64 x] w fun e w' => e = .returned (.int .i64 (Dy.blen x.toNat : Nat)) ∧ w = w' := by
  obtain ⟨n, rfl⟩ := Int.eq_ofNat_of_zero_le h0
  exact len64_any n w (by unfold Dy.W; omega)

set_option maxRecDepth 100000 in
set_option maxHeartbeats 4000000 in
theorem rounded_eq_true (more : Bool) (h l : Nat) (e : Int) (w : World) (hh : Dy.W h) (hl : Dy.W l) (he1 : -5000 ≤ e) (he2 : e ≤ 5000) :
    Calls Tryd.prog 53 #[xv true h l more e, .bool true] w fun e' w' => e' = .returned (.tuple #[.float .f64 (Dy.rnd true (Dy.wd h l) more e true).1, .int .i64 (Dy.rnd true (Dy.wd h l) more e true).2]) ∧ Below w.heap.size w w' := by
  have hb := (Dy.blen_le (x := Dy.wd h l) (k := 128)).2 (Dy.wd_lt hh hl)
  have hc0 : 0 ≤ Dy.cut (Dy.wd h l) e := by unfold Dy.cut; omega
  have hw1 : IntKind.i64.wrap ((Dy.blen (Dy.wd h l) : Int) - 53) = (Dy.blen (Dy.wd h l) : Int) - 53 := IntWalk.i64_in _ (by omega)
  have hw2 : IntKind.i64.wrap (-1074 - e) = -1074 - e := IntWalk.i64_in _ (by omega)
  have hmax : ∀ (w : World) ts t, (Builtin.max_ ts t #[.int .i64 ((Dy.blen (Dy.wd h l) : Int) - 53), .int .i64 (-1074 - e), .int .i64 0]).run Tryd.prog w = .ok (.int .i64 (Dy.cut (Dy.wd h l) e)) w := by
    intro w ts t
    rw [run_max_int3]
    refine congrArg (fun x => Result.ok (Value.int .i64 x) w) ?_
    unfold Dy.cut
    split <;> split at * <;> omega
  go_enter Tryd.func53, Tryd.ntmps53
  go_wp2
  go_region_held3 (fun w' => w'.cell? ⟨w.heap.size, 1, none⟩ = some (.int .u64 h) ∧ w'.cell? ⟨w.heap.size, 2, none⟩ = some (.int .u64 l) ∧ w'.cell? ⟨w.heap.size, 4, none⟩ = some (.int .i64 e))
    (refine ⟨?_, ?_, ?_⟩ <;> first | (simp [go_sem]; done) | (simp [go_sem, *]; done))
    (first | (go_at_call 76; refine (wideSize_any _ _ _ hh hl).mono ?_; rintro e' w1 ⟨rfl, hb1⟩; obtain ⟨hc, hf⟩ := bcell hb1; have hz := hb1.size; simp at hz))
  go_wp2_with fail
  refine (wideDown_any _ _ _ _ hh hl hc0).mono ?_
  rintro e' w2 ⟨p, q, rfl, hpq, hb2⟩
  obtain ⟨hc2, hf2⟩ := bcell hb2
  have hz2 := hb2.size
  obtain rfl : q = Dy.kept (Dy.wd h l) e := Dy.wide_small hpq (Dy.kept_lt _ _)
  have HP := hid hpq
  clear hpq
  have g0 : w2.cell? ⟨w.heap.size, 0, none⟩ = some (.bool true) := by rw [hc2 _ _ (by omega), hc _ _ (by simp)]; simp [go_sem]
  have g3 : w2.cell? ⟨w.heap.size, 3, none⟩ = some (.bool more) := by rw [hc2 _ _ (by omega), hc _ _ (by simp)]; simp [go_sem]
  have g4 : w2.cell? ⟨w.heap.size, 4, none⟩ = some (.int .i64 e) := by rw [hc2 _ _ (by omega), hc _ _ (by simp)]; simp [go_sem]
  have hz4 : w.heap.size < w2.heap.size := by omega
  have hbel : Below w.heap.size w w2 := (((Below.refl _ _).alloc (Nat.le_refl _) _).drew.trans (hb1.mono (by simp))).trans (hb2.mono (by omega))
  clear hc hf hz hc2 hf2 hz2 hb1 hb2
  go_wp2
  have hw3 : IntKind.i64.wrap (e + Dy.cut (Dy.wd h l) e) = e + Dy.cut (Dy.wd h l) e := IntWalk.i64_in _ (by unfold Dy.cut; omega)
  have hm53 := Dy.kept_lt (Dy.wd h l) e
  have hc1 : -1074 ≤ e + Dy.cut (Dy.wd h l) e ∧ e + Dy.cut (Dy.wd h l) e ≤ 6000 := by unfold Dy.cut; omega
  have HR := hid (Dy.rnd_rnd' true (Dy.wd h l) more e true)
  clear hmax hw1 hw2
  go_quiet (fail)
  generalize Dy.cut (Dy.wd h l) e = C at *
  generalize Dy.kept (Dy.wd h l) e = M at *
  generalize Dy.lost (Dy.wd h l) C.toNat = L at *
  clear hw3 hb
  obtain ⟨M1, HM1⟩ : ∃ M1 : Nat, Hid (M1 = M + 1) := ⟨M + 1, hid rfl⟩
  have hwM : IntKind.u64.wrap ((M : Int) + 1) = (M1 : Int) := by rw [HM1.out]; exact (IntWalk.u64_in _ (by omega)).trans (by omega)
  have hM1a : 0 < M1 := by have := HM1.out; omega
  have hM1b : M1 ≤ 9007199254740992 := by have := HM1.out; omega
  have hf0 := fi_conv M
  have hf1 := fi_conv M1
  have hf2 : floatOfInt .f64 9007199254740991 = Dy.fi 9007199254740991 := fi_conv 9007199254740991
  have ht0 : (M : Int).toNat = M := by omega
  have ht1 : (M1 : Int).toNat = M1 := by omega
  have hl0 : Dy.blen M ≤ 53 := Dy.blen_le.2 hm53
  have hl1 : Dy.blen M1 ≤ 54 := Dy.blen_le.2 (by omega)
  have hbel2 : Below w.heap.size w ((w2.alloc (Obj.cells #[Value.int IntKind.u64 ↑p, Value.int IntKind.u64 ↑M] 97)).drewN nq) := below_drewN (hbel.alloc (by omega) _) nq
  have HB := hid hbel2
  clear hbel2 hbel
  go_wp2_with (first | (go_at_call 77; refine (len64_z _ _ (by omega) (by omega)).mono ?_; rintro e w' ⟨rfl, rfl⟩) | (go_at_call 78; refine (ldexp_any _ _ _ (Dy.fi_spec (by omega)).2.1 (by omega) (by omega)).mono ?_; rintro e w' ⟨rfl, rfl⟩))
  all_goals
    go_ret2
    refine ⟨?_, HB.out⟩
    have hM2 := HM1.out
    clear hwM hf1 ht1 hl1 hM1a hM1b
    first
      | (subst hM2; rw [HR.out, Dy.r_z rfl ‹_›]; generalize Dy.ldx (Dy.fi 9007199254740991) 971 = F; rfl)
      | (subst hM2; rw [HR.out, Dy.r_bt rfl ‹_› ‹_› rfl]; generalize Dy.ldx (Dy.fi 9007199254740991) 971 = F; rfl)
      | (subst hM2; rw [HR.out, Dy.r_mt rfl ‹_› ‹_› rfl]; generalize Dy.ldx (Dy.fi 9007199254740991) 971 = F; rfl)

set_option maxRecDepth 100000 in
set_option maxHeartbeats 4000000 in
theorem rounded_lost_true (more : Bool) (h l : Nat) (e : Int) (w : World) (hh : Dy.W h) (hl : Dy.W l) (he1 : -5000 ≤ e) (he2 : e ≤ 5000) (hL : Dy.lost (Dy.wd h l) (Dy.cut (Dy.wd h l) e).toNat = true) :
    Calls Tryd.prog 53 #[xv true h l more e, .bool false] w fun e' w' => e' = .returned (.tuple #[.float .f64 (Dy.rnd true (Dy.wd h l) more e false).1, .int .i64 (Dy.rnd true (Dy.wd h l) more e false).2]) ∧ Below w.heap.size w w' := by
  have hb := (Dy.blen_le (x := Dy.wd h l) (k := 128)).2 (Dy.wd_lt hh hl)
  have hc0 : 0 ≤ Dy.cut (Dy.wd h l) e := by unfold Dy.cut; omega
  have hw1 : IntKind.i64.wrap ((Dy.blen (Dy.wd h l) : Int) - 53) = (Dy.blen (Dy.wd h l) : Int) - 53 := IntWalk.i64_in _ (by omega)
  have hw2 : IntKind.i64.wrap (-1074 - e) = -1074 - e := IntWalk.i64_in _ (by omega)
  have hmax : ∀ (w : World) ts t, (Builtin.max_ ts t #[.int .i64 ((Dy.blen (Dy.wd h l) : Int) - 53), .int .i64 (-1074 - e), .int .i64 0]).run Tryd.prog w = .ok (.int .i64 (Dy.cut (Dy.wd h l) e)) w := by
    intro w ts t
    rw [run_max_int3]
    refine congrArg (fun x => Result.ok (Value.int .i64 x) w) ?_
    unfold Dy.cut
    split <;> split at * <;> omega
  go_enter Tryd.func53, Tryd.ntmps53
  go_wp2
  go_region_held3 (fun w' => w'.cell? ⟨w.heap.size, 1, none⟩ = some (.int .u64 h) ∧ w'.cell? ⟨w.heap.size, 2, none⟩ = some (.int .u64 l) ∧ w'.cell? ⟨w.heap.size, 4, none⟩ = some (.int .i64 e))
    (refine ⟨?_, ?_, ?_⟩ <;> first | (simp [go_sem]; done) | (simp [go_sem, *]; done))
    (first | (go_at_call 76; refine (wideSize_any _ _ _ hh hl).mono ?_; rintro e' w1 ⟨rfl, hb1⟩; obtain ⟨hc, hf⟩ := bcell hb1; have hz := hb1.size; simp at hz))
  go_wp2_with fail
  refine (wideDown_any _ _ _ _ hh hl hc0).mono ?_
  rintro e' w2 ⟨p, q, rfl, hpq, hb2⟩
  obtain ⟨hc2, hf2⟩ := bcell hb2
  have hz2 := hb2.size
  obtain rfl : q = Dy.kept (Dy.wd h l) e := Dy.wide_small hpq (Dy.kept_lt _ _)
  have HP := hid hpq
  clear hpq
  have g0 : w2.cell? ⟨w.heap.size, 0, none⟩ = some (.bool true) := by rw [hc2 _ _ (by omega), hc _ _ (by simp)]; simp [go_sem]
  have g3 : w2.cell? ⟨w.heap.size, 3, none⟩ = some (.bool more) := by rw [hc2 _ _ (by omega), hc _ _ (by simp)]; simp [go_sem]
  have g4 : w2.cell? ⟨w.heap.size, 4, none⟩ = some (.int .i64 e) := by rw [hc2 _ _ (by omega), hc _ _ (by simp)]; simp [go_sem]
  have hz4 : w.heap.size < w2.heap.size := by omega
  have hbel : Below w.heap.size w w2 := (((Below.refl _ _).alloc (Nat.le_refl _) _).drew.trans (hb1.mono (by simp))).trans (hb2.mono (by omega))
  clear hc hf hz hc2 hf2 hz2 hb1 hb2
  go_wp2
  have hw3 : IntKind.i64.wrap (e + Dy.cut (Dy.wd h l) e) = e + Dy.cut (Dy.wd h l) e := IntWalk.i64_in _ (by unfold Dy.cut; omega)
  have hm53 := Dy.kept_lt (Dy.wd h l) e
  have hc1 : -1074 ≤ e + Dy.cut (Dy.wd h l) e ∧ e + Dy.cut (Dy.wd h l) e ≤ 6000 := by unfold Dy.cut; omega
  have HR := hid (Dy.rnd_rnd' true (Dy.wd h l) more e false)
  clear hmax hw1 hw2
  go_quiet (fail)
  generalize Dy.cut (Dy.wd h l) e = C at *
  generalize Dy.kept (Dy.wd h l) e = M at *
  generalize Dy.lost (Dy.wd h l) C.toNat = L at *
  clear hw3 hb
  subst hL
  obtain ⟨M1, HM1⟩ : ∃ M1 : Nat, Hid (M1 = M + 1) := ⟨M + 1, hid rfl⟩
  have hwM : IntKind.u64.wrap ((M : Int) + 1) = (M1 : Int) := by rw [HM1.out]; exact (IntWalk.u64_in _ (by omega)).trans (by omega)
  have hM1a : 0 < M1 := by have := HM1.out; omega
  have hM1b : M1 ≤ 9007199254740992 := by have := HM1.out; omega
  have hf0 := fi_conv M
  have hf1 := fi_conv M1
  have hf2 : floatOfInt .f64 9007199254740991 = Dy.fi 9007199254740991 := fi_conv 9007199254740991
  have ht0 : (M : Int).toNat = M := by omega
  have ht1 : (M1 : Int).toNat = M1 := by omega
  have hl0 : Dy.blen M ≤ 53 := Dy.blen_le.2 hm53
  have hl1 : Dy.blen M1 ≤ 54 := Dy.blen_le.2 (by omega)
  have hbel2 : Below w.heap.size w ((w2.alloc (Obj.cells #[Value.int IntKind.u64 ↑p, Value.int IntKind.u64 ↑M] 97)).drewN nq) := below_drewN (hbel.alloc (by omega) _) nq
  have HB := hid hbel2
  clear hbel2 hbel
  go_wp2_with (first | (go_at_call 77; refine (len64_z _ _ (by omega) (by omega)).mono ?_; rintro e w' ⟨rfl, rfl⟩) | (go_at_call 78; refine (ldexp_any _ _ _ (Dy.fi_spec (by omega)).2.1 (by omega) (by omega)).mono ?_; rintro e w' ⟨rfl, rfl⟩))
  all_goals
    go_ret2
    refine ⟨?_, HB.out⟩
    have hM2 := HM1.out
    clear hwM hf1 ht1 hl1 hM1a hM1b
    first
      | (subst hM2; rw [HR.out, Dy.a_b (by decide) rfl ‹_›]; generalize Dy.ldx (Dy.fi 9007199254740991) 971 = F; rfl)
      | (subst hM2; rw [HR.out, Dy.a_mt (by decide) rfl ‹_› rfl]; generalize Dy.ldx (Dy.fi 9007199254740991) 971 = F; rfl)

set_option maxRecDepth 100000 in
set_option maxHeartbeats 4000000 in
theorem rounded_more_true (h l : Nat) (e : Int) (w : World) (hh : Dy.W h) (hl : Dy.W l) (he1 : -5000 ≤ e) (he2 : e ≤ 5000) (hL : Dy.lost (Dy.wd h l) (Dy.cut (Dy.wd h l) e).toNat = false) :
    Calls Tryd.prog 53 #[xv true h l true e, .bool false] w fun e' w' => e' = .returned (.tuple #[.float .f64 (Dy.rnd true (Dy.wd h l) true e false).1, .int .i64 (Dy.rnd true (Dy.wd h l) true e false).2]) ∧ Below w.heap.size w w' := by
  have hb := (Dy.blen_le (x := Dy.wd h l) (k := 128)).2 (Dy.wd_lt hh hl)
  have hc0 : 0 ≤ Dy.cut (Dy.wd h l) e := by unfold Dy.cut; omega
  have hw1 : IntKind.i64.wrap ((Dy.blen (Dy.wd h l) : Int) - 53) = (Dy.blen (Dy.wd h l) : Int) - 53 := IntWalk.i64_in _ (by omega)
  have hw2 : IntKind.i64.wrap (-1074 - e) = -1074 - e := IntWalk.i64_in _ (by omega)
  have hmax : ∀ (w : World) ts t, (Builtin.max_ ts t #[.int .i64 ((Dy.blen (Dy.wd h l) : Int) - 53), .int .i64 (-1074 - e), .int .i64 0]).run Tryd.prog w = .ok (.int .i64 (Dy.cut (Dy.wd h l) e)) w := by
    intro w ts t
    rw [run_max_int3]
    refine congrArg (fun x => Result.ok (Value.int .i64 x) w) ?_
    unfold Dy.cut
    split <;> split at * <;> omega
  go_enter Tryd.func53, Tryd.ntmps53
  go_wp2
  go_region_held3 (fun w' => w'.cell? ⟨w.heap.size, 1, none⟩ = some (.int .u64 h) ∧ w'.cell? ⟨w.heap.size, 2, none⟩ = some (.int .u64 l) ∧ w'.cell? ⟨w.heap.size, 4, none⟩ = some (.int .i64 e))
    (refine ⟨?_, ?_, ?_⟩ <;> first | (simp [go_sem]; done) | (simp [go_sem, *]; done))
    (first | (go_at_call 76; refine (wideSize_any _ _ _ hh hl).mono ?_; rintro e' w1 ⟨rfl, hb1⟩; obtain ⟨hc, hf⟩ := bcell hb1; have hz := hb1.size; simp at hz))
  go_wp2_with fail
  refine (wideDown_any _ _ _ _ hh hl hc0).mono ?_
  rintro e' w2 ⟨p, q, rfl, hpq, hb2⟩
  obtain ⟨hc2, hf2⟩ := bcell hb2
  have hz2 := hb2.size
  obtain rfl : q = Dy.kept (Dy.wd h l) e := Dy.wide_small hpq (Dy.kept_lt _ _)
  have HP := hid hpq
  clear hpq
  have g0 : w2.cell? ⟨w.heap.size, 0, none⟩ = some (.bool true) := by rw [hc2 _ _ (by omega), hc _ _ (by simp)]; simp [go_sem]
  have g3 : w2.cell? ⟨w.heap.size, 3, none⟩ = some (.bool true) := by rw [hc2 _ _ (by omega), hc _ _ (by simp)]; simp [go_sem]
  have g4 : w2.cell? ⟨w.heap.size, 4, none⟩ = some (.int .i64 e) := by rw [hc2 _ _ (by omega), hc _ _ (by simp)]; simp [go_sem]
  have hz4 : w.heap.size < w2.heap.size := by omega
  have hbel : Below w.heap.size w w2 := (((Below.refl _ _).alloc (Nat.le_refl _) _).drew.trans (hb1.mono (by simp))).trans (hb2.mono (by omega))
  clear hc hf hz hc2 hf2 hz2 hb1 hb2
  go_wp2
  have hw3 : IntKind.i64.wrap (e + Dy.cut (Dy.wd h l) e) = e + Dy.cut (Dy.wd h l) e := IntWalk.i64_in _ (by unfold Dy.cut; omega)
  have hm53 := Dy.kept_lt (Dy.wd h l) e
  have hc1 : -1074 ≤ e + Dy.cut (Dy.wd h l) e ∧ e + Dy.cut (Dy.wd h l) e ≤ 6000 := by unfold Dy.cut; omega
  have HR := hid (Dy.rnd_rnd' true (Dy.wd h l) true e false)
  clear hmax hw1 hw2
  go_quiet (fail)
  generalize Dy.cut (Dy.wd h l) e = C at *
  generalize Dy.kept (Dy.wd h l) e = M at *
  generalize Dy.lost (Dy.wd h l) C.toNat = L at *
  clear hw3 hb
  subst hL
  obtain ⟨M1, HM1⟩ : ∃ M1 : Nat, Hid (M1 = M + 1) := ⟨M + 1, hid rfl⟩
  have hwM : IntKind.u64.wrap ((M : Int) + 1) = (M1 : Int) := by rw [HM1.out]; exact (IntWalk.u64_in _ (by omega)).trans (by omega)
  have hM1a : 0 < M1 := by have := HM1.out; omega
  have hM1b : M1 ≤ 9007199254740992 := by have := HM1.out; omega
  have hf0 := fi_conv M
  have hf1 := fi_conv M1
  have hf2 : floatOfInt .f64 9007199254740991 = Dy.fi 9007199254740991 := fi_conv 9007199254740991
  have ht0 : (M : Int).toNat = M := by omega
  have ht1 : (M1 : Int).toNat = M1 := by omega
  have hl0 : Dy.blen M ≤ 53 := Dy.blen_le.2 hm53
  have hl1 : Dy.blen M1 ≤ 54 := Dy.blen_le.2 (by omega)
  have hbel2 : Below w.heap.size w ((w2.alloc (Obj.cells #[Value.int IntKind.u64 ↑p, Value.int IntKind.u64 ↑M] 97)).drewN nq) := below_drewN (hbel.alloc (by omega) _) nq
  have HB := hid hbel2
  clear hbel2 hbel
  go_wp2_with (first | (go_at_call 77; refine (len64_z _ _ (by omega) (by omega)).mono ?_; rintro e w' ⟨rfl, rfl⟩) | (go_at_call 78; refine (ldexp_any _ _ _ (Dy.fi_spec (by omega)).2.1 (by omega) (by omega)).mono ?_; rintro e w' ⟨rfl, rfl⟩))
  all_goals
    go_ret2
    refine ⟨?_, HB.out⟩
    have hM2 := HM1.out
    clear hwM hf1 ht1 hl1 hM1a hM1b
    first
      | (subst hM2; rw [HR.out, Dy.b_b (by decide) rfl ‹_›]; generalize Dy.ldx (Dy.fi 9007199254740991) 971 = F; rfl)
      | (subst hM2; rw [HR.out, Dy.b_mt (by decide) rfl ‹_› rfl]; generalize Dy.ldx (Dy.fi 9007199254740991) 971 = F; rfl)

set_option maxRecDepth 100000 in
set_option maxHeartbeats 4000000 in
theorem rounded_none_true (h l : Nat) (e : Int) (w : World) (hh : Dy.W h) (hl : Dy.W l) (he1 : -5000 ≤ e) (he2 : e ≤ 5000) (hL : Dy.lost (Dy.wd h l) (Dy.cut (Dy.wd h l) e).toNat = false) :
    Calls Tryd.prog 53 #[xv true h l false e, .bool false] w fun e' w' => e' = .returned (.tuple #[.float .f64 (Dy.rnd true (Dy.wd h l) false e false).1, .int .i64 (Dy.rnd true (Dy.wd h l) false e false).2]) ∧ Below w.heap.size w w' := by
  have hb := (Dy.blen_le (x := Dy.wd h l) (k := 128)).2 (Dy.wd_lt hh hl)
  have hc0 : 0 ≤ Dy.cut (Dy.wd h l) e := by unfold Dy.cut; omega
  have hw1 : IntKind.i64.wrap ((Dy.blen (Dy.wd h l) : Int) - 53) = (Dy.blen (Dy.wd h l) : Int) - 53 := IntWalk.i64_in _ (by omega)
  have hw2 : IntKind.i64.wrap (-1074 - e) = -1074 - e := IntWalk.i64_in _ (by omega)
  have hmax : ∀ (w : World) ts t, (Builtin.max_ ts t #[.int .i64 ((Dy.blen (Dy.wd h l) : Int) - 53), .int .i64 (-1074 - e), .int .i64 0]).run Tryd.prog w = .ok (.int .i64 (Dy.cut (Dy.wd h l) e)) w := by
    intro w ts t
    rw [run_max_int3]
    refine congrArg (fun x => Result.ok (Value.int .i64 x) w) ?_
    unfold Dy.cut
    split <;> split at * <;> omega
  go_enter Tryd.func53, Tryd.ntmps53
  go_wp2
  go_region_held3 (fun w' => w'.cell? ⟨w.heap.size, 1, none⟩ = some (.int .u64 h) ∧ w'.cell? ⟨w.heap.size, 2, none⟩ = some (.int .u64 l) ∧ w'.cell? ⟨w.heap.size, 4, none⟩ = some (.int .i64 e))
    (refine ⟨?_, ?_, ?_⟩ <;> first | (simp [go_sem]; done) | (simp [go_sem, *]; done))
    (first | (go_at_call 76; refine (wideSize_any _ _ _ hh hl).mono ?_; rintro e' w1 ⟨rfl, hb1⟩; obtain ⟨hc, hf⟩ := bcell hb1; have hz := hb1.size; simp at hz))
  go_wp2_with fail
  refine (wideDown_any _ _ _ _ hh hl hc0).mono ?_
  rintro e' w2 ⟨p, q, rfl, hpq, hb2⟩
  obtain ⟨hc2, hf2⟩ := bcell hb2
  have hz2 := hb2.size
  obtain rfl : q = Dy.kept (Dy.wd h l) e := Dy.wide_small hpq (Dy.kept_lt _ _)
  have HP := hid hpq
  clear hpq
  have g0 : w2.cell? ⟨w.heap.size, 0, none⟩ = some (.bool true) := by rw [hc2 _ _ (by omega), hc _ _ (by simp)]; simp [go_sem]
  have g3 : w2.cell? ⟨w.heap.size, 3, none⟩ = some (.bool false) := by rw [hc2 _ _ (by omega), hc _ _ (by simp)]; simp [go_sem]
  have g4 : w2.cell? ⟨w.heap.size, 4, none⟩ = some (.int .i64 e) := by rw [hc2 _ _ (by omega), hc _ _ (by simp)]; simp [go_sem]
  have hz4 : w.heap.size < w2.heap.size := by omega
  have hbel : Below w.heap.size w w2 := (((Below.refl _ _).alloc (Nat.le_refl _) _).drew.trans (hb1.mono (by simp))).trans (hb2.mono (by omega))
  clear hc hf hz hc2 hf2 hz2 hb1 hb2
  go_wp2
  have hw3 : IntKind.i64.wrap (e + Dy.cut (Dy.wd h l) e) = e + Dy.cut (Dy.wd h l) e := IntWalk.i64_in _ (by unfold Dy.cut; omega)
  have hm53 := Dy.kept_lt (Dy.wd h l) e
  have hc1 : -1074 ≤ e + Dy.cut (Dy.wd h l) e ∧ e + Dy.cut (Dy.wd h l) e ≤ 6000 := by unfold Dy.cut; omega
  have HR := hid (Dy.rnd_rnd' true (Dy.wd h l) false e false)
  clear hmax hw1 hw2
  go_quiet (fail)
  generalize Dy.cut (Dy.wd h l) e = C at *
  generalize Dy.kept (Dy.wd h l) e = M at *
  generalize Dy.lost (Dy.wd h l) C.toNat = L at *
  clear hw3 hb
  subst hL
  obtain ⟨M1, HM1⟩ : ∃ M1 : Nat, Hid (M1 = M + 1) := ⟨M + 1, hid rfl⟩
  have hwM : IntKind.u64.wrap ((M : Int) + 1) = (M1 : Int) := by rw [HM1.out]; exact (IntWalk.u64_in _ (by omega)).trans (by omega)
  have hM1a : 0 < M1 := by have := HM1.out; omega
  have hM1b : M1 ≤ 9007199254740992 := by have := HM1.out; omega
  have hf0 := fi_conv M
  have hf1 := fi_conv M1
  have hf2 : floatOfInt .f64 9007199254740991 = Dy.fi 9007199254740991 := fi_conv 9007199254740991
  have ht0 : (M : Int).toNat = M := by omega
  have ht1 : (M1 : Int).toNat = M1 := by omega
  have hl0 : Dy.blen M ≤ 53 := Dy.blen_le.2 hm53
  have hl1 : Dy.blen M1 ≤ 54 := Dy.blen_le.2 (by omega)
  have hbel2 : Below w.heap.size w ((w2.alloc (Obj.cells #[Value.int IntKind.u64 ↑p, Value.int IntKind.u64 ↑M] 97)).drewN nq) := below_drewN (hbel.alloc (by omega) _) nq
  have HB := hid hbel2
  clear hbel2 hbel
  go_wp2_with (first | (go_at_call 77; refine (len64_z _ _ (by omega) (by omega)).mono ?_; rintro e w' ⟨rfl, rfl⟩) | (go_at_call 78; refine (ldexp_any _ _ _ (Dy.fi_spec (by omega)).2.1 (by omega) (by omega)).mono ?_; rintro e w' ⟨rfl, rfl⟩))
  all_goals
    go_ret2
    refine ⟨?_, HB.out⟩
    have hM2 := HM1.out
    clear hwM hf1 ht1 hl1 hM1a hM1b
    first
      | (subst hM2; rw [HR.out, Dy.c_z (by decide) rfl rfl ‹_›]; generalize Dy.ldx (Dy.fi 9007199254740991) 971 = F; rfl)
      | (subst hM2; rw [HR.out, Dy.c_b (by decide) rfl rfl ‹_› ‹_›]; generalize Dy.ldx (Dy.fi 9007199254740991) 971 = F; rfl)
      | (subst hM2; rw [HR.out, Dy.c_mt (by decide) rfl rfl ‹_› ‹_› rfl]; generalize Dy.ldx (Dy.fi 9007199254740991) 971 = F; rfl)

set_option maxRecDepth 100000 in
set_option maxHeartbeats 4000000 in
theorem rounded_eq_false (more : Bool) (h l : Nat) (e : Int) (w : World) (hh : Dy.W h) (hl : Dy.W l) (he1 : -5000 ≤ e) (he2 : e ≤ 5000) :
    Calls Tryd.prog 53 #[xv false h l more e, .bool false] w fun e' w' => e' = .returned (.tuple #[.float .f64 (Dy.rnd false (Dy.wd h l) more e false).1, .int .i64 (Dy.rnd false (Dy.wd h l) more e false).2]) ∧ Below w.heap.size w w' := by
  have hb := (Dy.blen_le (x := Dy.wd h l) (k := 128)).2 (Dy.wd_lt hh hl)
  have hc0 : 0 ≤ Dy.cut (Dy.wd h l) e := by unfold Dy.cut; omega
  have hw1 : IntKind.i64.wrap ((Dy.blen (Dy.wd h l) : Int) - 53) = (Dy.blen (Dy.wd h l) : Int) - 53 := IntWalk.i64_in _ (by omega)
  have hw2 : IntKind.i64.wrap (-1074 - e) = -1074 - e := IntWalk.i64_in _ (by omega)
  have hmax : ∀ (w : World) ts t, (Builtin.max_ ts t #[.int .i64 ((Dy.blen (Dy.wd h l) : Int) - 53), .int .i64 (-1074 - e), .int .i64 0]).run Tryd.prog w = .ok (.int .i64 (Dy.cut (Dy.wd h l) e)) w := by
    intro w ts t
    rw [run_max_int3]
    refine congrArg (fun x => Result.ok (Value.int .i64 x) w) ?_
    unfold Dy.cut
    split <;> split at * <;> omega
  go_enter Tryd.func53, Tryd.ntmps53
  go_wp2
  go_region_held3 (fun w' => w'.cell? ⟨w.heap.size, 1, none⟩ = some (.int .u64 h) ∧ w'.cell? ⟨w.heap.size, 2, none⟩ = some (.int .u64 l) ∧ w'.cell? ⟨w.heap.size, 4, none⟩ = some (.int .i64 e))
    (refine ⟨?_, ?_, ?_⟩ <;> first | (simp [go_sem]; done) | (simp [go_sem, *]; done))
    (first | (go_at_call 76; refine (wideSize_any _ _ _ hh hl).mono ?_; rintro e' w1 ⟨rfl, hb1⟩; obtain ⟨hc, hf⟩ := bcell hb1; have hz := hb1.size; simp at hz))
  go_wp2_with fail
  refine (wideDown_any _ _ _ _ hh hl hc0).mono ?_
  rintro e' w2 ⟨p, q, rfl, hpq, hb2⟩
  obtain ⟨hc2, hf2⟩ := bcell hb2
  have hz2 := hb2.size
  obtain rfl : q = Dy.kept (Dy.wd h l) e := Dy.wide_small hpq (Dy.kept_lt _ _)
  have HP := hid hpq
  clear hpq
  have g0 : w2.cell? ⟨w.heap.size, 0, none⟩ = some (.bool false) := by rw [hc2 _ _ (by omega), hc _ _ (by simp)]; simp [go_sem]
  have g3 : w2.cell? ⟨w.heap.size, 3, none⟩ = some (.bool more) := by rw [hc2 _ _ (by omega), hc _ _ (by simp)]; simp [go_sem]
  have g4 : w2.cell? ⟨w.heap.size, 4, none⟩ = some (.int .i64 e) := by rw [hc2 _ _ (by omega), hc _ _ (by simp)]; simp [go_sem]
  have hz4 : w.heap.size < w2.heap.size := by omega
  have hbel : Below w.heap.size w w2 := (((Below.refl _ _).alloc (Nat.le_refl _) _).drew.trans (hb1.mono (by simp))).trans (hb2.mono (by omega))
  clear hc hf hz hc2 hf2 hz2 hb1 hb2
  go_wp2
  have hw3 : IntKind.i64.wrap (e + Dy.cut (Dy.wd h l) e) = e + Dy.cut (Dy.wd h l) e := IntWalk.i64_in _ (by unfold Dy.cut; omega)
  have hm53 := Dy.kept_lt (Dy.wd h l) e
  have hc1 : -1074 ≤ e + Dy.cut (Dy.wd h l) e ∧ e + Dy.cut (Dy.wd h l) e ≤ 6000 := by unfold Dy.cut; omega
  have HR := hid (Dy.rnd_rnd' false (Dy.wd h l) more e false)
  clear hmax hw1 hw2
  go_quiet (fail)
  generalize Dy.cut (Dy.wd h l) e = C at *
  generalize Dy.kept (Dy.wd h l) e = M at *
  generalize Dy.lost (Dy.wd h l) C.toNat = L at *
  clear hw3 hb
  obtain ⟨M1, HM1⟩ : ∃ M1 : Nat, Hid (M1 = M + 1) := ⟨M + 1, hid rfl⟩
  have hwM : IntKind.u64.wrap ((M : Int) + 1) = (M1 : Int) := by rw [HM1.out]; exact (IntWalk.u64_in _ (by omega)).trans (by omega)
  have hM1a : 0 < M1 := by have := HM1.out; omega
  have hM1b : M1 ≤ 9007199254740992 := by have := HM1.out; omega
  have hf0 := fi_conv M
  have hf1 := fi_conv M1
  have hf2 : floatOfInt .f64 9007199254740991 = Dy.fi 9007199254740991 := fi_conv 9007199254740991
  have ht0 : (M : Int).toNat = M := by omega
  have ht1 : (M1 : Int).toNat = M1 := by omega
  have hl0 : Dy.blen M ≤ 53 := Dy.blen_le.2 hm53
  have hl1 : Dy.blen M1 ≤ 54 := Dy.blen_le.2 (by omega)
  have hbel2 : Below w.heap.size w ((w2.alloc (Obj.cells #[Value.int IntKind.u64 ↑p, Value.int IntKind.u64 ↑M] 97)).drewN nq) := below_drewN (hbel.alloc (by omega) _) nq
  have HB := hid hbel2
  clear hbel2 hbel
  go_wp2_with (first | (go_at_call 77; refine (len64_z _ _ (by omega) (by omega)).mono ?_; rintro e w' ⟨rfl, rfl⟩) | (go_at_call 78; refine (ldexp_any _ _ _ (Dy.fi_spec (by omega)).2.1 (by omega) (by omega)).mono ?_; rintro e w' ⟨rfl, rfl⟩))
  all_goals
    go_ret2
    refine ⟨?_, HB.out⟩
    have hM2 := HM1.out
    clear hwM hf1 ht1 hl1 hM1a hM1b
    first
      | (subst hM2; rw [HR.out, Dy.r_z rfl ‹_›]; generalize Dy.ldx (Dy.fi 9007199254740991) 971 = F; rfl)
      | (subst hM2; rw [HR.out, Dy.r_bf rfl ‹_› ‹_› rfl]; generalize Dy.ldx (Dy.fi 9007199254740991) 971 = F; rfl)
      | (subst hM2; rw [HR.out, Dy.r_mf rfl ‹_› ‹_› rfl]; generalize Dy.ldx (Dy.fi 9007199254740991) 971 = F; rfl)

set_option maxRecDepth 100000 in
set_option maxHeartbeats 4000000 in
theorem rounded_lost_false (more : Bool) (h l : Nat) (e : Int) (w : World) (hh : Dy.W h) (hl : Dy.W l) (he1 : -5000 ≤ e) (he2 : e ≤ 5000) (hL : Dy.lost (Dy.wd h l) (Dy.cut (Dy.wd h l) e).toNat = true) :
    Calls Tryd.prog 53 #[xv false h l more e, .bool true] w fun e' w' => e' = .returned (.tuple #[.float .f64 (Dy.rnd false (Dy.wd h l) more e true).1, .int .i64 (Dy.rnd false (Dy.wd h l) more e true).2]) ∧ Below w.heap.size w w' := by
  have hb := (Dy.blen_le (x := Dy.wd h l) (k := 128)).2 (Dy.wd_lt hh hl)
  have hc0 : 0 ≤ Dy.cut (Dy.wd h l) e := by unfold Dy.cut; omega
  have hw1 : IntKind.i64.wrap ((Dy.blen (Dy.wd h l) : Int) - 53) = (Dy.blen (Dy.wd h l) : Int) - 53 := IntWalk.i64_in _ (by omega)
  have hw2 : IntKind.i64.wrap (-1074 - e) = -1074 - e := IntWalk.i64_in _ (by omega)
  have hmax : ∀ (w : World) ts t, (Builtin.max_ ts t #[.int .i64 ((Dy.blen (Dy.wd h l) : Int) - 53), .int .i64 (-1074 - e), .int .i64 0]).run Tryd.prog w = .ok (.int .i64 (Dy.cut (Dy.wd h l) e)) w := by
    intro w ts t
    rw [run_max_int3]
    refine congrArg (fun x => Result.ok (Value.int .i64 x) w) ?_
    unfold Dy.cut
    split <;> split at * <;> omega
  go_enter Tryd.func53, Tryd.ntmps53
  go_wp2
  go_region_held3 (fun w' => w'.cell? ⟨w.heap.size, 1, none⟩ = some (.int .u64 h) ∧ w'.cell? ⟨w.heap.size, 2, none⟩ = some (.int .u64 l) ∧ w'.cell? ⟨w.heap.size, 4, none⟩ = some (.int .i64 e))
    (refine ⟨?_, ?_, ?_⟩ <;> first | (simp [go_sem]; done) | (simp [go_sem, *]; done))
    (first | (go_at_call 76; refine (wideSize_any _ _ _ hh hl).mono ?_; rintro e' w1 ⟨rfl, hb1⟩; obtain ⟨hc, hf⟩ := bcell hb1; have hz := hb1.size; simp at hz))
  go_wp2_with fail
  refine (wideDown_any _ _ _ _ hh hl hc0).mono ?_
  rintro e' w2 ⟨p, q, rfl, hpq, hb2⟩
  obtain ⟨hc2, hf2⟩ := bcell hb2
  have hz2 := hb2.size
  obtain rfl : q = Dy.kept (Dy.wd h l) e := Dy.wide_small hpq (Dy.kept_lt _ _)
  have HP := hid hpq
  clear hpq
  have g0 : w2.cell? ⟨w.heap.size, 0, none⟩ = some (.bool false) := by rw [hc2 _ _ (by omega), hc _ _ (by simp)]; simp [go_sem]
  have g3 : w2.cell? ⟨w.heap.size, 3, none⟩ = some (.bool more) := by rw [hc2 _ _ (by omega), hc _ _ (by simp)]; simp [go_sem]
  have g4 : w2.cell? ⟨w.heap.size, 4, none⟩ = some (.int .i64 e) := by rw [hc2 _ _ (by omega), hc _ _ (by simp)]; simp [go_sem]
  have hz4 : w.heap.size < w2.heap.size := by omega
  have hbel : Below w.heap.size w w2 := (((Below.refl _ _).alloc (Nat.le_refl _) _).drew.trans (hb1.mono (by simp))).trans (hb2.mono (by omega))
  clear hc hf hz hc2 hf2 hz2 hb1 hb2
  go_wp2
  have hw3 : IntKind.i64.wrap (e + Dy.cut (Dy.wd h l) e) = e + Dy.cut (Dy.wd h l) e := IntWalk.i64_in _ (by unfold Dy.cut; omega)
  have hm53 := Dy.kept_lt (Dy.wd h l) e
  have hc1 : -1074 ≤ e + Dy.cut (Dy.wd h l) e ∧ e + Dy.cut (Dy.wd h l) e ≤ 6000 := by unfold Dy.cut; omega
  have HR := hid (Dy.rnd_rnd' false (Dy.wd h l) more e true)
  clear hmax hw1 hw2
  go_quiet (fail)
  generalize Dy.cut (Dy.wd h l) e = C at *
  generalize Dy.kept (Dy.wd h l) e = M at *
  generalize Dy.lost (Dy.wd h l) C.toNat = L at *
  clear hw3 hb
  subst hL
  obtain ⟨M1, HM1⟩ : ∃ M1 : Nat, Hid (M1 = M + 1) := ⟨M + 1, hid rfl⟩
  have hwM : IntKind.u64.wrap ((M : Int) + 1) = (M1 : Int) := by rw [HM1.out]; exact (IntWalk.u64_in _ (by omega)).trans (by omega)
  have hM1a : 0 < M1 := by have := HM1.out; omega
  have hM1b : M1 ≤ 9007199254740992 := by have := HM1.out; omega
  have hf0 := fi_conv M
  have hf1 := fi_conv M1
  have hf2 : floatOfInt .f64 9007199254740991 = Dy.fi 9007199254740991 := fi_conv 9007199254740991
  have ht0 : (M : Int).toNat = M := by omega
  have ht1 : (M1 : Int).toNat = M1 := by omega
  have hl0 : Dy.blen M ≤ 53 := Dy.blen_le.2 hm53
  have hl1 : Dy.blen M1 ≤ 54 := Dy.blen_le.2 (by omega)
  have hbel2 : Below w.heap.size w ((w2.alloc (Obj.cells #[Value.int IntKind.u64 ↑p, Value.int IntKind.u64 ↑M] 97)).drewN nq) := below_drewN (hbel.alloc (by omega) _) nq
  have HB := hid hbel2
  clear hbel2 hbel
  go_wp2_with (first | (go_at_call 77; refine (len64_z _ _ (by omega) (by omega)).mono ?_; rintro e w' ⟨rfl, rfl⟩) | (go_at_call 78; refine (ldexp_any _ _ _ (Dy.fi_spec (by omega)).2.1 (by omega) (by omega)).mono ?_; rintro e w' ⟨rfl, rfl⟩))
  all_goals
    go_ret2
    refine ⟨?_, HB.out⟩
    have hM2 := HM1.out
    clear hwM hf1 ht1 hl1 hM1a hM1b
    first
      | (subst hM2; rw [HR.out, Dy.a_b (by decide) rfl ‹_›]; generalize Dy.ldx (Dy.fi 9007199254740991) 971 = F; rfl)
      | (subst hM2; rw [HR.out, Dy.a_mf (by decide) rfl ‹_› rfl]; generalize Dy.ldx (Dy.fi 9007199254740991) 971 = F; rfl)

set_option maxRecDepth 100000 in
set_option maxHeartbeats 4000000 in
theorem rounded_more_false (h l : Nat) (e : Int) (w : World) (hh : Dy.W h) (hl : Dy.W l) (he1 : -5000 ≤ e) (he2 : e ≤ 5000) (hL : Dy.lost (Dy.wd h l) (Dy.cut (Dy.wd h l) e).toNat = false) :
    Calls Tryd.prog 53 #[xv false h l true e, .bool true] w fun e' w' => e' = .returned (.tuple #[.float .f64 (Dy.rnd false (Dy.wd h l) true e true).1, .int .i64 (Dy.rnd false (Dy.wd h l) true e true).2]) ∧ Below w.heap.size w w' := by
  have hb := (Dy.blen_le (x := Dy.wd h l) (k := 128)).2 (Dy.wd_lt hh hl)
  have hc0 : 0 ≤ Dy.cut (Dy.wd h l) e := by unfold Dy.cut; omega
  have hw1 : IntKind.i64.wrap ((Dy.blen (Dy.wd h l) : Int) - 53) = (Dy.blen (Dy.wd h l) : Int) - 53 := IntWalk.i64_in _ (by omega)
  have hw2 : IntKind.i64.wrap (-1074 - e) = -1074 - e := IntWalk.i64_in _ (by omega)
  have hmax : ∀ (w : World) ts t, (Builtin.max_ ts t #[.int .i64 ((Dy.blen (Dy.wd h l) : Int) - 53), .int .i64 (-1074 - e), .int .i64 0]).run Tryd.prog w = .ok (.int .i64 (Dy.cut (Dy.wd h l) e)) w := by
    intro w ts t
    rw [run_max_int3]
    refine congrArg (fun x => Result.ok (Value.int .i64 x) w) ?_
    unfold Dy.cut
    split <;> split at * <;> omega
  go_enter Tryd.func53, Tryd.ntmps53
  go_wp2
  go_region_held3 (fun w' => w'.cell? ⟨w.heap.size, 1, none⟩ = some (.int .u64 h) ∧ w'.cell? ⟨w.heap.size, 2, none⟩ = some (.int .u64 l) ∧ w'.cell? ⟨w.heap.size, 4, none⟩ = some (.int .i64 e))
    (refine ⟨?_, ?_, ?_⟩ <;> first | (simp [go_sem]; done) | (simp [go_sem, *]; done))
    (first | (go_at_call 76; refine (wideSize_any _ _ _ hh hl).mono ?_; rintro e' w1 ⟨rfl, hb1⟩; obtain ⟨hc, hf⟩ := bcell hb1; have hz := hb1.size; simp at hz))
  go_wp2_with fail
  refine (wideDown_any _ _ _ _ hh hl hc0).mono ?_
  rintro e' w2 ⟨p, q, rfl, hpq, hb2⟩
  obtain ⟨hc2, hf2⟩ := bcell hb2
  have hz2 := hb2.size
  obtain rfl : q = Dy.kept (Dy.wd h l) e := Dy.wide_small hpq (Dy.kept_lt _ _)
  have HP := hid hpq
  clear hpq
  have g0 : w2.cell? ⟨w.heap.size, 0, none⟩ = some (.bool false) := by rw [hc2 _ _ (by omega), hc _ _ (by simp)]; simp [go_sem]
  have g3 : w2.cell? ⟨w.heap.size, 3, none⟩ = some (.bool true) := by rw [hc2 _ _ (by omega), hc _ _ (by simp)]; simp [go_sem]
  have g4 : w2.cell? ⟨w.heap.size, 4, none⟩ = some (.int .i64 e) := by rw [hc2 _ _ (by omega), hc _ _ (by simp)]; simp [go_sem]
  have hz4 : w.heap.size < w2.heap.size := by omega
  have hbel : Below w.heap.size w w2 := (((Below.refl _ _).alloc (Nat.le_refl _) _).drew.trans (hb1.mono (by simp))).trans (hb2.mono (by omega))
  clear hc hf hz hc2 hf2 hz2 hb1 hb2
  go_wp2
  have hw3 : IntKind.i64.wrap (e + Dy.cut (Dy.wd h l) e) = e + Dy.cut (Dy.wd h l) e := IntWalk.i64_in _ (by unfold Dy.cut; omega)
  have hm53 := Dy.kept_lt (Dy.wd h l) e
  have hc1 : -1074 ≤ e + Dy.cut (Dy.wd h l) e ∧ e + Dy.cut (Dy.wd h l) e ≤ 6000 := by unfold Dy.cut; omega
  have HR := hid (Dy.rnd_rnd' false (Dy.wd h l) true e true)
  clear hmax hw1 hw2
  go_quiet (fail)
  generalize Dy.cut (Dy.wd h l) e = C at *
  generalize Dy.kept (Dy.wd h l) e = M at *
  generalize Dy.lost (Dy.wd h l) C.toNat = L at *
  clear hw3 hb
  subst hL
  obtain ⟨M1, HM1⟩ : ∃ M1 : Nat, Hid (M1 = M + 1) := ⟨M + 1, hid rfl⟩
  have hwM : IntKind.u64.wrap ((M : Int) + 1) = (M1 : Int) := by rw [HM1.out]; exact (IntWalk.u64_in _ (by omega)).trans (by omega)
  have hM1a : 0 < M1 := by have := HM1.out; omega
  have hM1b : M1 ≤ 9007199254740992 := by have := HM1.out; omega
  have hf0 := fi_conv M
  have hf1 := fi_conv M1
  have hf2 : floatOfInt .f64 9007199254740991 = Dy.fi 9007199254740991 := fi_conv 9007199254740991
  have ht0 : (M : Int).toNat = M := by omega
  have ht1 : (M1 : Int).toNat = M1 := by omega
  have hl0 : Dy.blen M ≤ 53 := Dy.blen_le.2 hm53
  have hl1 : Dy.blen M1 ≤ 54 := Dy.blen_le.2 (by omega)
  have hbel2 : Below w.heap.size w ((w2.alloc (Obj.cells #[Value.int IntKind.u64 ↑p, Value.int IntKind.u64 ↑M] 97)).drewN nq) := below_drewN (hbel.alloc (by omega) _) nq
  have HB := hid hbel2
  clear hbel2 hbel
  go_wp2_with (first | (go_at_call 77; refine (len64_z _ _ (by omega) (by omega)).mono ?_; rintro e w' ⟨rfl, rfl⟩) | (go_at_call 78; refine (ldexp_any _ _ _ (Dy.fi_spec (by omega)).2.1 (by omega) (by omega)).mono ?_; rintro e w' ⟨rfl, rfl⟩))
  all_goals
    go_ret2
    refine ⟨?_, HB.out⟩
    have hM2 := HM1.out
    clear hwM hf1 ht1 hl1 hM1a hM1b
    first
      | (subst hM2; rw [HR.out, Dy.b_b (by decide) rfl ‹_›]; generalize Dy.ldx (Dy.fi 9007199254740991) 971 = F; rfl)
      | (subst hM2; rw [HR.out, Dy.b_mf (by decide) rfl ‹_› rfl]; generalize Dy.ldx (Dy.fi 9007199254740991) 971 = F; rfl)

set_option maxRecDepth 100000 in
set_option maxHeartbeats 4000000 in
theorem rounded_none_false (h l : Nat) (e : Int) (w : World) (hh : Dy.W h) (hl : Dy.W l) (he1 : -5000 ≤ e) (he2 : e ≤ 5000) (hL : Dy.lost (Dy.wd h l) (Dy.cut (Dy.wd h l) e).toNat = false) :
    Calls Tryd.prog 53 #[xv false h l false e, .bool true] w fun e' w' => e' = .returned (.tuple #[.float .f64 (Dy.rnd false (Dy.wd h l) false e true).1, .int .i64 (Dy.rnd false (Dy.wd h l) false e true).2]) ∧ Below w.heap.size w w' := by
  have hb := (Dy.blen_le (x := Dy.wd h l) (k := 128)).2 (Dy.wd_lt hh hl)
  have hc0 : 0 ≤ Dy.cut (Dy.wd h l) e := by unfold Dy.cut; omega
  have hw1 : IntKind.i64.wrap ((Dy.blen (Dy.wd h l) : Int) - 53) = (Dy.blen (Dy.wd h l) : Int) - 53 := IntWalk.i64_in _ (by omega)
  have hw2 : IntKind.i64.wrap (-1074 - e) = -1074 - e := IntWalk.i64_in _ (by omega)
  have hmax : ∀ (w : World) ts t, (Builtin.max_ ts t #[.int .i64 ((Dy.blen (Dy.wd h l) : Int) - 53), .int .i64 (-1074 - e), .int .i64 0]).run Tryd.prog w = .ok (.int .i64 (Dy.cut (Dy.wd h l) e)) w := by
    intro w ts t
    rw [run_max_int3]
    refine congrArg (fun x => Result.ok (Value.int .i64 x) w) ?_
    unfold Dy.cut
    split <;> split at * <;> omega
  go_enter Tryd.func53, Tryd.ntmps53
  go_wp2
  go_region_held3 (fun w' => w'.cell? ⟨w.heap.size, 1, none⟩ = some (.int .u64 h) ∧ w'.cell? ⟨w.heap.size, 2, none⟩ = some (.int .u64 l) ∧ w'.cell? ⟨w.heap.size, 4, none⟩ = some (.int .i64 e))
    (refine ⟨?_, ?_, ?_⟩ <;> first | (simp [go_sem]; done) | (simp [go_sem, *]; done))
    (first | (go_at_call 76; refine (wideSize_any _ _ _ hh hl).mono ?_; rintro e' w1 ⟨rfl, hb1⟩; obtain ⟨hc, hf⟩ := bcell hb1; have hz := hb1.size; simp at hz))
  go_wp2_with fail
  refine (wideDown_any _ _ _ _ hh hl hc0).mono ?_
  rintro e' w2 ⟨p, q, rfl, hpq, hb2⟩
  obtain ⟨hc2, hf2⟩ := bcell hb2
  have hz2 := hb2.size
  obtain rfl : q = Dy.kept (Dy.wd h l) e := Dy.wide_small hpq (Dy.kept_lt _ _)
  have HP := hid hpq
  clear hpq
  have g0 : w2.cell? ⟨w.heap.size, 0, none⟩ = some (.bool false) := by rw [hc2 _ _ (by omega), hc _ _ (by simp)]; simp [go_sem]
  have g3 : w2.cell? ⟨w.heap.size, 3, none⟩ = some (.bool false) := by rw [hc2 _ _ (by omega), hc _ _ (by simp)]; simp [go_sem]
  have g4 : w2.cell? ⟨w.heap.size, 4, none⟩ = some (.int .i64 e) := by rw [hc2 _ _ (by omega), hc _ _ (by simp)]; simp [go_sem]
  have hz4 : w.heap.size < w2.heap.size := by omega
  have hbel : Below w.heap.size w w2 := (((Below.refl _ _).alloc (Nat.le_refl _) _).drew.trans (hb1.mono (by simp))).trans (hb2.mono (by omega))
  clear hc hf hz hc2 hf2 hz2 hb1 hb2
  go_wp2
  have hw3 : IntKind.i64.wrap (e + Dy.cut (Dy.wd h l) e) = e + Dy.cut (Dy.wd h l) e := IntWalk.i64_in _ (by unfold Dy.cut; omega)
  have hm53 := Dy.kept_lt (Dy.wd h l) e
  have hc1 : -1074 ≤ e + Dy.cut (Dy.wd h l) e ∧ e + Dy.cut (Dy.wd h l) e ≤ 6000 := by unfold Dy.cut; omega
  have HR := hid (Dy.rnd_rnd' false (Dy.wd h l) false e true)
  clear hmax hw1 hw2
  go_quiet (fail)
  generalize Dy.cut (Dy.wd h l) e = C at *
  generalize Dy.kept (Dy.wd h l) e = M at *
  generalize Dy.lost (Dy.wd h l) C.toNat = L at *
  clear hw3 hb
  subst hL
  obtain ⟨M1, HM1⟩ : ∃ M1 : Nat, Hid (M1 = M + 1) := ⟨M + 1, hid rfl⟩
  have hwM : IntKind.u64.wrap ((M : Int) + 1) = (M1 : Int) := by rw [HM1.out]; exact (IntWalk.u64_in _ (by omega)).trans (by omega)
  have hM1a : 0 < M1 := by have := HM1.out; omega
  have hM1b : M1 ≤ 9007199254740992 := by have := HM1.out; omega
  have hf0 := fi_conv M
  have hf1 := fi_conv M1
  have hf2 : floatOfInt .f64 9007199254740991 = Dy.fi 9007199254740991 := fi_conv 9007199254740991
  have ht0 : (M : Int).toNat = M := by omega
  have ht1 : (M1 : Int).toNat = M1 := by omega
  have hl0 : Dy.blen M ≤ 53 := Dy.blen_le.2 hm53
  have hl1 : Dy.blen M1 ≤ 54 := Dy.blen_le.2 (by omega)
  have hbel2 : Below w.heap.size w ((w2.alloc (Obj.cells #[Value.int IntKind.u64 ↑p, Value.int IntKind.u64 ↑M] 97)).drewN nq) := below_drewN (hbel.alloc (by omega) _) nq
  have HB := hid hbel2
  clear hbel2 hbel
  go_wp2_with (first | (go_at_call 77; refine (len64_z _ _ (by omega) (by omega)).mono ?_; rintro e w' ⟨rfl, rfl⟩) | (go_at_call 78; refine (ldexp_any _ _ _ (Dy.fi_spec (by omega)).2.1 (by omega) (by omega)).mono ?_; rintro e w' ⟨rfl, rfl⟩))
  all_goals
    go_ret2
    refine ⟨?_, HB.out⟩
    have hM2 := HM1.out
    clear hwM hf1 ht1 hl1 hM1a hM1b
    first
      | (subst hM2; rw [HR.out, Dy.c_z (by decide) rfl rfl ‹_›]; generalize Dy.ldx (Dy.fi 9007199254740991) 971 = F; rfl)
      | (subst hM2; rw [HR.out, Dy.c_b (by decide) rfl rfl ‹_› ‹_›]; generalize Dy.ldx (Dy.fi 9007199254740991) 971 = F; rfl)
      | (subst hM2; rw [HR.out, Dy.c_mf (by decide) rfl rfl ‹_› ‹_› rfl]; generalize Dy.ldx (Dy.fi 9007199254740991) 971 = F; rfl)

theorem rounded_any (minus more up : Bool) (h l : Nat) (e : Int) (w : World) (hh : Dy.W h) (hl : Dy.W l) (he1 : -5000 ≤ e) (he2 : e ≤ 5000) :
    Calls Tryd.prog 53 #[xv minus h l more e, .bool up] w fun e' w' => e' = .returned (.tuple #[.float .f64 (Dy.rnd minus (Dy.wd h l) more e up).1, .int .i64 (Dy.rnd minus (Dy.wd h l) more e up).2]) ∧ Below w.heap.size w w' := by
  cases minus <;> cases up
  · exact rounded_eq_false more h l e w hh hl he1 he2
  · cases hL : Dy.lost (Dy.wd h l) (Dy.cut (Dy.wd h l) e).toNat
    · cases more
      · exact rounded_none_false h l e w hh hl he1 he2 hL
      · exact rounded_more_false h l e w hh hl he1 he2 hL
    · exact rounded_lost_false more h l e w hh hl he1 he2 hL
  · cases hL : Dy.lost (Dy.wd h l) (Dy.cut (Dy.wd h l) e).toNat
    · cases more
      · exact rounded_none_true h l e w hh hl he1 he2 hL
      · exact rounded_more_true h l e w hh hl he1 he2 hL
    · exact rounded_lost_true more h l e w hh hl he1 he2 hL
  · exact rounded_eq_true more h l e w hh hl he1 he2
end Go.Proofs.YtinhbebjlbnejaaDoor

/- Walks: dir.parts, dir.Mul. -/
namespace Go.Proofs.YtinhbebjlbnejaaDoor
open Go.RowKit

theorem and_frac {b : Nat} (hb : Dy.W b) : bits BinOp.and IntKind.u64 (b : Int) 4503599627370495 = ((b % 2 ^ 52 : Nat) : Int) := by
  have h := u64_and_nat b 4503599627370495 hb.lt (by omega)
  have e : b &&& 4503599627370495 = b % 2 ^ 52 := Nat.and_two_pow_sub_one_eq_mod b 52
  rw [e] at h
  exact h

theorem and_field {b : Nat} (hb : Dy.W b) : bits BinOp.and IntKind.u64 ((b : Int) / 4503599627370496) 2047 = ((Dy.field b : Nat) : Int) := by
  have h1 := hb.lt
  have h := u64_and_nat (b / 4503599627370496) 2047 (by omega) (by omega)
  have e : b / 4503599627370496 &&& 2047 = Dy.field b := by
    rw [nat_mask11]; rfl
  rw [e] at h
  exact h

theorem or_one {x : Nat} (h : x < 2 ^ 52) : bits BinOp.or IntKind.u64 (x : Int) 4503599627370496 = ((2 ^ 52 + x : Nat) : Int) := by
  have h2 := u64_or_nat x 4503599627370496 (by omega) (by omega)
  have e : x ||| 4503599627370496 = 2 ^ 52 + x := by
    rw [Nat.or_comm]
    have := Nat.two_pow_add_eq_or_of_lt h 1
    rw [Nat.mul_one] at this
    exact this.symm
  rw [e] at h2
  exact h2

theorem rounded_to (minus more up : Bool) (h l : Nat) (e : Int) (w : World) {N : Nat} {r : Nat × Int} (hh : Dy.W h) (hl : Dy.W l) (he1 : -5000 ≤ e) (he2 : e ≤ 5000) (hN : Dy.wd h l = N) (hr : Dy.rnd minus N more e up = r) :
    Calls Tryd.prog 53 #[xv minus h l more e, .bool up] w fun e' w' => e' = .returned (.tuple #[.float .f64 r.1, .int .i64 r.2]) ∧ Below w.heap.size w w' := by
  have h := rounded_any minus more up h l e w hh hl he1 he2
  rw [hN, hr] at h
  exact h

set_option maxHeartbeats 400000 in
theorem parts_any (b : Nat) (w : World) (hb : Dy.W b) :
    Calls Tryd.prog 49 #[.float .f64 b] w fun e w' => e = .returned (.tuple #[.bool (Dy.sgn b), .int .u64 (Dy.pm b : Nat), .int .i64 (Dy.pe b)]) ∧ w = w' := by
  have h1 := and_frac hb
  have h2 := and_field hb
  have h3 := or_one (x := b % 2 ^ 52) (by omega)
  have h4 := Dy.field_lt b
  have HS := hid (fun w => signbit_any b w hb)
  by_cases h : Dy.field b = 0
  · have e1 : Dy.pm b = b % 2 ^ 52 := by unfold Dy.pm; rw [if_pos h]
    have e2 : Dy.pe b = -1074 := by unfold Dy.pe; rw [if_pos h]
    rw [e1, e2]
    clear e1 e2 h3
    generalize b % 2 ^ 52 = x at *
    go_enter Tryd.func49, Tryd.ntmps49
    go_wp2_with (go_at_call 57; refine (HS.out _).mono ?_; rintro e w' ⟨rfl, rfl⟩)
    go_ret3
    exact ⟨rfl, rfl⟩
  · have e1 : Dy.pm b = 2 ^ 52 + b % 2 ^ 52 := by unfold Dy.pm; rw [if_neg h]
    have e2 : Dy.pe b = (Dy.field b : Int) + -1074 - 1 := by unfold Dy.pe; rw [if_neg h]
    rw [e1, e2]
    clear e1 e2
    generalize (2 ^ 52 + b % 2 ^ 52) = y at *
    generalize b % 2 ^ 52 = x at *
    generalize Dy.field b = F at *
    go_enter Tryd.func49, Tryd.ntmps49
    go_wp2_with (go_at_call 57; refine (HS.out _).mono ?_; rintro e w' ⟨rfl, rfl⟩)
    go_ret3
    exact ⟨rfl, rfl⟩

set_option maxRecDepth 100000 in
set_option maxHeartbeats 400000 in
theorem mul_wrong (a b : Nat) (up : Bool) (w : World) (ha : Dy.W a) (hb : Dy.W b) (h : Dy.right a = false ∨ Dy.right b = false) :
    Calls Tryd.prog 37 #[.float .f64 a, .float .f64 b, .bool up] w fun e w' => e = .returned (.tuple #[.float .f64 0, .int .i64 13]) ∧ w = w' := by
  cases h1 : Dy.right a
  · clear h
    go_enter Tryd.func37, Tryd.ntmps37
    go_wp2_with (go_at_call 38; refine (right_any _ _ (by assumption)).mono ?_; rintro e w' ⟨rfl, rfl⟩)
    go_ret2
    exact ⟨rfl, rfl⟩
  · have h2 : Dy.right b = false := by rw [h1] at h; simpa using h
    clear h
    go_enter Tryd.func37, Tryd.ntmps37
    go_wp2_with (go_at_call 38; refine (right_any _ _ (by assumption)).mono ?_; rintro e w' ⟨rfl, rfl⟩)
    go_ret2
    exact ⟨rfl, rfl⟩

set_option maxRecDepth 100000 in
set_option maxHeartbeats 1000000 in
theorem mul_right (a b : Nat) (up : Bool) (w : World) (ha : Dy.W a) (hb : Dy.W b) (h1 : Dy.right a = true) (h2 : Dy.right b = true) :
    Calls Tryd.prog 37 #[.float .f64 a, .float .f64 b, .bool up] w fun e w' => e = .returned (.tuple #[.float .f64 (Dy.dMul a b up).1, .int .i64 (Dy.dMul a b up).2]) ∧ Below w.heap.size w w' := by
  have HO := hid (Dy.mul_out (up := up) ha hb h1 h2)
  have ma := Dy.pm_lt a
  have mb := Dy.pm_lt b
  have ba := Dy.pe_bounds a
  have bb := Dy.pe_bounds b
  have HA := hid (fun w => parts_any a w ha)
  have HB := hid (fun w => parts_any b w hb)
  generalize Dy.sgn a = sa at *
  generalize Dy.sgn b = sb at *
  generalize Dy.pm a = m at *
  generalize Dy.pm b = n at *
  generalize Dy.pe a = e at *
  generalize Dy.pe b = f at *
  have hm : Dy.W m := by unfold Dy.W; omega
  have hn : Dy.W n := by unfold Dy.W; omega
  have hmn : m * n < 2 ^ 128 := Nat.lt_of_lt_of_le (Nat.mul_lt_mul'' ma mb) (by omega)
  go_enter Tryd.func37, Tryd.ntmps37
  go_wp2_with (go_at_call 38; refine (right_any _ _ (by assumption)).mono ?_; rintro e w' ⟨rfl, rfl⟩)
  refine (HA.out _).mono ?_
  rintro e' w1 ⟨rfl, rfl⟩
  go_wp2_with fail
  refine (HB.out _).mono ?_
  rintro e' w1 ⟨rfl, rfl⟩
  go_wp2_with (go_at_call 54; refine (mul64_any _ _ _ hm hn).mono ?_; rintro e w' ⟨rfl, rfl⟩)
  refine (rounded_to (N := m * n) (!(sa == sb)) false up _ _ (e + f) _ (Dy.W_hi64 hmn) (Dy.W_lo64 _) (by omega) (by omega) (Dy.wd_hilo _) HO.out).mono ?_
  rintro e' w1 ⟨rfl, hb1⟩
  go_wp2
  go_ret2
  exact ⟨rfl, (((Below.refl _ _).alloc (Nat.le_refl _) _)).trans (hb1.mono (by simp))⟩

theorem mul_any (a b : Nat) (up : Bool) (w : World) (ha : Dy.W a) (hb : Dy.W b) :
    Calls Tryd.prog 37 #[.float .f64 a, .float .f64 b, .bool up] w fun e w' => e = .returned (.tuple #[.float .f64 (Dy.dMul a b up).1, .int .i64 (Dy.dMul a b up).2]) ∧ Below w.heap.size w w' := by
  cases h1 : Dy.right a
  · rw [Dy.dMul_wrong (Or.inl h1)]
    exact (mul_wrong a b up w ha hb (Or.inl h1)).mono fun e w' h => ⟨h.1, h.2 ▸ Below.refl _ _⟩
  · cases h2 : Dy.right b
    · rw [Dy.dMul_wrong (Or.inr h2)]
      exact (mul_wrong a b up w ha hb (Or.inr h2)).mono fun e w' h => ⟨h.1, h.2 ▸ Below.refl _ _⟩
    · exact mul_right a b up w ha hb h1 h2
end Go.Proofs.YtinhbebjlbnejaaDoor

