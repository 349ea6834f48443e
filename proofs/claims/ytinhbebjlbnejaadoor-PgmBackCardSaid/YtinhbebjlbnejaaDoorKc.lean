/- Walks: what is a number; whole numbers of 128 bits. -/
import Derived.Test.YtinhbebjlbnejaaDoorRows
import Derived.WalkKit
import Derived.WalkLawsBesides
import Derived.Test.YtinhbebjlbnejaaDoorKa
import Derived.WalkSpells
import Derived.Deep.QuietTactic
import Derived.BigQuiet
import Derived.Test.YtinhbebjlbnejaaDoorWl
import Derived.Lib.BitFns
import Derived.Lib.Mul64
import Derived.Laws.Bits64b
import Derived.RegionTactic
import Derived.BigRegion
import Derived.StillTailTactics
import Derived.Deep.RegionWith
import Derived.Deep.RegionHeld3
/- A law that the kit has not: == and != of two arrays of two words. -/
namespace Go
section
variable {P : Program} (w : World)

theorem run_equalIn_u64 (d : Nat) {e : TypeId} (a b : Int) (he : P.underlying e = some (.int .u64)) :
    (Op.equalIn (d + 1) e (.int .u64 a) (.int .u64 b)).run P w = .ok (a == b) w := by
  simp [Op.equalIn, run_underlying he]

theorem run_equalIn_pair (d : Nat) {t e : TypeId} (a b a' b' : Int) (ht : P.underlying t = some (.array 2 e)) (he : P.underlying e = some (.int .u64))
    (hs : ∀ w, (sizeOf e).run P w = .ok 1 w) (hg : ∀ w, (isAgg e).run P w = .ok false w) :
    (Op.equalIn (d + 2) t (.agg #[.int .u64 a, .int .u64 b]) (.agg #[.int .u64 a', .int .u64 b'])).run P w = .ok (a == a' && b == b') w := by
  rw [Op.equalIn]
  simp only [Sem.run_bind, run_underlying ht, Result.andThen_ok]
  simp only [Std.Legacy.Range.forIn_eq_forIn_range', Std.Legacy.Range.size]
  simp [List.range', run_equalIn_u64 _ _ _ _ he, go_sem, hs, hg]
  cases h1 : (a == a') <;> cases h2 : (b == b') <;> simp_all
end
end Go
namespace Go.Proofs.YtinhbebjlbnejaaDoor
@[go_sem] theorem run_eq_wide (a b a' b' : Int) (w : World) :
    (Op.equalIn 10000 97 (.agg #[.int .u64 a, .int .u64 b]) (.agg #[.int .u64 a', .int .u64 b'])).run Tryd.prog w = .ok (a == a' && b == b') w :=
  run_equalIn_pair (e := 93) w 9998 a b a' b' (by kernel_rfl) (by kernel_rfl) (fun w => by kernel_rfl) (fun w => by kernel_rfl)
end Go.Proofs.YtinhbebjlbnejaaDoor

/- Walks: what is a number: math.IsNaN, math.Signbit, math.Abs, math.IsInf, dir.Right. -/
namespace Go.Proofs.YtinhbebjlbnejaaDoor
open Go.RowKit

@[go_sem] theorem g_eq (a b : Nat) : (FloatKind.f64.format.order a b == some .eq) = Dy.feq a b := rfl
@[go_sem] theorem g_ne (a b : Nat) : (FloatKind.f64.format.order a b != some .eq) = Dy.fne a b := rfl
@[go_sem] theorem g_lt (a b : Nat) : (FloatKind.f64.format.order a b == some .lt) = Dy.flt a b := rfl
@[go_sem] theorem g_gt (a b : Nat) : (FloatKind.f64.format.order a b == some .gt) = Dy.fgt a b := rfl

theorem hid {p : Prop} (h : p) : Hid p := h

theorem ret_bool {a b : Bool} (h : a = b) : Ending.returned (.bool a) = .returned (.bool b) := by rw [h]

theorem wrap_sgn {b : Nat} (hb : Dy.W b) : decide (wrap64 (b : Int) < 0) = Dy.sgn b := by
  have := hb.lt
  rw [Bool.eq_iff_iff]
  unfold Dy.sgn wrap64
  simp only [decide_eq_true_eq]
  omega

theorem bits_abs {b : Nat} (hb : Dy.W b) : (bits BinOp.andNot IntKind.u64 (b : Int) 9223372036854775808).toNat = Dy.abs b := by
  have h := u64_andNot_nat b 9223372036854775808 hb.lt (by omega)
  have e : b &&& (18446744073709551615 - 9223372036854775808) = b % 2 ^ 63 := Nat.and_two_pow_sub_one_eq_mod b 63
  rw [e] at h
  exact congrArg Int.toNat h

@[go_sem] theorem run_bits (b : Nat) (w : World) : (callFunc 71 #[.float .f64 b]).run Tryd.prog w = .ok (.value (.int .u64 b)) w := by
  rw [run_callFunc_extern Tryd.func71 (by kernel_rfl) (by kernel_rfl) (by kernel_rfl) (e := Extern.MathFloatBits.float64bits) (by kernel_rfl)]
  rfl

@[go_sem] theorem run_frombits (n : Int) (w : World) : (callFunc 93 #[.int .u64 n]).run Tryd.prog w = .ok (.value (.float .f64 n.toNat)) w := by
  rw [run_callFunc_extern Tryd.func93 (by kernel_rfl) (by kernel_rfl) (by kernel_rfl) (e := Extern.MathFloatBits.float64frombits) (by kernel_rfl)]
  rfl

set_option maxHeartbeats 400000 in
theorem isNaN_any (b : Nat) (w : World) (hb : Dy.W b) :
    Calls Tryd.prog 55 #[.float .f64 b] w fun e w' => e = .returned (.bool (Dy.nan b)) ∧ w = w' := by
  have h := Dy.fne_self (b := b) hb
  go_enter Tryd.func55, Tryd.ntmps55
  go_wp2
  go_ret
  exact ⟨rfl, rfl⟩

set_option maxHeartbeats 400000 in
theorem signbit_any (b : Nat) (w : World) (hb : Dy.W b) :
    Calls Tryd.prog 57 #[.float .f64 b] w fun e w' => e = .returned (.bool (Dy.sgn b)) ∧ w = w' := by
  have hs : decide (wrap64 ↑b < 0) = Dy.sgn b := wrap_sgn hb
  go_enter Tryd.func57, Tryd.ntmps57
  go_wp2
  go_ret
  exact ⟨rfl, rfl⟩

set_option maxHeartbeats 400000 in
theorem abs_any (b : Nat) (w : World) (hb : Dy.W b) :
    Calls Tryd.prog 79 #[.float .f64 b] w fun e w' => e = .returned (.float .f64 (Dy.abs b)) ∧ w = w' := by
  have h := bits_abs hb
  go_enter Tryd.func79, Tryd.ntmps79
  go_wp2
  go_ret
  exact ⟨rfl, rfl⟩

set_option maxHeartbeats 400000 in
theorem isInf_any (b : Nat) (w : World) (hb : Dy.W b) :
    Calls Tryd.prog 56 #[.float .f64 b, .int .i64 0] w fun e w' => e = .returned (.bool (Dy.inf b)) ∧ w = w' := by
  have h2 := Dy.fgt_abs_max (b := b) hb
  go_enter Tryd.func56, Tryd.ntmps56
  go_wp2_with (go_at_call 79; refine (abs_any b _ hb).mono ?_; rintro e w' ⟨rfl, rfl⟩)
  go_ret
  exact ⟨rfl, rfl⟩

set_option maxHeartbeats 400000 in
theorem right_any (b : Nat) (w : World) (hb : Dy.W b) :
    Calls Tryd.prog 38 #[.float .f64 b] w fun e w' => e = .returned (.bool (Dy.right b)) ∧ w = w' := by
  have hr := Dy.right_parts (b := b) hb
  have hz := Dy.feq_zero (b := b) hb
  go_enter Tryd.func38, Tryd.ntmps38
  go_wp2_with (first | (go_at_call 55; refine (isNaN_any b _ hb).mono ?_; rintro e w' ⟨rfl, rfl⟩) | (go_at_call 56; refine (isInf_any b _ hb).mono ?_; rintro e w' ⟨rfl, rfl⟩) | (go_at_call 57; refine (signbit_any b _ hb).mono ?_; rintro e w' ⟨rfl, rfl⟩))
  all_goals (go_ret; refine ⟨ret_bool ?_, rfl⟩; rw [hr]; simp_all)
end Go.Proofs.YtinhbebjlbnejaaDoor

/- Walks: math/bits: Len64, LeadingZeros64, Mul64, Add64, Sub64. -/
namespace Go.Proofs.YtinhbebjlbnejaaDoor
open Go.RowKit

theorem len64_any (x : Nat) (w : World) (hx : Dy.W x) :
    Calls Tryd.prog 77 #[.int .u64 (x : Int)] w fun e w' => e = .returned (.int .i64 (Dy.blen x : Nat)) ∧ w = w' := by
  have h := hx.lt
  have c := len64_int (x : Int) w (by omega) (by omega)
  rw [Int.toNat_natCast, Dy.bitLen_blen h] at c
  exact c

theorem maskN (a : Nat) (ha : a < 18446744073709551616) : bits .and .u64 (a : Int) 4294967295 = ((a % 4294967296 : Nat) : Int) := by
  have h := bits_and_u64_nat a 4294967295 ha (by omega)
  have e : a &&& 4294967295 = a % 4294967296 := Nat.and_two_pow_sub_one_eq_mod a 32
  rw [e] at h
  exact h
theorem divN (a : Nat) : (a : Int) / 4294967296 = ((a / 4294967296 : Nat) : Int) := by omega
theorem mulN (a b : Nat) : (a : Int) * (b : Int) = ((a * b : Nat) : Int) := (Int.natCast_mul a b).symm
theorem addN (a b : Nat) : (a : Int) + (b : Int) = ((a + b : Nat) : Int) := (Int.natCast_add a b).symm
theorem wrapN (a : Nat) (ha : a < 18446744073709551616) : IntKind.u64.wrap (a : Int) = (a : Int) := by rw [IntKind.wrap_u64]; omega
theorem wrapM (a : Nat) : IntKind.u64.wrap (a : Int) = ((a % 18446744073709551616 : Nat) : Int) := by rw [IntKind.wrap_u64]; omega

set_option maxHeartbeats 1000000 in
theorem mul64_any (x y : Nat) (w : World) (hx' : Dy.W x) (hy' : Dy.W y) :
    Calls Tryd.prog 54 #[.int .u64 (x : Int), .int .u64 (y : Int)] w fun e w' => e = .returned (.tuple #[.int .u64 (Dy.hi64 (x * y) : Nat), .int .u64 (Dy.lo64 (x * y) : Nat)]) ∧ w = w' := by
  have hx : x < 18446744073709551616 := hx'.lt
  have hy : y < 18446744073709551616 := hy'.lt
  obtain ⟨bd, bt, bw, hhi⟩ := Lib.mul64_hi x y hx hy
  have ba := Lib.half_mul_le (a := x / 4294967296) (b := y / 4294967296) (by omega) (by omega)
  have bb := Lib.half_mul_le (a := x / 4294967296) (b := y % 4294967296) (by omega) (by omega)
  have bc := Lib.half_mul_le (a := x % 4294967296) (b := y / 4294967296) (by omega) (by omega)
  have ba' : x / 4294967296 * (y / 4294967296) < 18446744073709551616 := by omega
  have bb' : x / 4294967296 * (y % 4294967296) < 18446744073709551616 := by omega
  have bc' : x % 4294967296 * (y / 4294967296) < 18446744073709551616 := by omega
  have bh1 : x / 4294967296 * (y / 4294967296) + (x / 4294967296 * (y % 4294967296) + x % 4294967296 * (y % 4294967296) / 4294967296) / 4294967296 < 18446744073709551616 := by omega
  have bh : x / 4294967296 * (y / 4294967296) + (x / 4294967296 * (y % 4294967296) + x % 4294967296 * (y % 4294967296) / 4294967296) / 4294967296 + ((x / 4294967296 * (y % 4294967296) + x % 4294967296 * (y % 4294967296) / 4294967296) % 4294967296 + x % 4294967296 * (y / 4294967296)) / 4294967296 < 18446744073709551616 := by omega
  go_enter Tryd.func54, Tryd.ntmps54
  go_wp2
  simp only [maskN x hx, maskN y hy, divN, mulN, addN, wrapN _ bd, wrapN _ bb', wrapN _ bt, maskN _ bt, wrapN _ bc', wrapN _ bw, wrapN _ ba', wrapN _ bh1, wrapN _ bh, wrapM (x * y)]
  rw [hhi]
  go_ret2
  exact ⟨rfl, rfl⟩

end Go.Proofs.YtinhbebjlbnejaaDoor

/- Walks: whole numbers of 128 bits (package dir's wide). -/
namespace Go.Proofs.YtinhbebjlbnejaaDoor
open Go.RowKit

abbrev wv (h l : Nat) : Value := .agg #[.int .u64 (h : Int), .int .u64 (l : Int)]

@[go_sem] theorem run_add64a (x y : Nat) (w : World) : (callFunc 74 #[.int .u64 (x : Int), .int .u64 (y : Int), .int .u64 0]).run Tryd.prog w = .ok (.value (.tuple #[.int .u64 (Dy.lo64 (x + y) : Nat), .int .u64 (Dy.hi64 (x + y) : Nat)])) w := by
  rw [run_callFunc_extern Tryd.func74 (by kernel_rfl) (by kernel_rfl) (by kernel_rfl) (e := add64Entry) (by kernel_rfl)]
  rfl
@[go_sem] theorem run_add64b (x y u v : Nat) (w : World) (hu : Dy.W u) (hv : Dy.W v) : (callFunc 74 #[.int .u64 (x : Int), .int .u64 (y : Int), .int .u64 (Dy.hi64 (u + v) : Nat)]).run Tryd.prog w = .ok (.value (.tuple #[.int .u64 (Dy.lo64 (x + y + Dy.hi64 (u + v)) : Nat), .int .u64 (Dy.hi64 (x + y + Dy.hi64 (u + v)) : Nat)])) w := by
  rw [run_callFunc_extern Tryd.func74 (by kernel_rfl) (by kernel_rfl) (by kernel_rfl) (e := add64Entry) (by kernel_rfl)]
  have h := Dy.hi64_le hu hv
  generalize Dy.hi64 (u + v) = c at h ⊢
  have : c = 0 ∨ c = 1 := by omega
  rcases this with rfl | rfl <;> rfl

def sub64Entry : Array Value → Sem Value := fun args => do
  let (x, y, b) ← Extern.MathBitsCarry.three "Sub64" args
  pure (Extern.MathBitsCarry.pair ((x + Extern.MathBitsCarry.m64 - y - b) % Extern.MathBitsCarry.m64) (if x < y + b then 1 else 0))

@[go_sem] theorem run_sub64a (x y : Nat) (w : World) : (callFunc 75 #[.int .u64 (x : Int), .int .u64 (y : Int), .int .u64 0]).run Tryd.prog w = .ok (.value (.tuple #[.int .u64 (Dy.subl x y 0 : Nat), .int .u64 (Dy.subb x y 0 : Nat)])) w := by
  rw [run_callFunc_extern Tryd.func75 (by kernel_rfl) (by kernel_rfl) (by kernel_rfl) (e := sub64Entry) (by kernel_rfl)]
  rfl
@[go_sem] theorem run_sub64b (x y u v c : Nat) (w : World) : (callFunc 75 #[.int .u64 (x : Int), .int .u64 (y : Int), .int .u64 (Dy.subb u v c : Nat)]).run Tryd.prog w = .ok (.value (.tuple #[.int .u64 (Dy.subl x y (Dy.subb u v c) : Nat), .int .u64 (Dy.subb x y (Dy.subb u v c) : Nat)])) w := by
  rw [run_callFunc_extern Tryd.func75 (by kernel_rfl) (by kernel_rfl) (by kernel_rfl) (e := sub64Entry) (by kernel_rfl)]
  have h := Dy.subb_le u v c
  generalize Dy.subb u v c = c at h ⊢
  have : c = 0 ∨ c = 1 := by omega
  rcases this with rfl | rfl <;> rfl

theorem ret_int {k : IntKind} {a b : Int} (h : a = b) : Ending.returned (.int k a) = .returned (.int k b) := by rw [h]

set_option maxHeartbeats 400000 in
theorem wideIs_any (h l : Nat) (w : World) :
    Calls Tryd.prog 72 #[wv h l] w fun e w' => e = .returned (.bool (decide (Dy.wd h l ≠ 0))) ∧ Below w.heap.size w w' := by
  go_enter Tryd.func72, Tryd.ntmps72
  go_wp2
  go_ret
  exact ⟨ret_bool (by rw [Bool.eq_iff_iff]; simp [Dy.wd_eq_zero]), (Below.refl _ _).alloc (Nat.le_refl _) _⟩

set_option maxHeartbeats 400000 in
theorem wideSize_any (h l : Nat) (w : World) (hh : Dy.W h) (hl : Dy.W l) :
    Calls Tryd.prog 76 #[wv h l] w fun e w' => e = .returned (.int .i64 (Dy.blen (Dy.wd h l) : Nat)) ∧ Below w.heap.size w w' := by
  have hb := (Dy.blen_le (x := h) (k := 64)).2 hh.lt
  have hb2 := (Dy.blen_le (x := l) (k := 64)).2 hl.lt
  go_enter Tryd.func76, Tryd.ntmps76
  go_wp2_with (go_at_call 77; refine (len64_any _ _ (by assumption)).mono ?_; rintro e w' ⟨rfl, rfl⟩)
  · go_ret
    rename_i hp
    exact ⟨ret_int (by rw [Dy.blen_wd hl hp]; omega), (Below.refl _ _).alloc (Nat.le_refl _) _⟩
  · go_ret
    rename_i hp
    have h0 : h = 0 := by omega
    exact ⟨ret_int (by rw [h0, Dy.wd_zero]), (Below.refl _ _).alloc (Nat.le_refl _) _⟩

set_option maxHeartbeats 400000 in
theorem wideAdd_any (h l h' l' n m : Nat) (w : World) (a : Dy.Wide h l n) (b : Dy.Wide h' l' m) (hs : n + m < 2 ^ 128) :
    Calls Tryd.prog 51 #[wv h l, wv h' l'] w fun e w' => ∃ p q, e = .returned (wv p q) ∧ Dy.Wide p q (n + m) ∧ Below w.heap.size w w' := by
  have r := Dy.add_wide a b hs
  have a1 := a.hh; have a2 := a.hl; have b1 := b.hh; have b2 := b.hl
  clear a b hs
  go_enter Tryd.func51, Tryd.ntmps51
  go_wp2
  refine bodyPost_ret (v := wv _ _) (by simp [results, Tryd.results51, go_sem]) rfl ⟨_, _, rfl, r, ?_⟩
  exact ((((Below.refl _ _).alloc (Nat.le_refl _) _).alloc (by simp) _).alloc (by simp; omega) _)

set_option maxHeartbeats 400000 in
theorem wideSub_any (h l h' l' n m : Nat) (w : World) (a : Dy.Wide h l n) (b : Dy.Wide h' l' m) (hs : m ≤ n) :
    Calls Tryd.prog 52 #[wv h l, wv h' l'] w fun e w' => ∃ p q, e = .returned (wv p q) ∧ Dy.Wide p q (n - m) ∧ Below w.heap.size w w' := by
  have r := Dy.sub_wide a b hs
  clear a b hs
  go_enter Tryd.func52, Tryd.ntmps52
  go_wp2
  refine bodyPost_ret (v := wv _ _) (by simp [results, Tryd.results52, go_sem]) rfl ⟨_, _, rfl, r, ?_⟩
  exact ((((Below.refl _ _).alloc (Nat.le_refl _) _).alloc (by simp) _).alloc (by simp; omega) _)

end Go.Proofs.YtinhbebjlbnejaaDoor

/- Walks: shifts of whole numbers of 128 bits. -/
namespace Go.Proofs.YtinhbebjlbnejaaDoor
open Go.RowKit

theorem shlN (a j : Nat) : IntKind.u64.wrap ((a : Int) * 2 ^ j) = ((Dy.shl a j : Nat) : Int) := by
  rw [IntKind.wrap_u64]
  unfold Dy.shl Dy.lo64
  simp
theorem shrN (a j : Nat) : ((a : Int) / 2 ^ j) = ((Dy.shr a j : Nat) : Int) := by unfold Dy.shr; simp
theorem orN {a b : Nat} (ha : Dy.W a) (hb : Dy.W b) : bits BinOp.or IntKind.u64 (a : Int) (b : Int) = ((a ||| b : Nat) : Int) := u64_or_nat a b ha.lt hb.lt

set_option maxRecDepth 100000 in
set_option maxHeartbeats 1000000 in
theorem wideUp_nat (h l k : Nat) (w : World) (hh : Dy.W h) (hl : Dy.W l) (hk2 : k < 128) :
    Calls Tryd.prog 73 #[wv h l, .int .i64 (k : Int)] w fun e w' => ∃ p q, e = .returned (wv p q) ∧ Dy.Wide p q (Dy.wd h l * 2 ^ k % 2 ^ 128) ∧ Below w.heap.size w w' := by
  by_cases hk : 64 ≤ k
  · have r := Dy.up_great (h := h) (l := l) hk
    have e1 := shlN l (k - 64)
    go_enter Tryd.func73, Tryd.ntmps73
    go_wp2
    refine bodyPost_ret (v := wv _ _) (by simp [results, Tryd.results73, go_sem]) rfl ⟨_, _, rfl, r, ?_⟩
    exact ((Below.refl _ _).alloc (Nat.le_refl _) _).alloc (by simp) _
  · have hk' : k < 64 := by omega
    clear hk
    have r := Dy.up_small hh hl hk'
    have e1 := shlN h k
    have e2 := shlN l k
    have e3 := shrN l (64 - k)
    have e4 := orN (Dy.W_shl h k) (Dy.W_shr hl (64 - k))
    go_enter Tryd.func73, Tryd.ntmps73
    go_wp2
    go_region
    go_wp2
    refine bodyPost_ret (v := wv _ _) (by simp [results, Tryd.results73, go_sem]) rfl ⟨_, _, rfl, r, ?_⟩
    exact (((Below.refl _ _).alloc (Nat.le_refl _) _).alloc (by simp) _).drew

theorem wideUp_any (h l : Nat) (k : Int) (w : World) (hh : Dy.W h) (hl : Dy.W l) (h0 : 0 ≤ k) (hk2 : k < 128) :
    Calls Tryd.prog 73 #[wv h l, .int .i64 k] w fun e w' => ∃ p q, e = .returned (wv p q) ∧ Dy.Wide p q (Dy.wd h l * 2 ^ k.toNat % 2 ^ 128) ∧ Below w.heap.size w w' := by
  obtain ⟨n, rfl⟩ := Int.eq_ofNat_of_zero_le h0
  exact wideUp_nat h l n w hh hl (by omega)

theorem bcell {W w1 : World} (hb : Below W.heap.size W w1) : (∀ b o, b < W.heap.size → w1.cell? ⟨b, o, none⟩ = W.cell? ⟨b, o, none⟩) ∧ (∀ b o, b < W.heap.size → w1.frozen? ⟨b, o, none⟩ = W.frozen? ⟨b, o, none⟩) :=
  ⟨fun b o h => hb.cell (p := ⟨b, o, none⟩) h, fun b o h => hb.frozen (p := ⟨b, o, none⟩) h⟩

set_option maxRecDepth 100000 in
set_option maxHeartbeats 1000000 in
theorem wideDown_out (h l k : Nat) (w : World) (hh : Dy.W h) (hl : Dy.W l) (hk : 128 ≤ k) :
    Calls Tryd.prog 50 #[wv h l, .int .i64 (k : Int)] w fun e w' => ∃ p q, e = .returned (.tuple #[wv p q, .bool (Dy.lost (Dy.wd h l) k)]) ∧ Dy.Wide p q (Dy.wd h l / 2 ^ k) ∧ Below w.heap.size w w' := by
  have e1 := Dy.lost_out (Dy.wd_lt hh hl) hk
  have e2 : Dy.Wide 0 0 (Dy.wd h l / 2 ^ k) := by
    rw [Dy.div_out (Dy.wd_lt hh hl) hk]; exact ⟨by unfold Dy.W; omega, by unfold Dy.W; omega, rfl⟩
  have E1 := hid e1
  clear e1
  go_enter Tryd.func50, Tryd.ntmps50
  go_wp2_with (go_at_call 72; refine (wideIs_any _ _ _).mono ?_; rintro e w1 ⟨rfl, hb⟩; obtain ⟨hc, hf⟩ := bcell hb; have hz := hb.size; simp at hz)
  refine bodyPost_ret (v := .tuple #[wv 0 0, .bool (Dy.lost (Dy.wd h l) k)]) (by simp [results, Tryd.results50, go_sem, hc, E1.out]) rfl ⟨_, _, rfl, e2, ?_⟩
  exact ((((((Below.refl _ _).alloc (Nat.le_refl _) _).alloc (by simp) _).trans (hb.mono (by simp; omega))).setCell (by simp) _).setCell (by simp) _)

theorem ex_cell {w : World} {a : Addr} (h : (w.cell? a).isSome = true) : ∃ v, w.cell? a = some v := Option.isSome_iff_exists.1 h

set_option maxRecDepth 100000 in
set_option maxHeartbeats 1000000 in
theorem wideDown_great (h l k : Nat) (w : World) (hh : Dy.W h) (hl : Dy.W l) (hk : 64 ≤ k) (hk2 : k < 128) :
    Calls Tryd.prog 50 #[wv h l, .int .i64 (k : Int)] w fun e w' => ∃ p q, e = .returned (.tuple #[wv p q, .bool (Dy.lost (Dy.wd h l) k)]) ∧ Dy.Wide p q (Dy.wd h l / 2 ^ k) ∧ Below w.heap.size w w' := by
  have r := Dy.down_great hh hl hk
  have e1 := shrN h (k - 64)
  have HR := hid (fun p' q' (r2 : Dy.Wide p' q' (Dy.wd 0 (Dy.shr h (k - 64)) * 2 ^ k % 2 ^ 128)) => Dy.lost_back hh hl r r2)
  go_enter Tryd.func50, Tryd.ntmps50
  go_wp2
  have b0 : Below w.heap.size w (((w.alloc (Obj.cells #[Value.int IntKind.u64 ↑h, Value.int IntKind.u64 ↑l] 97)).alloc (Obj.cells #[Value.int IntKind.u64 0, Value.int IntKind.u64 0] 97)).alloc (Obj.cells #[Value.int IntKind.u64 0, Value.int IntKind.u64 ↑(Dy.shr h (k - 64))] 97)) :=
    ((((Below.refl _ _).alloc (Nat.le_refl _) _).alloc (by simp) _).alloc (by simp; omega) _)
  go_region_held3 (fun w' => w'.cell? ⟨w.heap.size, 0, none⟩ = some (.int .u64 h) ∧ w'.cell? ⟨w.heap.size, 1, none⟩ = some (.int .u64 l) ∧ w'.cell? ⟨w.heap.size + 1 + 1, 0, none⟩ = some (.int .u64 0) ∧ w'.cell? ⟨w.heap.size + 1 + 1, 1, none⟩ = some (.int .u64 (Dy.shr h (k - 64) : Nat)) ∧
      (∃ v, w'.cell? ⟨w.heap.size + 1, 0, none⟩ = some v) ∧ (∃ v, w'.cell? ⟨w.heap.size + 1, 1, none⟩ = some v) ∧ w'.frozen? ⟨w.heap.size + 1, 0, none⟩ = false ∧ w'.frozen? ⟨w.heap.size + 1, 1, none⟩ = false)
    (refine ⟨?_, ?_, ?_, ?_, ?_, ?_, ?_, ?_⟩ <;> first | (simp [go_sem]; done) | (simp [go_sem, *]; done) | (refine ex_cell ?_; simp [go_sem, *]; done))
    (first | (go_at_call 73; refine (wideUp_nat _ _ k _ r.hh r.hl hk2).mono ?_; rintro e w1 ⟨p', q', rfl, r2, hb⟩; obtain ⟨hc, hf⟩ := bcell hb; have hz := hb.size; simp at hz))
  go_wp2
  refine bodyPost_ret (v := .tuple #[wv 0 (Dy.shr h (k - 64)), .bool (Dy.lost (Dy.wd h l) k)]) (by simp [results, Tryd.results50, go_sem, hc, HR.out _ _ r2]) rfl ⟨_, _, rfl, r, ?_⟩
  exact ((b0.drew.trans (hb.mono (by simp; omega))).setCell (by simp) _).setCell (by simp) _

set_option maxRecDepth 100000 in
set_option maxHeartbeats 1000000 in
theorem wideDown_small (h l k : Nat) (w : World) (hh : Dy.W h) (hl : Dy.W l) (hk : k < 64) :
    Calls Tryd.prog 50 #[wv h l, .int .i64 (k : Int)] w fun e w' => ∃ p q, e = .returned (.tuple #[wv p q, .bool (Dy.lost (Dy.wd h l) k)]) ∧ Dy.Wide p q (Dy.wd h l / 2 ^ k) ∧ Below w.heap.size w w' := by
  have r := Dy.down_small hh hl hk
  have e1 := shrN h k
  have e2 := shrN l k
  have e3 := shlN h (64 - k)
  have e4 := orN (Dy.W_shr hl k) (Dy.W_shl h (64 - k))
  generalize hP : Dy.shr h k = P at *
  generalize hQ : (Dy.shr l k ||| Dy.shl h (64 - k)) = Q at *
  clear hP hQ
  have HR := hid (fun p' q' (r2 : Dy.Wide p' q' (Dy.wd P Q * 2 ^ k % 2 ^ 128)) => Dy.lost_back hh hl r r2)
  go_enter Tryd.func50, Tryd.ntmps50
  go_wp2
  go_region
  go_wp2
  have b0 : Below w.heap.size w (((w.alloc (Obj.cells #[Value.int IntKind.u64 ↑h, Value.int IntKind.u64 ↑l] 97)).alloc (Obj.cells #[Value.int IntKind.u64 0, Value.int IntKind.u64 0] 97)).alloc (Obj.cells #[Value.int IntKind.u64 ↑P, Value.int IntKind.u64 ↑Q] 97)) :=
    ((((Below.refl _ _).alloc (Nat.le_refl _) _).alloc (by simp) _).alloc (by simp; omega) _)
  go_region_held3 (fun w' => w'.cell? ⟨w.heap.size, 0, none⟩ = some (.int .u64 h) ∧ w'.cell? ⟨w.heap.size, 1, none⟩ = some (.int .u64 l) ∧ w'.cell? ⟨w.heap.size + 1 + 1, 0, none⟩ = some (.int .u64 P) ∧ w'.cell? ⟨w.heap.size + 1 + 1, 1, none⟩ = some (.int .u64 Q) ∧
      (∃ v, w'.cell? ⟨w.heap.size + 1, 0, none⟩ = some v) ∧ (∃ v, w'.cell? ⟨w.heap.size + 1, 1, none⟩ = some v) ∧ w'.frozen? ⟨w.heap.size + 1, 0, none⟩ = false ∧ w'.frozen? ⟨w.heap.size + 1, 1, none⟩ = false)
    (refine ⟨?_, ?_, ?_, ?_, ?_, ?_, ?_, ?_⟩ <;> first | (simp [go_sem]; done) | (simp [go_sem, *]; done) | (refine ex_cell ?_; simp [go_sem, *]; done))
    (first | (go_at_call 73; refine (wideUp_nat _ _ k _ r.hh r.hl (by omega)).mono ?_; rintro e w1 ⟨p', q', rfl, r2, hb⟩; obtain ⟨hc, hf⟩ := bcell hb; have hz := hb.size; simp at hz))
  go_wp2
  refine bodyPost_ret (v := .tuple #[wv P Q, .bool (Dy.lost (Dy.wd h l) k)]) (by simp [results, Tryd.results50, go_sem, hc, HR.out _ _ r2]) rfl ⟨_, _, rfl, r, ?_⟩
  exact ((b0.drew.drew.trans (hb.mono (by simp; omega))).setCell (by simp) _).setCell (by simp) _

theorem wideDown_any (h l : Nat) (k : Int) (w : World) (hh : Dy.W h) (hl : Dy.W l) (h0 : 0 ≤ k) :
    Calls Tryd.prog 50 #[wv h l, .int .i64 k] w fun e w' => ∃ p q, e = .returned (.tuple #[wv p q, .bool (Dy.lost (Dy.wd h l) k.toNat)]) ∧ Dy.Wide p q (Dy.wd h l / 2 ^ k.toNat) ∧ Below w.heap.size w w' := by
  obtain ⟨n, rfl⟩ := Int.eq_ofNat_of_zero_le h0
  by_cases h1 : n < 64
  · exact wideDown_small h l n w hh hl h1
  · by_cases h2 : n < 128
    · exact wideDown_great h l n w hh hl (by omega) h2
    · exact wideDown_out h l n w hh hl (by omega)

end Go.Proofs.YtinhbebjlbnejaaDoor

