/- Walks: math/bits: Len64, LeadingZeros64, Mul64, Add64, Sub64. -/
import Derived.Test.YtfjomcbbgnaaiaaWa
import Derived.Test.YtfjomcbbgnaaiaaWl
import Derived.Test.YtfjomcbbgnaaiaaDyE
import Derived.Lib.BitFns
import Derived.Lib.Mul64
import Derived.Laws.Bits64b
namespace Go.Proofs.Ytfjomcbbgnaaiaa
open Go.RowKit

theorem len64_any (x : Nat) (w : World) (hx : Dy.W x) :
    Calls Try.prog 92 #[.int .u64 (x : Int)] w fun e w' => e = .returned (.int .i64 (Dy.blen x : Nat)) ∧ w = w' := by
  have h := hx.lt
  have c := len64_int (x : Int) w (by omega) (by omega)
  rw [Int.toNat_natCast, Dy.bitLen_blen h] at c
  exact c

set_option maxHeartbeats 400000 in
theorem leadingZeros64_any (x : Nat) (w : World) (hx : Dy.W x) :
    Calls Try.prog 71 #[.int .u64 (x : Int)] w fun e w' => e = .returned (.int .i64 ((64 - Dy.blen x : Nat) : Int)) ∧ w = w' := by
  have hb := (Dy.blen_le (x := x) (k := 64)).2 hx.lt
  have e1 : ((64 : Int) - (Dy.blen x : Int)) = ((64 - Dy.blen x : Nat) : Int) := by omega
  go_enter Try.func71, Try.ntmps71
  go_wp2_with (go_at_call 92; refine (len64_any x _ hx).mono ?_; rintro e w' ⟨rfl, rfl⟩)
  go_ret
  exact ⟨rfl, rfl⟩

theorem maskN (a : Nat) (ha : a < 18446744073709551616) : bits .and .u64 (a : Int) 4294967295 = ((a % 4294967296 : Nat) : Int) := by
  have h := bits_and_u64_nat a 4294967295 ha (by omega)
  have e : a &&& 4294967295 = a % 4294967296 := Nat.and_two_pow_sub_one_eq_mod a 32
  rw [e] at h
  exact h
theorem divN (a : Nat) : (a : Int) / 4294967296 = ((a / 4294967296 : Nat) : Int) := by omega
theorem mulN (a b : Nat) : (a : Int) * (b : Int) = ((a * b : Nat) : Int) := (Int.natCast_mul a b).symm
theorem addN (a b : Nat) : (a : Int) + (b : Int) = ((a + b : Nat) : Int) := (Int.natCast_add a b).symm
theorem wrapN (a : Nat) (ha : a < 18446744073709551616) : IntKind.u64.wrap (a : Int) = (a : Int) := by rw [IntKind.wrap_u64]; omega
theorem wrapM (a : Nat) : IntKind.u64.wrap (a : Int) = ((a % 18446744073709551616 : Nat) : Int) := by rw [IntKind.wrap_u64]; omega

set_option maxHeartbeats 1000000 in
theorem mul64_any (x y : Nat) (w : World) (hx' : Dy.W x) (hy' : Dy.W y) :
    Calls Try.prog 55 #[.int .u64 (x : Int), .int .u64 (y : Int)] w fun e w' => e = .returned (.tuple #[.int .u64 (Dy.hi64 (x * y) : Nat), .int .u64 (Dy.lo64 (x * y) : Nat)]) ∧ w = w' := by
  have hx : x < 18446744073709551616 := hx'.lt
  have hy : y < 18446744073709551616 := hy'.lt
  obtain ⟨bd, bt, bw, hhi⟩ := Lib.mul64_hi x y hx hy
  have ba := Lib.half_mul_le (a := x / 4294967296) (b := y / 4294967296) (by omega) (by omega)
  have bb := Lib.half_mul_le (a := x / 4294967296) (b := y % 4294967296) (by omega) (by omega)
  have bc := Lib.half_mul_le (a := x % 4294967296) (b := y / 4294967296) (by omega) (by omega)
  have ba' : x / 4294967296 * (y / 4294967296) < 18446744073709551616 := by omega
  have bb' : x / 4294967296 * (y % 4294967296) < 18446744073709551616 := by omega
  have bc' : x % 4294967296 * (y / 4294967296) < 18446744073709551616 := by omega
  have bh1 : x / 4294967296 * (y / 4294967296) + (x / 4294967296 * (y % 4294967296) + x % 4294967296 * (y % 4294967296) / 4294967296) / 4294967296 < 18446744073709551616 := by omega
  have bh : x / 4294967296 * (y / 4294967296) + (x / 4294967296 * (y % 4294967296) + x % 4294967296 * (y % 4294967296) / 4294967296) / 4294967296 + ((x / 4294967296 * (y % 4294967296) + x % 4294967296 * (y % 4294967296) / 4294967296) % 4294967296 + x % 4294967296 * (y / 4294967296)) / 4294967296 < 18446744073709551616 := by omega
  go_enter Try.func55, Try.ntmps55
  go_wp2
  simp only [maskN x hx, maskN y hy, divN, mulN, addN, wrapN _ bd, wrapN _ bb', wrapN _ bt, maskN _ bt, wrapN _ bc', wrapN _ bw, wrapN _ ba', wrapN _ bh1, wrapN _ bh, wrapM (x * y)]
  rw [hhi]
  go_ret2
  exact ⟨rfl, rfl⟩

end Go.Proofs.Ytfjomcbbgnaaiaa
