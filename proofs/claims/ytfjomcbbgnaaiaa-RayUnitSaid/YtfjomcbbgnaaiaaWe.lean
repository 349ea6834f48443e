/- A law that the kit has not: == and != of two arrays of two words. -/
import Derived.Test.YtfjomcbbgnaaiaaRows
import Derived.WalkKit
import Derived.WalkLawsBesides
namespace Go
section
variable {P : Program} (w : World)

theorem run_equalIn_u64 (d : Nat) {e : TypeId} (a b : Int) (he : P.underlying e = some (.int .u64)) :
    (Op.equalIn (d + 1) e (.int .u64 a) (.int .u64 b)).run P w = .ok (a == b) w := by
  simp [Op.equalIn, run_underlying he]

theorem run_equalIn_pair (d : Nat) {t e : TypeId} (a b a' b' : Int) (ht : P.underlying t = some (.array 2 e)) (he : P.underlying e = some (.int .u64))
    (hs : ∀ w, (sizeOf e).run P w = .ok 1 w) (hg : ∀ w, (isAgg e).run P w = .ok false w) :
    (Op.equalIn (d + 2) t (.agg #[.int .u64 a, .int .u64 b]) (.agg #[.int .u64 a', .int .u64 b'])).run P w = .ok (a == a' && b == b') w := by
  rw [Op.equalIn]
  simp only [Sem.run_bind, run_underlying ht, Result.andThen_ok]
  simp only [Std.Legacy.Range.forIn_eq_forIn_range', Std.Legacy.Range.size]
  simp [List.range', run_equalIn_u64 _ _ _ _ he, go_sem, hs, hg]
  cases h1 : (a == a') <;> cases h2 : (b == b') <;> simp_all
end
end Go
namespace Go.Proofs.Ytfjomcbbgnaaiaa
@[go_sem] theorem run_eq_wide (a b a' b' : Int) (w : World) :
    (Op.equalIn 10000 65 (.agg #[.int .u64 a, .int .u64 b]) (.agg #[.int .u64 a', .int .u64 b'])).run Try.prog w = .ok (a == a' && b == b') w :=
  run_equalIn_pair (e := 50) w 9998 a b a' b' (by kernel_rfl) (by kernel_rfl) (fun w => by kernel_rfl) (fun w => by kernel_rfl)
@[go_sem] theorem run_eq_words (a b a' b' : Int) (w : World) :
    (Op.equalIn 10000 55 (.agg #[.int .u64 a, .int .u64 b]) (.agg #[.int .u64 a', .int .u64 b'])).run Try.prog w = .ok (a == a' && b == b') w :=
  run_equalIn_pair (e := 50) w 9998 a b a' b' (by kernel_rfl) (by kernel_rfl) (fun w => by kernel_rfl) (fun w => by kernel_rfl)
end Go.Proofs.Ytfjomcbbgnaaiaa
