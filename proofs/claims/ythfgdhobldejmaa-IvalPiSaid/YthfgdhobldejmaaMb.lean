/- Walks: package ival: what is an interval; its parts. -/
import Derived.Test.YthfgdhobldejmaaMa
import Derived.RegionTactic
import Derived.Deep.RegionHeld3
namespace Go.Proofs.Ythfgdhobldejmaa
open Go.RowKit

@[go_sem] theorem run_store_float {P : Program} {w : World} {a : Addr} {m : Mode} (k : FloatKind) (b : Nat) : (store a (.float k b) m).run P w = stored P w a (.float k b) m := run_store P w a _ m rfl

set_option maxHeartbeats 1000000 in
theorem ivRight_any (a : Nat × Nat) (w : World) (ha : Dy.WW a) :
    Calls Try.prog 17 #[iv a] w fun e w' => e = .returned (.bool (Dy.ivR a)) ∧ Below w.heap.size w w' := by
  obtain ⟨lo, hi⟩ := a
  obtain ⟨h1, h2⟩ := ha
  have h1 : Dy.W lo := h1
  have h2 : Dy.W hi := h2
  cases r1 : Dy.right lo
  · have e : Dy.ivR (lo, hi) = false := by unfold Dy.ivR; rw [show Dy.right (lo, hi).1 = false from r1]; rfl
    rw [e]
    clear e
    go_enter Try.func17, Try.ntmps17
    go_wp2_with (go_at_call 47; refine (right_any _ _ (by assumption)).mono ?_; rintro e w' ⟨rfl, rfl⟩)
    go_ret
    exact ⟨rfl, (Below.refl _ _).alloc (Nat.le_refl _) _⟩
  · cases r2 : Dy.right hi
    · have e : Dy.ivR (lo, hi) = false := by unfold Dy.ivR; rw [show Dy.right (lo, hi).2 = false from r2, Bool.and_false]; rfl
      rw [e]
      clear e
      go_enter Try.func17, Try.ntmps17
      go_wp2_with (go_at_call 47; refine (right_any _ _ (by assumption)).mono ?_; rintro e w' ⟨rfl, rfl⟩)
      go_ret
      exact ⟨rfl, (Below.refl _ _).alloc (Nat.le_refl _) _⟩
    · have e : Dy.ivR (lo, hi) = (Dy.flt lo hi || Dy.feq lo hi) := by
        rw [Dy.fle_dec h1 h2 r1 r2]; unfold Dy.ivR
        rw [show Dy.right (lo, hi).1 = true from r1, show Dy.right (lo, hi).2 = true from r2]; rfl
      rw [e]
      clear e
      go_enter Try.func17, Try.ntmps17
      go_wp2_with (go_at_call 47; refine (right_any _ _ (by assumption)).mono ?_; rintro e w' ⟨rfl, rfl⟩)
      go_ret
      exact ⟨rfl, (Below.refl _ _).alloc (Nat.le_refl _) _⟩

/-- The error of a calculator that lies in memory. -/
theorem calErr_any (c : Nat) (err : Int) (w : World) (h : Cal c err w) :
    Calls Try.prog 30 #[.pointer (some ⟨c, 0, none⟩)] w fun e w' => e = .returned (.int .i64 err) ∧ w = w' := by
  have hc := h.cell
  clear h
  go_enter Try.func30, Try.ntmps30
  go_wp2
  go_ret
  exact ⟨rfl, rfl⟩

/-- Of: one number. -/
theorem ivOf_any (x : Nat) (w : World) (hx : Dy.W x) :
    Calls Try.prog 57 #[.float .f64 x] w fun e w' => e = .returned (.tuple #[iv (if Dy.right x then ((x, x), (0 : Int)) else Dy.ivNo 13).1, .int .i64 (if Dy.right x then ((x, x), (0 : Int)) else Dy.ivNo 13).2]) ∧ Below w.heap.size w w' := by
  cases r : Dy.right x
  · go_enter Try.func57, Try.ntmps57
    go_wp2_with (go_at_call 47; refine (right_any _ _ (by assumption)).mono ?_; rintro e w' ⟨rfl, rfl⟩)
    refine bodyPost_ret (v := .tuple #[iv (0, 0), .int .i64 13]) (by simp [results, Try.results57, go_sem]) rfl ⟨rfl, ?_⟩
    exact (Below.refl _ _).alloc (Nat.le_refl _) _
  · go_enter Try.func57, Try.ntmps57
    go_wp2_with (go_at_call 47; refine (right_any _ _ (by assumption)).mono ?_; rintro e w' ⟨rfl, rfl⟩)
    refine bodyPost_ret (v := .tuple #[iv (x, x), .int .i64 0]) (by simp [results, Try.results57, go_sem]) rfl ⟨rfl, ?_⟩
    exact (Below.refl _ _).alloc (Nat.le_refl _) _

/-- Hull, of right intervals. -/
theorem ivHull_any (a b : Nat × Nat) (w : World) (ha : Dy.WW a) (hb : Dy.WW b) (ra : Dy.ivR a = true) (rb : Dy.ivR b = true) :
    Calls Try.prog 20 #[iv a, iv b] w fun e w' => e = .returned (iv (Dy.iHull a b)) ∧ Below w.heap.size w w' := by
  obtain ⟨a1, a2, _⟩ := Dy.ivR_of ra
  obtain ⟨b1, b2, _⟩ := Dy.ivR_of rb
  have hmin := fun ats t w => run_min (P := Try.prog) a.1 b.1 ats t w ha.1 hb.1 a1 b1
  have hmax := fun ats t w => run_max (P := Try.prog) a.2 b.2 ats t w ha.2 hb.2 a2 b2
  unfold Dy.iHull
  generalize Dy.dmin a.1 b.1 = p at *
  generalize Dy.dmax a.2 b.2 = q at *
  obtain ⟨alo, ahi⟩ := a
  obtain ⟨blo, bhi⟩ := b
  dsimp only at *
  clear ha hb ra rb a1 a2 b1 b2
  go_enter Try.func20, Try.ntmps20
  go_wp2
  refine bodyPost_ret (v := iv (p, q)) (by simp [results, Try.results20, go_sem]) rfl ⟨rfl, ?_⟩
  exact (((Below.refl _ _).alloc (Nat.le_refl _) _).alloc (by simp) _).alloc (by simp; omega) _
end Go.Proofs.Ythfgdhobldejmaa
