/- Walks: calls that make memory, one behind the other; min, max; comparisons of literals. -/
import Derived.Test.YtinhbebjlbnejaaDoorKf
import Derived.Test.YtinhbebjlbnejaaDoorKb
namespace Go.Proofs.YtinhbebjlbnejaaDoor
open Go.RowKit

theorem W_lit {n : Nat} (h : n < 18446744073709551616) : Dy.W n := h

theorem eq0 : Dy.feq 4607182418800017408 4607182418800017408 = true := by decide +kernel

theorem eq1 : Dy.feq 4607182418800017409 4607182418800017409 = true := by decide +kernel

theorem eq2 : Dy.feq 4624633867356078080 4624633867356078080 = true := by decide +kernel

theorem eq3 : Dy.feq 4599676419421066581 4599676419421066581 = true := by decide +kernel

theorem eq4 : Dy.feq 4599676419421066582 4599676419421066582 = true := by decide +kernel

theorem eq5 : Dy.feq 4609047870845172684 4609047870845172684 = true := by decide +kernel

theorem eq6 : Dy.feq 4609047870845172685 4609047870845172685 = true := by decide +kernel

theorem eq7 : Dy.feq 0 0 = true := by decide +kernel

theorem eq8 : Dy.feq 1 1 = true := by decide +kernel

theorem eq9 : Dy.feq 9218868437227405311 9218868437227405311 = true := by decide +kernel

theorem eq10 : Dy.feq 9223372036854775809 9223372036854775809 = true := by decide +kernel

theorem chain {P : Program} {f : FuncId} {args : Array Value} {r : Ending} {w0 w1 : World}
    (A : Hid (∀ w, Calls P f args w fun e w' => e = r ∧ Below w.heap.size w w')) (hB : Below w0.heap.size w0 w1) :
    Calls P f args w1 fun e w' => e = r ∧ Below w0.heap.size w0 w' :=
  (A.out w1).mono fun _ _ ⟨h1, h2⟩ => ⟨h1, hB.trans (h2.mono hB.size)⟩

theorem order_right {a b : Nat} (ha : Dy.W a) (hb : Dy.W b) (ra : Dy.right a = true) (rb : Dy.right b = true) : FloatKind.f64.format.order a b = some (compare (Dy.dec a) (Dy.dec b)) := by
  have e := Dy.order_eq ha.lt hb.lt
  rw [Dy.right_nan ra, Dy.right_nan rb] at e
  exact e

theorem dec_inj {a b : Nat} (ha : Dy.W a) (hb : Dy.W b) (ra : Dy.right a = true) (rb : Dy.right b = true) (h : Dy.dec a = Dy.dec b) : a = b := by
  rw [← Dy.enc_of_dec ha ra, ← Dy.enc_of_dec hb rb, h]

theorem run_min {P : Program} (a b : Nat) (ats : Array TypeId) (t : TypeId) (w : World) (ha : Dy.W a) (hb : Dy.W b) (ra : Dy.right a = true) (rb : Dy.right b = true) :
    (Builtin.min_ ats t #[.float .f64 a, .float .f64 b]).run P w = .ok (.float .f64 (Dy.dmin a b)) w := by
  have e := order_right ha hb ra rb
  have hi := dec_inj ha hb ra rb
  by_cases h1 : Dy.dec a < Dy.dec b
  · rw [Dy.cmp_int, if_pos h1] at e
    simp [Builtin.min_, Builtin.min2, e, Dy.dmin, if_neg (show ¬ (Dy.dec b < Dy.dec a) by omega), go_sem]
  · by_cases h2 : Dy.dec a = Dy.dec b
    · rw [Dy.cmp_int, if_neg h1, if_pos h2] at e
      obtain rfl := hi h2
      simp [Builtin.min_, Builtin.min2, e, Dy.dmin, go_sem]
    · rw [Dy.cmp_int, if_neg h1, if_neg h2] at e
      simp [Builtin.min_, Builtin.min2, e, Dy.dmin, if_pos (show Dy.dec b < Dy.dec a by omega), go_sem]

theorem run_max {P : Program} (a b : Nat) (ats : Array TypeId) (t : TypeId) (w : World) (ha : Dy.W a) (hb : Dy.W b) (ra : Dy.right a = true) (rb : Dy.right b = true) :
    (Builtin.max_ ats t #[.float .f64 a, .float .f64 b]).run P w = .ok (.float .f64 (Dy.dmax a b)) w := by
  have e := order_right ha hb ra rb
  have hi := dec_inj ha hb ra rb
  by_cases h1 : Dy.dec a < Dy.dec b
  · rw [Dy.cmp_int, if_pos h1] at e
    simp [Builtin.max_, Builtin.max2, e, Dy.dmax, if_pos h1, go_sem]
  · by_cases h2 : Dy.dec a = Dy.dec b
    · rw [Dy.cmp_int, if_neg h1, if_pos h2] at e
      obtain rfl := hi h2
      simp [Builtin.max_, Builtin.max2, e, Dy.dmax, go_sem]
    · rw [Dy.cmp_int, if_neg h1, if_neg h2] at e
      simp [Builtin.max_, Builtin.max2, e, Dy.dmax, if_neg h1, go_sem]

end Go.Proofs.YtinhbebjlbnejaaDoor
