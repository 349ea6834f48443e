/- Contracts: Neg of any interval, ival's and burnishref02's. -/
import Derived.Test.YtkhplflbcgjkcaaGreatUo
import Derived.Test.YtkhplflbcgjkcaaGreatMa
namespace Go.Proofs.YtkhplflbcgjkcaaGreat
open Go Go.RowKit
theorem negT_eq (c : Int) {a : Nat × Nat} (ha : Dy.WW a) : negT c a = Dy.cNeg c a := by
 unfold negT Dy.cNeg
 refine off_any (fun e => ((minusT a.2, minusT a.1), e)) fun _ h2 => ?_
 obtain ⟨a1, a2, _⟩ := Dy.ivR_of h2
 rw [minusT_eq ha.2 a2, minusT_eq ha.1 a1]; rfl
theorem cNegAll_ct : CtOk Tryz.prog 72 (ctC1 Dy.cNeg) := ctC1_ok (en Tryz.func72 rfl (by decide)) (fun _ _ ha => (Dy.good_neg ha).1) calNeg_all
theorem negT_ct : CtOk Tryz.prog 81 (ctC1 Dy.cNeg) := ctC1_swap ctNegT_ok fun c a ha => negT_eq c ha
def mb0 : List (Nat × Ct) := (72, ctC1 Dy.cNeg) :: (81, ctC1 Dy.cNeg) :: uo8
theorem mb0_ok : AllOk Tryz.prog mb0 := ⟨cNegAll_ct, negT_ct, uo8_ok⟩
end Go.Proofs.YtkhplflbcgjkcaaGreat
