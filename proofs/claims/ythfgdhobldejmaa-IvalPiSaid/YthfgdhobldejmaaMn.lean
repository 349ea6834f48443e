/- Walks: package ival: two.all, of any two intervals whose ends' results are right. -/
import Derived.Test.YthfgdhobldejmaaMm
namespace Go.Proofs.Ythfgdhobldejmaa
open Go.RowKit

theorem all_any (K : Nat) (o : Nat → Nat → Bool → Nat × Int) (a b : Nat × Nat) (w : World) (ha : Dy.WW a) (hb : Dy.WW b) (hK : Five K) (H : Hid (OpC K o))
    (G : ∀ x y, (x = a.1 ∨ x = a.2) → (y = b.1 ∨ y = b.2) → (Dy.iEnds (o x y false) (o x y true)).2 = 0 → Dy.Good (Dy.iEnds (o x y false) (o x y true))) :
    Calls Try.prog 55 #[.func (Fn.func K) #[] #[], iv a, iv b] w fun e w' => e = .returned (.tuple #[iv (Dy.iAll o a b).1, .int .i64 (Dy.iAll o a b).2]) ∧ Below w.heap.size w w' := by
  have gp := G a.1 b.1 (Or.inl rfl) (Or.inl rfl)
  have gq := G a.1 b.2 (Or.inl rfl) (Or.inr rfl)
  have gr := G a.2 b.1 (Or.inr rfl) (Or.inl rfl)
  have gs := G a.2 b.2 (Or.inr rfl) (Or.inr rfl)
  have A0 := all_p K o a b w ha hb hK H
  have A1 := all_e1 K o a.1 a.2 b.1 b.2 w ha.1 ha.2 hb.1 hb.2 hK H
  have A2 := all_e2 K o a.1 a.2 b.1 b.2 w ha.1 ha.2 hb.1 hb.2 hK H
  have A3 := all_e3 K o a.1 a.2 b.1 b.2 w ha.1 ha.2 hb.1 hb.2 hK H
  have A4 := all_ok K o a.1 a.2 b.1 b.2 w ha.1 ha.2 hb.1 hb.2 hK H
  unfold Dy.iAll
  dsimp only
  generalize Dy.iEnds (o a.1 b.1 false) (o a.1 b.1 true) = p at *
  generalize Dy.iEnds (o a.1 b.2 false) (o a.1 b.2 true) = q at *
  generalize Dy.iEnds (o a.2 b.1 false) (o a.2 b.1 true) = r at *
  generalize Dy.iEnds (o a.2 b.2 false) (o a.2 b.2 true) = s at *
  obtain ⟨p, pe⟩ := p
  obtain ⟨q, qe⟩ := q
  obtain ⟨r, re⟩ := r
  obtain ⟨s, se⟩ := s
  dsimp only at *
  by_cases p0 : pe = 0
  · subst p0
    by_cases q0 : qe = 0
    · subst q0
      by_cases r0 : re = 0
      · subst r0
        by_cases s0 : se = 0
        · subst s0
          rw [if_neg (by omega), if_neg (by omega), if_neg (by omega), if_neg (by omega)]
          exact A4 p q r s rfl rfl rfl rfl (gp rfl) (gq rfl) (gr rfl) (gs rfl)
        · rw [if_neg (by omega), if_neg (by omega), if_neg (by omega), if_pos s0]
          exact A3 p q r s.1 s.2 se rfl rfl rfl rfl s0 (gp rfl) (gq rfl) (gr rfl)
      · rw [if_neg (by omega), if_neg (by omega), if_pos r0]
        exact A2 p q r.1 r.2 re rfl rfl rfl r0 (gp rfl) (gq rfl)
    · rw [if_neg (by omega), if_pos q0]
      exact A1 p q.1 q.2 qe rfl rfl q0 (gp rfl)
  · rw [if_pos p0]
    exact A0 (p, pe) rfl p0
end Go.Proofs.Ythfgdhobldejmaa
