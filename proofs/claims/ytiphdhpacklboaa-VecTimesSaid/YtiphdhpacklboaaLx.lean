/- A reckoning of programs by symbols: math.Ldexp. -/
import Derived.Test.YtiphdhpacklboaaVb
namespace Go.Proofs.Ytiphdhpacklboaa
open Go Go.RowKit
def nLdx (us : List U) : Bool := decide (-1000000 ≤ gI us 0 ∧ gI us 0 ≤ 1000000)
theorem W_ldx {b : Nat} (hb : Dy.W b) (e : Int) : Dy.W (Dy.ldx b e) := by
  unfold Dy.ldx
  split
  · rename_i h
    unfold Dy.W Dy.word
    have tp := Dy.top_eq
    have := Nat.min_le_right (Dy.nr (Dy.mag (b % 2 ^ 63) * 2 ^ e.toNat) (-e).toNat) Dy.top
    split <;> omega
  · exact hb
def ctLdx : Ct := ctP 2 [vf 0, vi .i64 1] (fun us _ => .f (Dy.ldx (gF us 0) (gI us 1))) 1 (vf 2) [⟨nLdx, [.v 1]⟩]
theorem ldx_ct : CtOk Try.prog 46 ctLdx := by
  refine ctP_ok (en Try.func46 rfl (by decide)) rfl rfl (fun us w vs hl hv hn => ?_) rfl
  match us, hl with
  | [u0, u1], _ =>
    obtain ⟨x, y, hx, hy, rfl⟩ := denL_cons.1 hv
    obtain ⟨x', y', hx', hy', rfl⟩ := denL_cons.1 hy
    rw [denL_nil.1 hy']
    obtain ⟨a1, e1, w1, rfl⟩ := den_fl hx
    obtain ⟨a2, e2, rfl⟩ := den_it hx'
    simp [E.ev] at e1 e2; subst e1 e2
    obtain ⟨xs, h1, h2⟩ := hn _ (List.mem_singleton.2 rfl)
    simp [evs, E.ev] at h1; subst h1
    have h3 : -1000000 ≤ a2 ∧ a2 ≤ 1000000 := of_decide_eq_true h2
    exact ⟨.float .f64 (Dy.ldx a1 a2), fl_den rfl (W_ldx w1 a2), (ldexp_any a1 a2 w w1 h3.1 h3.2).mono fun e w2 ⟨h1, h2⟩ => ⟨h1, by subst h2; exact Below.refl _ _⟩⟩
def tripU (r : (Nat × Nat × Nat) × Bool) (i : Nat) : U := match i with
  | 0 => .f r.1.1
  | 1 => .f r.1.2.1
  | 2 => .f r.1.2.2
  | _ => .b r.2
def unitT (a b c : Nat) : ((Nat × Nat) × (Nat × Nat) × (Nat × Nat)) × Int := if nR3 [.f a, .f b, .f c] = true then unitG a b c else (((0, 0), (0, 0), (0, 0)), 50)
def ctUnitT : Ct := ⟨3, [], [.agg [vf 0, vf 1, vf 2]], { binds := [⟨fun us i => vecU ((unitT (gF us 0) (gF us 1) (gF us 2))) i, 7, upto 0 3⟩], needs := [], val := .tup [.agg [vf 3, vf 4, vf 5, vf 6, vf 7, vf 8], vi .i64 9], upd := [] }⟩
theorem unitT_ct : CtOk Try.prog 15 ctUnitT := by
  refine ⟨fun β ρ w vs a b c d hv hm hb hn => ?_⟩
  obtain ⟨⟨us, h1, h2⟩, h3⟩ := hb
  match ρ, hm with
  | u0 :: u1 :: u2 :: l, _ =>
    simp [evs, upto, E.ev] at h1
    subst h1
    have hF := denL_facts [.agg [vf 0, vf 1, vf 2]] hv
    simp [FactsL, Facts] at hF
    obtain ⟨⟨a1, rfl, w1⟩, ⟨a2, rfl, w2⟩, ⟨a3, rfl, w3⟩⟩ := hF
    have hu : unitT a1 a2 a3 = if nR3 [.f a1, .f a2, .f a3] = true then unitG a1 a2 a3 else (((0, 0), (0, 0), (0, 0)), 50) := rfl
    by_cases h : nR3 [.f a1, .f a2, .f a3] = true
    · rw [if_pos h] at hu
      refine (ctUnit_ok.call β _ w vs a b c d hv (by simp; exact Nat.le_add_left 3 _) ⟨⟨[.f a1, .f a2, .f a3], by simp [evs, upto, E.ev], fun i hi => ?_⟩, h3⟩ (fun n hn => ?_)).mono fun e w' ⟨β', v, p, q⟩ => ⟨β', v, ⟨p.os, p.tape, p.output, p.size, p.old, p.upd, p.new⟩, q⟩
      · exact (h2 i hi).trans (show some (vecU (unitT a1 a2 a3) i) = some (vecU (unitG a1 a2 a3) i) by rw [hu])
      · have hn' := List.mem_singleton.1 hn
        subst hn'
        exact ⟨[.f a1, .f a2, .f a3], by simp [evs, E.ev], h⟩
    · rw [if_neg h] at hu
      have hz : ∀ i, i < 7 → (U.f a1 :: U.f a2 :: U.f a3 :: l)[3 + i]? = some (vecU (((0, 0), (0, 0), (0, 0)), 50) i) := fun i hi => (h2 i hi).trans (show some (vecU (unitT a1 a2 a3) i) = some (vecU (((0, 0), (0, 0), (0, 0)), 50) i) by rw [hu])
      have hbad : nBad3 [.f a1, .f a2, .f a3] = true := by
        have e1 : nR3 [.f a1, .f a2, .f a3] = (Dy.right a1 && Dy.right a2 && Dy.right a3) := rfl
        have e2 : nBad3 [.f a1, .f a2, .f a3] = !(Dy.right a1 && (Dy.right a2 && Dy.right a3)) := rfl
        rw [e1] at h; rw [e2]
        revert h
        cases Dy.right a1 <;> cases Dy.right a2 <;> cases Dy.right a3 <;> simp
      refine (ctUnitBad_ok.call β _ w vs a b c d hv (by simp; exact Nat.le_add_left 3 _) trivial (fun n hn => ?_)).mono fun e w' ⟨β', v, p, q, r⟩ => ⟨β', v, ⟨p.os, p.tape, p.output, p.size, p.old, p.upd, p.new⟩, ?_, r⟩
      · have hn' := List.mem_singleton.1 hn
        subst hn'
        exact ⟨[.f a1, .f a2, .f a3], by simp [evs, upto, E.ev], hbad⟩
      · rw [← q]
        exact eqV_den β' _ _ ⟨⟨hz 0 (by decide), hz 1 (by decide), hz 2 (by decide), hz 3 (by decide), hz 4 (by decide), hz 5 (by decide), trivial⟩, ⟨rfl, hz 6 (by decide)⟩, trivial⟩
def lx0 : List (Nat × Ct) := (15, ctUnitT) :: (46, ctLdx) :: vx14
theorem lx0_ok : AllOk Try.prog lx0 := ⟨unitT_ct, ldx_ct, vx14_ok⟩
end Go.Proofs.Ytiphdhpacklboaa
