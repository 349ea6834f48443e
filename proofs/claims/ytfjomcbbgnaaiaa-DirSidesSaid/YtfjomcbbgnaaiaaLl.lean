/- Walks: the law DirSides, its cases joined. -/
import Derived.Test.YtfjomcbbgnaaiaaLi
import Derived.Test.YtfjomcbbgnaaiaaLj
import Derived.Test.YtfjomcbbgnaaiaaLk
namespace Go.Proofs.Ytfjomcbbgnaaiaa
open Go.RowKit

theorem sqrt_neg {a : Nat} (ha : Dy.W a) (ra : Dy.right a = true) (h : Dy.dec a < 0) : Ieee.double.sqrt a = none := by
  obtain ⟨m, e, r1, m1⟩ := Dy.read_num ha.lt (Dy.right_fin ra)
  have hs := (Dy.sgn_dec ha ra).2 h
  have hm : m ≠ 0 := by
    intro h0
    rw [h0, Nat.zero_mul] at m1
    have hv := Dy.V_lt h
    rw [Dy.V_dec ha.lt, hs, m1, Dy.V_zero] at hv
    simp at hv
  unfold Ieee.Format.sqrt
  rw [r1, hs]
  unfold Ieee.Datum.root
  dsimp only
  rw [if_neg hm, if_pos rfl]
  rfl

/-- A number above or below 0, by 0: infinite. -/
theorem div_zero {a : Nat} (ha : Dy.W a) (ra : Dy.right a = true) (h0 : a ≠ 0) : ∃ n, Ieee.double.div a 0 = some n := by
  obtain ⟨m, e, r1, m1⟩ := Dy.read_num ha.lt (Dy.right_fin ra)
  obtain ⟨n, f, r2, m2⟩ := Dy.read_num Dy.W_zero.lt (Dy.right_fin Dy.right_zero)
  have hn : n = 0 := by
    have e0 : Dy.mag (0 % 2 ^ 63) = 0 := by decide
    rw [e0] at m2
    rcases Nat.mul_eq_zero.1 m2.symm with h | h
    · exact h
    · have := Nat.two_pow_pos f; omega
  have hm : m ≠ 0 := by
    intro hm
    rw [hm, Nat.zero_mul] at m1
    have hp : 0 < a % 2 ^ 63 := by
      have hr := ra
      unfold Dy.right at hr; rw [decide_eq_true_eq] at hr
      have := ha.lt
      omega
    have := Dy.mag_lt hp
    rw [Dy.mag_zero] at this; omega
  unfold Ieee.Format.div
  rw [r1, r2]
  unfold Ieee.Datum.quotient
  dsimp only
  rw [if_pos hn, if_neg hm]
  exact ⟨_, rfl⟩

set_option maxRecDepth 100000 in
set_option maxHeartbeats 1000000 in
theorem dirSides_walk (a b : Nat) (w : World) (ha : Dy.W a) (hb : Dy.W b) :
    Calls Try.prog 10 #[.float .f64 a, .float .f64 b] w fun e w' => e = .returned (.bool true) ∧ Below w.heap.size w w' := by
  by_cases hr : Dy.right a = true ∧ Dy.right b = true
  · obtain ⟨ra, rb⟩ := hr
    obtain ⟨n0, p0, s0⟩ := Dy.side_add ha hb ra rb
    obtain ⟨n1, p1, s1⟩ := Dy.side_sub ha hb ra rb
    obtain ⟨n2, p2, s2⟩ := Dy.side_mul ha hb ra rb
    have e3 : b = 0 → Dy.dDiv a b false = (0, 11) ∧ Dy.dDiv a b true = (0, 11) ∧ Dy.fne b 0 = false := by
      intro h
      subst h
      refine ⟨?_, ?_, by decide +kernel⟩ <;> (unfold Dy.dDiv; rw [ra, rb]; rfl)
    have e4 : Dy.dec a < 0 → Dy.dSqrt a false = (0, 12) ∧ Dy.dSqrt a true = (0, 12) ∧ (Dy.fgt a 0 || Dy.feq a 0) = false := by
      intro h
      have g1 := Dy.dSqrt_neg (up := false) (Dy.ok_dec ha ra) h
      have g2 := Dy.dSqrt_neg (up := true) (Dy.ok_dec ha ra) h
      rw [Dy.enc_of_dec ha ra] at g1 g2
      refine ⟨g1, g2, ?_⟩
      rw [Dy.fge_dec ha Dy.W_zero ra Dy.right_zero, Dy.dec_zero]; exact decide_eq_false (by omega)
    by_cases hz : a = 0 ∧ b = 0
    · obtain ⟨rfl, rfl⟩ := hz
      obtain ⟨n4, p4, s4⟩ := Dy.side_sqrt ha ra (by rw [Dy.dec_zero]; omega)
      exact sides_v3 0 0 n0 n1 n2 n4 w ra rb ha hb p0 p1 p2 (by decide +kernel) p4 s0 s1 s2 (e3 rfl) s4
    · have hd : ∃ n3, Ieee.double.div a b = some n3 ∧ (Dy.Side (Dy.dDiv a b false) (Dy.dDiv a b true) n3 ∨ Dy.dDiv a b false = (0, 11) ∧ Dy.dDiv a b true = (0, 11) ∧ Dy.fne b 0 = false) := by
        by_cases hb0 : b = 0
        · have h3 := e3 hb0
          subst hb0
          obtain ⟨n, hn⟩ := div_zero ha ra (fun h => hz ⟨h, rfl⟩)
          exact ⟨n, hn, Or.inr h3⟩
        · obtain ⟨n, hn, hs⟩ := Dy.side_div ha hb ra rb hb0
          exact ⟨n, hn, Or.inl hs⟩
      obtain ⟨n3, p3, s3⟩ := hd
      by_cases h4 : Dy.dec a < 0
      · exact sides_v2 a b n0 n1 n2 n3 w ha hb ra rb p0 p1 p2 p3 (sqrt_neg ha ra h4) s0 s1 s2 s3 (e4 h4)
      · obtain ⟨n4, p4, s4⟩ := Dy.side_sqrt ha ra h4
        exact sides_v1 a b n0 n1 n2 n3 n4 w ha hb ra rb p0 p1 p2 p3 p4 s0 s1 s2 s3 s4
  · have AW := awakes
    have hc : Dy.right a = false ∨ Dy.right a = true ∧ Dy.right b = false := by
      revert hr
      generalize Dy.right a = x
      generalize Dy.right b = y
      cases x <;> cases y <;> decide
    clear hr
    rcases hc with h | ⟨h, h'⟩
    all_goals
      go_enter Try.func10, Try.ntmps10
      go_wp2_with (first | (go_at_call 25; refine (right_any _ _ (by assumption)).mono ?_; rintro e w' ⟨rfl, rfl⟩) | (go_at_call 22; refine (AW.out _).mono ?_; rintro e' w5 ⟨rfl, b5⟩))
      go_ret
      exact ⟨rfl, (((Below.refl _ _).alloc (Nat.le_refl _) _).alloc (by simp) _).trans (b5.mono (by simp; omega))⟩
end Go.Proofs.Ytfjomcbbgnaaiaa
