/- Walks: dir.Next. -/
import Derived.Test.YtfjomcbbgnaaiaaWi
import Derived.Test.YtfjomcbbgnaaiaaDyK
namespace Go.Proofs.Ytfjomcbbgnaaiaa
open Go.RowKit

set_option maxRecDepth 100000 in
set_option maxHeartbeats 2000000 in
theorem next_any (b : Nat) (up : Bool) (w : World) (hb : Dy.W b) :
    Calls Try.prog 28 #[.float .f64 b, .bool up] w fun e w' => e = .returned (.tuple #[.float .f64 (Dy.dNext b up).1, .int .i64 (Dy.dNext b up).2]) ∧ Below w.heap.size w w' := by
  cases hr : Dy.right b
  · rw [Dy.dNext_wrong hr]
    go_enter Try.func28, Try.ntmps28
    go_wp2_with (go_at_call 25; refine (right_any _ _ (by assumption)).mono ?_; rintro e w' ⟨rfl, rfl⟩)
    go_ret2
    exact ⟨rfl, Below.refl _ _⟩
  · have HO := hid (Dy.next_out (up := up) hb hr)
    have hm := Dy.pm_lt b
    have he := Dy.pe_bounds b
    have HP := hid (fun w => parts_any b w hb)
    unfold Dy.nextMinus Dy.nextM Dy.nextE at HO
    generalize Dy.sgn b = s at *
    generalize Dy.pm b = m at *
    generalize Dy.pe b = e at *
    generalize Dy.dNext b up = r at *
    by_cases h0 : m = 0
    · rw [if_pos h0, if_pos h0, if_pos h0] at HO
      have hz : ((m : Int) == 0) = true := by simpa using h0
      clear h0
      go_enter Try.func28, Try.ntmps28
      go_wp2_with (go_at_call 25; refine (right_any _ _ (by assumption)).mono ?_; rintro e w' ⟨rfl, rfl⟩)
      refine (HP.out _).mono ?_
      rintro e' w1 ⟨rfl, rfl⟩
      go_wp2_with fail
      refine (rounded_to _ _ up 0 1 _ _ W0 W1 (by omega) (by omega) (Dy.wd_zero _) HO.out).mono ?_
      rintro e' w3 ⟨rfl, hb3⟩
      go_wp2
      go_ret2
      exact ⟨rfl, hb3⟩
    · rw [if_neg h0, if_neg h0, if_neg h0] at HO
      have hz : ((m : Int) == 0) = false := by simpa using h0
      by_cases h1 : (up != s) = true
      · rw [if_pos h1, if_pos h1] at HO
        have h2 : (up == s) = false := by simpa using h1
        obtain ⟨M1, HM⟩ : ∃ M1 : Nat, Hid (m + 1 = M1) := ⟨_, hid rfl⟩
        rw [HM.out] at HO
        have hw : IntKind.u64.wrap ((m : Int) + 1) = (M1 : Int) := by rw [← HM.out]; exact (IntWalk.u64_in _ (by omega)).trans (by omega)
        have hW : Dy.W M1 := by unfold Dy.W; rw [← HM.out]; omega
        clear h0 h1
        go_enter Try.func28, Try.ntmps28
        go_wp2_with (go_at_call 25; refine (right_any _ _ (by assumption)).mono ?_; rintro e w' ⟨rfl, rfl⟩)
        refine (HP.out _).mono ?_
        rintro e' w1 ⟨rfl, rfl⟩
        go_wp2_with fail
        refine (rounded_to _ _ up 0 M1 _ _ W0 hW (by omega) (by omega) (Dy.wd_zero _) HO.out).mono ?_
        rintro e' w3 ⟨rfl, hb3⟩
        go_wp2
        go_ret2
        exact ⟨rfl, hb3⟩
      · rw [if_neg h1, if_neg h1] at HO
        have h2 : up = s := by simpa using h1
        subst h2
        clear h1
        by_cases h3 : m = 4503599627370496 ∧ -1074 < e
        · rw [if_pos h3, if_pos h3] at HO
          obtain ⟨h4, h5⟩ := h3
          have hq : ((m : Int) == 4503599627370496) = true := by rw [h4]; rfl
          clear h4 h0
          go_enter Try.func28, Try.ntmps28
          go_wp2_with (go_at_call 25; refine (right_any _ _ (by assumption)).mono ?_; rintro e w' ⟨rfl, rfl⟩)
          refine (HP.out _).mono ?_
          rintro e' w1 ⟨rfl, rfl⟩
          go_wp2_with fail
          refine (rounded_to _ _ up 0 9007199254740991 _ _ W0 (by unfold Dy.W; omega) (by omega) (by omega) (Dy.wd_zero _) HO.out).mono ?_
          rintro e' w3 ⟨rfl, hb3⟩
          go_wp2
          go_ret2
          exact ⟨rfl, hb3⟩
        · rw [if_neg h3, if_neg h3] at HO
          obtain ⟨M1, HM⟩ : ∃ M1 : Nat, Hid (m - 1 = M1) := ⟨_, hid rfl⟩
          rw [HM.out] at HO
          have hw : IntKind.u64.wrap ((m : Int) - 1) = (M1 : Int) := by rw [← HM.out]; exact (IntWalk.u64_in _ (by omega)).trans (by omega)
          have hW : Dy.W M1 := by unfold Dy.W; rw [← HM.out]; omega
          by_cases h4 : m = 4503599627370496
          · have h5 : e ≤ -1074 := by omega
            have hq : ((m : Int) == 4503599627370496) = true := by rw [h4]; rfl
            clear h4 h0 h3
            go_enter Try.func28, Try.ntmps28
            go_wp2_with (go_at_call 25; refine (right_any _ _ (by assumption)).mono ?_; rintro e w' ⟨rfl, rfl⟩)
            refine (HP.out _).mono ?_
            rintro e' w1 ⟨rfl, rfl⟩
            go_wp2_with fail
            refine (rounded_to _ _ up 0 M1 _ _ W0 hW (by omega) (by omega) (Dy.wd_zero _) HO.out).mono ?_
            rintro e' w3 ⟨rfl, hb3⟩
            go_wp2
            go_ret2
            exact ⟨rfl, hb3⟩
          · have hq : ((m : Int) == 4503599627370496) = false := by
              rw [beq_eq_false_iff_ne]; omega
            clear h4 h0 h3
            go_enter Try.func28, Try.ntmps28
            go_wp2_with (go_at_call 25; refine (right_any _ _ (by assumption)).mono ?_; rintro e w' ⟨rfl, rfl⟩)
            refine (HP.out _).mono ?_
            rintro e' w1 ⟨rfl, rfl⟩
            go_wp2_with fail
            refine (rounded_to _ _ up 0 M1 _ _ W0 hW (by omega) (by omega) (Dy.wd_zero _) HO.out).mono ?_
            rintro e' w3 ⟨rfl, hb3⟩
            go_wp2
            go_ret2
            exact ⟨rfl, hb3⟩
end Go.Proofs.Ytfjomcbbgnaaiaa
