/- Walks: the law DirSums. -/
import Derived.Test.YtfjomcbbgnaaiaaWr
import Derived.Test.YtfjomcbbgnaaiaaDyR
namespace Go.Proofs.Ytfjomcbbgnaaiaa
open Go.RowKit

set_option maxRecDepth 100000 in
set_option maxHeartbeats 1000000 in
theorem dirSums_walk (a b : Nat) (w : World) (ha : Dy.W a) (hb : Dy.W b) :
    Calls Try.prog 5 #[.float .f64 a, .float .f64 b] w fun e w' => e = .returned (.bool true) ∧ Below w.heap.size w w' := by
  have A1 := hid (fun w => add_any a b false w ha hb)
  have HS := hid (fun h => Dy.sums ha hb h)
  have hs1 := Dy.dAdd_W a b false
  have A2 := hid (fun w => sub_any (Dy.dAdd a b false).1 a true w hs1 ha)
  have A3 := hid (fun w => step_any (Dy.dAdd a b false).1 true w hs1)
  have hs2 := Dy.dNext_W (Dy.dAdd a b false).1 true
  have A4 := hid (fun w => sub_any (Dy.dNext (Dy.dAdd a b false).1 true).1 a true w hs2 ha)
  generalize Dy.dSub (Dy.dNext (Dy.dAdd a b false).1 true).1 a true = r4 at *
  generalize Dy.dNext (Dy.dAdd a b false).1 true = r3 at *
  generalize Dy.dSub (Dy.dAdd a b false).1 a true = r2 at *
  generalize Dy.dAdd a b false = r1 at *
  obtain ⟨s, e⟩ := r1
  obtain ⟨k, f⟩ := r2
  obtain ⟨n, g⟩ := r3
  obtain ⟨m, o⟩ := r4
  dsimp only at *
  by_cases he : e = 0
  · have H := HS.out he
    clear HS
    subst he
    obtain ⟨⟨rfl, H2⟩, H3⟩ := H
    by_cases hg : g = 0
    · have H4 := H3 hg
      clear H3
      subst hg
      rcases H4 with rfl | ⟨rfl, H5⟩
      all_goals
        go_enter Try.func5, Try.ntmps5
        go_wp2_with fail
        refine (A1.out _).mono ?_
        rintro e' w1 ⟨rfl, hb1⟩
        go_wp2_with fail
        refine (A2.out _).mono ?_
        rintro e' w2 ⟨rfl, hb2⟩
        go_wp2_with fail
        refine (A3.out _).mono ?_
        rintro e' w3 ⟨rfl, hb3⟩
        go_wp2_with fail
        refine (A4.out _).mono ?_
        rintro e' w4 ⟨rfl, hb4⟩
        go_wp2_with fail
        refine (awake_any _).mono ?_
        rintro e' w5 ⟨rfl, hb5⟩
        go_wp2
        go_ret
        exact ⟨rfl, hb1.trans ((hb2.trans ((hb3.trans ((hb4.trans (hb5.mono hb4.size)).mono hb3.size)).mono hb2.size)).mono hb1.size)⟩
    · clear H3
      have hgb : (g == 0) = false := by simpa using hg
      go_enter Try.func5, Try.ntmps5
      go_wp2_with fail
      refine (A1.out _).mono ?_
      rintro e' w1 ⟨rfl, hb1⟩
      go_wp2_with fail
      refine (A2.out _).mono ?_
      rintro e' w2 ⟨rfl, hb2⟩
      go_wp2_with fail
      refine (A3.out _).mono ?_
      rintro e' w3 ⟨rfl, hb3⟩
      go_wp2_with fail
      refine (awake_any _).mono ?_
      rintro e' w4 ⟨rfl, hb4⟩
      go_wp2
      go_ret
      exact ⟨rfl, hb1.trans ((hb2.trans ((hb3.trans (hb4.mono hb3.size)).mono hb2.size)).mono hb1.size)⟩
  · go_enter Try.func5, Try.ntmps5
    go_wp2_with fail
    refine (A1.out _).mono ?_
    rintro e' w1 ⟨rfl, hb1⟩
    go_wp2_with fail
    refine (awake_any _).mono ?_
    rintro e' w2 ⟨rfl, hb2⟩
    go_wp2
    go_ret
    exact ⟨rfl, hb1.trans (hb2.mono hb1.size)⟩
end Go.Proofs.Ytfjomcbbgnaaiaa
