/- Walks of package pgm: the reader's numbers. -/
import Derived.Test.YtinhbebjlbnejaaDoorFc
namespace Go.Proofs.YtinhbebjlbnejaaDoor
open Go Go.RowKit
open Go.Lib (hid)
set_option linter.unusedVariables false
set_option linter.unusedSimpArgs false

theorem Rd.turn {R : Nat} {l : List UInt8} {off : Bool} {w : World} (h : Rd R l off w) (off' : Bool) : Rd R l off' (w.setCell ⟨R, 1, none⟩ (.bool off')) := by
  obtain ⟨⟨ao0, c0, h0, hc, hb⟩, ho, hf⟩ := h
  exact ⟨⟨ao0, c0, by rw [World.cell?_setCell_other _ _ _ _ (by simp)]; exact h0, hc, hb.keep (grown_set _ _ _ _)⟩, World.cell?_setCell_same _ _ _ ho, fun j => by rw [World.frozen?_setCell]; exact hf j⟩

/-- The digits so far. -/
def DigAt (s : List UInt8) (k n : Nat) : Prop := k ≤ 10 ∧ k ≤ s.length ∧ n < 10 ^ k ∧ Pg.digs 10 0 0 s = Pg.digs (10 - k) n k (s.drop k)
theorem DigAt.zero (s : List UInt8) : DigAt s 0 0 := ⟨by decide, Nat.zero_le _, by decide, by simp⟩
theorem DigAt.step {s : List UInt8} {k n : Nat} (h : DigAt s k n) (hk : k ≤ 9) (hl : k < s.length) (hd : Pg.digit s[k] = true) : DigAt s (k + 1) (10 * n + (s[k].toNat - 48)) := by
  obtain ⟨h1, h2, h3, h4⟩ := h
  have hb := Pg.digit_bounds.1 hd
  refine ⟨by omega, hl, by rw [Nat.pow_succ]; omega, ?_⟩
  rw [h4, List.drop_eq_getElem_cons hl]
  obtain ⟨f, hf⟩ : ∃ f, 10 - k = f + 1 := ⟨9 - k, by omega⟩
  rw [hf, Pg.digs_cons, hd, if_pos rfl, show 10 - (k + 1) = f by omega]
theorem DigAt.ended {s : List UInt8} {k n : Nat} (h : DigAt s k n) (he : k = s.length ∨ 9 < k ∨ ∃ hl : k < s.length, Pg.digit s[k] = false) : Pg.digs 10 0 0 s = (n, k, s.drop k) := by
  obtain ⟨h1, h2, h3, h4⟩ := h
  rw [h4]
  rcases he with he | he | ⟨hl, hd⟩
  · rw [List.drop_eq_nil_of_le (by omega)]
    cases 10 - k <;> rfl
  · rw [show 10 - k = 0 by omega]; rfl
  · rw [List.drop_eq_getElem_cons hl]
    cases 10 - k with
    | zero => rfl
    | succ f => rw [Pg.digs_cons, hd, if_neg Bool.false_ne_true]
theorem DigAt.small {s : List UInt8} {k n : Nat} (h : DigAt s k n) : n < 10000000000 := by
  have h1 := h.2.2.1
  have h2 : 10 ^ k ≤ 10 ^ 10 := Nat.pow_le_pow_right (by decide) h.1
  omega
theorem number_of {most n k : Nat} {l s : List UInt8} (hs : s = Pg.pass l) (hd : Pg.digs 10 0 0 s = (n, k, s.drop k)) : Pg.number most l = if l.length = s.length ∨ k = 0 ∨ 9 < k ∨ most < n then (none, s) else (some n, s.drop k) := by
  subst hs
  unfold Pg.number
  simp only [hd]

/-- What a number leaves. -/
def NumPost (R most : Nat) (l : List UInt8) (off : Bool) (w : World) (e : Ending) (w' : World) : Prop :=
  e = .returned (.int .i64 (((Pg.number most l).1.getD 0 : Nat) : Int)) ∧ Rd R (Pg.number most l).2 (off || (Pg.number most l).1.isNone) w' ∧ w.grownBy w' (some R) ∧ w'.heap.size = w.heap.size
theorem num_none {R most n k : Nat} {l s : List UInt8} {off : Bool} {w w1 : World} (hs : s = Pg.pass l) (hd : Pg.digs 10 0 0 s = (n, k, s.drop k)) (hR : Rd R s off w1) (hg : w.grownBy w1 (some R) ∧ w1.heap.size = w.heap.size)
    (hx : l.length = s.length ∨ k = 0 ∨ 9 < k ∨ most < n) : NumPost R most l off w (.returned (.int .i64 0)) (w1.setCell ⟨R, 1, none⟩ (.bool true)) := by
  unfold NumPost
  rw [number_of hs hd, if_pos hx]
  exact ⟨rfl, by simpa using hR.turn true, grown_trans hg.1 (grown_set _ _ _ _), by simpa using hg.2⟩
theorem num_some {R most n k : Nat} {l s : List UInt8} {off : Bool} {w w1 : World} (hs : s = Pg.pass l) (hd : Pg.digs 10 0 0 s = (n, k, s.drop k)) (hR : Rd R s off w1) (hg : w.grownBy w1 (some R) ∧ w1.heap.size = w.heap.size)
    (hx : ¬ (l.length = s.length ∨ k = 0 ∨ 9 < k ∨ most < n)) {ao : Option Addr} {m c : Nat} (hm : m = s.length - k) (hc : s.length - k ≤ c) (hb : Bts w1 ao R (s.drop k)) :
    NumPost R most l off w (.returned (.int .i64 (n : Int))) (w1.setCell ⟨R, 0, none⟩ (.slice ao m c)) := by
  unfold NumPost
  rw [number_of hs hd, if_neg hx]
  exact ⟨rfl, by simpa using hR.set (l' := s.drop k) (by simpa using hm) (by simpa using hc) hb, grown_trans hg.1 (grown_set _ _ _ _), by simpa using hg.2⟩

set_option maxRecDepth 100000 in
set_option maxHeartbeats 2000000 in
theorem number_any (R most : Nat) (hm : most ≤ 256) (l : List UInt8) (off : Bool) (w : World) (h : Rd R l off w) (hl : l.length ≤ 281474976710656) :
    Calls Tryd.prog 30 #[.pointer (some ⟨R, 0, none⟩), .int .i64 (most : Int)] w (NumPost R most l off w) := by
  have HP := hid (pass_any R l off w h hl)
  obtain ⟨⟨ao0, cc0, h0, _, _⟩, _, _⟩ := h
  obtain ⟨L, hL⟩ : ∃ L, L = l.length := ⟨_, rfl⟩
  rw [← hL] at h0 hl
  replace hL := hid hL
  go_enter Tryd.func30, Tryd.ntmps30
  go_wp2_with (go_at_call 34; ((with_reducible refine HP.out.mono ?_); rintro e w1 ⟨rfl, hR, hg, hs⟩))
  obtain ⟨s, hsd⟩ : ∃ s, s = Pg.pass l := ⟨_, rfl⟩
  obtain ⟨S, hS⟩ : ∃ S, S = s.length := ⟨_, rfl⟩
  rw [← hsd] at hR
  have hlen : S ≤ L := by rw [hS, hL.out, hsd]; exact Pg.pass_len l
  replace hsd := hid hsd
  have HG := hid (And.intro hg hs)
  clear hg hs HP h0
  have HH : ∀ kk nn, DigAt s kk nn → (kk = s.length ∨ 9 < kk ∨ ∃ hl : kk < s.length, Pg.digit s[kk] = false) →
      ((L = S ∨ kk = 0 ∨ 9 < kk ∨ most < nn) → NumPost R most l off w (.returned (.int .i64 0)) (w1.setCell ⟨R, 1, none⟩ (.bool true))) ∧
      (¬ (L = S ∨ kk = 0 ∨ 9 < kk ∨ most < nn) → ∀ (ao : Option Addr) (m c : Nat), m = S - kk → S - kk ≤ c → Bts w1 ao R (s.drop kk) → NumPost R most l off w (.returned (.int .i64 (nn : Int))) (w1.setCell ⟨R, 0, none⟩ (.slice ao m c))) := by
    intro kk nn hD hx
    rw [hL.out, hS]
    exact ⟨num_none hsd.out (hD.ended hx) hR HG.out, fun hc ao m c hm hcc hb => num_some hsd.out (hD.ended hx) hR HG.out hc hm hcc hb⟩
  replace HH := hid HH
  go_loop [6, 7] (fun n k => ∃ kk nn : Nat, n = .int .i64 nn ∧ k = .int .i64 kk ∧ Hid (DigAt s kk nn)) (fun _ k => 10 - (intOf k).toNat)
  case atStart => exact ⟨0, 0, rfl, rfl, hid (DigAt.zero s)⟩
  case round =>
    obtain ⟨kk, nn, rfl, rfl, hD⟩ := hrel
    obtain ⟨⟨ao, cc, h0, hcc, hb⟩, ho, hf⟩ := hR
    have hk1 := hD.out.1
    have hk2 := hD.out.2.1
    have hk3 := hD.out.small
    rw [← hS] at h0 hcc hk2
    have f0 := hf 0
    have f1 := hf 1
    clear hf
    have hb' : S = 0 ∨ ∃ b o, ao = some ⟨b, o, none⟩ ∧ Hid (b < R ∧ b < w1.heap.size ∧ ∀ i c, s[i]? = some c → w1.cell? ⟨b, o + i, none⟩ = some (.int .u8 (c.toNat : Int))) := by
      rcases hb with hb | ⟨b, o, h1, h2, h3, h4⟩
      · exact .inl (by rw [hS, hb]; rfl)
      · exact .inr ⟨b, o, h1, hid ⟨h2, h3, h4⟩⟩
    replace hS := hid hS
    clear hb
    rcases hb' with rfl | ⟨b, o, rfl, hb⟩
    · -- nothing is left
      obtain rfl : kk = 0 := by omega
      have FN2 := hid ((HH.out _ _ hD.out (.inl hS.out)).1 (.inr (.inl rfl)))
      go_wp2
      all_goals
        go_ret
        exact FN2.out
    by_cases hkl : kk = S
    · subst hkl
      have FX := hid ((HH.out _ _ hD.out (.inl hS.out)).1)
      have GX := hid ((HH.out _ _ hD.out (.inl hS.out)).2)
      by_cases a1 : L = kk
      · replace FX := hid (FX.out (.inl a1))
        have b1 : (L : Int) = kk := by omega
        clear GX
        go_wp2
        all_goals
          go_ret
          exact FX.out
      have b1 : ((L : Int) == (kk : Int)) = false := by rw [beq_eq_false_iff_ne]; omega
      by_cases a2 : kk = 0
      · replace FX := hid (FX.out (.inr (.inl a2)))
        have b2 : (kk : Int) = 0 := by omega
        clear GX
        go_wp2
        all_goals
          go_ret
          exact FX.out
      have b2 : ((kk : Int) == 0) = false := by rw [beq_eq_false_iff_ne]; omega
      by_cases a3 : 9 < kk
      · replace FX := hid (FX.out (.inr (.inr (.inl a3))))
        clear GX
        go_wp2
        all_goals
          go_ret
          exact FX.out
      by_cases a4 : most < nn
      · replace FX := hid (FX.out (.inr (.inr (.inr a4))))
        clear GX
        go_wp2
        all_goals
          go_ret
          exact FX.out
      replace GX := hid (GX.out (by omega))
      clear FX
      by_cases hce : kk = cc
      · subst hce
        go_wp2
        all_goals
          go_ret
          exact GX.out _ _ _ (by omega) (by omega) (.inl (List.drop_eq_nil_of_le (by have := hS.out; omega)))
      · go_wp2
        all_goals
          go_ret
          exact GX.out _ _ _ (by omega) (by omega) (Bts.drop _ hb.out.1 hb.out.2.1 hb.out.2.2)
    have hkS : kk < S := by omega
    have hks : kk < s.length := by have := hS.out; omega
    obtain ⟨x, hx⟩ : ∃ x, x = s[kk] := ⟨_, rfl⟩
    have cx : w1.cell? ⟨b, o + kk, none⟩ = some (.int .u8 (x.toNat : Int)) := hb.out.2.2 kk x (by rw [hx]; exact List.getElem?_eq_getElem hks)
    have hx255 := x.toNat_lt
    by_cases hdig : Pg.digit x = true ∧ kk ≤ 9
    · obtain ⟨hd, h9⟩ := hdig
      have hst := hid (hD.out.step h9 hks (by rw [← hx]; exact hd))
      rw [← hx] at hst
      obtain ⟨d1, d2⟩ := Pg.digit_bounds.1 hd
      replace hx := hid hx
      replace hd := hid hd
      go_wp2
      go_round
      case rel => exact ⟨kk + 1, 10 * nn + (x.toNat - 48), by go_num, by go_num, hst⟩
      case measure => simp [intOf]; omega
    · have hend : 9 < kk ∨ ∃ hl : kk < s.length, Pg.digit s[kk] = false := by
        by_cases h9 : kk ≤ 9
        · refine .inr ⟨hks, ?_⟩
          rw [← hx]
          cases e : Pg.digit x
          · rfl
          · exact absurd ⟨e, h9⟩ hdig
        · exact .inl (by omega)
      have FX := hid ((HH.out _ _ hD.out (.inr hend)).1)
      have GX := hid ((HH.out _ _ hD.out (.inr hend)).2)
      have hway : x.toNat < 48 ∨ 57 < x.toNat ∨ (48 ≤ x.toNat ∧ x.toNat ≤ 57 ∧ 9 < kk) := by
        rcases hend with h | ⟨_, h⟩
        · omega
        · rw [← hx] at h
          have : ¬ (48 ≤ x.toNat ∧ x.toNat ≤ 57) := fun hh => by rw [Pg.digit_bounds.2 hh] at h; cases h
          omega
      clear hend hdig
      replace hx := hid hx
      by_cases h9 : 9 < kk ∧ 48 ≤ x.toNat ∧ x.toNat ≤ 57
      · obtain ⟨h9, d1, d2⟩ := h9
        replace FX := hid (FX.out (.inr (.inr (.inl h9))))
        have b2 : ((kk : Int) == 0) = false := by rw [beq_eq_false_iff_ne]; omega
        clear GX
        by_cases a1 : L = S
        · have b1 : (L : Int) = S := by omega
          go_wp2
          all_goals
            go_ret
            exact FX.out
        · have b1 : ((L : Int) == (S : Int)) = false := by rw [beq_eq_false_iff_ne]; omega
          go_wp2
          all_goals
            go_ret
            exact FX.out
      replace hway : x.toNat < 48 ∨ 57 < x.toNat := by omega
      clear h9
      rcases hway with hway | hway
      all_goals
        by_cases a1 : L = S
        · replace FX := hid (FX.out (.inl a1))
          have b1 : (L : Int) = S := by omega
          clear GX
          go_wp2
          all_goals
            go_ret
            exact FX.out
        have b1 : ((L : Int) == (S : Int)) = false := by rw [beq_eq_false_iff_ne]; omega
        by_cases a2 : kk = 0
        · replace FX := hid (FX.out (.inr (.inl a2)))
          subst a2
          simp only [Nat.add_zero] at cx
          clear GX
          go_wp2
          all_goals
            go_ret
            exact FX.out
        have b2 : ((kk : Int) == 0) = false := by rw [beq_eq_false_iff_ne]; omega
        by_cases a3 : 9 < kk
        · replace FX := hid (FX.out (.inr (.inr (.inl a3))))
          clear GX
          go_wp2
          all_goals
            go_ret
            exact FX.out
        by_cases a4 : most < nn
        · replace FX := hid (FX.out (.inr (.inr (.inr a4))))
          clear GX
          go_wp2
          all_goals
            go_ret
            exact FX.out
        replace GX := hid (GX.out (by omega))
        clear FX
        have hce : kk ≠ cc := by omega
        · go_wp2
          all_goals
            go_ret
            exact GX.out _ _ _ (by omega) (by omega) (Bts.drop _ hb.out.1 hb.out.2.1 hb.out.2.2)
end Go.Proofs.YtinhbebjlbnejaaDoor
