/- Pictures as bytes: what is written is read back; what is cut or lengthened is not. -/
import Derived.Test.YtinhbebjlbnejaaDoorFa
namespace Go.Proofs.YtinhbebjlbnejaaDoor
namespace Pg

theorem u8_lt (g : UInt8) : g.toNat ≤ 255 := by have := g.toNat_lt; omega

theorem levels_row : ∀ (l : List UInt8) (c : UInt8) (m : Nat) (R : List UInt8), l ≠ [] → blank c = true →
    levels (l.length + m) (c :: (row l ++ R)) = (levels m (10 :: R)).map fun x => (l ++ x.1, x.2)
  | [], _, _, _, h, _ => absurd rfl h
  | [g], c, m, R, _, hc => by
    have h := u8_lt g
    have e := number_dec (most := 255) (n := g.toNat) (l := 10 :: R) hc (by omega) h (blank_stops rfl _)
    rw [show [g].length + m = m + 1 by simp; omega, levels, row, List.append_assoc, List.singleton_append, e]
    simp
  | g :: g2 :: t, c, m, R, _, hc => by
    have h := u8_lt g
    have ih := levels_row (g2 :: t) 32 m R (by simp) rfl
    have e := number_dec (most := 255) (n := g.toNat) (l := 32 :: (row (g2 :: t) ++ R)) hc (by omega) h (blank_stops rfl _)
    rw [show (g :: g2 :: t).length + m = ((g2 :: t).length + m) + 1 by simp; omega, levels]
    rw [show row (g :: g2 :: t) = dec g.toNat ++ 32 :: row (g2 :: t) by rw [row]; simp, List.append_assoc, List.cons_append, e]
    simp only [ih, Option.map_map]
    congr 1
    funext x
    simp

theorem levels_rows (w : Nat) (hw : 1 ≤ w) : ∀ (n : Nat) (l : List UInt8), l.length = w * n → levels (w * n) (10 :: rows n w l) = some (l, [10])
  | 0, l, h => by
    have : l = [] := List.length_eq_zero_iff.1 (by simpa using h)
    subst this
    simp [levels, rows]
  | n + 1, l, h => by
    have h1 : (l.take w).length = w := by rw [List.length_take, h, Nat.mul_succ]; omega
    have h2 : (l.drop w).length = w * n := by rw [List.length_drop, h, Nat.mul_succ]; omega
    have e := levels_row (l.take w) 10 (w * n) (rows n w (l.drop w)) (by intro e; rw [e] at h1; simp at h1; omega) rfl
    rw [rows, show w * (n + 1) = (l.take w).length + w * n by rw [h1, Nat.mul_succ]; omega, e, levels_rows w hw n _ h2]
    simp

theorem parse_plain {p : Pic} (h : p.right = true) : parse (plain p) = some p := by
  obtain ⟨w, hh, g⟩ := p
  simp only [Pic.right, Bool.and_eq_true, decide_eq_true_eq] at h
  have e := heads_head (k := 50) h.1.1 h.1.2 (rows hh w g)
  have r := levels_rows w (side_le h.1.1).1 hh g h.2
  simp only [plain, head, List.cons_append, List.append_assoc, List.nil_append] at e ⊢
  rw [parse, e]
  simp [r, pass, passM, blank]

theorem levels_len : ∀ (n : Nat) (l : List UInt8) (x : List UInt8 × List UInt8), levels n l = some x → x.1.length = n
  | 0, l, x, h => by cases h; rfl
  | n + 1, l, x, h => by
    rw [levels] at h
    split at h
    · cases h
    · obtain ⟨y, hy, rfl⟩ := Option.map_eq_some_iff.1 h
      simp [levels_len n _ y hy]
theorem heads_sides {l : List UInt8} {w h : Nat} {r : List UInt8} (e : heads l = some (w, h, r)) : side w = true ∧ side h = true := by
  unfold heads at e
  split at e
  · cases e
  · split at e
    · cases e
    · split at e
      · cases e
      · split at e
        · rename_i hc
          cases e
          simp only [Bool.and_eq_true] at hc
          exact ⟨hc.1.2, hc.2⟩
        · cases e
theorem parse_right {l : List UInt8} {p : Pic} (h : parse l = some p) : p.right = true := by
  unfold parse at h
  split at h
  · split at h
    · split at h
      · cases h
      · rename_i w hh l3 e
        obtain ⟨s1, s2⟩ := heads_sides e
        split at h
        · split at h
          · cases h
          · split at h
            · rename_i hc
              cases h
              simp only [Bool.and_eq_true, decide_eq_true_eq] at hc
              simp only [Pic.right, s1, s2, hc.2, decide_true, Bool.and_self]
            · cases h
        · split at h
          · cases h
          · rename_i g r el
            split at h
            · cases h
              have := levels_len _ _ _ el
              simp only [Pic.right, s1, s2, this, decide_true, Bool.and_self]
            · cases h
    · cases h
  · cases h

/-! ### Longer, and shorter -/

theorem passM_append (B : List UInt8) {c : UInt8} {t : List UInt8} (hc : (c == 35) = false) : ∀ (l : List UInt8) (m : Option (List UInt8)), (∀ s, m = some s → s.head? = some 35) → passM m l = c :: t →
    passM (m.map (· ++ B)) (l ++ B) = c :: (t ++ B)
  | [], none, _, h => by cases h
  | [], some s, hs, h => by
    have := hs s rfl
    rw [passM] at h
    rw [h] at this
    cases this
    cases hc
  | d :: l, none, _, h => by
    rw [List.cons_append, Option.map_none, passM]
    rw [passM] at h
    split
    · rename_i h35
      rw [if_pos h35] at h
      exact passM_append B hc l (some (d :: l)) (fun s e => by cases e; rw [beq_iff_eq] at h35; rw [h35]; rfl) h
    · rename_i h35
      rw [if_neg h35] at h
      split
      · rename_i hb
        rw [if_pos hb] at h
        exact passM_append B hc l none (fun _ h => by cases h) h
      · rename_i hb
        rw [if_neg hb] at h
        cases h; rfl
  | d :: l, some s, hs, h => by
    rw [List.cons_append, Option.map_some, passM]
    rw [passM] at h
    split
    · rename_i h10
      rw [if_pos h10] at h
      exact passM_append B hc l none (fun _ h => by cases h) h
    · rename_i h10
      rw [if_neg h10] at h
      exact passM_append B hc l (some s) hs h
theorem pass_append (B : List UInt8) {c : UInt8} {t l : List UInt8} (hc : (c == 35) = false) (h : pass l = c :: t) : pass (l ++ B) = c :: (t ++ B) :=
  passM_append B hc l none (fun _ h => by cases h) h

theorem digs_append (B : List UInt8) : ∀ (f n k : Nat) (l : List UInt8), (digs f n k l).2.2 ≠ [] → digs f n k (l ++ B) = ((digs f n k l).1, (digs f n k l).2.1, (digs f n k l).2.2 ++ B)
  | 0, n, k, l, _ => by simp only [digs]
  | f + 1, n, k, [], h => by rw [digs] at h; exact absurd rfl h
  | f + 1, n, k, c :: l, h => by
    rw [digs] at h
    rw [List.cons_append, digs, digs]
    split
    · rename_i hd
      rw [if_pos hd] at h
      exact digs_append B f _ _ l h
    · rfl

theorem digs_none {f n k : Nat} {l : List UInt8} (h : ∀ c, l.head? = some c → digit c = false) : (digs f n k l).2.1 = k := by
  cases f with
  | zero => rfl
  | succ f => cases l with
    | nil => rfl
    | cons c t => rw [digs, h c rfl, if_neg Bool.false_ne_true]

theorem number_append {most n : Nat} {l s : List UInt8} (B : List UInt8) (h : number most l = (some n, s)) (hs : s ≠ []) : number most (l ++ B) = (some n, s ++ B) := by
  unfold number at h ⊢
  simp only at h ⊢
  split at h
  · cases h
  · rename_i hn
    simp only [Prod.mk.injEq, Option.some.injEq] at h
    obtain ⟨e1, e2⟩ := h
    have hp : ∃ c t, pass l = c :: t ∧ digit c = true := by
      cases e : pass l with
      | nil => rw [e] at e2; rw [← e2] at hs; exact absurd rfl hs
      | cons c t =>
        refine ⟨c, t, rfl, ?_⟩
        cases hd : digit c
        · rw [e] at hn
          have := digs_none (f := 10) (n := 0) (k := 0) (l := c :: t) (fun d hd' => by cases hd'; exact hd)
          exact absurd (Or.inr (Or.inl this)) hn
        · rfl
    obtain ⟨c, t, hc, hd⟩ := hp
    have hpa := pass_append B (digit_not35 hd) hc
    rw [← List.cons_append, ← hc] at hpa
    rw [hpa, digs_append B 10 0 0 (pass l) (by rw [e2]; exact hs)]
    rw [if_neg]
    · simp only [e1, e2]
    · simp only [List.length_append]
      intro h
      exact hn (by omega)

theorem number_nil (most : Nat) : number most [] = (none, []) := rfl

theorem heads_append {l r : List UInt8} {w h : Nat} (B : List UInt8) (e : heads l = some (w, h, r)) (hr : r ≠ []) : heads (l ++ B) = some (w, h, r ++ B) := by
  unfold heads at e
  split at e
  · cases e
  · rename_i w' l1 e1
    split at e
    · cases e
    · rename_i h' l2 e2
      split at e
      · cases e
      · rename_i m l3 e3
        split at e
        · rename_i hc
          cases e
          have n2 : l2 ≠ [] := by rintro rfl; rw [number_nil] at e3; cases e3
          have n1 : l1 ≠ [] := by rintro rfl; rw [number_nil] at e2; cases e2
          unfold heads
          simp only [number_append B e1 n1, number_append B e2 n2, number_append B e3 hr, hc, if_true]
        · cases e

/-- No beginning of a picture's bytes, and nothing longer, is one. -/
theorem parse_longer {a B : List UInt8} {p : Pic} (h : parse (80 :: 53 :: a) = some p) (hB : B ≠ []) : parse (80 :: 53 :: (a ++ B)) = none := by
  unfold parse at h ⊢
  simp only [] at h ⊢
  rw [if_pos (by decide)] at h ⊢
  cases e : heads a with
  | none => rw [e] at h; cases h
  | some x =>
    obtain ⟨w, hh, r⟩ := x
    rw [e] at h
    simp only at h
    rw [if_pos (by decide)] at h
    cases r with
    | nil => cases h
    | cons c t =>
      rw [heads_append B e (by simp)]
      simp only [List.cons_append]
      rw [if_pos (by decide)]
      simp only at h
      split at h
      · rename_i hc
        simp only [Bool.and_eq_true, decide_eq_true_eq] at hc
        rw [if_neg]
        simp only [Bool.and_eq_true, decide_eq_true_eq, List.length_append]
        have := List.length_pos_iff.2 hB
        omega
      · cases h

theorem parse_shorter {a B : List UInt8} {p : Pic} (h : parse (a ++ B) = some p) (hk : (a ++ B).take 2 = [80, 53]) (hB : B ≠ []) : parse a = none := by
  cases e : parse a with
  | none => rfl
  | some q =>
    match a, e, h, hk with
    | [], e, _, _ => cases e
    | [_], e, _, _ => cases e
    | x :: y :: a, e, h, hk =>
      simp only [List.cons_append, List.take_succ_cons, List.take_zero, List.cons.injEq, and_true] at hk
      obtain ⟨rfl, rfl⟩ := hk
      have := parse_longer e hB
      rw [List.cons_append, List.cons_append, this] at h
      cases h

end Pg
end Go.Proofs.YtinhbebjlbnejaaDoor
