/- Pictures as bytes: what is read, what is written, in plain words. -/
import Derived.Lib.ItoaNum
import Derived.Lib.Strings
namespace Go.Proofs.YtinhbebjlbnejaaDoor
namespace Pg

/-- Is a byte a blank? -/
def blank (c : UInt8) : Bool := c == 9 || c == 10 || c == 13 || c == 32
def digit (c : UInt8) : Bool := decide (48 ≤ c.toNat) && decide (c.toNat ≤ 57)

/-- Behind blanks and comments; within a comment: what is left if it has no end. -/
def passM : Option (List UInt8) → List UInt8 → List UInt8
  | none, [] => []
  | some s, [] => s
  | none, c :: l => if c == 35 then passM (some (c :: l)) l else if blank c then passM none l else c :: l
  | some s, c :: l => if c == 10 then passM none l else passM (some s) l
def pass (l : List UInt8) : List UInt8 := passM none l

/-- Digits, so many at most: the number, how many, and what is behind. -/
def digs : Nat → Nat → Nat → List UInt8 → Nat × Nat × List UInt8
  | 0, n, k, l => (n, k, l)
  | _ + 1, n, k, [] => (n, k, [])
  | f + 1, n, k, c :: l => if digit c then digs f (10 * n + (c.toNat - 48)) (k + 1) l else (n, k, c :: l)

/-- A gap, and a number of at most so much: the number, and what is behind. -/
def number (most : Nat) (l : List UInt8) : Option Nat × List UInt8 :=
  let r := pass l
  let d := digs 10 0 0 r
  if l.length = r.length ∨ d.2.1 = 0 ∨ 9 < d.2.1 ∨ most < d.1 then (none, r) else (some d.1, d.2.2)

def levels : Nat → List UInt8 → Option (List UInt8 × List UInt8)
  | 0, l => some ([], l)
  | n + 1, l => match number 255 l with
    | (none, _) => none
    | (some g, r) => (levels n r).map fun x => (UInt8.ofNat g :: x.1, x.2)

def side (n : Nat) : Bool := decide (1 ≤ n) && decide (n ≤ 256)

structure Pic where
  w : Nat
  h : Nat
  grey : List UInt8
deriving DecidableEq

def Pic.right (p : Pic) : Bool := side p.w && side p.h && decide (p.grey.length = p.w * p.h)

/-- The numbers ahead of the levels. -/
def heads (l : List UInt8) : Option (Nat × Nat × List UInt8) :=
  match number 256 l with
  | (none, _) => none
  | (some w, l1) => match number 256 l1 with
    | (none, _) => none
    | (some h, l2) => match number 255 l2 with
      | (none, _) => none
      | (some m, l3) => if m = 255 && side w && side h then some (w, h, l3) else none

def parse : List UInt8 → Option Pic
  | a :: k :: l =>
    if a == 80 && (k == 53 || k == 50) then
      match heads l with
      | none => none
      | some (w, h, l3) =>
        if k == 53 then
          match l3 with
          | [] => none
          | c :: t => if blank c && decide (t.length = w * h) then some ⟨w, h, t⟩ else none
        else match levels (w * h) l3 with
          | none => none
          | some (g, r) => if (pass r).isEmpty then some ⟨w, h, g⟩ else none
    else none
  | _ => none

/-- A number's digits. -/
def dec (n : Nat) : List UInt8 := Lib.decDigits n

def head (k : UInt8) (w h : Nat) : List UInt8 := 80 :: k :: 10 :: (dec w ++ 32 :: (dec h ++ 10 :: ([50, 53, 53] ++ [10])))
def bytes (p : Pic) : List UInt8 := head 53 p.w p.h ++ p.grey
def row : List UInt8 → List UInt8
  | [] => []
  | [g] => dec g.toNat ++ [10]
  | g :: l => dec g.toNat ++ 32 :: row l
def rows : Nat → Nat → List UInt8 → List UInt8
  | 0, _, _ => []
  | n + 1, w, l => row (l.take w) ++ rows n w (l.drop w)
def plain (p : Pic) : List UInt8 := head 50 p.w p.h ++ rows p.h p.w p.grey

/-! ### What is known of them -/

theorem blank_not35 {c : UInt8} (h : blank c = true) : (c == 35) = false := by
  unfold blank at h
  simp only [Bool.or_eq_true, beq_iff_eq] at h
  rcases h with ((h | h) | h) | h <;> subst h <;> rfl
theorem digit_bounds {c : UInt8} : digit c = true ↔ 48 ≤ c.toNat ∧ c.toNat ≤ 57 := by unfold digit; simp
theorem digit_not_blank {c : UInt8} (h : digit c = true) : blank c = false := by
  rw [digit_bounds] at h
  cases e : blank c
  · rfl
  · unfold blank at e
    simp only [Bool.or_eq_true, beq_iff_eq] at e
    rcases e with ((e | e) | e) | e <;> subst e <;> exact absurd h (by decide)
theorem digit_not35 {c : UInt8} (h : digit c = true) : (c == 35) = false := by
  rw [digit_bounds] at h
  cases e : c == 35
  · rfl
  · rw [beq_iff_eq] at e; subst e; exact absurd h (by decide)

theorem passM_len : ∀ (l : List UInt8) (m : Option (List UInt8)), (passM m l).length ≤ max l.length ((m.getD []).length)
  | [], none => by simp [passM]
  | [], some s => by simp [passM]
  | c :: l, none => by
    rw [passM]
    split
    · have := passM_len l (some (c :: l)); simp at this ⊢; omega
    · split
      · have := passM_len l none; simp at this ⊢; omega
      · simp
  | c :: l, some s => by
    rw [passM]
    split
    · have := passM_len l none; simp at this ⊢; omega
    · have := passM_len l (some s); simp at this ⊢; omega
theorem pass_len (l : List UInt8) : (pass l).length ≤ l.length := by have := passM_len l none; simpa [pass] using this

/-- What is left is a part of what there was. -/
theorem passM_suffix : ∀ (l : List UInt8) (m : Option (List UInt8)), passM m l <:+ l ∨ ∃ s, m = some s ∧ passM m l = s
  | [], none => .inl (List.suffix_refl _)
  | [], some s => .inr ⟨s, rfl, rfl⟩
  | c :: l, none => by
    rw [passM]
    split
    · rcases passM_suffix l (some (c :: l)) with h | ⟨s, h, e⟩
      · exact .inl (h.trans (List.suffix_cons _ _))
      · cases h; rw [e]; exact .inl (List.suffix_refl _)
    · split
      · rcases passM_suffix l none with h | ⟨s, h, e⟩
        · exact .inl (h.trans (List.suffix_cons _ _))
        · cases h
      · exact .inl (List.suffix_refl _)
  | c :: l, some s => by
    rw [passM]
    split
    · rcases passM_suffix l none with h | ⟨s, h, e⟩
      · exact .inl (h.trans (List.suffix_cons _ _))
      · cases h
    · rcases passM_suffix l (some s) with h | ⟨s', h, e⟩
      · exact .inl (h.trans (List.suffix_cons _ _))
      · cases h; exact .inr ⟨s, rfl, e⟩
theorem pass_suffix (l : List UInt8) : pass l <:+ l := by
  rcases passM_suffix l none with h | ⟨s, h, _⟩
  · exact h
  · cases h
theorem pass_eq_drop (l : List UInt8) : pass l = l.drop (l.length - (pass l).length) := List.suffix_iff_eq_drop.1 (pass_suffix l)

theorem digs_spec : ∀ (f n k : Nat) (l : List UInt8), ∃ j, (digs f n k l).2.1 = k + j ∧ j ≤ f ∧ j ≤ l.length ∧ (digs f n k l).2.2 = l.drop j
  | 0, n, k, l => ⟨0, by simp [digs]⟩
  | _ + 1, n, k, [] => ⟨0, by simp [digs]⟩
  | f + 1, n, k, c :: l => by
    rw [digs]
    split
    · obtain ⟨j, h1, h2, h3, h4⟩ := digs_spec f (10 * n + (c.toNat - 48)) (k + 1) l
      exact ⟨j + 1, by rw [h1]; omega, by omega, by simp; omega, by rw [h4]; simp⟩
    · exact ⟨0, by simp⟩

theorem number_drop (most : Nat) (l : List UInt8) : ∃ j, j ≤ l.length ∧ (number most l).2 = l.drop j := by
  have h1 := pass_eq_drop l
  obtain ⟨j, _, _, h4, h5⟩ := digs_spec 10 0 0 (pass l)
  have h6 := pass_len l
  unfold number
  simp only
  split
  · exact ⟨l.length - (pass l).length, by omega, h1⟩
  · refine ⟨l.length - (pass l).length + j, by omega, ?_⟩
    simp only
    rw [h5]
    conv => lhs; rw [h1]
    rw [List.drop_drop]

/-! ### Reading back -/

theorem pass_blank {c : UInt8} (h : blank c = true) (l : List UInt8) : pass (c :: l) = pass l := by
  show passM none (c :: l) = passM none l
  rw [passM, blank_not35 h, h]; rfl
theorem pass_stop {c : UInt8} (h : blank c = false) (h35 : (c == 35) = false) (l : List UInt8) : pass (c :: l) = c :: l := by
  show passM none (c :: l) = _
  rw [passM, h35, h]; rfl
theorem pass_nil : pass [] = [] := rfl

/-- The number that digits tell. -/
def val (n : Nat) (l : List UInt8) : Nat := l.foldl (fun n c => 10 * n + (c.toNat - 48)) n
/-- What does not go on with a digit. -/
def stops (l : List UInt8) : Prop := ∀ c, l.head? = some c → digit c = false
theorem digs_nil (f n k : Nat) : digs (f + 1) n k [] = (n, k, []) := rfl
theorem digs_cons (f n k : Nat) (c : UInt8) (l : List UInt8) : digs (f + 1) n k (c :: l) = if digit c then digs f (10 * n + (c.toNat - 48)) (k + 1) l else (n, k, c :: l) := rfl
theorem val_nil (n : Nat) : val n [] = n := List.foldl_nil
theorem val_cons (n : Nat) (c : UInt8) (l : List UInt8) : val n (c :: l) = val (10 * n + (c.toNat - 48)) l := List.foldl_cons
theorem digs_all (l : List UInt8) (hs : stops l) : ∀ (a : List UInt8) (f n k : Nat), (∀ c ∈ a, digit c = true) → a.length < f → digs f n k (a ++ l) = (val n a, k + a.length, l) := by
  intro a
  induction a with
  | nil =>
    intro f n k _ hf
    obtain ⟨f, rfl⟩ : ∃ g, f = g + 1 := ⟨f - 1, by simp at hf; omega⟩
    rw [List.nil_append, val_nil, List.length_nil]
    cases l with
    | nil => rw [digs_nil, Nat.add_zero]
    | cons c t => rw [digs_cons, hs c rfl, if_neg Bool.false_ne_true, Nat.add_zero]
  | cons c a ih =>
    intro f n k ha hf
    obtain ⟨f, rfl⟩ : ∃ g, f = g + 1 := ⟨f - 1, by simp at hf; omega⟩
    rw [List.cons_append, digs_cons, ha c (by simp), if_pos rfl, ih f _ (k + 1) (fun x hx => ha x (by simp [hx])) (by simp at hf; omega), val_cons, List.length_cons, Nat.add_assoc, Nat.add_comm 1]

/-- A gap: what is passed, and passed whole. -/
def Gap (g : List UInt8) : Prop := g ≠ [] ∧ ∀ l, pass (g ++ l) = pass l
theorem Gap.one {c : UInt8} (h : blank c = true) : Gap [c] := ⟨by simp, fun l => pass_blank h l⟩
theorem Gap.append {a b : List UInt8} (ha : Gap a) (hb : Gap b) : Gap (a ++ b) :=
  ⟨fun e => ha.1 (List.append_eq_nil_iff.1 e).1, fun l => by rw [List.append_assoc, ha.2, hb.2]⟩
theorem Gap.cons {c : UInt8} {b : List UInt8} (h : blank c = true) (hb : Gap b) : Gap (c :: b) := Gap.append (Gap.one h) hb
theorem passM_words (s : List UInt8) : ∀ (r l : List UInt8), (∀ c ∈ r, (c == 10) = false) → passM (some s) (r ++ 10 :: l) = passM none l
  | [], l, _ => by rw [List.nil_append, passM]; rfl
  | c :: r, l, h => by rw [List.cons_append, passM, h c (by simp)]; exact passM_words s r l fun d hd => h d (by simp [hd])
theorem Gap.remark {r : List UInt8} (h : ∀ c ∈ r, (c == 10) = false) : Gap (35 :: (r ++ [10])) := by
  refine ⟨by simp, fun l => ?_⟩
  show passM none (35 :: (r ++ [10] ++ l)) = passM none l
  rw [passM, List.append_assoc]
  exact passM_words _ r l h
theorem passM_open (s : List UInt8) : ∀ (r : List UInt8), (∀ c ∈ r, (c == 10) = false) → passM (some s) r = s
  | [], _ => rfl
  | c :: r, h => by rw [passM, h c (by simp)]; exact passM_open s r fun d hd => h d (by simp [hd])
/-- A comment without an end is none. -/
theorem pass_open {r : List UInt8} (h : ∀ c ∈ r, (c == 10) = false) : pass (35 :: r) = 35 :: r := by
  show passM none (35 :: r) = _
  rw [passM]
  exact passM_open _ r h

theorem number_gap {most : Nat} {g a l : List UInt8} (hg : Gap g) (ha : ∀ c ∈ a, digit c = true) (h0 : a ≠ []) (h9 : a.length ≤ 9) (hm : val 0 a ≤ most) (hs : stops l) :
    number most (g ++ (a ++ l)) = (some (val 0 a), l) := by
  obtain ⟨c, t, rfl⟩ : ∃ c t, a = c :: t := by cases a with | nil => exact absurd rfl h0 | cons c t => exact ⟨c, t, rfl⟩
  have hc := ha c (by simp)
  have hp : pass (g ++ (c :: t ++ l)) = c :: t ++ l := (hg.2 _).trans (pass_stop (digit_not_blank hc) (digit_not35 hc) _)
  have hd := digs_all l hs (c :: t) 10 0 0 ha (by omega)
  unfold number
  simp only [hp, hd]
  have hl : 0 < g.length := List.length_pos_iff.2 hg.1
  rw [if_neg]
  simp only [List.length_append, List.length_cons, Nat.zero_add] at *
  omega

theorem dig_ofNat {i : Nat} (h : i < 10) : digit (UInt8.ofNat (48 + i)) = true ∧ (UInt8.ofNat (48 + i)).toNat - 48 = i := by
  have e : (UInt8.ofNat (48 + i)).toNat = 48 + i := by rw [UInt8.toNat_ofNat']; omega
  rw [digit_bounds, e]; omega
theorem val_append (a : List UInt8) (n : Nat) (c : UInt8) : val n (a ++ [c]) = 10 * val n a + (c.toNat - 48) := by
  unfold val
  rw [List.foldl_append, List.foldl_cons, List.foldl_nil]
theorem dec_digits (n : Nat) (h : n < 1000) : (∀ c ∈ dec n, digit c = true) ∧ dec n ≠ [] ∧ (dec n).length ≤ 3 ∧ val 0 (dec n) = n := by
  unfold dec
  by_cases h1 : n < 10
  · rw [Lib.decDigits_one h1]
    have := dig_ofNat h1
    exact ⟨List.forall_mem_cons.2 ⟨this.1, by simp⟩, by simp, by simp, by simp only [val_cons, val_nil]; omega⟩
  · have d1 := dig_ofNat (i := n % 10) (by omega)
    by_cases h2 : n < 100
    · rw [Lib.decDigits_two h1 h2]
      have d2 := dig_ofNat (i := n / 10) (by omega)
      exact ⟨List.forall_mem_cons.2 ⟨d2.1, List.forall_mem_cons.2 ⟨d1.1, by simp⟩⟩, by simp, by simp, by simp only [val_cons, val_nil, d1.2, d2.2]; omega⟩
    · rw [Lib.decDigits, dif_neg h1, Lib.decDigits_two (by omega) (by omega)]
      have d2 := dig_ofNat (i := n / 10 / 10) (by omega)
      have d3 := dig_ofNat (i := n / 10 % 10) (by omega)
      exact ⟨List.forall_mem_cons.2 ⟨d2.1, List.forall_mem_cons.2 ⟨d3.1, List.forall_mem_cons.2 ⟨d1.1, by simp⟩⟩⟩, by simp, by simp, by simp only [List.cons_append, List.nil_append, val_cons, val_nil, d1.2, d2.2, d3.2]; omega⟩

theorem blank_stops {c : UInt8} (h : blank c = true) (l : List UInt8) : stops (c :: l) := fun d hd => by
  cases hd
  cases e : digit c
  · rfl
  · rw [digit_not_blank e] at h; cases h

theorem number_dec {most n : Nat} {c : UInt8} {l : List UInt8} (hc : blank c = true) (hn : n < 1000) (hm : n ≤ most) (hs : stops l) : number most (c :: (dec n ++ l)) = (some n, l) := by
  obtain ⟨h1, h2, h3, h4⟩ := dec_digits n hn
  have := number_gap (most := most) (Gap.one hc) h1 h2 (by omega) (by omega) hs
  rw [h4] at this
  exact this

theorem side_le {n : Nat} (h : side n = true) : 1 ≤ n ∧ n ≤ 256 := by unfold side at h; simpa using h

theorem dec255 : dec 255 = [50, 53, 53] := by
  simp [dec, Lib.decDigits]
theorem heads_head {k : UInt8} {w h : Nat} (hw : side w = true) (hh : side h = true) (l : List UInt8) : heads (10 :: (dec w ++ 32 :: (dec h ++ 10 :: ([50, 53, 53] ++ 10 :: l)))) = some (w, h, 10 :: l) := by
  have w2 := side_le hw
  have h2 := side_le hh
  have b10 : blank 10 = true := rfl
  have b32 : blank 32 = true := rfl
  have e1 := number_dec (most := 256) (l := 32 :: (dec h ++ 10 :: ([50, 53, 53] ++ 10 :: l))) b10 (by omega) w2.2 (blank_stops b32 _)
  have e2 := number_dec (most := 256) (l := 10 :: ([50, 53, 53] ++ 10 :: l)) b32 (by omega) h2.2 (blank_stops b10 _)
  have e3 := number_dec (most := 255) (n := 255) (l := 10 :: l) b10 (by omega) (by omega) (blank_stops b10 _)
  rw [dec255] at e3
  unfold heads
  simp only [e1, e2, e3, hw, hh]
  simp

theorem parse_bytes {p : Pic} (h : p.right = true) : parse (bytes p) = some p := by
  obtain ⟨w, hh, g⟩ := p
  simp only [Pic.right, Bool.and_eq_true, decide_eq_true_eq] at h
  have e := heads_head (k := 53) h.1.1 h.1.2 g
  simp only [bytes, head, List.cons_append, List.append_assoc, List.nil_append] at e ⊢
  rw [parse, e]
  simp [h.2, blank]

end Pg
end Go.Proofs.YtinhbebjlbnejaaDoor
