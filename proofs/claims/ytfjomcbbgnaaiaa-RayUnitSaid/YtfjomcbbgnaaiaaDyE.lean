/-
  Plain facts: the length of a word; whole numbers of 128 bits by two words.
-/
import Derived.Test.YtfjomcbbgnaaiaaDyD
import Derived.Lib.BitFns
namespace Go.Dy

/-- How many digits a number has. -/
def blen (x : Nat) : Nat := if x = 0 then 0 else x.log2 + 1

theorem blen_le {x k : Nat} : blen x ≤ k ↔ x < 2 ^ k := by
  unfold blen
  split
  · rename_i h
    have := Nat.two_pow_pos k
    omega
  · rename_i h
    have := Nat.log2_lt h (k := k)
    omega

theorem lt_blen {x k : Nat} : k < blen x ↔ 2 ^ k ≤ x := by
  have := @blen_le x k
  omega

theorem bitLenAux_blen : ∀ f x : Nat, x < 2 ^ f → Lib.bitLenAux f x = blen x
  | 0, x, h => by
    have : x = 0 := by simp at h; exact h
    subst this; rfl
  | f + 1, x, h => by
    unfold Lib.bitLenAux
    split
    · rename_i h0; subst h0; rfl
    · rename_i h0
      rw [bitLenAux_blen f (x / 2) (by rw [Nat.pow_succ] at h; omega)]
      unfold blen
      rw [if_neg h0, Nat.log2_def x]
      by_cases h2 : 2 ≤ x
      · rw [if_pos h2, if_neg (by omega)]; omega
      · rw [if_neg h2, if_pos (by omega)]

theorem bitLen_blen {x : Nat} (h : x < 2 ^ 64) : Lib.bitLen x = blen x := bitLenAux_blen 64 x h

/-- The number of two words. -/
def wd (h l : Nat) : Nat := h * 2 ^ 64 + l

/-- Two words, and the number that they are. -/
structure Wide (h l n : Nat) : Prop where
  hh : W h
  hl : W l
  eq : wd h l = n

theorem blen_zero : blen 0 = 0 := rfl

theorem blen_eq {x k : Nat} (h1 : 2 ^ k ≤ x) (h2 : x < 2 ^ (k + 1)) : blen x = k + 1 := by
  have a := (@blen_le x (k + 1)).2 h2
  have b := (@lt_blen x k).2 h1
  omega

theorem blen_mul_add {h l k : Nat} (hl : l < 2 ^ k) (h0 : 0 < h) : blen (h * 2 ^ k + l) = k + blen h := by
  have e : blen h = h.log2 + 1 := by unfold blen; rw [if_neg (by omega)]
  have h1 : 2 ^ h.log2 ≤ h := Nat.log2_self_le (by omega)
  have h2 : h + 1 ≤ 2 ^ (h.log2 + 1) := Nat.lt_log2_self
  have k1 : 2 ^ h.log2 * 2 ^ k ≤ h * 2 ^ k := Nat.mul_le_mul_right _ h1
  have k2 : (h + 1) * 2 ^ k ≤ 2 ^ (h.log2 + 1) * 2 ^ k := Nat.mul_le_mul_right _ h2
  rw [← Nat.pow_add] at k1 k2
  rw [Nat.succ_mul] at k2
  have e2 : h.log2 + 1 + k = h.log2 + k + 1 := by omega
  rw [e2] at k2
  have := @blen_eq (h * 2 ^ k + l) (h.log2 + k) (by omega) (by omega)
  omega

theorem blen_wd {h l : Nat} (hl : W l) (h0 : 0 < h) : blen (wd h l) = 64 + blen h := blen_mul_add hl.lt h0

theorem wd_zero (l : Nat) : wd 0 l = l := by unfold wd; omega

theorem wd_lt {h l : Nat} (hh : W h) (hl : W l) : wd h l < 2 ^ 128 := by
  have h1 := hh.lt; have h2 := hl.lt
  unfold wd
  omega

theorem wd_eq_zero {h l : Nat} : wd h l = 0 ↔ h = 0 ∧ l = 0 := by unfold wd; omega

theorem wd_inj {h l h' l' : Nat} (hl : W l) (hl' : W l') : wd h l = wd h' l' ↔ h = h' ∧ l = l' := by
  have h1 := hl.lt; have h2 := hl'.lt
  unfold wd; omega

theorem wd_lt_iff {h l h' l' : Nat} (hl : W l) (hl' : W l') : wd h l < wd h' l' ↔ h < h' ∨ h = h' ∧ l < l' := by
  have h1 := hl.lt; have h2 := hl'.lt
  unfold wd; omega

/-- The lower and the upper word of a number. -/
def lo64 (n : Nat) : Nat := n % 2 ^ 64
def hi64 (n : Nat) : Nat := n / 2 ^ 64
theorem W_lo64 (n : Nat) : W (lo64 n) := by unfold lo64 W; omega
theorem wd_hilo (n : Nat) : wd (hi64 n) (lo64 n) = n := by unfold wd hi64 lo64; omega
theorem W_hi64 {n : Nat} (h : n < 2 ^ 128) : W (hi64 n) := by
  unfold hi64 W
  omega

/-- A difference of words, and what is borrowed. -/
def subl (x y b : Nat) : Nat := (x + 2 ^ 64 - y - b) % 2 ^ 64
def subb (x y b : Nat) : Nat := if x < y + b then 1 else 0

theorem hi64_le {x y : Nat} (hx : W x) (hy : W y) : hi64 (x + y) ≤ 1 := by
  have h1 := hx.lt; have h2 := hy.lt
  unfold hi64; omega

theorem subb_le (x y b : Nat) : subb x y b ≤ 1 := by unfold subb; split <;> omega

theorem add_wide {h l h' l' n m : Nat} (a : Wide h l n) (b : Wide h' l' m) (hs : n + m < 2 ^ 128) :
    Wide (lo64 (h + h' + hi64 (l + l'))) (lo64 (l + l')) (n + m) := by
  refine ⟨W_lo64 _, W_lo64 _, ?_⟩
  obtain ⟨_, _, rfl⟩ := a
  obtain ⟨_, _, rfl⟩ := b
  have e : 2 ^ 128 = 18446744073709551616 * 18446744073709551616 := rfl
  rw [e] at hs
  unfold wd at hs
  unfold wd lo64 hi64
  have : h + h' + (l + l') / 2 ^ 64 < 2 ^ 64 := by omega
  omega

theorem sub_wide {h l h' l' n m : Nat} (a : Wide h l n) (b : Wide h' l' m) (hs : m ≤ n) :
    Wide (subl h h' (subb l l' 0)) (subl l l' 0) (n - m) := by
  obtain ⟨a1, a2, rfl⟩ := a
  obtain ⟨b1, b2, rfl⟩ := b
  have := a1.lt; have := a2.lt; have := b1.lt; have := b2.lt
  refine ⟨by unfold subl W; omega, by unfold subl W; omega, ?_⟩
  unfold wd at hs
  unfold wd subl subb
  split <;> omega

/-- Shifts of a word, by names. -/
def shr (a j : Nat) : Nat := a / 2 ^ j
def shl (a j : Nat) : Nat := lo64 (a * 2 ^ j)
theorem W_shr {a : Nat} (h : W a) (j : Nat) : W (shr a j) := Nat.lt_of_le_of_lt (Nat.div_le_self _ _) h.lt
theorem W_shl (a j : Nat) : W (shl a j) := W_lo64 _

theorem up_great {h l k : Nat} (hk : 64 ≤ k) : Wide (shl l (k - 64)) 0 (wd h l * 2 ^ k % 2 ^ 128) := by
  unfold shl
  refine ⟨W_lo64 _, by unfold W; omega, ?_⟩
  obtain ⟨j, rfl⟩ : ∃ j, k = j + 64 := ⟨k - 64, by omega⟩
  have e1 : j + 64 - 64 = j := by omega
  rw [e1, Nat.pow_add]
  unfold wd lo64
  have e2 : (h * 2 ^ 64 + l) * (2 ^ j * 2 ^ 64) = h * 2 ^ j * (2 ^ 64 * 2 ^ 64) + l * 2 ^ j * 2 ^ 64 := by
    rw [Nat.add_mul, Nat.mul_mul_mul_comm, ← Nat.mul_assoc l]
  rw [e2]
  generalize h * 2 ^ j = a
  generalize l * 2 ^ j = b
  omega

theorem pow_split {k n : Nat} (h : k ≤ n) : 2 ^ n = 2 ^ (n - k) * 2 ^ k := by rw [← Nat.pow_add]; congr 1; omega

theorem up_small {h l k : Nat} (hh : W h) (hl : W l) (hk : k < 64) :
    Wide (shl h k ||| shr l (64 - k)) (shl l k) (wd h l * 2 ^ k % 2 ^ 128) := by
  unfold shl shr
  have h1 := hh.lt; have h2 := hl.lt
  have p1 : 2 ^ 64 = 2 ^ (64 - k) * 2 ^ k := pow_split (by omega)
  have q1 : l / 2 ^ (64 - k) < 2 ^ k := by
    rw [Nat.div_lt_iff_lt_mul (Nat.two_pow_pos _), Nat.mul_comm, ← p1]; exact h2
  have m1 : lo64 (h * 2 ^ k) % 2 ^ k = 0 := by
    unfold lo64
    have : 2 ^ k ∣ h * 2 ^ k % 2 ^ 64 := (Nat.dvd_mod_iff (by rw [p1]; exact Nat.dvd_mul_left _ _)).2 (Nat.dvd_mul_left _ _)
    exact Nat.mod_eq_zero_of_dvd this
  have j1 : lo64 (h * 2 ^ k) ||| l / 2 ^ (64 - k) = lo64 (h * 2 ^ k) + l / 2 ^ (64 - k) := by
    have := Nat.two_pow_add_eq_or_of_lt q1 (lo64 (h * 2 ^ k) / 2 ^ k)
    have e := Nat.div_add_mod (lo64 (h * 2 ^ k)) (2 ^ k)
    rw [m1, Nat.add_zero] at e
    rw [e] at this
    exact this.symm
  have j2 : l * 2 ^ k / 2 ^ 64 = l / 2 ^ (64 - k) := by rw [p1, Nat.mul_div_mul_right _ _ (Nat.two_pow_pos _)]
  have j3 : lo64 (h * 2 ^ k) ||| l / 2 ^ (64 - k) < 2 ^ 64 := by
    refine Nat.or_lt_two_pow (W_lo64 _).lt ?_
    exact Nat.lt_of_le_of_lt (Nat.div_le_self _ _) h2
  refine ⟨j3, W_lo64 _, ?_⟩
  rw [j1] at j3 ⊢
  rw [← j2] at j3 ⊢
  unfold wd lo64 at *
  rw [Nat.add_mul (h * 2 ^ 64), Nat.mul_right_comm h]
  generalize h * 2 ^ k = a at *
  generalize l * 2 ^ k = b at *
  omega

theorem down_great {h l k : Nat} (hh : W h) (hl : W l) (hk : 64 ≤ k) : Wide 0 (shr h (k - 64)) (wd h l / 2 ^ k) := by
  unfold shr
  have h1 := hh.lt; have h2 := hl.lt
  refine ⟨by unfold W; omega, Nat.lt_of_le_of_lt (Nat.div_le_self _ _) h1, ?_⟩
  obtain ⟨j, rfl⟩ : ∃ j, k = j + 64 := ⟨k - 64, by omega⟩
  have e1 : j + 64 - 64 = j := by omega
  rw [e1, wd_zero, Nat.pow_add, Nat.mul_comm (2 ^ j), ← Nat.div_div_eq_div_mul]
  congr 1
  unfold wd; omega

theorem split_div (h l c P B : Nat) (hP : 0 < P) (hB : B = c * P) : (h * B + l) / P = h / P * B + (c * (h % P) + l / P) := by
  subst hB
  have e := Nat.div_add_mod h P
  have e3 : h * (c * P) + l = P * (h / P * (c * P) + c * (h % P)) + l := by
    have : h * (c * P) = P * (h / P * (c * P) + c * (h % P)) := by
      calc h * (c * P) = (P * (h / P) + h % P) * (c * P) := by rw [e]
        _ = P * (h / P) * (c * P) + h % P * (c * P) := Nat.add_mul _ _ _
        _ = P * (h / P * (c * P)) + P * (c * (h % P)) := by
          rw [Nat.mul_assoc]
          congr 1
          rw [← Nat.mul_assoc, Nat.mul_comm, Nat.mul_comm (h % P) c]
        _ = P * (h / P * (c * P) + c * (h % P)) := (Nat.mul_add _ _ _).symm
    rw [this]
  rw [e3, Nat.mul_add_div hP, Nat.add_assoc]

theorem down_small {h l k : Nat} (hh : W h) (hl : W l) (hk : k < 64) :
    Wide (shr h k) (shr l k ||| shl h (64 - k)) (wd h l / 2 ^ k) := by
  unfold shl shr
  have h1 := hh.lt; have h2 := hl.lt
  have p1 : 2 ^ 64 = 2 ^ (64 - k) * 2 ^ k := pow_split (by omega)
  have q1 : l / 2 ^ k < 2 ^ (64 - k) := by
    rw [Nat.div_lt_iff_lt_mul (Nat.two_pow_pos _), ← p1]; exact h2
  have m2 : lo64 (h * 2 ^ (64 - k)) = 2 ^ (64 - k) * (h % 2 ^ k) := by
    unfold lo64
    rw [p1, Nat.mul_comm h, Nat.mul_mod_mul_left]
  have j1 : l / 2 ^ k ||| lo64 (h * 2 ^ (64 - k)) = lo64 (h * 2 ^ (64 - k)) + l / 2 ^ k := by
    rw [m2, Nat.or_comm]
    exact (Nat.two_pow_add_eq_or_of_lt q1 (h % 2 ^ k)).symm
  have j3 : l / 2 ^ k ||| lo64 (h * 2 ^ (64 - k)) < 2 ^ 64 := by
    refine Nat.or_lt_two_pow ?_ (W_lo64 _).lt
    exact Nat.lt_of_le_of_lt (Nat.div_le_self _ _) h2
  refine ⟨Nat.lt_of_le_of_lt (Nat.div_le_self _ _) h1, j3, ?_⟩
  rw [j1, m2]
  unfold wd
  rw [split_div h l (2 ^ (64 - k)) (2 ^ k) (2 ^ 64) (Nat.two_pow_pos _) p1]

theorem up_back {n k : Nat} (hn : n < 2 ^ 128) : (n / 2 ^ k * 2 ^ k % 2 ^ 128 ≠ n) ↔ n % 2 ^ k ≠ 0 := by
  have e := Nat.div_add_mod n (2 ^ k)
  rw [Nat.mul_comm] at e
  have : n / 2 ^ k * 2 ^ k ≤ n := by omega
  rw [Nat.mod_eq_of_lt (by omega)]
  omega

/-- What is lost by a shift; how it is told: shifted back it is another number. -/
def lost (n k : Nat) : Bool := decide (n % 2 ^ k ≠ 0)
theorem lost_out {n k : Nat} (h : n < 2 ^ 128) (hk : 128 ≤ k) : lost n k = decide (n ≠ 0) := by
  unfold lost
  have : 2 ^ 128 ≤ 2 ^ k := Nat.pow_le_pow_right (by omega) hk
  rw [Nat.mod_eq_of_lt (by omega)]
theorem div_out {n k : Nat} (h : n < 2 ^ 128) (hk : 128 ≤ k) : n / 2 ^ k = 0 := by
  have : 2 ^ 128 ≤ 2 ^ k := Nat.pow_le_pow_right (by omega) hk
  exact Nat.div_eq_of_lt (by omega)
theorem lost_back {h l p q p' q' k : Nat} (hh : W h) (hl : W l) (a : Wide p q (wd h l / 2 ^ k)) (b : Wide p' q' (wd p q * 2 ^ k % 2 ^ 128)) :
    (!((p' : Int) == h) || !((q' : Int) == l)) = lost (wd h l) k := by
  have e := up_back (k := k) (wd_lt hh hl)
  rw [← a.eq, ← b.eq] at e
  have e2 := wd_inj (h := p') (h' := h) b.hl hl
  unfold lost
  rw [Bool.eq_iff_iff]
  simp only [Bool.or_eq_true, Bool.not_eq_true', beq_eq_false_iff_ne, decide_eq_true_eq]
  rw [← e]
  have e3 : wd p' q' ≠ wd h l ↔ ¬ (p' = h ∧ q' = l) := not_congr e2
  rw [e3]
  omega

end Go.Dy
