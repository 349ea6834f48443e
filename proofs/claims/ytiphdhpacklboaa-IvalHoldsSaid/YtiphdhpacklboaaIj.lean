/- The law IvalHolds: walk and plain law joined. -/
import Derived.Test.YtiphdhpacklboaaIk
import Derived.Test.YtiphdhpacklboaaIh1
import Derived.Test.YtiphdhpacklboaaIh2
import Derived.Test.YtiphdhpacklboaaIh3
import Derived.Test.YtiphdhpacklboaaIh4
import Derived.Test.YtiphdhpacklboaaIh5
namespace Go.Proofs.Ytiphdhpacklboaa
open Go Go.RowKit
set_option linter.unusedVariables false

theorem ask_zero (e : Int) (r : Bool) (x : (Nat × Nat) × Int) : (Dy.cAsk e r x).2 ≠ 0 → (Dy.cAsk e r x).1 = (0, 0) := by
  unfold Dy.cAsk
  split
  · intro _; rfl
  · split
    · intro _; rfl
    · split
      · intro _; rfl
      · intro h; exact absurd rfl h
theorem ask_zero1 {k : Int} (hk : 0 ≤ k) (e : Int) (a b : Nat × Nat) : (opAsk k e a b).2 ≠ 0 → (opAsk k e a b).1 = (0, 0) := by
  rcases ask_cases hk with h | h | h | h | h | h | h | h | h | h | ⟨h, _⟩ <;> rw [h]
  · exact ask_zero _ _ _
  · exact ask_zero _ _ _
  · exact ask_zero _ _ _
  · exact ask_zero _ _ _
  · exact ask_zero _ _ _
  · exact ask_zero _ _ _
  · exact ask_zero _ _ _
  · exact ask_zero _ _ _
  · exact ask_zero _ _ _
  · exact ask_zero _ _ _
  · exact ask_zero _ _ _
theorem rN_E {x y : Int} (ox : Dy.ok x) (oy : Dy.ok y) : rN [.f (Dy.enc x), .f (Dy.enc y)] = true := by
  show (Dy.right (Dy.enc x) && Dy.right (Dy.enc y)) = true
  rw [Dy.right_enc ox, Dy.right_enc oy]; rfl
theorem last4 {c1 c2 c3 c4 s : Int} (o1 : Dy.ok c1) (o2 : Dy.ok c2) (o3 : Dy.ok c3) (o4 : Dy.ok c4) (os : Dy.ok s) (h : c1 = s ∨ c2 = s ∨ c3 = s ∨ c4 = s) :
    Dy.feq (Dy.enc c1) (Dy.enc s) = false → Dy.feq (Dy.enc c2) (Dy.enc s) = false → Dy.feq (Dy.enc c3) (Dy.enc s) = false → Dy.feq (Dy.enc c4) (Dy.enc s) = true := by
  rw [Dy.feq_enc o1 os, Dy.feq_enc o2 os, Dy.feq_enc o3 os, Dy.feq_enc o4 os]
  simp only [decide_eq_true_eq, decide_eq_false_iff_not]
  omega
theorem gt_no {x y : Int} (ox : Dy.ok x) (oy : Dy.ok y) (h : x ≤ y) : Dy.fgt (Dy.enc x) (Dy.enc y) = false := by rw [Dy.fgt_enc ox oy]; exact decide_eq_false (by omega)
theorem lt_no {x y : Int} (ox : Dy.ok x) (oy : Dy.ok y) (h : y ≤ x) : Dy.flt (Dy.enc x) (Dy.enc y) = false := by rw [Dy.flt_enc ox oy]; exact decide_eq_false (by omega)
/-- Squares, and what has no sign, of an interval on one side. -/
theorem corner69 {k : Int} (hk : 0 ≤ k) (h69 : k.tmod 11 = 6 ∨ k.tmod 11 = 9) {p q s c1 : Int × Int} {y : Int} (hp : Dy.Rk p) (h : Dy.Got (opAsk k 0 (Dy.E p) (Dy.E q)) s) (h1 : Dy.Got (opAsk k 0 (Dy.E (p.1, p.1)) (Dy.E (y, y))) c1) : (0 ≤ p.1 → c1.1 = s.1) ∧ (p.2 ≤ 0 → c1.2 = s.2) := by
  have p1 := Dy.rk_pt hp.lo
  have hl := hp.le
  unfold opAsk at h h1
  have b1 : Dy.rBare (p.1, p.1) = (p.1, p.1) ∨ Dy.rBare (p.1, p.1) = (-p.1, -p.1) := by
    unfold Dy.rBare Dy.rTurned; dsimp only
    by_cases c : 0 ≤ p.1
    · rw [if_pos c]; exact .inl rfl
    · rw [if_neg c, if_pos (by omega)]; exact .inr rfl
  rcases h69 with e | e
  · rw [e] at h h1
    rw [Dy.sqr_eq hp h, Dy.sqr_eq p1 h1]
    dsimp only
    have m : ∀ up, Dy.mulR (Dy.rBare (p.1, p.1)).1 (Dy.rBare (p.1, p.1)).1 up = Dy.mulR p.1 p.1 up ∧ Dy.mulR (Dy.rBare (p.1, p.1)).2 (Dy.rBare (p.1, p.1)).2 up = Dy.mulR p.1 p.1 up := fun up => by
      rcases b1 with b | b
      · rw [b]; exact ⟨rfl, rfl⟩
      · rw [b]; exact ⟨Dy.mulR_nn2 _ _, Dy.mulR_nn2 _ _⟩
    rw [(m _).1, (m _).2]
    refine ⟨fun c => ?_, fun d => ?_⟩
    · rw [show Dy.rBare p = p by unfold Dy.rBare; rw [if_pos c]]
    · by_cases c : 0 ≤ p.1
      · rw [show Dy.rBare p = p by unfold Dy.rBare; rw [if_pos c], show p.2 = p.1 by omega]
      · rw [show Dy.rBare p = Dy.rTurned p by unfold Dy.rBare; rw [if_neg c, if_pos d]]; exact (Dy.mulR_nn2 _ _).symm
  · rw [e] at h h1
    rw [(show Dy.Got (Dy.cAbs 0 (Dy.E p)) s from h).uniq (Dy.got_abs hp), (show Dy.Got (Dy.cAbs 0 _) c1 from h1).uniq (Dy.got_abs p1)]
    unfold Dy.rBare Dy.rTurned
    dsimp only
    refine ⟨fun c => ?_, fun d => ?_⟩
    · rw [if_pos c, if_pos c]
    · by_cases c : 0 ≤ p.1
      · rw [if_pos c, if_pos c]; dsimp only; omega
      · rw [if_neg c, if_pos (by omega), if_neg c, if_pos d]
set_option maxHeartbeats 4000000 in
theorem holds10 {a2 : Nat} {k0 : Int} (hk : 0 ≤ k0) {p q : Int × Int} (hp : Dy.Rk p) (hp0 : Dy.ivR (Dy.enc p.1, a2) = true) (wa : Dy.W a2) (hpp : p.1 = p.2) (hq : Dy.Rk q) {m n : Nat} (hm : m < 65536) (hn : n < 65536) (h10 : (k0.tmod 11 == 10) = true) (w : World) :
    Calls Try.prog 3 #[.agg #[.int .u8 k0, .float .f64 (Dy.enc p.1), .float .f64 a2, .float .f64 (Dy.enc q.1), .float .f64 (Dy.enc q.2)], .int .u16 (m : Int), .int .u16 (n : Int)] w fun e w' => e = .returned (.bool true) ∧ Below w.heap.size w w' := by
  obtain ⟨c, c'⟩ := p
  dsimp only at hpp
  subst hpp
  have oc := hp.lo
  have hs : Dy.Got (opAsk k0 0 (Dy.E (c, c)) (Dy.E q)) (c, c) := by
    rcases ask_cases hk with h | h | h | h | h | h | h | h | h | h | ⟨h, _⟩
    case inr.inr.inr.inr.inr.inr.inr.inr.inr.inr => rw [h]; exact Dy.got_num oc
    all_goals
      exfalso
      have e := h 0 (1, 2) (0, 0)
      unfold opAsk at e
      rw [show k0.tmod 11 = 10 by simpa using h10] at e
      revert e
      decide +kernel
  have pt : ∀ x y, pointG k0 x y false = (x, true) ∧ pointG k0 x y true = (x, true) := fun x y => by
    unfold pointG; rw [show k0.tmod 11 = 10 by simpa using h10]; exact ⟨rfl, rfl⟩
  obtain ⟨x, hx, x1, x2, ox⟩ := btw_in hp (m : Int)
  obtain ⟨y, hy, y1, y2, oy⟩ := btw_in hq (n : Int)
  dsimp only at hx x1 x2
  have xc : x = c := by omega
  subst xc
  have gx := pt (Dy.enc x) (Dy.enc y)
  have g1 := pt (Dy.enc x) (Dy.enc q.1)
  have g2 := pt (Dy.enc x) (Dy.enc q.2)
  have f1 := gt_no ox ox (Int.le_refl x)
  have f2 := lt_no ox ox (Int.le_refl x)
  have w1 : Dy.feq (Dy.enc x) (Dy.enc x) = true := by rw [Dy.feq_enc ox ox]; exact decide_eq_true rfl
  have w2 := w1
  have j6 : (k0.tmod 11 == 6) = false := by rw [show k0.tmod 11 = 10 by simpa using h10]; rfl
  have j9 : (k0.tmod 11 == 9) = false := by rw [show k0.tmod 11 = 10 by simpa using h10]; rfl
  exact ivalholds_N10 k0 _ _ _ _ _ _ w (Dy.W_enc ox) wa (Dy.W_enc hq.lo) (Dy.W_enc hq.hi) rfl hs.1 hx hy gx.1 gx.2 g1.1 g1.2 g2.1 g2.2 hp0 hq.E_R h10 hp.E_R hq.E_R rfl (prt_ok hm) (prt_ok hn) (rN_E ox oy) hs.rk.E_R f1 f2 j6 j9 (rN_E hp.lo hq.lo) w1 w2 (rN_E hp.lo hq.hi)
set_option maxHeartbeats 8000000 in
theorem holds_num {k0 : Int} (hk : 0 ≤ k0) {p q : Int × Int} (hp : Dy.Rk p) (hq : Dy.Rk q) {m n : Nat} (hm : m < 65536) (hn : n < 65536) (h10 : (k0.tmod 11 == 10) = false) (w : World) :
    Calls Try.prog 3 #[.agg #[.int .u8 k0, .float .f64 (Dy.enc p.1), .float .f64 (Dy.enc p.2), .float .f64 (Dy.enc q.1), .float .f64 (Dy.enc q.2)], .int .u16 (m : Int), .int .u16 (n : Int)] w fun e w' => e = .returned (.bool true) ∧ Below w.heap.size w w' := by
  have hg := ask_good (err := 0) hk hp hq
  by_cases he : (opAsk k0 0 (Dy.E p) (Dy.E q)).2 = 0
  · obtain ⟨s, hs⟩ := got_good hg he
    have n10 : (k0.tmod 11 == 10) = true → p.1 = p.2 := fun h => by rw [h10] at h; cases h
    have at_ : ∀ {x y : Int}, p.1 ≤ x → x ≤ p.2 → q.1 ≤ y → y ≤ q.2 → Dy.ok x → Dy.ok y → ∃ c, Dy.Got (opAsk k0 0 (Dy.E (x, x)) (Dy.E (y, y))) c ∧ Dy.Wi c s := fun x1 x2 y1 y2 ox oy =>
      ask_mono hk hp hq (Dy.rk_pt ox) (Dy.rk_pt oy) ⟨x1, x2⟩ ⟨y1, y2⟩ n10 hs
    have pl := hp.le; have ql := hq.le
    obtain ⟨x, hx, x1, x2, ox⟩ := btw_in hp (m : Int)
    obtain ⟨y, hy, y1, y2, oy⟩ := btw_in hq (n : Int)
    obtain ⟨cx, hcx, wx⟩ := at_ x1 x2 y1 y2 ox oy
    obtain ⟨c1, h1, _⟩ := at_ (Int.le_refl _) pl (Int.le_refl _) ql hp.lo hq.lo
    obtain ⟨c2, h2, _⟩ := at_ (Int.le_refl _) pl ql (Int.le_refl _) hp.lo hq.hi
    obtain ⟨c3, h3, _⟩ := at_ pl (Int.le_refl _) (Int.le_refl _) ql hp.hi hq.lo
    obtain ⟨c4, h4, _⟩ := at_ pl (Int.le_refl _) ql (Int.le_refl _) hp.hi hq.hi
    obtain ⟨lo, hi⟩ := corners hk hp hq hs h10 h1 h2 h3 h4
    have gx := point_ask hk ox oy hcx
    have g1 := point_ask hk hp.lo hq.lo h1
    have g2 := point_ask hk hp.lo hq.hi h2
    have g3 := point_ask hk hp.hi hq.lo h3
    have g4 := point_ask hk hp.hi hq.hi h4
    have f1 := gt_no hs.rk.lo hcx.rk.lo wx.lo
    have f2 := lt_no hs.rk.hi hcx.rk.hi wx.hi
    have hiL := last4 h1.rk.hi h2.rk.hi h3.rk.hi h4.rk.hi hs.rk.hi hi
    have e1 : Dy.flt (Dy.enc p.1) 0 = decide (p.1 < 0) := Dy.flt_enc hp.lo Dy.ok_zero
    have e2 : Dy.fgt (Dy.enc p.2) 0 = decide (0 < p.2) := Dy.fgt_enc hp.hi Dy.ok_zero
    have main : (k0.tmod 11 == 6) = false → (k0.tmod 11 == 9) = false → Calls Try.prog 3 #[.agg #[.int .u8 k0, .float .f64 (Dy.enc p.1), .float .f64 (Dy.enc p.2), .float .f64 (Dy.enc q.1), .float .f64 (Dy.enc q.2)], .int .u16 (m : Int), .int .u16 (n : Int)] w fun e w' => e = .returned (.bool true) ∧ Below w.heap.size w w' := fun j6 j9 => by
      have lo' : c1.1 = s.1 ∨ c2.1 = s.1 ∨ c3.1 = s.1 ∨ c4.1 = s.1 := by
        rcases lo with h | ⟨h, _⟩
        · exact h
        · rw [j6, j9] at h; rcases h with h | h <;> cases h
      have loL := last4 h1.rk.lo h2.rk.lo h3.rk.lo h4.rk.lo hs.rk.lo lo'
      cases l1 : Dy.feq (Dy.enc c1.1) (Dy.enc s.1) with
      | true => exact ivalholds_F01 k0 _ _ _ _ _ _ w (Dy.W_enc hp.lo) (Dy.W_enc hp.hi) (Dy.W_enc hq.lo) (Dy.W_enc hq.hi) rfl hs.1 hx hy gx.1 gx.2 g1.1 g1.2 rfl g2.1 g2.2 g3.1 g3.2 g4.1 g4.2 rfl rfl hp.E_R hq.E_R h10 hp.E_R hq.E_R rfl (prt_ok hm) (prt_ok hn) (rN_E ox oy) hs.rk.E_R f1 f2 j6 j9 (rN_E hp.lo hq.lo) l1 (rN_E hp.lo hq.hi) (fun _ => (rN_E hp.hi hq.lo)) (fun _ => (rN_E hp.hi hq.hi)) (fun _ => (rN_E hp.hi hq.lo)) (fun _ _ => (rN_E hp.hi hq.hi)) (fun _ _ => (rN_E hp.hi hq.hi)) (by intros; first | exact hiL (by assumption) (by assumption) (by assumption) | exact loL (by assumption) (by assumption) (by assumption))
      | false =>
        cases l2 : Dy.feq (Dy.enc c2.1) (Dy.enc s.1) with
        | true => exact ivalholds_F02 k0 _ _ _ _ _ _ w (Dy.W_enc hp.lo) (Dy.W_enc hp.hi) (Dy.W_enc hq.lo) (Dy.W_enc hq.hi) rfl hs.1 hx hy gx.1 gx.2 g1.1 g1.2 rfl g2.1 g2.2 g3.1 g3.2 g4.1 g4.2 rfl rfl hp.E_R hq.E_R h10 hp.E_R hq.E_R rfl (prt_ok hm) (prt_ok hn) (rN_E ox oy) hs.rk.E_R f1 f2 j6 j9 (rN_E hp.lo hq.lo) l1 (rN_E hp.lo hq.hi) l2 (fun _ => (rN_E hp.hi hq.lo)) (fun _ => (rN_E hp.hi hq.hi)) (fun _ => (rN_E hp.hi hq.lo)) (fun _ _ => (rN_E hp.hi hq.hi)) (fun _ _ => (rN_E hp.hi hq.hi)) (by intros; first | exact hiL (by assumption) (by assumption) (by assumption) | exact loL (by assumption) (by assumption) (by assumption))
        | false =>
          cases l3 : Dy.feq (Dy.enc c3.1) (Dy.enc s.1) with
          | true => exact ivalholds_F03 k0 _ _ _ _ _ _ w (Dy.W_enc hp.lo) (Dy.W_enc hp.hi) (Dy.W_enc hq.lo) (Dy.W_enc hq.hi) rfl hs.1 hx hy gx.1 gx.2 g1.1 g1.2 rfl g2.1 g2.2 g3.1 g3.2 g4.1 g4.2 rfl rfl hp.E_R hq.E_R h10 hp.E_R hq.E_R rfl (prt_ok hm) (prt_ok hn) (rN_E ox oy) hs.rk.E_R f1 f2 j6 j9 (rN_E hp.lo hq.lo) l1 (rN_E hp.lo hq.hi) l2 (fun _ => (rN_E hp.hi hq.lo)) (fun _ => l3) (fun _ => (rN_E hp.hi hq.hi)) (fun _ => (rN_E hp.hi hq.lo)) (fun _ => l3) (fun _ _ => (rN_E hp.hi hq.hi)) (fun _ _ => (rN_E hp.hi hq.hi)) (by intros; first | exact hiL (by assumption) (by assumption) (by assumption) | exact loL (by assumption) (by assumption) (by assumption))
          | false =>
            have l4 := loL l1 l2 l3
            exact ivalholds_F04 k0 _ _ _ _ _ _ w (Dy.W_enc hp.lo) (Dy.W_enc hp.hi) (Dy.W_enc hq.lo) (Dy.W_enc hq.hi) rfl hs.1 hx hy gx.1 gx.2 g1.1 g1.2 rfl g2.1 g2.2 g3.1 g3.2 g4.1 g4.2 rfl rfl hp.E_R hq.E_R h10 hp.E_R hq.E_R rfl (prt_ok hm) (prt_ok hn) (rN_E ox oy) hs.rk.E_R f1 f2 j6 j9 (rN_E hp.lo hq.lo) l1 (rN_E hp.lo hq.hi) l2 (fun _ => (rN_E hp.hi hq.lo)) (fun _ => l3) (fun _ => (rN_E hp.hi hq.hi)) (fun _ => l4) (fun _ => (rN_E hp.hi hq.lo)) (fun _ => l3) (fun _ _ => (rN_E hp.hi hq.hi)) (fun _ _ => l4) (fun _ _ => (rN_E hp.hi hq.hi)) (fun _ _ => l4) (by intros; first | exact hiL (by assumption) (by assumption) (by assumption) | exact loL (by assumption) (by assumption) (by assumption))
    have side : ∀ j : Bool, (k0.tmod 11 = 6 ∨ k0.tmod 11 = 9) → (¬ (p.1 < 0 ∧ 0 < p.2)) → (Dy.flt (Dy.enc p.1) 0 = false ∧ Dy.feq (Dy.enc c1.1) (Dy.enc s.1) = true) ∨ (Dy.flt (Dy.enc p.1) 0 = true ∧ Dy.fgt (Dy.enc p.2) 0 = false ∧ Dy.feq (Dy.enc c1.2) (Dy.enc s.2) = true) := fun _ h69 sp => by
      obtain ⟨z1, z2⟩ := corner69 hk h69 hp hs h1
      by_cases c : 0 ≤ p.1
      · exact .inl ⟨e1.trans (decide_eq_false (by omega)), by rw [z1 c, Dy.feq_enc hs.rk.lo hs.rk.lo]; exact decide_eq_true rfl⟩
      · exact .inr ⟨e1.trans (decide_eq_true (by omega)), e2.trans (decide_eq_false (by omega)), by rw [z2 (by omega), Dy.feq_enc hs.rk.hi hs.rk.hi]; exact decide_eq_true rfl⟩
    by_cases sp : p.1 < 0 ∧ 0 < p.2
    · have n1 := e1.trans (decide_eq_true sp.1)
      have n2 := e2.trans (decide_eq_true sp.2)
      cases j6 : (k0.tmod 11 == 6) with
      | true => exact ivalholds_T6 k0 _ _ _ _ _ _ w (Dy.W_enc hp.lo) (Dy.W_enc hp.hi) (Dy.W_enc hq.lo) (Dy.W_enc hq.hi) rfl hs.1 hx hy gx.1 gx.2 g1.1 g1.2 rfl g2.1 g2.2 g3.1 g3.2 g4.1 g4.2 rfl rfl hp.E_R hq.E_R h10 hp.E_R hq.E_R rfl (prt_ok hm) (prt_ok hn) (rN_E ox oy) hs.rk.E_R f1 f2 j6 n1 n2 (rN_E hp.lo hq.lo) (rN_E hp.lo hq.hi) (fun _ => (rN_E hp.hi hq.lo)) (fun _ => (rN_E hp.hi hq.hi)) (fun _ => (rN_E hp.hi hq.lo)) (fun _ _ => (rN_E hp.hi hq.hi)) (fun _ _ => (rN_E hp.hi hq.hi)) (by intros; first | exact hiL (by assumption) (by assumption) (by assumption) | exact loL (by assumption) (by assumption) (by assumption))
      | false =>
        cases j9 : (k0.tmod 11 == 9) with
        | true => exact ivalholds_T9 k0 _ _ _ _ _ _ w (Dy.W_enc hp.lo) (Dy.W_enc hp.hi) (Dy.W_enc hq.lo) (Dy.W_enc hq.hi) rfl hs.1 hx hy gx.1 gx.2 g1.1 g1.2 rfl g2.1 g2.2 g3.1 g3.2 g4.1 g4.2 rfl rfl hp.E_R hq.E_R h10 hp.E_R hq.E_R rfl (prt_ok hm) (prt_ok hn) (rN_E ox oy) hs.rk.E_R f1 f2 j6 j9 n1 n2 (rN_E hp.lo hq.lo) (rN_E hp.lo hq.hi) (fun _ => (rN_E hp.hi hq.lo)) (fun _ => (rN_E hp.hi hq.hi)) (fun _ => (rN_E hp.hi hq.lo)) (fun _ _ => (rN_E hp.hi hq.hi)) (fun _ _ => (rN_E hp.hi hq.hi)) (by intros; first | exact hiL (by assumption) (by assumption) (by assumption) | exact loL (by assumption) (by assumption) (by assumption))
        | false => exact main j6 j9
    · have lo' : c1.1 = s.1 ∨ c2.1 = s.1 ∨ c3.1 = s.1 ∨ c4.1 = s.1 := by
        rcases lo with h | ⟨_, h⟩
        · exact h
        · exact absurd h sp
      have loL := last4 h1.rk.lo h2.rk.lo h3.rk.lo h4.rk.lo hs.rk.lo lo'
      cases j6 : (k0.tmod 11 == 6) with
      | true =>
        have j9 : (k0.tmod 11 == 9) = false := by rw [show k0.tmod 11 = 6 by simpa using j6]; rfl
        rcases side true (.inl (by simpa using j6)) sp with ⟨n1f, l1⟩ | ⟨n1, n2f, u1⟩
        · exact ivalholds_F6p k0 _ _ _ _ _ _ w (Dy.W_enc hp.lo) (Dy.W_enc hp.hi) (Dy.W_enc hq.lo) (Dy.W_enc hq.hi) rfl hs.1 hx hy gx.1 gx.2 g1.1 g1.2 rfl g2.1 g2.2 g3.1 g3.2 g4.1 g4.2 rfl rfl hp.E_R hq.E_R h10 hp.E_R hq.E_R rfl (prt_ok hm) (prt_ok hn) (rN_E ox oy) hs.rk.E_R f1 f2 j6 n1f j9 (rN_E hp.lo hq.lo) l1 (rN_E hp.lo hq.hi) (fun _ => (rN_E hp.hi hq.lo)) (fun _ => (rN_E hp.hi hq.hi)) (fun _ => (rN_E hp.hi hq.lo)) (fun _ _ => (rN_E hp.hi hq.hi)) (fun _ _ => (rN_E hp.hi hq.hi)) (by intros; first | exact hiL (by assumption) (by assumption) (by assumption) | exact loL (by assumption) (by assumption) (by assumption))
        · exact ivalholds_F6n k0 _ _ _ _ _ _ w (Dy.W_enc hp.lo) (Dy.W_enc hp.hi) (Dy.W_enc hq.lo) (Dy.W_enc hq.hi) rfl hs.1 hx hy gx.1 gx.2 g1.1 g1.2 rfl g2.1 g2.2 g3.1 g3.2 g4.1 g4.2 rfl rfl hp.E_R hq.E_R h10 hp.E_R hq.E_R rfl (prt_ok hm) (prt_ok hn) (rN_E ox oy) hs.rk.E_R f1 f2 j6 n1 n2f j9 (rN_E hp.lo hq.lo) u1 (rN_E hp.lo hq.hi) (fun _ => (rN_E hp.hi hq.lo)) (fun _ => (rN_E hp.hi hq.hi)) (fun _ => (rN_E hp.hi hq.lo)) (fun _ _ => (rN_E hp.hi hq.hi)) (fun _ _ => (rN_E hp.hi hq.hi)) (by intros; first | exact hiL (by assumption) (by assumption) (by assumption) | exact loL (by assumption) (by assumption) (by assumption))
      | false =>
        cases j9 : (k0.tmod 11 == 9) with
        | true =>
          rcases side true (.inr (by simpa using j9)) sp with ⟨n1f, l1⟩ | ⟨n1, n2f, u1⟩
          · exact ivalholds_F9p k0 _ _ _ _ _ _ w (Dy.W_enc hp.lo) (Dy.W_enc hp.hi) (Dy.W_enc hq.lo) (Dy.W_enc hq.hi) rfl hs.1 hx hy gx.1 gx.2 g1.1 g1.2 rfl g2.1 g2.2 g3.1 g3.2 g4.1 g4.2 rfl rfl hp.E_R hq.E_R h10 hp.E_R hq.E_R rfl (prt_ok hm) (prt_ok hn) (rN_E ox oy) hs.rk.E_R f1 f2 j6 j9 n1f (rN_E hp.lo hq.lo) l1 (rN_E hp.lo hq.hi) (fun _ => (rN_E hp.hi hq.lo)) (fun _ => (rN_E hp.hi hq.hi)) (fun _ => (rN_E hp.hi hq.lo)) (fun _ _ => (rN_E hp.hi hq.hi)) (fun _ _ => (rN_E hp.hi hq.hi)) (by intros; first | exact hiL (by assumption) (by assumption) (by assumption) | exact loL (by assumption) (by assumption) (by assumption))
          · exact ivalholds_F9n k0 _ _ _ _ _ _ w (Dy.W_enc hp.lo) (Dy.W_enc hp.hi) (Dy.W_enc hq.lo) (Dy.W_enc hq.hi) rfl hs.1 hx hy gx.1 gx.2 g1.1 g1.2 rfl g2.1 g2.2 g3.1 g3.2 g4.1 g4.2 rfl rfl hp.E_R hq.E_R h10 hp.E_R hq.E_R rfl (prt_ok hm) (prt_ok hn) (rN_E ox oy) hs.rk.E_R f1 f2 j6 j9 n1 n2f (rN_E hp.lo hq.lo) u1 (rN_E hp.lo hq.hi) (fun _ => (rN_E hp.hi hq.lo)) (fun _ => (rN_E hp.hi hq.hi)) (fun _ => (rN_E hp.hi hq.lo)) (fun _ _ => (rN_E hp.hi hq.hi)) (fun _ _ => (rN_E hp.hi hq.hi)) (by intros; first | exact hiL (by assumption) (by assumption) (by assumption) | exact loL (by assumption) (by assumption) (by assumption))
        | false => exact main j6 j9
  · have hz := ask_zero1 hk 0 (Dy.E p) (Dy.E q) he
    rcases hE : opAsk k0 0 (Dy.E p) (Dy.E q) with ⟨⟨c1, c2⟩, c3⟩
    rw [hE] at he hz
    exact ivalholds_e0 k0 _ _ _ _ _ _ w (Dy.W_enc hp.lo) (Dy.W_enc hp.hi) (Dy.W_enc hq.lo) (Dy.W_enc hq.hi) rfl hE hp.E_R hq.E_R h10 hp.E_R hq.E_R (by simpa using he) (decide_eq_true hz)
theorem ivalholds_ok (k0 : Int) (a1 a2 b1 b2 : Nat) (m n : Nat) (w : World) (w1 : Dy.W a1) (w2 : Dy.W a2) (w3 : Dy.W b1) (w4 : Dy.W b2) (hk : 0 ≤ k0) (hm : m < 65536) (hn : n < 65536) :
    Calls Try.prog 3 #[.agg #[.int .u8 k0, .float .f64 a1, .float .f64 a2, .float .f64 b1, .float .f64 b2], .int .u16 (m : Int), .int .u16 (n : Int)] w fun e w' => e = .returned (.bool true) ∧ Below w.heap.size w w' := by
  cases hA : Dy.ivR (a1, a2) with
  | false => exact ivalholds_nA _ _ _ _ _ _ _ w w1 w2 w3 w4 hA
  | true =>
    cases hB : Dy.ivR (b1, b2) with
    | false => exact ivalholds_nB _ _ _ _ _ _ _ w w1 w2 w3 w4 hA hB
    | true =>
      obtain ⟨r1, r2, r3⟩ := Dy.ivR_of hA
      obtain ⟨s1, s2, s3⟩ := Dy.ivR_of hB
      have hp : Dy.Rk (Dy.dec a1, Dy.dec a2) := ⟨Dy.ok_dec w1 r1, Dy.ok_dec w2 r2, r3⟩
      have hq : Dy.Rk (Dy.dec b1, Dy.dec b2) := ⟨Dy.ok_dec w3 s1, Dy.ok_dec w4 s2, s3⟩
      cases h10 : (k0.tmod 11 == 10) with
      | false =>
        have := holds_num hk hp hq hm hn h10 w
        dsimp only at this
        rwa [Dy.enc_of_dec w1 r1, Dy.enc_of_dec w2 r2, Dy.enc_of_dec w3 s1, Dy.enc_of_dec w4 s2] at this
      | true =>
        have hp1 : Dy.Rk (Dy.dec a1, Dy.dec a1) := Dy.rk_pt (Dy.ok_dec w1 r1)
        have := holds10 (a2 := a2) hk hp1 (by dsimp only; rw [Dy.enc_of_dec w1 r1]; exact hA) w2 rfl hq hm hn h10 w
        dsimp only at this
        rwa [Dy.enc_of_dec w1 r1, Dy.enc_of_dec w3 s1, Dy.enc_of_dec w4 s2] at this
end Go.Proofs.Ytiphdhpacklboaa
