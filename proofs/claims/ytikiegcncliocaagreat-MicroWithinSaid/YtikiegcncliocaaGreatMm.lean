/- micro's look: may directions be? -/
import Derived.Test.YtikiegcncliocaaGreatMl
namespace Go.Proofs.YtikiegcncliocaaGreat
open Go Go.RowKit Go.Shelf
attribute [local go_sem] Oper.semAt_some
set_option linter.unusedSimpArgs false
set_option linter.unusedVariables false

/-- A box of two cells. -/
def Boxed2 (W : World) (B : Nat) (t : TypeId) (u v : Value) : Prop := W.heap[B]? = some (.cells #[u, v] t (0, 0))
theorem Boxed2.c0 {W : World} {B : Nat} {t : TypeId} {u v : Value} (h : Boxed2 W B t u v) : W.cell? ⟨B, 0, none⟩ = some u := by simp [World.cell?, show W.heap[B]? = _ from h]
theorem Boxed2.c1 {W : World} {B : Nat} {t : TypeId} {u v : Value} (h : Boxed2 W B t u v) : W.cell? ⟨B, 1, none⟩ = some v := by simp [World.cell?, show W.heap[B]? = _ from h]
def rightP (x : Pt) : Bool := Dy.ivR (x.1.1, x.1.2.1)
def mayP (x : Pt) : Bool := (Dy.fgt x.1.1 x.1.2.2 || Dy.feq x.1.1 x.1.2.2) && (Dy.flt x.1.2.1 4607182418800017408 || Dy.feq x.1.2.1 4607182418800017408)
/-- What look answers. -/
def lookG (xs : List Pt) : Int := if xs.all rightP then (if xs.all mayP then 0 else 2) else 20
theorem all_snoc (p : Pt → Bool) (pre : List Pt) (x : Pt) : (pre ++ [x]).all p = (pre.all p && p x) := by simp

theorem may_no {x : Pt} (h : ¬(Dy.fgt x.1.1 x.1.2.2 = true ∨ Dy.feq x.1.1 x.1.2.2 = true)) : (true && mayP x) = false := by
  have e : (Dy.fgt x.1.1 x.1.2.2 || Dy.feq x.1.1 x.1.2.2) = false := by
    rw [Bool.or_eq_false_iff]; exact ⟨by simpa using fun k => h (.inl k), by simpa using fun k => h (.inr k)⟩
  unfold mayP; rw [e]; rfl
theorem look_end {w W w1 : World} {pre : List Pt} {x : Pt} {u v : Value} {B : Nat} {a : Act} (hb1 : Below W.heap.size W w1) (bR : Boxed w1 w.heap.size 4 u) (bM : Boxed w1 (w.heap.size + 1) 4 v) (hB1 : Below w.heap.size w W) (hZ : w.heap.size + 3 ≤ W.heap.size)
    (rv mv : Bool) (er : (pre ++ [x]).all rightP = rv) (em : (pre ++ [x]).all mayP = mv) :
    ownPostG B (Kept w.heap.size (w.heap.size + 3)) (fun pre W => (Boxed W w.heap.size 4 (.bool (pre.all rightP)) ∧ Boxed W (w.heap.size + 1) 4 (.bool (pre.all mayP))) ∧ (Below w.heap.size w W ∧ w.heap.size + 3 ≤ W.heap.size)) (fun _ _ _ => False) (pre ++ [x]) W .normal a
      ((w1.setCell ⟨w.heap.size, 0, none⟩ (.bool rv)).setCell ⟨w.heap.size + 1, 0, none⟩ (.bool mv)) := by
  have kf : KeepsFrom B W w1 := ⟨hb1.size, fun k o _ hk _ => (hb1.block k (Array.getElem?_eq_some_iff.1 hk).1).trans hk⟩
  refine ⟨(kf.trans ((KeepsOthers.setCell w1 _ _).from B)).trans ((KeepsOthers.setCell _ _ _).from B), (Kept.of_below hb1).trans ((Kept.set _ _ _ _ _ (by omega)).trans (Kept.set _ _ _ _ _ (by omega))), ⟨?_, ?_⟩, ?_, ?_⟩
  · show Boxed _ _ _ (.bool ((pre ++ [x]).all rightP))
    rw [er]; exact (bR.set _).other (by omega) _
  · show Boxed _ _ _ (.bool ((pre ++ [x]).all mayP))
    rw [em]; exact (bM.other (by omega) _).set _
  · exact ((hB1.trans (hb1.mono hB1.size)).setCell (p := ⟨w.heap.size, 0, none⟩) (Nat.le_refl _) _).setCell (p := ⟨w.heap.size + 1, 0, none⟩) (Nat.le_succ _) _
  · have := hb1.size
    simp; omega
set_option maxRecDepth 100000 in
set_option maxHeartbeats 4000000 in
theorem look_any (w : World) (b : Nat) (f : Nat → Nat) (hf : ∀ j, Dy.W (f j)) (hb : b < w.heap.size) (hc : ∀ j, j < 12 → w.cell? ⟨b, j, none⟩ = some (.float .f64 (f j))) :
    Calls Tryz.prog 15 #[.slice (some ⟨b, 0, none⟩) 2 2] w fun e W' => e = .returned (.int .i64 (lookG (partsN f hf 2))) ∧ Below w.heap.size w W' := by
  refine (callsIn_wide (n := 6)).1 ?_
  have h1 : 1 ≤ 6 := by omega
  refine callsIn_of_wp_marks Tryz.func15 rfl trivial ?_ rfl
  simp only [Tryz.ntmps15, List.size_toArray, List.length_cons, List.length_nil, Nat.reduceAdd, Nat.reduceSub, Array.replicate_succ, Array.replicate_zero, List.push_toArray, List.append_toArray, List.nil_append, List.cons_append]
  gi_wp2_with (refine ⟨trivial, ?_⟩; gi_at_call 35; refine (parts_in _ _ trivial rfl _ _ _ _).mono ?_; rintro e w' ⟨rfl, rfl⟩)
  have bR := ((Boxed.new w 4 (.bool true)).alloc (.cells #[.bool true] 4)).alloc (.cells #[.slice (some ⟨b, 0, none⟩) 2 2] 71)
  have bM := (Boxed.new (w.alloc (.cells #[.bool true] 4)) 4 (.bool true)).alloc (.cells #[.slice (some ⟨b, 0, none⟩) 2 2] 71)
  have bA := Boxed.new ((w.alloc (.cells #[.bool true] 4)).alloc (.cells #[.bool true] 4)) 71 (.slice (some ⟨b, 0, none⟩) 2 2)
  simp only [World.size_alloc] at bM bA
  have hB0 : Below w.heap.size w (((w.alloc (.cells #[.bool true] 4)).alloc (.cells #[.bool true] 4)).alloc (.cells #[.slice (some ⟨b, 0, none⟩) 2 2] 71)) := (((Below.refl _ w).alloc (Nat.le_refl _) _).alloc (by simp) _).alloc (by simp; omega) _
  have hsz : (((w.alloc (.cells #[.bool true] 4)).alloc (.cells #[.bool true] 4)).alloc (.cells #[.slice (some ⟨b, 0, none⟩) 2 2] 71)).heap.size = w.heap.size + 3 := by simp
  obtain ⟨W0, hW0⟩ : ∃ W0, ((w.alloc (.cells #[.bool true] 4)).alloc (.cells #[.bool true] 4)).alloc (.cells #[.slice (some ⟨b, 0, none⟩) 2 2] 71) = W0 := ⟨_, rfl⟩
  rw [hW0] at bR bM bA hB0 hsz ⊢
  clear hW0
  refine wpIn_rangeFunc_ownH rfl h1 (gf := 64) (lb := #[.pointer (some ⟨w.heap.size + 1 + 1, 0, none⟩)]) rfl trivial (enters_of Tryz.func64 (by kernel_rfl) rfl)
    (parts_stops Fence.wide 5 trivial rfl (by omega) (w.heap.size + 1 + 1) w.heap.size (w.heap.size + 3) b f hf W0 (by omega) hb (by omega) (by omega) bA.cell (fun j h => (hB0.cell (p := ⟨b, j, none⟩) hb).trans (hc j h))) kept_t (fun W l o o' _ h hc _ => kept_b _ _ W l o o' h hc) (Below.refl _ _) (fun _ => rfl)
    (fun pre W => (Boxed W w.heap.size 4 (.bool (pre.all rightP)) ∧ Boxed W (w.heap.size + 1) 4 (.bool (pre.all mayP))) ∧ (Below w.heap.size w W ∧ w.heap.size + 3 ≤ W.heap.size))
    (fun _ _ _ => False)
    (OwnFrom.and (OwnFrom.and (Own.from (boxed_own _ _ _) _) (Own.from (boxed_own _ _ _) _)) (OwnFrom.and (ownFrom_below (Nat.le_refl _) (by omega)) (fun _ _ _ _ hs hg _ => Nat.le_trans hs hg.size)))
    (fun _ _ _ _ _ hs _ _ => hs)
    ⟨⟨bR, bM⟩, hB0, by omega⟩
    (fun x a' W => ∃ Bx, w.heap.size + 3 ≤ Bx ∧ Boxed2 W Bx 27 (.float .f64 x.1.1) (.float .f64 x.1.2.1) ∧ a' = { tmps := (.slice (some ⟨b, 0, none⟩) 2 2 :: undef :: .int .i64 0 :: .pointer (some ⟨w.heap.size, 0, none⟩) :: .pointer (some ⟨w.heap.size + 1, 0, none⟩) :: .pointer (some ⟨Bx, 0, none⟩) :: .float .f64 x.1.2.2 :: .slice (some ⟨b, 0, none⟩) 2 2 :: .func (.func 64) #[] #[.pointer (some ⟨w.heap.size + 1 + 1, 0, none⟩)] :: .agg #[.float .f64 x.1.1, .float .f64 x.1.2.1] :: .float .f64 x.1.2.2 :: undef :: undef :: undef :: undef :: undef :: undef :: undef :: undef :: undef :: undef :: undef :: undef :: undef :: undef :: undef :: undef :: undef :: undef :: undef :: undef :: undef :: undef :: undef :: []).toArray, defers := [] })
    (fun x a' _ X Y row hs hg hr => by obtain ⟨Bx, h1, h2, h3⟩ := hs; exact ⟨Bx, h1, (grownBy_keeps_cells hg (fun r e => (hr r e).2) h2 rfl).trans h2, h3⟩)
    ?assign ?body ?done ?stop
  case assign =>
    rintro l pre x W K ⟨⟨bR1, bM1⟩, hB1, hZ⟩ hK
    gi_wp2
    exact hK _ _ ((KeepsOthers.alloc _ _).from _) (Kept.alloc _ _ W _) ⟨⟨bR1.alloc _, bM1.alloc _⟩, hB1.alloc hB1.size _, by simp; omega⟩ ⟨W.heap.size, hZ, World.alloc_heap_new W _, rfl⟩
  case body =>
    rintro l pre x a' W hl ⟨r, hr⟩ ⟨⟨bR1, bM1⟩, hB1, hZ⟩ ⟨Bx, hBx, bX, rfl⟩ hlt
    have cR := bR1.cell
    have cM := bM1.cell
    have x0 := bX.c0
    have x1 := bX.c1
    have h1' : 1 ≤ 6 - 1 - 1 := by omega
    have nb0 : Bx ≠ w.heap.size := by omega
    have nb1 : Bx ≠ w.heap.size + 1 := by omega
    have nb2 : w.heap.size ≠ Bx := by omega
    have nb3 : w.heap.size + 1 ≠ Bx := by omega
    have fR := bR1.frozen
    have fM := bM1.frozen
    cases hmm : pre.all mayP <;> rw [hmm] at bM1 cM <;> cases hrr : pre.all rightP <;> rw [hrr] at bR1 cR
    · gi_wp2
      refine ⟨trivial, ?_⟩
      gi_wp2
      exact look_end (Below.refl _ W) bR1 bM1 hB1 hZ _ _ (by rw [all_snoc, hrr]; rfl) (by rw [all_snoc, hmm]; rfl)
    · gi_wp2_with (refine ⟨trivial, ?_⟩; gi_at_call 16; refine (CallsIn.inRound l (callsIn_wide.2 (ivRight_any (x.1.1, x.1.2.1) W x.2))).mono ?_; rintro e w1 ⟨rfl, hb1⟩; have bR2 : Boxed w1 w.heap.size 4 (.bool true) := (hb1.block _ bR1.lt).trans bR1; have bM2 : Boxed w1 (w.heap.size + 1) 4 (.bool false) := (hb1.block _ bM1.lt).trans bM1; have bX2 : Boxed2 w1 Bx 27 (.float .f64 x.1.1) (.float .f64 x.1.2.1) := (hb1.block _ (Array.getElem?_eq_some_iff.1 bX).1).trans bX; have cR2 := bR2.cell; have cM2 := bM2.cell; have fR2 := bR2.frozen; have fM2 := bM2.frozen; have x02 := bX2.c0; have x12 := bX2.c1)
      exact look_end hb1 bR2 bM2 hB1 hZ _ _ (by rw [all_snoc, hrr]; rfl) (by rw [all_snoc, hmm]; rfl)
    · gi_wp2
      refine ⟨trivial, ?_⟩
      gi_wp2
      · exact look_end (Below.refl _ W) bR1 bM1 hB1 hZ _ _ (by rw [all_snoc, hrr]; rfl) (by rw [all_snoc, hmm]; rfl)
      · rename_i h
        exact look_end (Below.refl _ W) bR1 bM1 hB1 hZ _ _ (by rw [all_snoc, hrr]; rfl) (by rw [all_snoc, hmm]; exact may_no h)
    · gi_wp2_with (refine ⟨trivial, ?_⟩; gi_at_call 16; refine (CallsIn.inRound l (callsIn_wide.2 (ivRight_any (x.1.1, x.1.2.1) W x.2))).mono ?_; rintro e w1 ⟨rfl, hb1⟩; have bR2 : Boxed w1 w.heap.size 4 (.bool true) := (hb1.block _ bR1.lt).trans bR1; have bM2 : Boxed w1 (w.heap.size + 1) 4 (.bool true) := (hb1.block _ bM1.lt).trans bM1; have bX2 : Boxed2 w1 Bx 27 (.float .f64 x.1.1) (.float .f64 x.1.2.1) := (hb1.block _ (Array.getElem?_eq_some_iff.1 bX).1).trans bX; have cR2 := bR2.cell; have cM2 := bM2.cell; have fR2 := bR2.frozen; have fM2 := bM2.frozen; have x02 := bX2.c0; have x12 := bX2.c1)
      · exact look_end hb1 bR2 bM2 hB1 hZ _ _ (by rw [all_snoc, hrr]; rfl) (by rw [all_snoc, hmm]; rfl)
      · rename_i h
        exact look_end hb1 bR2 bM2 hB1 hZ _ _ (by rw [all_snoc, hrr]; rfl) (by rw [all_snoc, hmm]; exact may_no h)
  case done =>
    rintro D ys W hD rfl ⟨⟨bR1, bM1⟩, hB1, hZ⟩ hK
    have cR := bR1.cell
    have cM := bM1.cell
    gi_wp2
    · rename_i h
      refine ⟨by simp, .inl ⟨_, _, rfl, run_takeDeferred hK, ?_⟩⟩
      exact ⟨_, results_tmp rfl _ _ _, by rw [lookG, if_neg (by simpa using h)]; rfl, hB1.trans (belowK_b (w := w) (Nat.le_refl _) W D _ _ (by omega) hK rfl rfl)⟩
    · rename_i h1 h2
      refine ⟨by simp, .inl ⟨_, _, rfl, run_takeDeferred hK, ?_⟩⟩
      exact ⟨_, results_tmp rfl _ _ _, by rw [lookG, if_pos (by simpa using h1), if_neg (by simpa using h2)]; rfl, hB1.trans (belowK_b (w := w) (Nat.le_refl _) W D _ _ (by omega) hK rfl rfl)⟩
    · rename_i h1 h2
      refine ⟨by simp, .inl ⟨_, _, rfl, run_takeDeferred hK, ?_⟩⟩
      exact ⟨_, results_tmp rfl _ _ _, by rw [lookG, if_pos (by simpa using h1), if_pos (by simpa using h2)]; rfl, hB1.trans (belowK_b (w := w) (Nat.le_refl _) W D _ _ (by omega) hK rfl rfl)⟩
  case stop =>
    rintro D c pre W hD _ h _
    exact h.elim
end Go.Proofs.YtikiegcncliocaaGreat
