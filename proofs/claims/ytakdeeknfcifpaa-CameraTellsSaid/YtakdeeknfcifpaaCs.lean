/- Walks: camera.Hits: how many pixels look at the ball. -/
import Derived.Test.YtakdeeknfcifpaaCp
import Derived.Test.YtakdeeknfcifpaaCq
namespace Go.Proofs.Ytakdeeknfcifpaa
open Go Go.RowKit Go.Shelf
attribute [local go_sem] Oper.semAt_some
set_option linter.unusedSimpArgs false
set_option linter.unusedVariables false

/-- Does a pixel look at the ball? -/
def seenP (s : Nat) (x : Px) : Bool := decide (x.1.1 < s ∧ x.1.2 < s) && (lookF s x.1.1 x.1.2).2.1
theorem look_px (s : Nat) (x : Px) (w : World) (h1 : 1 ≤ s) (h2 : s ≤ 256) :
    Calls Try.prog 13 #[.int .i64 (s : Int), .int .i64 (x.1.1 : Int), .int .i64 (x.1.2 : Int)] w fun e w' => (∃ a b r, e = .returned (.tuple #[fv a 0 b, .bool (seenP s x), .int .i64 r])) ∧ Below w.heap.size w w' := by
  by_cases h : x.1.1 < s ∧ x.1.2 < s
  · have e : seenP s x = (lookF s x.1.1 x.1.2).2.1 := by unfold seenP; rw [decide_eq_true h, Bool.true_and]
    rw [e]
    refine (look_yes s _ _ w ⟨⟨by omega, by omega⟩, ⟨by omega, by omega⟩, by omega, by omega⟩).mono ?_
    rintro e w' ⟨h1, h2⟩
    exact ⟨⟨_, _, _, h1⟩, h2⟩
  · have e : seenP s x = false := by unfold seenP; rw [decide_eq_false h, Bool.false_and]
    rw [e]
    refine (look_no s _ _ w (fun k => h ⟨by have := k.2.2.1; omega, by have := k.2.2.2; omega⟩)).mono ?_
    rintro e w' ⟨h1, h2⟩
    exact ⟨⟨_, _, _, h1⟩, h2⟩
theorem count_snoc (p : Px → Bool) (pre : List Px) (x : Px) : (pre ++ [x]).countP p = pre.countP p + (if p x then 1 else 0) := by simp [List.countP_append, List.countP_cons]
/-- How many look at the ball. -/
def hitsN (s : Nat) : Nat := (pixN s (s * s)).countP (seenP s)

set_option maxRecDepth 100000 in
set_option maxHeartbeats 4000000 in
theorem hits_yes (s : Nat) (w : World) (hs1 : 1 ≤ s) (hs2 : s ≤ 256) :
    Calls Try.prog 16 #[.int .i64 (s : Int)] w fun e W' => e = .returned (.tuple #[.int .i64 (hitsN s : Int), .int .i64 0]) ∧ Below w.heap.size w W' := by
  refine (callsIn_wide (n := 6)).1 ?_
  have h1 : 1 ≤ 6 := by omega
  have D := hid (fun w => sized_yes s w (by omega) (by omega))
  refine callsIn_of_wp_marks Try.func16 rfl trivial ?_ rfl
  simp only [Try.ntmps16, List.size_toArray, List.length_cons, List.length_nil, Nat.reduceAdd, Nat.reduceSub, Array.replicate_succ, Array.replicate_zero, List.push_toArray, List.append_toArray, List.nil_append, List.cons_append]
  have bS0 := Boxed.new w 3 (.int .i64 (s : Int))
  gi_wp2
  refine ⟨trivial, ?_⟩
  gi_at_call 38
  refine (callsIn_wide.2 (D.out _)).mono ?_
  rintro e w1 ⟨rfl, hb⟩
  have bS1 : Boxed w1 w.heap.size 3 (.int .i64 (s : Int)) := (hb.block _ bS0.lt).trans bS0
  have cS2 := (bS1.alloc (.cells #[.int .i64 0] 3)).cell
  gi_wp2_with (refine ⟨trivial, ?_⟩; gi_at_call 42; refine (pixels_in _ _ _).mono ?_; rintro e w' ⟨rfl, rfl⟩)
  have hz1 : w.heap.size + 1 ≤ w1.heap.size := by have := hb.size; simpa using this
  have bS : Boxed ((w1.alloc (.cells #[.int .i64 0] 3)).alloc (.cells #[.int .i64 (s : Int)] 3)) w.heap.size 3 (.int .i64 (s : Int)) := (bS1.alloc _).alloc _
  have bN := (Boxed.new w1 3 (.int .i64 0)).alloc (.cells #[.int .i64 (s : Int)] 3)
  have bA := Boxed.new (w1.alloc (.cells #[.int .i64 0] 3)) 3 (.int .i64 (s : Int))
  simp only [World.size_alloc] at bA
  have hB0 : Below w.heap.size w ((w1.alloc (.cells #[.int .i64 0] 3)).alloc (.cells #[.int .i64 (s : Int)] 3)) := ((((Below.refl _ w).alloc (Nat.le_refl _) (.cells #[.int .i64 (s : Int)] 3)).trans (hb.mono (by simp))).alloc (by omega) _).alloc (by simp; omega) _
  have hsz : ((w1.alloc (.cells #[.int .i64 0] 3)).alloc (.cells #[.int .i64 (s : Int)] 3)).heap.size = w1.heap.size + 2 := by simp
  clear cS2 hb bS0 bS1
  obtain ⟨W0, hW0⟩ : ∃ W0, ((w1.alloc (.cells #[.int .i64 0] 3)).alloc (.cells #[.int .i64 (s : Int)] 3)) = W0 := ⟨_, rfl⟩
  rw [hW0] at bS bN bA hB0 hsz ⊢
  clear hW0
  refine wpIn_rangeFunc_ownH rfl h1 (gf := 70) (lb := #[.pointer (some ⟨w1.heap.size + 1, 0, none⟩)]) rfl trivial (enters_of Try.func70 (by kernel_rfl) rfl)
    (pixels_stops 5 (by omega) (w1.heap.size + 1) w1.heap.size (w1.heap.size + 1) s hs1 hs2 (.inr (Nat.le_refl _)) W0 (by omega) bA.cell) kept_t (fun W l o o' _ h hc _ => kept_b _ _ W l o o' h hc) (Below.refl _ _) (fun _ => rfl)
    (fun pre W => (Boxed W w1.heap.size 3 (.int .i64 (pre.countP (seenP s) : Int)) ∧ Boxed W w.heap.size 3 (.int .i64 (s : Int))) ∧ (Below w.heap.size w W ∧ w1.heap.size + 2 ≤ W.heap.size))
    (fun _ _ _ => False)
    (OwnFrom.and (OwnFrom.and (Own.from (boxed_own _ _ _) _) (Own.from (boxed_own _ _ (fun _ => .int .i64 (s : Int))) _)) (OwnFrom.and (ownFrom_below (Nat.le_refl _) (by omega)) (fun _ _ _ _ hs hg _ => Nat.le_trans hs hg.size)))
    (fun _ _ _ _ _ hs _ _ => hs)
    ⟨⟨bN, bS⟩, hB0, by omega⟩
    (fun x a' W => a' = { tmps := (.int .i64 (s : Int) :: .pointer (some ⟨w.heap.size, 0, none⟩) :: .int .i64 0 :: .int .i64 0 :: .pointer (some ⟨w1.heap.size, 0, none⟩) :: .int .i64 (x.1.1 : Int) :: .int .i64 (x.1.2 : Int) :: undef :: undef :: undef :: .int .i64 (s : Int) :: .bool true :: .bool false :: .int .i64 (s : Int) :: .func (.func 70) #[] #[.pointer (some ⟨w1.heap.size + 1, 0, none⟩)] :: .int .i64 (x.1.1 : Int) :: .int .i64 (x.1.2 : Int) :: undef :: undef :: undef :: undef :: undef :: undef :: undef :: undef :: undef :: undef :: undef :: undef :: []).toArray, defers := [] })
    (fun x a' _ X Y row hs hg hr => hs)
    ?assign ?body ?done ?stop
  case assign =>
    rintro l pre x W K hI hK
    gi_wp2
    exact hK _ _ ((KeepsOthers.refl _).from _) (Kept.refl _ _ _) hI rfl
  case body =>
    rintro l pre x a' W hl ⟨r, hr⟩ ⟨⟨bN1, bS1⟩, hB1, hZ⟩ rfl hlt
    have cN := bN1.cell
    have cS := bS1.cell
    have h1' : 1 ≤ 6 - 1 - 1 := by omega
    have LP := look_px s x W hs1 hs2
    have hc : pre.countP (seenP s) ≤ 65536 := by
      have h1 := List.countP_le_length (p := seenP s) (l := pre)
      have h2 : s * s ≤ 256 * 256 := Nat.mul_le_mul hs2 hs2
      omega
    have hw : IntKind.i64.wrap ((pre.countP (seenP s) : Int) + 1) = (pre.countP (seenP s) : Int) + 1 := by rw [IntKind.wrap_i64]; omega
    cases hp : seenP s x <;> rw [hp] at LP
    · gi_wp2_with (refine ⟨trivial, ?_⟩; gi_at_call 13; refine (CallsIn.inRound l (callsIn_wide.2 LP)).mono ?_; rintro e w2 ⟨⟨a0, b0, r0, rfl⟩, hb1⟩; have bN2 : Boxed w2 w1.heap.size 3 (.int .i64 (pre.countP (seenP s) : Int)) := (hb1.block _ bN1.lt).trans bN1; have bS2 : Boxed w2 w.heap.size 3 (.int .i64 (s : Int)) := (hb1.block _ bS1.lt).trans bS1)
      have kf : KeepsFrom W0.heap.size W w2 := ⟨hb1.size, fun k o _ hk _ => (hb1.block k (Array.getElem?_eq_some_iff.1 hk).1).trans hk⟩
      refine ⟨kf.trans ((KeepsOthers.alloc w2 _).from _), (Kept.of_below hb1).trans (Kept.alloc _ _ w2 _), ⟨?_, bS2.alloc _⟩, ?_, ?_⟩
      · show Boxed _ _ _ (.int .i64 ((pre ++ [x]).countP (seenP s) : Int))
        rw [count_snoc, hp]; exact bN2.alloc _
      · exact (hB1.trans (hb1.mono hB1.size)).alloc (Nat.le_trans hB1.size hb1.size) _
      · have := hb1.size; simp; omega
    · gi_wp2_with (refine ⟨trivial, ?_⟩; gi_at_call 13; refine (CallsIn.inRound l (callsIn_wide.2 LP)).mono ?_; rintro e w2 ⟨⟨a0, b0, r0, rfl⟩, hb1⟩; have bN2 : Boxed w2 w1.heap.size 3 (.int .i64 (pre.countP (seenP s) : Int)) := (hb1.block _ bN1.lt).trans bN1; have bS2 : Boxed w2 w.heap.size 3 (.int .i64 (s : Int)) := (hb1.block _ bS1.lt).trans bS1; have cN2 := (bN2.alloc (.cells #[.float .f64 a0, .float .f64 0, .float .f64 b0] 27)).cell; have fN2 := (bN2.alloc (.cells #[.float .f64 a0, .float .f64 0, .float .f64 b0] 27)).frozen)
      have kf : KeepsFrom W0.heap.size W w2 := ⟨hb1.size, fun k o _ hk _ => (hb1.block k (Array.getElem?_eq_some_iff.1 hk).1).trans hk⟩
      refine ⟨(kf.trans ((KeepsOthers.alloc w2 _).from _)).trans ((KeepsOthers.setCell _ _ _).from _), ((Kept.of_below hb1).trans (Kept.alloc _ _ w2 _)).trans (Kept.set _ _ _ _ _ (by omega)), ⟨?_, (bS2.alloc _).other (by omega) _⟩, ?_, ?_⟩
      · show Boxed _ _ _ (.int .i64 ((pre ++ [x]).countP (seenP s) : Int))
        rw [count_snoc, hp]; exact (bN2.alloc _).set _
      · exact ((hB1.trans (hb1.mono hB1.size)).alloc (Nat.le_trans hB1.size hb1.size) _).setCell (p := ⟨w1.heap.size, 0, none⟩) (by show w.heap.size ≤ w1.heap.size; omega) _
      · have := hb1.size; simp; omega
  case done =>
    rintro D ys W hD rfl ⟨⟨bN1, bS1⟩, hB1, hZ⟩ hK
    have cN := bN1.cell
    gi_wp2
    refine ⟨by simp, .inl ⟨_, _, rfl, run_takeDeferred hK, ?_⟩⟩
    refine ⟨.tuple #[.int .i64 (hitsN s : Int), .int .i64 0], by simp [results, Try.results16, go_sem, hitsN], rfl, hB1.trans (belowK_b (w := w) (Nat.le_refl _) W D _ _ (by omega) hK rfl rfl)⟩
  case stop =>
    rintro D c pre W hD _ h _
    exact h.elim
end Go.Proofs.Ytakdeeknfcifpaa
