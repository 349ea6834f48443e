/- Walks: pgm.Plain of a right picture. -/
import Derived.Test.YtinhbebjlbnejaaDoorFl
namespace Go.Proofs.YtinhbebjlbnejaaDoor
open Go Go.RowKit Go.Shelf
open Go.Lib (hid)
attribute [local go_sem] Oper.semAt_some
set_option linter.unusedSimpArgs false
set_option linter.unusedVariables false

theorem new_builder (w : World) (B : Nat) (hB : B ≤ w.heap.size) : Lib.IsBuilderF 56 5 B w.heap.size [] (w.alloc (.cells #[.pointer none, .slice none 0 0] 56)) :=
  .inl ⟨hB, .slice none 0 0, World.alloc_heap_new w _, World.ownsRowF_nil _ _ _ _, by simp [Value.ownBlock]⟩

theorem bld0_below {T e : TypeId} {B b : Nat} {bs : List Value} {A C : World} (h : Lib.IsBuilderF T e B b bs A) (hb : Below A.heap.size A C) : Lib.IsBuilderF T e B b bs C :=
  h.elim (fun h => .inl (bld_below h hb)) (fun h => .inr (bld_below h hb))
theorem bs_first (w0 : World) (b : Nat) (t : List UInt8) (W : World) (h : Lib.IsBuilderF 56 5 w0.heap.size b [] W) (hl : t.length ≤ 140737488355328) (hb : Below w0.heap.size w0 W) :
    Calls Tryd.prog 21 #[.pointer (some ⟨b, 0, none⟩), .string ⟨t.toArray⟩] W fun e W' => (∃ v, e = .returned v) ∧ (BS w0 b t W' ∧ Stp b W W') := by
  refine (writeString_any w0.heap.size b [] ⟨t.toArray⟩ W h (by simpa [ByteArray.size] using hl) hb.size).mono ?_
  rintro e W' ⟨rfl, h1, h2, h3⟩
  have e1 : [] ++ Lib.strCells ⟨t.toArray⟩ = Lib.byteCells t := rfl
  rw [e1] at h1
  exact ⟨⟨_, rfl⟩, ⟨h1, hb.trans h2⟩, h3, h2.size⟩
theorem wrap64_byte (d : UInt8) : wrap64 (d.toNat : Int) = (d.toNat : Int) := by have := d.toNat_lt; unfold wrap64; omega
/-- A picture's block, and the world since. -/
structure PicB (w0 : World) (r : Nat) (x y z : Value) (W : World) : Prop where
  blk : W.heap[r]? = some (.cells #[x, y, z] 25 (0, 0))
  tab : Tab W
  bel : Below w0.heap.size w0 W
theorem PicB.below {w0 r x y z A B} (h : PicB w0 r x y z A) (hb : Below A.heap.size A B) : PicB w0 r x y z B :=
  ⟨(hb.block r (Array.getElem?_eq_some_iff.1 h.blk).1).trans h.blk, h.tab.below h.tab.lt hb, h.bel.trans (hb.mono h.bel.size)⟩
theorem PicB.stp {w0 r x y z A B b} (h : PicB w0 r x y z A) (hs : Stp b A B) (hne : r ≠ b) (hb : Below w0.heap.size w0 B) (ht : Tab w0) : PicB w0 r x y z B :=
  ⟨hs.1 r _ h.blk (fun e => hne (by cases e; rfl)) (fun c fz e => by cases e), ht.below ht.lt hb, hb⟩
theorem PicB.c0 {w0 r x y z A} (h : PicB w0 r x y z A) : A.cell? ⟨r, 0, none⟩ = some x := by rw [Lib.cell_of_heap h.blk]; rfl
theorem PicB.c1 {w0 r x y z A} (h : PicB w0 r x y z A) : A.cell? ⟨r, 1, none⟩ = some y := by rw [Lib.cell_of_heap h.blk]; rfl
theorem PicB.c2 {w0 r x y z A} (h : PicB w0 r x y z A) : A.cell? ⟨r, 2, none⟩ = some z := by rw [Lib.cell_of_heap h.blk]; rfl

set_option maxRecDepth 100000 in
set_option maxHeartbeats 4000000 in
theorem plain_yes (W H : Nat) (ao : Option Addr) (c : Nat) (g : List UInt8) (w : World) (hr : rightB (W : Int) (H : Int) g.length = true) (hgc : g.length ≤ c) (hb : Byt w ao g) (ht : Tab w) :
    Calls Tryd.prog 11 #[.agg #[.int .i64 (W : Int), .int .i64 (H : Int), .slice ao g.length c]] w fun e w' => e = .returned (.tuple #[.string ⟨(Pg.plain ⟨W, H, g⟩).toArray⟩, .int .i64 0]) ∧ Below w.heap.size w w' := by
  obtain ⟨W', H', e1, e2, w1, w2, h1, h2, hn⟩ := right_of hr
  obtain rfl : W' = W := by omega
  obtain rfl : H' = H := by omega
  have hbig : g.length ≤ 65536 := by have := Nat.mul_le_mul w2 h2; omega
  have hH : 0 < H' := h1
  refine (callsIn_wide (n := 6)).1 ?_
  have h16 : 1 ≤ 6 := by omega
  have HR := hid (fun w => picRight_any (W' : Int) (H' : Int) ao g.length c w (by omega))
  rw [hr] at HR
  have HD := hid (fun w ht => head_any 50 W' H' (by omega) (by omega) (.slice ao g.length c) w ht)
  clear hr e1 e2
  obtain ⟨bb, oo, rfl, hbb⟩ : ∃ bb oo, ao = some ⟨bb, oo, none⟩ ∧ Hid (bb < w.heap.size ∧ ∀ i c, g[i]? = some c → w.cell? ⟨bb, oo + i, none⟩ = some (.int .u8 (c.toNat : Int))) := by
    have hn0 : 0 < g.length := by rw [hn]; exact Nat.mul_pos (by omega) h1
    rcases hb with h | ⟨bb, oo, h, h2, h3⟩
    · rw [h] at hn0; simp at hn0
    · exact ⟨bb, oo, h, hid ⟨h2, h3⟩⟩
  have hn' := hid hn
  rw [hn] at HR HD hgc ⊢
  clear hn hb
  refine callsIn_of_wp_marks Tryd.func11 rfl trivial ?_ rfl
  simp only [Tryd.ntmps11, List.size_toArray, List.length_cons, List.length_nil, Nat.reduceAdd, Nat.reduceSub, Array.replicate_succ, Array.replicate_zero, List.push_toArray, List.append_toArray, List.nil_append, List.cons_append]
  gi_wp2
  refine ⟨trivial, ?_⟩
  gi_at_call 25
  refine (callsIn_wide.2 (HR.out _)).mono ?_
  rintro e w3 ⟨rfl, hb3⟩
  have hsz3 : w.heap.size < w3.heap.size := by have := hb3.size; simp at this; omega
  have hP3 : PicB w w.heap.size (.int .i64 (W' : Int)) (.int .i64 (H' : Int)) (.slice (some ⟨bb, oo, none⟩) (W' * H') c) w3 :=
    PicB.below ⟨World.alloc_heap_new w _, ht.below ht.lt ((Below.refl _ _).alloc (Nat.le_refl _) _), (Below.refl _ _).alloc (Nat.le_refl _) _⟩ hb3
  have hP4 := hid (hP3.below ((Below.refl _ w3).alloc (Nat.le_refl _) (.cells #[.pointer none, .slice none 0 0] 56)))
  have hB4 := hid (new_builder w3 w.heap.size (Nat.le_of_lt hsz3))
  clear hP3 hb3 HR
  have c0 := hP4.out.c0
  have c1 := hP4.out.c1
  have c2 := hP4.out.c2
  gi_wp2
  refine ⟨trivial, ?_⟩
  gi_at_call 26
  refine (callsIn_wide.2 (HD.out _ hP4.out.tab)).mono ?_
  rintro e w5 ⟨rfl, hb5⟩
  have hB5 := hid (bld0_below hB4.out hb5)
  have hsz5 : w3.heap.size < w5.heap.size := by have := hb5.size; simp at this; omega
  have hP5 := hid (hP4.out.below hb5)
  clear HD hB4 hb5 c0 c1 c2 hP4
  gi_wp2
  refine ⟨trivial, ?_⟩
  gi_at_call 21
  refine (callsIn_wide.2 (bs_first w w3.heap.size (Pg.head 50 W' H') w5 hB5.out (by have := head_len 50 W' H' (by omega) (by omega); omega) hP5.out.bel)).mono ?_
  rintro e w6 ⟨⟨v6, rfl⟩, hb6, hs6⟩
  have hP6 := hid (hP5.out.stp hs6 (by omega) hb6.2 ht)
  have hsz6 : w3.heap.size < w6.heap.size := by have := hs6.2; omega
  clear hB5 hP5 hs6 hsz5
  have c0 := hP6.out.c0
  have c2 := hP6.out.c2
  gi_wp2
  refine ⟨trivial, ?_⟩
  refine (chunk_in _ _ _ _ _ w1 w6).mono ?_
  rintro e w' ⟨rfl, rfl⟩
  gi_wp2
  have bS := (Boxed.new w6 22 (.slice (some ⟨bb, oo, none⟩) (W' * H') c)).alloc (.cells #[.int .i64 (W' : Int)] 3)
  have bN := Boxed.new (w6.alloc (.cells #[.slice (some ⟨bb, oo, none⟩) (W' * H') c] 22)) 3 (.int .i64 (W' : Int))
  simp only [World.size_alloc] at bN
  have hB6 : BS w w3.heap.size (Pg.head 50 W' H') ((w6.alloc (.cells #[.slice (some ⟨bb, oo, none⟩) (W' * H') c] 22)).alloc (.cells #[.int .i64 (W' : Int)] 3)) := hb6.below (((Below.refl _ _).alloc (Nat.le_refl _) _).alloc (by simp) _)
  have hsz : ((w6.alloc (.cells #[.slice (some ⟨bb, oo, none⟩) (W' * H') c] 22)).alloc (.cells #[.int .i64 (W' : Int)] 3)).heap.size = w6.heap.size + 2 := by simp
  obtain ⟨W0, hW0⟩ : ∃ W0, ((w6.alloc (.cells #[.slice (some ⟨bb, oo, none⟩) (W' * H') c] 22)).alloc (.cells #[.int .i64 (W' : Int)] 3)) = W0 := ⟨_, rfl⟩
  rw [hW0] at bS bN hB6 hsz ⊢
  clear hW0 hb6 hP6 c0 c2
  refine wpIn_rangeFunc_ownH rfl h16 (gf := 46) (lb := #[.pointer (some ⟨w6.heap.size, 0, none⟩), .pointer (some ⟨w6.heap.size + 1, 0, none⟩)]) rfl trivial (enters_of Tryd.func46 (by kernel_rfl) rfl)
    (chunk_stops 5 (by omega) w3.heap.size w6.heap.size (w6.heap.size + 1) bb oo c W' H' w1 w2 hH h2 hgc (by omega) (by omega) W0 bS bN) KpB.trans (fun W l o o' _ h hc _ => KpB.put _ _ W l o o' h hc) (Below.refl _ _) (fun _ => rfl)
    (fun pre W => BS w w3.heap.size (txt W' H' g pre) W)
    (fun _ _ _ => False)
    (bs_own w w3.heap.size (txt W' H' g) _ (by omega))
    (fun _ _ _ _ _ hs _ _ => hs)
    (by simpa [txt] using hB6)
    (fun x a' W => a' = { tmps := (.agg #[.int .i64 (W' : Int), .int .i64 (H' : Int), .slice (some ⟨bb, oo, none⟩) (W' * H') c] :: .pointer (some ⟨w.heap.size, 0, none⟩) :: .string ⟨#[]⟩ :: .int .i64 0 :: .pointer (some ⟨w3.heap.size, 0, none⟩) :: .slice (some ⟨bb, oo + x.1 * W', none⟩) W' W' :: undef :: undef :: .agg #[.int .i64 (W' : Int), .int .i64 (H' : Int), .slice (some ⟨bb, oo, none⟩) (W' * H') c] :: .bool true :: .bool false :: .agg #[.int .i64 (W' : Int), .int .i64 (H' : Int), .slice (some ⟨bb, oo, none⟩) (W' * H') c] :: .string (headB 50 W' H') :: v6 :: .pointer (some ⟨w.heap.size, 2, none⟩) :: .slice (some ⟨bb, oo, none⟩) (W' * H') c :: .pointer (some ⟨w.heap.size, 0, none⟩) :: .int .i64 (W' : Int) :: .func (.func 46) #[] #[.pointer (some ⟨w6.heap.size, 0, none⟩), .pointer (some ⟨w6.heap.size + 1, 0, none⟩)] :: .slice (some ⟨bb, oo + x.1 * W', none⟩) W' W' :: undef :: undef :: undef :: undef :: undef :: undef :: undef :: undef :: undef :: undef :: undef :: undef :: undef :: undef :: undef :: undef :: undef :: []).toArray, defers := [] })
    (fun x a' _ X Y row hs hg hr => hs)
    ?assign ?body ?done ?stop
  case assign =>
    rintro l pre x W K hI hK
    gi_wp2
    exact hK _ _ ((KeepsOthers.refl _).from _) (KpB.refl _ _ _) hI rfl
  case body =>
    rintro l pre x a' W hl ⟨rr, hrr⟩ hI rfl hlt
    have hlen := txt_le W' H' h2 w2 w1 g hn'.out pre
    have hpre : pre.length * 1025 ≤ 256 * 1025 := Nat.mul_le_mul_right _ (by omega)
    obtain ⟨T, hT⟩ : ∃ T, T = txt W' H' g pre := ⟨_, rfl⟩
    have hT' := hid hT
    rw [← hT] at hI hlen
    obtain ⟨r, hr⟩ : ∃ r, r = (g.drop (x.1 * W')).take W' := ⟨_, rfl⟩
    have hrl : r.length = W' := by
      have h3 : (x.1 + 1) * W' ≤ H' * W' := Nat.mul_le_mul_right _ x.2
      rw [Nat.succ_mul, Nat.mul_comm H' W', ← hn'.out] at h3
      rw [hr]; simp; omega
    have hcell : ∀ (X : World), Below w.heap.size w X → ∀ j, j < W' → X.cell? ⟨bb, oo + x.1 * W' + j, none⟩ = some (.int .u8 ((r.getD j 0).toNat : Int)) := by
      intro X hX j hj
      have e : g[x.1 * W' + j]? = some (r.getD j 0) := by
        have e2 : r[j]? = g[x.1 * W' + j]? := by rw [hr, List.getElem?_take, if_pos hj, List.getElem?_drop]
        rw [← e2, List.getD, List.getElem?_eq_getElem (by omega)]
        rfl
      have := (hX.cell (p := ⟨bb, oo + (x.1 * W' + j), none⟩) hbb.out.1).trans (hbb.out.2 _ _ e)
      rwa [← Nat.add_assoc] at this
    have hr' := hid hr
    have hrl' := hid hrl
    have hcell' := hid hcell
    clear hr hrl hcell hT hpre
    obtain ⟨ro, hro⟩ : ∃ ro, ro = oo + x.1 * W' := ⟨_, rfl⟩
    rw [← hro] at hcell' ⊢
    clear hro hrr
    gi_wp2
    gi_loopw [22] (fun i wr => ∃ j : Nat, j ≤ W' ∧ i = .int .i64 (j : Int) ∧ BS w w3.heap.size (T ++ Pg.part r j) wr ∧ Stp w3.heap.size W wr)
      (fun i _ => W' - (intOf i).toNat)
    case atStart => exact ⟨0, Nat.zero_le _, rfl, by simpa [Pg.part] using hI, Stp.refl _ _⟩
    case round =>
      obtain ⟨j, hj, rfl, hIr, hsr⟩ := hrel
      have hpl := Pg.part_le r j
      by_cases hlt2 : j < W'
      · have cg := hcell'.out wr hIr.2 j hlt2
        obtain ⟨d, hd⟩ : ∃ d, d = r.getD j 0 := ⟨_, rfl⟩
        rw [← hd] at cg
        replace hd := hid hd
        have hdl := (Pg.dec_digits d.toNat (by have := d.toNat_lt; omega)).2.2.1
        have HI := hid (fun (L : List UInt8) (X : World) (h : BS w w3.heap.size L X) => bs_itoa w w3.heap.size L d.toNat (by have := d.toNat_lt; omega) X h ht)
        have HS := hid (fun (L : List UInt8) (X : World) (h : BS w w3.heap.size L X) (hl : L.length ≤ 300000) => bs_str w w3.heap.size L (Pg.dec d.toNat) X h (by omega))
        have HB := hid (fun (L : List UInt8) (X : World) (h : BS w w3.heap.size L X) (hl : L.length ≤ 300000) => bs_byte w w3.heap.size L 32 X h (by omega))
        have hL : (T ++ Pg.part r j).length ≤ 290000 := by rw [List.length_append]; omega
        have wd : wrap64 (d.toNat : Int) = (d.toNat : Int) := wrap64_byte d
        by_cases hj0 : j = 0
        · subst hj0
          rw [Nat.add_zero] at cg
          gi_wp2_with (refine ⟨trivial, ?_⟩; first
            | (gi_at_call 20; refine (CallsIn.inRound l (callsIn_wide.2 (HI.out _ _ hIr))).mono ?_; rintro e wa ⟨rfl, ha, hsa⟩)
            | (gi_at_call 21; refine (CallsIn.inRound l (callsIn_wide.2 (HS.out _ _ ha (by omega)))).mono ?_; rintro e wb ⟨⟨vb, rfl⟩, hb, hsb⟩))
          go_roundw
          case rel =>
            refine ⟨1, by omega, rfl, ?_, hsr.trans (hsa.trans hsb)⟩
            rw [Pg.part, ← hd.out]
            simpa [Pg.part] using hb
          case measure => simp [intOf]; omega
        · gi_wp2_with (refine ⟨trivial, ?_⟩; first
            | (gi_at_call 28; refine (CallsIn.inRound l (callsIn_wide.2 (HB.out _ _ hIr (by omega)))).mono ?_; rintro e wc ⟨rfl, hc, hsc⟩)
            | (gi_at_call 20; refine (CallsIn.inRound l (callsIn_wide.2 (HI.out _ _ hc))).mono ?_; rintro e wa ⟨rfl, ha, hsa⟩)
            | (gi_at_call 21; refine (CallsIn.inRound l (callsIn_wide.2 (HS.out _ _ ha (by simp only [List.length_append, List.length_cons, List.length_nil] at hL ⊢; omega)))).mono ?_; rintro e wb ⟨⟨vb, rfl⟩, hb, hsb⟩))
          go_roundw
          case rel =>
            refine ⟨j + 1, by omega, rfl, ?_, hsr.trans (hsc.trans (hsa.trans hsb))⟩
            rw [Pg.part, if_neg hj0, ← hd.out]
            simpa using hb
          case measure => simp [intOf]; omega
      · obtain rfl : j = W' := by omega
        have HB := hid (fun (L : List UInt8) (X : World) (h : BS w w3.heap.size L X) (hl : L.length ≤ 300000) => bs_byte w w3.heap.size L 10 X h (by omega))
        have hL : (T ++ Pg.part r j).length ≤ 290000 := by rw [List.length_append]; omega
        gi_wp2_with (refine ⟨trivial, ?_⟩; gi_at_call 28; refine (CallsIn.inRound l (callsIn_wide.2 (HB.out _ _ hIr (by omega)))).mono ?_; rintro e wc ⟨rfl, hc, hsc⟩)
        have hs := hsr.trans hsc
        refine ⟨hs.from (by omega), hs.kpb, ?_⟩
        show BS w w3.heap.size (txt j H' g (pre ++ [x])) wc
        rw [txt_snoc, ← hT'.out, ← hr'.out, Pg.part_row r (by rw [hrl'.out]; omega), hrl'.out]
        simpa using hc
  case done =>
    rintro D ys W hD rfl hI hK
    rw [txt_all] at hI
    have HQ := hid (Tryd.Builder_String_any_k w.heap.size w3.heap.size (Pg.plain ⟨W', H', g⟩) W (.inr hI.1) hI.2.size)
    clear hB6
    gi_wp2_with (refine ⟨trivial, ?_⟩; gi_at_call 22; refine (callsIn_wide.2 HQ.out).mono ?_; rintro e wz ⟨rfl, hz1, hz2, hz3⟩)
    have hK2 : wz.heap[D]? = some (.deferred (some [])) := hz3 D _ hK (fun e => by cases e; omega) (fun c fz e => by cases e)
    refine ⟨by simp, .inl ⟨_, _, rfl, run_takeDeferred hK2, ?_⟩⟩
    exact ⟨.tuple #[.string ⟨(Pg.plain ⟨W', H', g⟩).toArray⟩, .int .i64 0], by simp [results, Tryd.results11, go_sem], rfl, (hI.2.trans hz2).trans (belowK_b (w := w) (Nat.le_refl _) wz D _ _ (by omega) hK2 rfl rfl)⟩
  case stop =>
    rintro D c pre W hD _ h _
    exact h.elim
end Go.Proofs.YtinhbebjlbnejaaDoor
