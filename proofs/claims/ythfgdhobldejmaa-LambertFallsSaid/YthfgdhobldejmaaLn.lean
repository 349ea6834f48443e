/- Walks: the law LambertFalls. -/
import Derived.Test.YthfgdhobldejmaaWx
import Derived.Test.YthfgdhobldejmaaSt
namespace Go.Proofs.Ythfgdhobldejmaa
open Go.RowKit

set_option maxRecDepth 100000 in
set_option maxHeartbeats 8000000 in
theorem falls_any (u0 u1 u2 u3 v0 v1 v2 v3 : Nat) (w : World) (hu0 : u0 ≤ 4294967295) (hu1 : u1 ≤ 4294967295) (hu2 : u2 ≤ 4294967295) (hu3 : u3 ≤ 4294967295) (hv0' : v0 ≤ 4294967295) (hv1' : v1 ≤ 4294967295) (hv2' : v2 ≤ 4294967295) (hv3' : v3 ≤ 4294967295) :
    Calls Try.prog 3 #[.agg #[.int .u32 (u0 : Int), .int .u32 (u1 : Int), .int .u32 (u2 : Int), .int .u32 (u3 : Int)], .agg #[.int .u32 (v0 : Int), .int .u32 (v1 : Int), .int .u32 (v2 : Int), .int .u32 (v3 : Int)]] w fun e w' => e = .returned (.bool true) ∧ Below w.heap.size w w' := by
  have S1 := hid (fun w => span_any 0 Dy.I1 u0 u1 w (by decide) (by decide) (by decide) hu0 hu1)
  have S2 := hid (fun w => span_any 0 Dy.I1 u2 u3 w (by decide) (by decide) (by decide) hu2 hu3)
  have hv0 := hid hv0'
  have hv1 := hid hv1'
  have hv2 := hid hv2'
  have hv3 := hid hv3'
  clear hu0 hu1 hu2 hu3 hv0' hv1' hv2' hv3'
  have hU : U4 w.heap.size u0 u1 u2 u3 (((w.alloc (.cells #[.int .u32 (u0 : Int), .int .u32 (u1 : Int), .int .u32 (u2 : Int), .int .u32 (u3 : Int)] 23)).alloc (.cells #[.int .u32 (v0 : Int), .int .u32 (v1 : Int), .int .u32 (v2 : Int), .int .u32 (v3 : Int)] 23)).drew) := ⟨by simp; try omega, by simp [go_sem], by simp [go_sem], by simp [go_sem], by simp [go_sem]⟩
  have hV : U4 (w.heap.size + 1) v0 v1 v2 v3 (((w.alloc (.cells #[.int .u32 (u0 : Int), .int .u32 (u1 : Int), .int .u32 (u2 : Int), .int .u32 (u3 : Int)] 23)).alloc (.cells #[.int .u32 (v0 : Int), .int .u32 (v1 : Int), .int .u32 (v2 : Int), .int .u32 (v3 : Int)] 23)).drew) := ⟨by simp; try omega, by simp [go_sem], by simp [go_sem], by simp [go_sem], by simp [go_sem]⟩
  have HB : Below w.heap.size w (((w.alloc (.cells #[.int .u32 (u0 : Int), .int .u32 (u1 : Int), .int .u32 (u2 : Int), .int .u32 (u3 : Int)] 23)).alloc (.cells #[.int .u32 (v0 : Int), .int .u32 (v1 : Int), .int .u32 (v2 : Int), .int .u32 (v3 : Int)] 23)).drew) := (((Below.refl _ _).alloc (Nat.le_refl _) _).alloc (by simp) _).drew
  go_enter Try.func3, Try.ntmps3
  go_wp2_with fail
  refine wp_region_stays (mk := ?mk1) 12 [(23, 0), (24, 1), (25, 2), (26, 3), (27, 4), (28, 5), (29, 6), (30, 7), (31, 8), (32, 9), (5, 10), (6, 11)] (fun i v w' => match i with | 0 => v = .pointer (some ⟨w.heap.size, 0, none⟩) | 1 => v = .int .u32 (u0 : Int) | 2 => v = .pointer (some ⟨w.heap.size, 1, none⟩) | 3 => v = .int .u32 (u1 : Int) | 4 => ∃ p, Dy.Rk p ∧ Dy.Wi p (0, Dy.I1) ∧ v = iv (Dy.E p) | 5 => v = .pointer (some ⟨w.heap.size, 2, none⟩) | 6 => v = .int .u32 (u2 : Int) | 7 => v = .pointer (some ⟨w.heap.size, 3, none⟩) | 8 => v = .int .u32 (u3 : Int) | 9 => ∃ p, Dy.Rk p ∧ Dy.Wi p (0, Dy.I1) ∧ v = iv (Dy.E p) | 10 => ∃ X, v = .pointer (some ⟨X, 0, none⟩) ∧ Out X w' ∧ w.heap.size + 1 + 1 ≤ X | 11 => ∃ X, v = .pointer (some ⟨X, 0, none⟩) ∧ Out X w' ∧ w.heap.size + 1 + 1 ≤ X | _ => False) (fun i => i == 10 || i == 11) (by kernel_rfl) (by kernel_rfl) ?hmk ?h0 ?stab ?old ?steps ?fin
  case hmk =>
    intro f
    simp only [putAll, List.foldl_cons, List.foldl_nil, Act.put, List.setIfInBounds_toArray, List.set_cons_succ, List.set_cons_zero]
    rfl
  case h0 => exact ⟨fun _ => undef, rfl⟩
  case stab =>
    exact fun i v w w' h hb => match i, h with | 0, h => h | 1, h => h | 2, h => h | 3, h => h | 4, h => h | 5, h => h | 6, h => h | 7, h => h | 8, h => h | 9, h => h | 10, ⟨X, e, ho, hx⟩ => ⟨X, e, ho.keep hb, hx⟩ | 11, ⟨X, e, ho, hx⟩ => ⟨X, e, ho.keep hb, hx⟩ | _ + 12, h => h
  case old =>
    intro i v w ha h
    have hi : i = 10 ∨ i = 11 := by simpa using ha
    clear ha
    rcases hi with rfl | rfl
    · obtain ⟨X, e, ho, _⟩ := h; exact ⟨X, 0, e, ho.lt⟩
    · obtain ⟨X, e, ho, _⟩ := h; exact ⟨X, 0, e, ho.lt⟩
  case steps =>
    simp only [List.take_succ_cons, List.take_zero]
    refine Stays.cons (fun f w1 hB hdep K hK => ?_) ?_
    · have hK := hid hK
      clear hdep
      go_simp
      exact hK.out (.pointer (some ⟨w.heap.size, 0, none⟩)) _ _ (by simp [upd]) rfl (Below.refl _ _) (fun h => by cases h)
    refine Stays.cons (fun f w1 hB hdep K hK => ?_) ?_
    · have hK := hid hK
      have d0 : f 0 = .pointer (some ⟨w.heap.size, 0, none⟩) := hdep ⟨0, .data⟩ (List.mem_filter.2 ⟨by simp, rfl⟩)
      clear hdep
      have c0 := (hU.keep hB).s0
      go_simp
      exact hK.out (.int .u32 (u0 : Int)) _ _ (by simp [upd, d0]) rfl (Below.refl _ _) (fun h => by cases h)
    refine Stays.cons (fun f w1 hB hdep K hK => ?_) ?_
    · have hK := hid hK
      clear hdep
      go_simp
      exact hK.out (.pointer (some ⟨w.heap.size, 1, none⟩)) _ _ (by simp [upd]) rfl (Below.refl _ _) (fun h => by cases h)
    refine Stays.cons (fun f w1 hB hdep K hK => ?_) ?_
    · have hK := hid hK
      have d2 : f 2 = .pointer (some ⟨w.heap.size, 1, none⟩) := hdep ⟨2, .data⟩ (List.mem_filter.2 ⟨by simp, rfl⟩)
      clear hdep
      have c1 := (hU.keep hB).s1
      go_simp
      exact hK.out (.int .u32 (u1 : Int)) _ _ (by simp [upd, d2]) rfl (Below.refl _ _) (fun h => by cases h)
    refine Stays.cons (fun f w1 hB hdep K hK => ?_) ?_
    · have hK := hid hK
      have d1 : f 1 = .int .u32 (u0 : Int) := hdep ⟨1, .data⟩ (List.mem_filter.2 ⟨by simp, rfl⟩)
      have d3 : f 3 = .int .u32 (u1 : Int) := hdep ⟨3, .data⟩ (List.mem_filter.2 ⟨by simp, rfl⟩)
      clear hdep
      go_simp
      refine (S1.out _).mono ?_
      rintro e w2 ⟨p, rp, wp, rfl, hb⟩
      (try go_simp)
      exact hK.out ((iv (Dy.E p))) _ _ (by simp [upd, d1, d3]) ⟨p, rp, wp, rfl⟩ hb (fun h => by cases h)
    refine Stays.cons (fun f w1 hB hdep K hK => ?_) ?_
    · have hK := hid hK
      clear hdep
      go_simp
      exact hK.out (.pointer (some ⟨w.heap.size, 2, none⟩)) _ _ (by simp [upd]) rfl (Below.refl _ _) (fun h => by cases h)
    refine Stays.cons (fun f w1 hB hdep K hK => ?_) ?_
    · have hK := hid hK
      have d5 : f 5 = .pointer (some ⟨w.heap.size, 2, none⟩) := hdep ⟨5, .data⟩ (List.mem_filter.2 ⟨by simp, rfl⟩)
      clear hdep
      have c2 := (hU.keep hB).s2
      go_simp
      exact hK.out (.int .u32 (u2 : Int)) _ _ (by simp [upd, d5]) rfl (Below.refl _ _) (fun h => by cases h)
    refine Stays.cons (fun f w1 hB hdep K hK => ?_) ?_
    · have hK := hid hK
      clear hdep
      go_simp
      exact hK.out (.pointer (some ⟨w.heap.size, 3, none⟩)) _ _ (by simp [upd]) rfl (Below.refl _ _) (fun h => by cases h)
    refine Stays.cons (fun f w1 hB hdep K hK => ?_) ?_
    · have hK := hid hK
      have d7 : f 7 = .pointer (some ⟨w.heap.size, 3, none⟩) := hdep ⟨7, .data⟩ (List.mem_filter.2 ⟨by simp, rfl⟩)
      clear hdep
      have c3 := (hU.keep hB).s3
      go_simp
      exact hK.out (.int .u32 (u3 : Int)) _ _ (by simp [upd, d7]) rfl (Below.refl _ _) (fun h => by cases h)
    refine Stays.cons (fun f w1 hB hdep K hK => ?_) ?_
    · have hK := hid hK
      have d6 : f 6 = .int .u32 (u2 : Int) := hdep ⟨6, .data⟩ (List.mem_filter.2 ⟨by simp, rfl⟩)
      have d8 : f 8 = .int .u32 (u3 : Int) := hdep ⟨8, .data⟩ (List.mem_filter.2 ⟨by simp, rfl⟩)
      clear hdep
      go_simp
      refine (S2.out _).mono ?_
      rintro e w2 ⟨p, rp, wp, rfl, hb⟩
      (try go_simp)
      exact hK.out ((iv (Dy.E p))) _ _ (by simp [upd, d6, d8]) ⟨p, rp, wp, rfl⟩ hb (fun h => by cases h)
    refine Stays.cons (fun f w1 hB hdep K hK => ?_) ?_
    · have hK := hid hK
      clear hdep
      have hs := hB.size
      go_simp
      exact hK.out ((.pointer (some ⟨w1.heap.size, 0, none⟩))) _ _ (by simp [upd]) ⟨_, rfl, Out.new w1, by simpa using hs⟩ ((Below.refl _ _).alloc (Nat.le_refl _) _) (fun _ => ⟨_, 0, rfl, Nat.le_refl _⟩)
    refine Stays.cons (fun f w1 hB hdep K hK => ?_) ?_
    · have hK := hid hK
      clear hdep
      have hs := hB.size
      go_simp
      exact hK.out ((.pointer (some ⟨w1.heap.size, 0, none⟩))) _ _ (by simp [upd]) ⟨_, rfl, Out.new w1, by simpa using hs⟩ ((Below.refl _ _).alloc (Nat.le_refl _) _) (fun _ => ⟨_, 0, rfl, Nat.le_refl _⟩)
    exact Stays.nil
  case fin =>
    intro f wr1 hB hF hD
    simp only [List.drop_succ_cons, List.drop_zero]
    obtain ⟨p, rp, wp, e4⟩ := hF 4 (by decide)
    obtain ⟨q, rq, wq, e9⟩ := hF 9 (by decide)
    obtain ⟨X5, e10, hO5, hX5⟩ := hF 10 (by decide)
    obtain ⟨X6, e11, hO6, hX6⟩ := hF 11 (by decide)
    have n5_6 : X5 ≠ X6 := fun h => hD 10 11 (by decide) (by decide) (by decide) rfl rfl (by rw [e10, e11, h])
    have z5_0 := hO5.z0
    have z5_1 := hO5.z1
    have g5_0 := hO5.f0
    have g5_1 := hO5.f1
    have l5 := hO5.lt
    have z6_0 := hO6.z0
    have z6_1 := hO6.z1
    have g6_0 := hO6.f0
    have g6_1 := hO6.f1
    have l6 := hO6.lt
    have n6_5 := n5_6.symm
    simp only [e4, e9, e10, e11]
    clear hF hD e4 e9 e10 e11
    go_wp2_with fail
    have hN : Below _ _ (((((wr1.setCell ⟨X5, 0, none⟩ (.float .f64 (Dy.E p).1)).setCell ⟨X5, 1, none⟩ (.float .f64 (Dy.E p).2)).setCell ⟨X6, 0, none⟩ (.float .f64 (Dy.E q).1)).setCell ⟨X6, 1, none⟩ (.float .f64 (Dy.E q).2))) := ((((hB.setCell (by simp; omega) _).setCell (by simp; omega) _).setCell (by simp; omega) _).setCell (by simp; omega) _)
    have hP : Ivl X5 (Dy.E p) (((((wr1.setCell ⟨X5, 0, none⟩ (.float .f64 (Dy.E p).1)).setCell ⟨X5, 1, none⟩ (.float .f64 (Dy.E p).2)).setCell ⟨X6, 0, none⟩ (.float .f64 (Dy.E q).1)).setCell ⟨X6, 1, none⟩ (.float .f64 (Dy.E q).2))) := ⟨by simp; try omega, by simp [go_sem, *], by simp [go_sem, *]⟩
    have hQ : Ivl X6 (Dy.E q) (((((wr1.setCell ⟨X5, 0, none⟩ (.float .f64 (Dy.E p).1)).setCell ⟨X5, 1, none⟩ (.float .f64 (Dy.E p).2)).setCell ⟨X6, 0, none⟩ (.float .f64 (Dy.E q).1)).setCell ⟨X6, 1, none⟩ (.float .f64 (Dy.E q).2))) := ⟨by simp; try omega, by simp [go_sem, *], by simp [go_sem, *]⟩
    replace hV := hV.keep hN
    replace HB := HB.trans (hN.mono HB.size)
    clear hB hN z5_0 z5_1 g5_0 g5_1 hO5 z6_0 z6_1 g6_0 g6_1 hO6
    have up : Un p := ⟨rp, wp.lo, wp.hi⟩
    have uq : Un q := ⟨rq, wq.lo, wq.hi⟩
    have bp : -Dy.B10 ≤ p.1 ∧ p.1 ≤ p.2 ∧ p.2 ≤ Dy.B10 := ⟨by have := up.lo; unfold Dy.B10; omega, rp.le, by have := up.hi; unfold Dy.B10 Dy.I1 at *; omega⟩
    have bq : -Dy.B10 ≤ q.1 ∧ q.1 ≤ q.2 ∧ q.2 ≤ Dy.B10 := ⟨by have := uq.lo; unfold Dy.B10; omega, rq.le, by have := uq.hi; unfold Dy.B10 Dy.I1 at *; omega⟩
    have S3 := hid (fun w => span_any p.1 p.2 v0 v1 w bp.1 bp.2.1 bp.2.2 hv0.out hv1.out)
    have S4 := hid (fun w => span_any q.1 q.2 v2 v3 w bq.1 bq.2.1 bq.2.2 hv2.out hv3.out)
    clear bp bq S1 S2 wp wq
    replace hP := hP.keep (Below.refl _ _).drew
    replace hQ := hQ.keep (Below.refl _ _).drew
    replace hV := hV.keep (Below.refl _ _).drew
    replace HB := HB.drew
    refine wp_region_stays (mk := ?mk2) 20 [(33, 0), (34, 1), (35, 2), (36, 3), (37, 4), (38, 5), (39, 6), (40, 7), (41, 8), (42, 9), (43, 10), (44, 11), (45, 12), (46, 13), (47, 14), (48, 15), (49, 16), (50, 17), (7, 18), (8, 19)] (fun i v w' => match i with | 0 => v = .pointer (some ⟨X5, 0, none⟩) | 1 => v = .float .f64 (Dy.E p).1 | 2 => v = .pointer (some ⟨X5, 1, none⟩) | 3 => v = .float .f64 (Dy.E p).2 | 4 => v = .pointer (some ⟨w.heap.size + 1, 0, none⟩) | 5 => v = .int .u32 (v0 : Int) | 6 => v = .pointer (some ⟨w.heap.size + 1, 1, none⟩) | 7 => v = .int .u32 (v1 : Int) | 8 => ∃ x, Dy.Rk x ∧ Dy.Wi x (p.1, p.2) ∧ v = iv (Dy.E x) | 9 => v = .pointer (some ⟨X6, 0, none⟩) | 10 => v = .float .f64 (Dy.E q).1 | 11 => v = .pointer (some ⟨X6, 1, none⟩) | 12 => v = .float .f64 (Dy.E q).2 | 13 => v = .pointer (some ⟨w.heap.size + 1, 2, none⟩) | 14 => v = .int .u32 (v2 : Int) | 15 => v = .pointer (some ⟨w.heap.size + 1, 3, none⟩) | 16 => v = .int .u32 (v3 : Int) | 17 => ∃ x, Dy.Rk x ∧ Dy.Wi x (q.1, q.2) ∧ v = iv (Dy.E x) | 18 => ∃ X, v = .pointer (some ⟨X, 0, none⟩) ∧ Out X w' ∧ wr1.heap.size ≤ X | 19 => ∃ X, v = .pointer (some ⟨X, 0, none⟩) ∧ Out X w' ∧ wr1.heap.size ≤ X | _ => False) (fun i => i == 18 || i == 19) (by kernel_rfl) (by kernel_rfl) ?hmk ?h0 ?stab ?old ?steps ?fin
    case hmk =>
      intro f
      simp only [putAll, List.foldl_cons, List.foldl_nil, Act.put, List.setIfInBounds_toArray, List.set_cons_succ, List.set_cons_zero]
      rfl
    case h0 => exact ⟨fun _ => undef, rfl⟩
    case stab =>
      exact fun i v w w' h hb => match i, h with | 0, h => h | 1, h => h | 2, h => h | 3, h => h | 4, h => h | 5, h => h | 6, h => h | 7, h => h | 8, h => h | 9, h => h | 10, h => h | 11, h => h | 12, h => h | 13, h => h | 14, h => h | 15, h => h | 16, h => h | 17, h => h | 18, ⟨X, e, ho, hx⟩ => ⟨X, e, ho.keep hb, hx⟩ | 19, ⟨X, e, ho, hx⟩ => ⟨X, e, ho.keep hb, hx⟩ | _ + 20, h => h
    case old =>
      intro i v w ha h
      have hi : i = 18 ∨ i = 19 := by simpa using ha
      clear ha
      rcases hi with rfl | rfl
      · obtain ⟨X, e, ho, _⟩ := h; exact ⟨X, 0, e, ho.lt⟩
      · obtain ⟨X, e, ho, _⟩ := h; exact ⟨X, 0, e, ho.lt⟩
    case steps =>
      simp only [List.take_succ_cons, List.take_zero]
      refine Stays.cons (fun f w1 hB hdep K hK => ?_) ?_
      · have hK := hid hK
        clear hdep
        go_simp
        exact hK.out (.pointer (some ⟨X5, 0, none⟩)) _ _ (by simp [upd]) rfl (Below.refl _ _) (fun h => by cases h)
      refine Stays.cons (fun f w1 hB hdep K hK => ?_) ?_
      · have hK := hid hK
        have d0 : f 0 = .pointer (some ⟨X5, 0, none⟩) := hdep ⟨0, .data⟩ (List.mem_filter.2 ⟨by simp, rfl⟩)
        clear hdep
        have c0 := (hP.keep hB).s0
        go_simp
        exact hK.out (.float .f64 (Dy.E p).1) _ _ (by simp [upd, d0]) rfl (Below.refl _ _) (fun h => by cases h)
      refine Stays.cons (fun f w1 hB hdep K hK => ?_) ?_
      · have hK := hid hK
        clear hdep
        go_simp
        exact hK.out (.pointer (some ⟨X5, 1, none⟩)) _ _ (by simp [upd]) rfl (Below.refl _ _) (fun h => by cases h)
      refine Stays.cons (fun f w1 hB hdep K hK => ?_) ?_
      · have hK := hid hK
        have d2 : f 2 = .pointer (some ⟨X5, 1, none⟩) := hdep ⟨2, .data⟩ (List.mem_filter.2 ⟨by simp, rfl⟩)
        clear hdep
        have c1 := (hP.keep hB).s1
        go_simp
        exact hK.out (.float .f64 (Dy.E p).2) _ _ (by simp [upd, d2]) rfl (Below.refl _ _) (fun h => by cases h)
      refine Stays.cons (fun f w1 hB hdep K hK => ?_) ?_
      · have hK := hid hK
        clear hdep
        go_simp
        exact hK.out (.pointer (some ⟨w.heap.size + 1, 0, none⟩)) _ _ (by simp [upd]) rfl (Below.refl _ _) (fun h => by cases h)
      refine Stays.cons (fun f w1 hB hdep K hK => ?_) ?_
      · have hK := hid hK
        have d4 : f 4 = .pointer (some ⟨w.heap.size + 1, 0, none⟩) := hdep ⟨4, .data⟩ (List.mem_filter.2 ⟨by simp, rfl⟩)
        clear hdep
        have c0 := (hV.keep hB).s0
        go_simp
        exact hK.out (.int .u32 (v0 : Int)) _ _ (by simp [upd, d4]) rfl (Below.refl _ _) (fun h => by cases h)
      refine Stays.cons (fun f w1 hB hdep K hK => ?_) ?_
      · have hK := hid hK
        clear hdep
        go_simp
        exact hK.out (.pointer (some ⟨w.heap.size + 1, 1, none⟩)) _ _ (by simp [upd]) rfl (Below.refl _ _) (fun h => by cases h)
      refine Stays.cons (fun f w1 hB hdep K hK => ?_) ?_
      · have hK := hid hK
        have d6 : f 6 = .pointer (some ⟨w.heap.size + 1, 1, none⟩) := hdep ⟨6, .data⟩ (List.mem_filter.2 ⟨by simp, rfl⟩)
        clear hdep
        have c1 := (hV.keep hB).s1
        go_simp
        exact hK.out (.int .u32 (v1 : Int)) _ _ (by simp [upd, d6]) rfl (Below.refl _ _) (fun h => by cases h)
      refine Stays.cons (fun f w1 hB hdep K hK => ?_) ?_
      · have hK := hid hK
        have d1 : f 1 = .float .f64 (Dy.E p).1 := hdep ⟨1, .data⟩ (List.mem_filter.2 ⟨by simp, rfl⟩)
        have d3 : f 3 = .float .f64 (Dy.E p).2 := hdep ⟨3, .data⟩ (List.mem_filter.2 ⟨by simp, rfl⟩)
        have d5 : f 5 = .int .u32 (v0 : Int) := hdep ⟨5, .data⟩ (List.mem_filter.2 ⟨by simp, rfl⟩)
        have d7 : f 7 = .int .u32 (v1 : Int) := hdep ⟨7, .data⟩ (List.mem_filter.2 ⟨by simp, rfl⟩)
        clear hdep
        go_simp
        refine (S3.out _).mono ?_
        rintro e w2 ⟨x, rx, wx, rfl, hb⟩
        (try go_simp)
        exact hK.out ((iv (Dy.E x))) _ _ (by simp [upd, d1, d3, d5, d7]) ⟨x, rx, wx, rfl⟩ hb (fun h => by cases h)
      refine Stays.cons (fun f w1 hB hdep K hK => ?_) ?_
      · have hK := hid hK
        clear hdep
        go_simp
        exact hK.out (.pointer (some ⟨X6, 0, none⟩)) _ _ (by simp [upd]) rfl (Below.refl _ _) (fun h => by cases h)
      refine Stays.cons (fun f w1 hB hdep K hK => ?_) ?_
      · have hK := hid hK
        have d9 : f 9 = .pointer (some ⟨X6, 0, none⟩) := hdep ⟨9, .data⟩ (List.mem_filter.2 ⟨by simp, rfl⟩)
        clear hdep
        have c0 := (hQ.keep hB).s0
        go_simp
        exact hK.out (.float .f64 (Dy.E q).1) _ _ (by simp [upd, d9]) rfl (Below.refl _ _) (fun h => by cases h)
      refine Stays.cons (fun f w1 hB hdep K hK => ?_) ?_
      · have hK := hid hK
        clear hdep
        go_simp
        exact hK.out (.pointer (some ⟨X6, 1, none⟩)) _ _ (by simp [upd]) rfl (Below.refl _ _) (fun h => by cases h)
      refine Stays.cons (fun f w1 hB hdep K hK => ?_) ?_
      · have hK := hid hK
        have d11 : f 11 = .pointer (some ⟨X6, 1, none⟩) := hdep ⟨11, .data⟩ (List.mem_filter.2 ⟨by simp, rfl⟩)
        clear hdep
        have c1 := (hQ.keep hB).s1
        go_simp
        exact hK.out (.float .f64 (Dy.E q).2) _ _ (by simp [upd, d11]) rfl (Below.refl _ _) (fun h => by cases h)
      refine Stays.cons (fun f w1 hB hdep K hK => ?_) ?_
      · have hK := hid hK
        clear hdep
        go_simp
        exact hK.out (.pointer (some ⟨w.heap.size + 1, 2, none⟩)) _ _ (by simp [upd]) rfl (Below.refl _ _) (fun h => by cases h)
      refine Stays.cons (fun f w1 hB hdep K hK => ?_) ?_
      · have hK := hid hK
        have d13 : f 13 = .pointer (some ⟨w.heap.size + 1, 2, none⟩) := hdep ⟨13, .data⟩ (List.mem_filter.2 ⟨by simp, rfl⟩)
        clear hdep
        have c2 := (hV.keep hB).s2
        go_simp
        exact hK.out (.int .u32 (v2 : Int)) _ _ (by simp [upd, d13]) rfl (Below.refl _ _) (fun h => by cases h)
      refine Stays.cons (fun f w1 hB hdep K hK => ?_) ?_
      · have hK := hid hK
        clear hdep
        go_simp
        exact hK.out (.pointer (some ⟨w.heap.size + 1, 3, none⟩)) _ _ (by simp [upd]) rfl (Below.refl _ _) (fun h => by cases h)
      refine Stays.cons (fun f w1 hB hdep K hK => ?_) ?_
      · have hK := hid hK
        have d15 : f 15 = .pointer (some ⟨w.heap.size + 1, 3, none⟩) := hdep ⟨15, .data⟩ (List.mem_filter.2 ⟨by simp, rfl⟩)
        clear hdep
        have c3 := (hV.keep hB).s3
        go_simp
        exact hK.out (.int .u32 (v3 : Int)) _ _ (by simp [upd, d15]) rfl (Below.refl _ _) (fun h => by cases h)
      refine Stays.cons (fun f w1 hB hdep K hK => ?_) ?_
      · have hK := hid hK
        have d10 : f 10 = .float .f64 (Dy.E q).1 := hdep ⟨10, .data⟩ (List.mem_filter.2 ⟨by simp, rfl⟩)
        have d12 : f 12 = .float .f64 (Dy.E q).2 := hdep ⟨12, .data⟩ (List.mem_filter.2 ⟨by simp, rfl⟩)
        have d14 : f 14 = .int .u32 (v2 : Int) := hdep ⟨14, .data⟩ (List.mem_filter.2 ⟨by simp, rfl⟩)
        have d16 : f 16 = .int .u32 (v3 : Int) := hdep ⟨16, .data⟩ (List.mem_filter.2 ⟨by simp, rfl⟩)
        clear hdep
        go_simp
        refine (S4.out _).mono ?_
        rintro e w2 ⟨x, rx, wx, rfl, hb⟩
        (try go_simp)
        exact hK.out ((iv (Dy.E x))) _ _ (by simp [upd, d10, d12, d14, d16]) ⟨x, rx, wx, rfl⟩ hb (fun h => by cases h)
      refine Stays.cons (fun f w1 hB hdep K hK => ?_) ?_
      · have hK := hid hK
        clear hdep
        have hs := hB.size
        go_simp
        exact hK.out ((.pointer (some ⟨w1.heap.size, 0, none⟩))) _ _ (by simp [upd]) ⟨_, rfl, Out.new w1, by simpa using hs⟩ ((Below.refl _ _).alloc (Nat.le_refl _) _) (fun _ => ⟨_, 0, rfl, Nat.le_refl _⟩)
      refine Stays.cons (fun f w1 hB hdep K hK => ?_) ?_
      · have hK := hid hK
        clear hdep
        have hs := hB.size
        go_simp
        exact hK.out ((.pointer (some ⟨w1.heap.size, 0, none⟩))) _ _ (by simp [upd]) ⟨_, rfl, Out.new w1, by simpa using hs⟩ ((Below.refl _ _).alloc (Nat.le_refl _) _) (fun _ => ⟨_, 0, rfl, Nat.le_refl _⟩)
      exact Stays.nil
    case fin =>
      intro f wr2 hB hF hD
      simp only [List.drop_succ_cons, List.drop_zero]
      obtain ⟨r, rr, wr, e8⟩ := hF 8 (by decide)
      obtain ⟨c, rc, wc, e17⟩ := hF 17 (by decide)
      obtain ⟨X7, e18, hO7, hX7⟩ := hF 18 (by decide)
      obtain ⟨X8, e19, hO8, hX8⟩ := hF 19 (by decide)
      have n7_8 : X7 ≠ X8 := fun h => hD 18 19 (by decide) (by decide) (by decide) rfl rfl (by rw [e18, e19, h])
      have z7_0 := hO7.z0
      have z7_1 := hO7.z1
      have g7_0 := hO7.f0
      have g7_1 := hO7.f1
      have l7 := hO7.lt
      have z8_0 := hO8.z0
      have z8_1 := hO8.z1
      have g8_0 := hO8.f0
      have g8_1 := hO8.f1
      have l8 := hO8.lt
      have n8_7 := n7_8.symm
      simp only [e8, e17, e18, e19]
      clear hF hD e8 e17 e18 e19
      have t0_0 := (hP.keep hB).s0
      have t0_1 := (hP.keep hB).s1
      have m0_7 : X7 ≠ X5 := by have := hP.lt; simp at this; omega
      have m0_8 : X8 ≠ X5 := by have := hP.lt; simp at this; omega
      have t1_0 := (hQ.keep hB).s0
      have t1_1 := (hQ.keep hB).s1
      have m1_7 : X7 ≠ X6 := by have := hQ.lt; simp at this; omega
      have m1_8 : X8 ≠ X6 := by have := hQ.lt; simp at this; omega
      go_wp2_with fail
      clear t0_0 t0_1 t1_0 t1_1
      have hN : Below _ _ (((((wr2.setCell ⟨X7, 0, none⟩ (.float .f64 (Dy.E r).1)).setCell ⟨X7, 1, none⟩ (.float .f64 (Dy.E r).2)).setCell ⟨X8, 0, none⟩ (.float .f64 (Dy.E c).1)).setCell ⟨X8, 1, none⟩ (.float .f64 (Dy.E c).2))) := ((((hB.setCell (by simp; omega) _).setCell (by simp; omega) _).setCell (by simp; omega) _).setCell (by simp; omega) _)
      have hR : Ivl X7 (Dy.E r) (((((wr2.setCell ⟨X7, 0, none⟩ (.float .f64 (Dy.E r).1)).setCell ⟨X7, 1, none⟩ (.float .f64 (Dy.E r).2)).setCell ⟨X8, 0, none⟩ (.float .f64 (Dy.E c).1)).setCell ⟨X8, 1, none⟩ (.float .f64 (Dy.E c).2))) := ⟨by simp; try omega, by simp [go_sem, *], by simp [go_sem, *]⟩
      have hC : Ivl X8 (Dy.E c) (((((wr2.setCell ⟨X7, 0, none⟩ (.float .f64 (Dy.E r).1)).setCell ⟨X7, 1, none⟩ (.float .f64 (Dy.E r).2)).setCell ⟨X8, 0, none⟩ (.float .f64 (Dy.E c).1)).setCell ⟨X8, 1, none⟩ (.float .f64 (Dy.E c).2))) := ⟨by simp; try omega, by simp [go_sem, *], by simp [go_sem, *]⟩
      replace hP := hP.keep hN
      replace hQ := hQ.keep hN
      replace hV := hV.keep hN
      replace HB := HB.trans (hN.mono HB.size)
      clear hB hN z7_0 z7_1 g7_0 g7_1 hO7 z8_0 z8_1 g8_0 g8_1 hO8
      obtain ⟨a, i, v, o, l, m, FA⟩ := falls_of up uq rr rc wr wc
      have C1 := hid (fun w => lamCap_any (Dy.E p) (Dy.E q) w rp.E_W rq.E_W)
      have C2 := hid (fun w => lamCap_any (Dy.E r) (Dy.E c) w rr.E_W rc.E_W)
      have C3 := hid (fun w => lamValue_any (Dy.E p) w rp.E_W)
      have C4 := hid (fun w => lamValue_any (Dy.E r) w rr.E_W)
      have C5 := hid (fun w => lamCap_any (Dy.E p) (4607182418800017408, 4607182418800017408) w rp.E_W WW_one)
      have C6 := hid (fun w => lamCap_any (Dy.E (p.2, p.2)) (Dy.E (q.1, q.1)) w ⟨Dy.W_enc rp.hi, Dy.W_enc rp.hi⟩ ⟨Dy.W_enc rq.lo, Dy.W_enc rq.lo⟩)
      have C7 := hid (fun w => lamCap_any (Dy.E (p.2, p.2)) (Dy.E (q.2, q.2)) w ⟨Dy.W_enc rp.hi, Dy.W_enc rp.hi⟩ ⟨Dy.W_enc rq.hi, Dy.W_enc rq.hi⟩)
      rw [FA.ea] at C1
      rw [FA.ei] at C2
      rw [FA.ev] at C3
      rw [FA.eo] at C4
      rw [one_E, FA.et] at C5
      rw [FA.el] at C6
      rw [FA.em] at C7
      have P1 := hid (fun w => p07_lit 4607182418800017408 w (by decide))
      have P2 := hid (fun w => p07_any p.2 w rp.hi)
      have P3 := hid (fun w => p07_any q.1 w rq.lo)
      have P4 := hid (fun w => p07_any q.2 w rq.hi)
      clear S3 S4 wr wc hV
      have k0_0 := hP.s0
      have k0_1 := hP.s1
      have k1_0 := hQ.s0
      have k1_1 := hQ.s1
      go_wp2_with fail
      refine (C1.out _).mono ?_
      rintro e y3 ⟨rfl, b3⟩
      clear k0_0 k0_1 k1_0 k1_1
      replace hP := hP.keep b3
      replace hQ := hQ.keep b3
      replace hR := hR.keep b3
      replace hC := hC.keep b3
      replace HB := HB.trans (b3.mono HB.size)
      clear b3
      replace hP := hP.keep ((Below.refl _ _).alloc (Nat.le_refl _) (.cells #[.float .f64 (Dy.E a).1, .float .f64 (Dy.E a).2] 26))
      replace hQ := hQ.keep ((Below.refl _ _).alloc (Nat.le_refl _) (.cells #[.float .f64 (Dy.E a).1, .float .f64 (Dy.E a).2] 26))
      replace hR := hR.keep ((Below.refl _ _).alloc (Nat.le_refl _) (.cells #[.float .f64 (Dy.E a).1, .float .f64 (Dy.E a).2] 26))
      replace hC := hC.keep ((Below.refl _ _).alloc (Nat.le_refl _) (.cells #[.float .f64 (Dy.E a).1, .float .f64 (Dy.E a).2] 26))
      have hA := Ivl.new y3 (Dy.E a)
      replace HB := HB.alloc HB.size (.cells #[.float .f64 (Dy.E a).1, .float .f64 (Dy.E a).2] 26)
      have k0_0 := hR.s0
      have k0_1 := hR.s1
      have k1_0 := hC.s0
      have k1_1 := hC.s1
      go_wp2_with fail
      refine (C2.out _).mono ?_
      rintro e y4 ⟨rfl, b4⟩
      clear k0_0 k0_1 k1_0 k1_1
      replace hP := hP.keep b4
      replace hQ := hQ.keep b4
      replace hR := hR.keep b4
      replace hC := hC.keep b4
      replace hA := hA.keep b4
      replace HB := HB.trans (b4.mono HB.size)
      clear b4
      replace hP := hP.keep ((Below.refl _ _).alloc (Nat.le_refl _) (.cells #[.float .f64 (Dy.E i).1, .float .f64 (Dy.E i).2] 26))
      replace hQ := hQ.keep ((Below.refl _ _).alloc (Nat.le_refl _) (.cells #[.float .f64 (Dy.E i).1, .float .f64 (Dy.E i).2] 26))
      replace hR := hR.keep ((Below.refl _ _).alloc (Nat.le_refl _) (.cells #[.float .f64 (Dy.E i).1, .float .f64 (Dy.E i).2] 26))
      replace hC := hC.keep ((Below.refl _ _).alloc (Nat.le_refl _) (.cells #[.float .f64 (Dy.E i).1, .float .f64 (Dy.E i).2] 26))
      replace hA := hA.keep ((Below.refl _ _).alloc (Nat.le_refl _) (.cells #[.float .f64 (Dy.E i).1, .float .f64 (Dy.E i).2] 26))
      have hI := Ivl.new y4 (Dy.E i)
      replace HB := HB.alloc HB.size (.cells #[.float .f64 (Dy.E i).1, .float .f64 (Dy.E i).2] 26)
      have k0_0 := hP.s0
      have k0_1 := hP.s1
      go_wp2_with fail
      refine (C3.out _).mono ?_
      rintro e y5 ⟨rfl, b5⟩
      clear k0_0 k0_1
      replace hP := hP.keep b5
      replace hQ := hQ.keep b5
      replace hR := hR.keep b5
      replace hC := hC.keep b5
      replace hA := hA.keep b5
      replace hI := hI.keep b5
      replace HB := HB.trans (b5.mono HB.size)
      clear b5
      replace hP := hP.keep ((Below.refl _ _).alloc (Nat.le_refl _) (.cells #[.float .f64 (Dy.E v).1, .float .f64 (Dy.E v).2] 26))
      replace hQ := hQ.keep ((Below.refl _ _).alloc (Nat.le_refl _) (.cells #[.float .f64 (Dy.E v).1, .float .f64 (Dy.E v).2] 26))
      replace hR := hR.keep ((Below.refl _ _).alloc (Nat.le_refl _) (.cells #[.float .f64 (Dy.E v).1, .float .f64 (Dy.E v).2] 26))
      replace hC := hC.keep ((Below.refl _ _).alloc (Nat.le_refl _) (.cells #[.float .f64 (Dy.E v).1, .float .f64 (Dy.E v).2] 26))
      replace hA := hA.keep ((Below.refl _ _).alloc (Nat.le_refl _) (.cells #[.float .f64 (Dy.E v).1, .float .f64 (Dy.E v).2] 26))
      replace hI := hI.keep ((Below.refl _ _).alloc (Nat.le_refl _) (.cells #[.float .f64 (Dy.E v).1, .float .f64 (Dy.E v).2] 26))
      have hVv := Ivl.new y5 (Dy.E v)
      replace HB := HB.alloc HB.size (.cells #[.float .f64 (Dy.E v).1, .float .f64 (Dy.E v).2] 26)
      have k0_0 := hR.s0
      have k0_1 := hR.s1
      go_wp2_with fail
      refine (C4.out _).mono ?_
      rintro e y6 ⟨rfl, b6⟩
      clear k0_0 k0_1
      replace hP := hP.keep b6
      replace hQ := hQ.keep b6
      replace hR := hR.keep b6
      replace hC := hC.keep b6
      replace hA := hA.keep b6
      replace hI := hI.keep b6
      replace hVv := hVv.keep b6
      replace HB := HB.trans (b6.mono HB.size)
      clear b6
      replace hP := hP.keep ((Below.refl _ _).alloc (Nat.le_refl _) (.cells #[.float .f64 (Dy.E o).1, .float .f64 (Dy.E o).2] 26))
      replace hQ := hQ.keep ((Below.refl _ _).alloc (Nat.le_refl _) (.cells #[.float .f64 (Dy.E o).1, .float .f64 (Dy.E o).2] 26))
      replace hR := hR.keep ((Below.refl _ _).alloc (Nat.le_refl _) (.cells #[.float .f64 (Dy.E o).1, .float .f64 (Dy.E o).2] 26))
      replace hC := hC.keep ((Below.refl _ _).alloc (Nat.le_refl _) (.cells #[.float .f64 (Dy.E o).1, .float .f64 (Dy.E o).2] 26))
      replace hA := hA.keep ((Below.refl _ _).alloc (Nat.le_refl _) (.cells #[.float .f64 (Dy.E o).1, .float .f64 (Dy.E o).2] 26))
      replace hI := hI.keep ((Below.refl _ _).alloc (Nat.le_refl _) (.cells #[.float .f64 (Dy.E o).1, .float .f64 (Dy.E o).2] 26))
      replace hVv := hVv.keep ((Below.refl _ _).alloc (Nat.le_refl _) (.cells #[.float .f64 (Dy.E o).1, .float .f64 (Dy.E o).2] 26))
      have hO := Ivl.new y6 (Dy.E o)
      replace HB := HB.alloc HB.size (.cells #[.float .f64 (Dy.E o).1, .float .f64 (Dy.E o).2] 26)
      go_wp2_with fail
      replace hP := hP.keep (Below.refl _ _).drew
      replace hQ := hQ.keep (Below.refl _ _).drew
      replace hR := hR.keep (Below.refl _ _).drew
      replace hC := hC.keep (Below.refl _ _).drew
      replace hA := hA.keep (Below.refl _ _).drew
      replace hI := hI.keep (Below.refl _ _).drew
      replace hVv := hVv.keep (Below.refl _ _).drew
      replace hO := hO.keep (Below.refl _ _).drew
      replace HB := HB.drew
      have SG : ∀ (i j : Nat) (f : Nat → Value) (v : Value) (w w' : World), j ≠ i → (j = 7 → i ≠ 6) → Below w.heap.size w w' → (fun i f w' => match i with | 0 => f 0 = iv (Dy.E p) | 1 => f 1 = iv (4607182418800017408, 4607182418800017408) | 2 => f 2 = .tuple #[iv (Dy.E (0, 0)), .int .i64 0] | 3 => f 3 = .tuple #[iv (Dy.E (0, 0)), .int .i64 0] | 4 => f 4 = iv (Dy.E (0, 0)) | 5 => f 5 = .int .i64 0 | 6 => ∃ X, f 6 = .pointer (some ⟨X, 0, none⟩) ∧ y6.heap.size + 1 ≤ X ∧ Box X w' | 7 => ∃ X, f 6 = .pointer (some ⟨X, 0, none⟩) ∧ y6.heap.size + 1 ≤ X ∧ Ivl X (Dy.E (0, 0)) w' | 8 => f 8 = .int .i64 0 | _ => False : Nat → (Nat → Value) → World → Prop) j f w → (fun i f w' => match i with | 0 => f 0 = iv (Dy.E p) | 1 => f 1 = iv (4607182418800017408, 4607182418800017408) | 2 => f 2 = .tuple #[iv (Dy.E (0, 0)), .int .i64 0] | 3 => f 3 = .tuple #[iv (Dy.E (0, 0)), .int .i64 0] | 4 => f 4 = iv (Dy.E (0, 0)) | 5 => f 5 = .int .i64 0 | 6 => ∃ X, f 6 = .pointer (some ⟨X, 0, none⟩) ∧ y6.heap.size + 1 ≤ X ∧ Box X w' | 7 => ∃ X, f 6 = .pointer (some ⟨X, 0, none⟩) ∧ y6.heap.size + 1 ≤ X ∧ Ivl X (Dy.E (0, 0)) w' | 8 => f 8 = .int .i64 0 | _ => False : Nat → (Nat → Value) → World → Prop) j (upd f i v) w' := by
        intro i j f v w w' hj c0 hbw h
        exact match j, hj, c0, h with | 0, hj, _, h => (upd_ne hj).trans h | 1, hj, _, h => (upd_ne hj).trans h | 2, hj, _, h => (upd_ne hj).trans h | 3, hj, _, h => (upd_ne hj).trans h | 4, hj, _, h => (upd_ne hj).trans h | 5, hj, _, h => (upd_ne hj).trans h | 6, hj, _, ⟨X, e, hx, hb⟩ => ⟨X, (upd_ne hj).trans e, hx, hb.keep hbw⟩ | 7, _, cc, ⟨X, e, hx, hi⟩ => ⟨X, (upd_ne (cc rfl).symm).trans e, hx, hi.keep hbw⟩ | 8, hj, _, h => (upd_ne hj).trans h | _ + 9, _, _, h => h
      refine wp_region_helds (mk := ?mk7) [(74, 0), (75, 1), (76, 2), (73, 3), (77, 4), (78, 5), (17, 6), (18, 8)] (fun i f w' => match i with | 0 => f 0 = iv (Dy.E p) | 1 => f 1 = iv (4607182418800017408, 4607182418800017408) | 2 => f 2 = .tuple #[iv (Dy.E (0, 0)), .int .i64 0] | 3 => f 3 = .tuple #[iv (Dy.E (0, 0)), .int .i64 0] | 4 => f 4 = iv (Dy.E (0, 0)) | 5 => f 5 = .int .i64 0 | 6 => ∃ X, f 6 = .pointer (some ⟨X, 0, none⟩) ∧ y6.heap.size + 1 ≤ X ∧ Box X w' | 7 => ∃ X, f 6 = .pointer (some ⟨X, 0, none⟩) ∧ y6.heap.size + 1 ≤ X ∧ Ivl X (Dy.E (0, 0)) w' | 8 => f 8 = .int .i64 0 | _ => False) (fun i => i == 6) (by kernel_rfl) (by kernel_rfl) ?hmk ?h0 ?old ?steps ?fin
      case hmk =>
        intro f
        simp only [putAll, List.foldl_cons, List.foldl_nil, Act.put, List.setIfInBounds_toArray, List.set_cons_succ, List.set_cons_zero]
        rfl
      case h0 => exact ⟨fun _ => undef, rfl⟩
      case old =>
        intro i f w ha h
        have hi : i = 6 := by simpa using ha
        clear ha
        subst hi
        obtain ⟨X, e, _, ho⟩ := h
        exact ⟨X, 0, e, ho.lt⟩
      case steps =>
        refine Helds.cons (fun f w1 hB hdep hdis K hK => ?_) ?_
        · have hK := hid hK
          clear hdis
          clear hdep
          have c0 := (hP.keep hB).s0
          have c1 := (hP.keep hB).s1
          go_simp
          exact hK.out (iv (Dy.E p)) _ _ (by simp [upd]) (upd_same _ _ _) (Below.refl _ _) (fun j hj _ _ hF => SG _ j _ _ _ _ hj (fun _ => by decide) (Below.refl _ _) hF) (fun h => by cases h)
        refine Helds.cons (fun f w1 hB hdep hdis K hK => ?_) ?_
        · have hK := hid hK
          clear hdis
          clear hdep
          go_simp
          refine (P1.out _).mono ?_
          rintro e w2 ⟨rfl, hb⟩
          (try go_simp)
          exact hK.out ((iv (4607182418800017408, 4607182418800017408))) _ _ (by simp [upd]) (upd_same _ _ _) (hb.mono hB.size) (fun j hj _ _ hF => SG _ j _ _ _ _ hj (fun _ => by decide) hb hF) (fun h => by cases h)
        refine Helds.cons (fun f w1 hB hdep hdis K hK => ?_) ?_
        · have hK := hid hK
          clear hdis
          have d0 : f 0 = iv (Dy.E p) := hdep ⟨0, .data⟩ (List.mem_filter.2 ⟨by simp, rfl⟩)
          have d1 : f 1 = iv (4607182418800017408, 4607182418800017408) := hdep ⟨1, .data⟩ (List.mem_filter.2 ⟨by simp, rfl⟩)
          clear hdep
          go_simp
          refine (C5.out _).mono ?_
          rintro e w2 ⟨rfl, hb⟩
          (try go_simp)
          exact hK.out ((.tuple #[iv (Dy.E (0, 0)), .int .i64 0])) _ _ (by simp [upd, d0, d1]) (upd_same _ _ _) (hb.mono hB.size) (fun j hj _ _ hF => SG _ j _ _ _ _ hj (fun _ => by decide) hb hF) (fun h => by cases h)
        refine Helds.cons (fun f w1 hB hdep hdis K hK => ?_) ?_
        · have hK := hid hK
          clear hdis
          have d2 : f 2 = .tuple #[iv (Dy.E (0, 0)), .int .i64 0] := hdep ⟨2, .data⟩ (List.mem_filter.2 ⟨by simp, rfl⟩)
          clear hdep
          go_simp
          exact hK.out (.tuple #[iv (Dy.E (0, 0)), .int .i64 0]) _ _ (by simp [upd, d2]) (upd_same _ _ _) (Below.refl _ _) (fun j hj _ _ hF => SG _ j _ _ _ _ hj (fun _ => by decide) (Below.refl _ _) hF) (fun h => by cases h)
        refine Helds.cons (fun f w1 hB hdep hdis K hK => ?_) ?_
        · have hK := hid hK
          clear hdis
          have d3 : f 3 = .tuple #[iv (Dy.E (0, 0)), .int .i64 0] := hdep ⟨3, .data⟩ (List.mem_filter.2 ⟨by simp, rfl⟩)
          clear hdep
          go_simp
          exact hK.out (iv (Dy.E (0, 0))) _ _ (by simp [upd, d3]) (upd_same _ _ _) (Below.refl _ _) (fun j hj _ _ hF => SG _ j _ _ _ _ hj (fun _ => by decide) (Below.refl _ _) hF) (fun h => by cases h)
        refine Helds.cons (fun f w1 hB hdep hdis K hK => ?_) ?_
        · have hK := hid hK
          clear hdis
          have d3 : f 3 = .tuple #[iv (Dy.E (0, 0)), .int .i64 0] := hdep ⟨3, .data⟩ (List.mem_filter.2 ⟨by simp, rfl⟩)
          clear hdep
          go_simp
          exact hK.out (.int .i64 0) _ _ (by simp [upd, d3]) (upd_same _ _ _) (Below.refl _ _) (fun j hj _ _ hF => SG _ j _ _ _ _ hj (fun _ => by decide) (Below.refl _ _) hF) (fun h => by cases h)
        refine Helds.cons (fun f w1 hB hdep hdis K hK => ?_) ?_
        · have hK := hid hK
          clear hdis
          clear hdep
          have hs := hB.size
          go_simp
          exact hK.out (.pointer (some ⟨w1.heap.size, 0, none⟩)) _ _ (by simp [upd]) ⟨_, upd_same _ _ _, by simpa using hs, Box.new w1⟩ ((Below.refl _ _).alloc hB.size _) (fun j hj _ hw hF => SG _ j _ _ _ _ hj (fun h => by subst h; exact Bool.noConfusion (show false = true from hw.symm.trans (by kernel_rfl))) ((Below.refl _ _).alloc (Nat.le_refl _) _) hF) (fun _ => ⟨_, 0, rfl, Nat.le_refl _⟩)
        refine Helds.cons (fun f w1 hB hdep hdis K hK => ?_) ?_
        · have hK := hid hK
          clear hdis
          obtain ⟨X, d6, hX, hBox⟩ : ∃ X, f 6 = .pointer (some ⟨X, 0, none⟩) ∧ y6.heap.size + 1 ≤ X ∧ Box X w1 := hdep ⟨6, .data⟩ (List.mem_filter.2 ⟨by simp, rfl⟩)
          have d4 : f 4 = iv (Dy.E (0, 0)) := hdep ⟨4, .data⟩ (List.mem_filter.2 ⟨by simp, rfl⟩)
          clear hdep
          obtain ⟨b0, z0⟩ := hBox.z0
          obtain ⟨b1, z1⟩ := hBox.z1
          have g0 := hBox.f0
          have g1 := hBox.f1
          have hlt := hBox.lt
          go_simp
          refine hK.out undef _ (((w1.setCell ⟨X, 0, none⟩ (.float .f64 (Dy.E (0, 0)).1)).setCell ⟨X, 1, none⟩ (.float .f64 (Dy.E (0, 0)).2))) (by simp [upd, d6, d4]) ⟨X, d6, hX, by simp; exact hlt, by simp [go_sem, *], by simp [go_sem, *]⟩ (((Below.refl _ _).setCell (by simpa using hX) _).setCell (by simpa using hX) _) (fun j hj _ _ h => ?_) (fun h => by cases h)
          exact match j, hj, h with | 0, _, h => h | 1, _, h => h | 2, _, h => h | 3, _, h => h | 4, _, h => h | 5, _, h => h | 6, _, ⟨Y, e, hx, hb⟩ => ⟨Y, e, hx, (hb.set _ _).set _ _⟩ | 7, hj, _ => absurd rfl hj | 8, _, h => h | _ + 9, _, h => h
        refine Helds.cons (fun f w1 hB hdep hdis K hK => ?_) ?_
        · have hK := hid hK
          clear hdis
          have d5 : f 5 = .int .i64 0 := hdep ⟨5, .data⟩ (List.mem_filter.2 ⟨by simp, rfl⟩)
          clear hdep
          go_simp
          exact hK.out (.int .i64 0) _ _ (by simp [upd, d5]) (upd_same _ _ _) (Below.refl _ _) (fun j hj _ _ hF => SG _ j _ _ _ _ hj (fun _ => by decide) (Below.refl _ _) hF) (fun h => by cases h)
        exact Helds.nil
      case fin =>
        intro f wr7 hB hF hD
        obtain ⟨X17, e6, hX17, hO17⟩ := hF 6 (by decide)
        have e8 : f 8 = .int .i64 0 := hF 8 (by decide)
        obtain ⟨Y, eY, _, hS17⟩ := hF 7 (by decide)
        have hY : X17 = Y := by have h := e6.symm.trans eY; injection h with h; injection h with h; injection h
        rw [← hY] at hS17
        clear hY eY hO17
        simp only [e6, e8]
        clear hF hD SG e6 e8
        replace hP := hP.keep hB
        replace hQ := hQ.keep hB
        replace hR := hR.keep hB
        replace hC := hC.keep hB
        replace hA := hA.keep hB
        replace hI := hI.keep hB
        replace hVv := hVv.keep hB
        replace hO := hO.keep hB
        replace HB := HB.trans (hB.mono HB.size)
        clear hB
        have hT := hS17
        clear hS17
        go_wp2_with fail
        replace hP := hP.keep (Below.refl _ _).drew
        replace hQ := hQ.keep (Below.refl _ _).drew
        replace hR := hR.keep (Below.refl _ _).drew
        replace hC := hC.keep (Below.refl _ _).drew
        replace hA := hA.keep (Below.refl _ _).drew
        replace hI := hI.keep (Below.refl _ _).drew
        replace hVv := hVv.keep (Below.refl _ _).drew
        replace hO := hO.keep (Below.refl _ _).drew
        replace hT := hT.keep (Below.refl _ _).drew
        replace HB := HB.drew
        have SG : ∀ (i j : Nat) (f : Nat → Value) (v : Value) (w w' : World), j ≠ i → (j = 11 → i ≠ 10) → Below w.heap.size w w' → (fun i f w' => match i with | 0 => f 0 = .pointer (some ⟨X5, 1, none⟩) | 1 => f 1 = .float .f64 (Dy.E p).2 | 2 => f 2 = iv (Dy.E (p.2, p.2)) | 3 => f 3 = .pointer (some ⟨X6, 0, none⟩) | 4 => f 4 = .float .f64 (Dy.E q).1 | 5 => f 5 = iv (Dy.E (q.1, q.1)) | 6 => f 6 = .tuple #[iv (Dy.E l), .int .i64 0] | 7 => f 7 = .tuple #[iv (Dy.E l), .int .i64 0] | 8 => f 8 = iv (Dy.E l) | 9 => f 9 = .int .i64 0 | 10 => ∃ X, f 10 = .pointer (some ⟨X, 0, none⟩) ∧ wr7.heap.size ≤ X ∧ Box X w' | 11 => ∃ X, f 10 = .pointer (some ⟨X, 0, none⟩) ∧ wr7.heap.size ≤ X ∧ Ivl X (Dy.E l) w' | 12 => f 12 = .int .i64 0 | _ => False : Nat → (Nat → Value) → World → Prop) j f w → (fun i f w' => match i with | 0 => f 0 = .pointer (some ⟨X5, 1, none⟩) | 1 => f 1 = .float .f64 (Dy.E p).2 | 2 => f 2 = iv (Dy.E (p.2, p.2)) | 3 => f 3 = .pointer (some ⟨X6, 0, none⟩) | 4 => f 4 = .float .f64 (Dy.E q).1 | 5 => f 5 = iv (Dy.E (q.1, q.1)) | 6 => f 6 = .tuple #[iv (Dy.E l), .int .i64 0] | 7 => f 7 = .tuple #[iv (Dy.E l), .int .i64 0] | 8 => f 8 = iv (Dy.E l) | 9 => f 9 = .int .i64 0 | 10 => ∃ X, f 10 = .pointer (some ⟨X, 0, none⟩) ∧ wr7.heap.size ≤ X ∧ Box X w' | 11 => ∃ X, f 10 = .pointer (some ⟨X, 0, none⟩) ∧ wr7.heap.size ≤ X ∧ Ivl X (Dy.E l) w' | 12 => f 12 = .int .i64 0 | _ => False : Nat → (Nat → Value) → World → Prop) j (upd f i v) w' := by
          intro i j f v w w' hj c0 hbw h
          exact match j, hj, c0, h with | 0, hj, _, h => (upd_ne hj).trans h | 1, hj, _, h => (upd_ne hj).trans h | 2, hj, _, h => (upd_ne hj).trans h | 3, hj, _, h => (upd_ne hj).trans h | 4, hj, _, h => (upd_ne hj).trans h | 5, hj, _, h => (upd_ne hj).trans h | 6, hj, _, h => (upd_ne hj).trans h | 7, hj, _, h => (upd_ne hj).trans h | 8, hj, _, h => (upd_ne hj).trans h | 9, hj, _, h => (upd_ne hj).trans h | 10, hj, _, ⟨X, e, hx, hb⟩ => ⟨X, (upd_ne hj).trans e, hx, hb.keep hbw⟩ | 11, _, cc, ⟨X, e, hx, hi⟩ => ⟨X, (upd_ne (cc rfl).symm).trans e, hx, hi.keep hbw⟩ | 12, hj, _, h => (upd_ne hj).trans h | _ + 13, _, _, h => h
        refine wp_region_helds (mk := ?mk8) [(80, 0), (81, 1), (82, 2), (83, 3), (84, 4), (85, 5), (86, 6), (79, 7), (87, 8), (88, 9), (19, 10), (20, 12)] (fun i f w' => match i with | 0 => f 0 = .pointer (some ⟨X5, 1, none⟩) | 1 => f 1 = .float .f64 (Dy.E p).2 | 2 => f 2 = iv (Dy.E (p.2, p.2)) | 3 => f 3 = .pointer (some ⟨X6, 0, none⟩) | 4 => f 4 = .float .f64 (Dy.E q).1 | 5 => f 5 = iv (Dy.E (q.1, q.1)) | 6 => f 6 = .tuple #[iv (Dy.E l), .int .i64 0] | 7 => f 7 = .tuple #[iv (Dy.E l), .int .i64 0] | 8 => f 8 = iv (Dy.E l) | 9 => f 9 = .int .i64 0 | 10 => ∃ X, f 10 = .pointer (some ⟨X, 0, none⟩) ∧ wr7.heap.size ≤ X ∧ Box X w' | 11 => ∃ X, f 10 = .pointer (some ⟨X, 0, none⟩) ∧ wr7.heap.size ≤ X ∧ Ivl X (Dy.E l) w' | 12 => f 12 = .int .i64 0 | _ => False) (fun i => i == 10) (by kernel_rfl) (by kernel_rfl) ?hmk ?h0 ?old ?steps ?fin
        case hmk =>
          intro f
          simp only [putAll, List.foldl_cons, List.foldl_nil, Act.put, List.setIfInBounds_toArray, List.set_cons_succ, List.set_cons_zero]
          rfl
        case h0 => exact ⟨fun _ => undef, rfl⟩
        case old =>
          intro i f w ha h
          have hi : i = 10 := by simpa using ha
          clear ha
          subst hi
          obtain ⟨X, e, _, ho⟩ := h
          exact ⟨X, 0, e, ho.lt⟩
        case steps =>
          refine Helds.cons (fun f w1 hB hdep hdis K hK => ?_) ?_
          · have hK := hid hK
            clear hdis
            clear hdep
            go_simp
            exact hK.out (.pointer (some ⟨X5, 1, none⟩)) _ _ (by simp [upd]) (upd_same _ _ _) (Below.refl _ _) (fun j hj _ _ hF => SG _ j _ _ _ _ hj (fun _ => by decide) (Below.refl _ _) hF) (fun h => by cases h)
          refine Helds.cons (fun f w1 hB hdep hdis K hK => ?_) ?_
          · have hK := hid hK
            clear hdis
            have d0 : f 0 = .pointer (some ⟨X5, 1, none⟩) := hdep ⟨0, .data⟩ (List.mem_filter.2 ⟨by simp, rfl⟩)
            clear hdep
            have c1 := (hP.keep hB).s1
            go_simp
            exact hK.out (.float .f64 (Dy.E p).2) _ _ (by simp [upd, d0]) (upd_same _ _ _) (Below.refl _ _) (fun j hj _ _ hF => SG _ j _ _ _ _ hj (fun _ => by decide) (Below.refl _ _) hF) (fun h => by cases h)
          refine Helds.cons (fun f w1 hB hdep hdis K hK => ?_) ?_
          · have hK := hid hK
            clear hdis
            have d1 : f 1 = .float .f64 (Dy.E p).2 := hdep ⟨1, .data⟩ (List.mem_filter.2 ⟨by simp, rfl⟩)
            clear hdep
            go_simp
            refine (P2.out _).mono ?_
            rintro e w2 ⟨rfl, hb⟩
            (try go_simp)
            exact hK.out ((iv (Dy.E (p.2, p.2)))) _ _ (by simp [upd, d1]) (upd_same _ _ _) (hb.mono hB.size) (fun j hj _ _ hF => SG _ j _ _ _ _ hj (fun _ => by decide) hb hF) (fun h => by cases h)
          refine Helds.cons (fun f w1 hB hdep hdis K hK => ?_) ?_
          · have hK := hid hK
            clear hdis
            clear hdep
            go_simp
            exact hK.out (.pointer (some ⟨X6, 0, none⟩)) _ _ (by simp [upd]) (upd_same _ _ _) (Below.refl _ _) (fun j hj _ _ hF => SG _ j _ _ _ _ hj (fun _ => by decide) (Below.refl _ _) hF) (fun h => by cases h)
          refine Helds.cons (fun f w1 hB hdep hdis K hK => ?_) ?_
          · have hK := hid hK
            clear hdis
            have d3 : f 3 = .pointer (some ⟨X6, 0, none⟩) := hdep ⟨3, .data⟩ (List.mem_filter.2 ⟨by simp, rfl⟩)
            clear hdep
            have c0 := (hQ.keep hB).s0
            go_simp
            exact hK.out (.float .f64 (Dy.E q).1) _ _ (by simp [upd, d3]) (upd_same _ _ _) (Below.refl _ _) (fun j hj _ _ hF => SG _ j _ _ _ _ hj (fun _ => by decide) (Below.refl _ _) hF) (fun h => by cases h)
          refine Helds.cons (fun f w1 hB hdep hdis K hK => ?_) ?_
          · have hK := hid hK
            clear hdis
            have d4 : f 4 = .float .f64 (Dy.E q).1 := hdep ⟨4, .data⟩ (List.mem_filter.2 ⟨by simp, rfl⟩)
            clear hdep
            go_simp
            refine (P3.out _).mono ?_
            rintro e w2 ⟨rfl, hb⟩
            (try go_simp)
            exact hK.out ((iv (Dy.E (q.1, q.1)))) _ _ (by simp [upd, d4]) (upd_same _ _ _) (hb.mono hB.size) (fun j hj _ _ hF => SG _ j _ _ _ _ hj (fun _ => by decide) hb hF) (fun h => by cases h)
          refine Helds.cons (fun f w1 hB hdep hdis K hK => ?_) ?_
          · have hK := hid hK
            clear hdis
            have d2 : f 2 = iv (Dy.E (p.2, p.2)) := hdep ⟨2, .data⟩ (List.mem_filter.2 ⟨by simp, rfl⟩)
            have d5 : f 5 = iv (Dy.E (q.1, q.1)) := hdep ⟨5, .data⟩ (List.mem_filter.2 ⟨by simp, rfl⟩)
            clear hdep
            go_simp
            refine (C6.out _).mono ?_
            rintro e w2 ⟨rfl, hb⟩
            (try go_simp)
            exact hK.out ((.tuple #[iv (Dy.E l), .int .i64 0])) _ _ (by simp [upd, d2, d5]) (upd_same _ _ _) (hb.mono hB.size) (fun j hj _ _ hF => SG _ j _ _ _ _ hj (fun _ => by decide) hb hF) (fun h => by cases h)
          refine Helds.cons (fun f w1 hB hdep hdis K hK => ?_) ?_
          · have hK := hid hK
            clear hdis
            have d6 : f 6 = .tuple #[iv (Dy.E l), .int .i64 0] := hdep ⟨6, .data⟩ (List.mem_filter.2 ⟨by simp, rfl⟩)
            clear hdep
            go_simp
            exact hK.out (.tuple #[iv (Dy.E l), .int .i64 0]) _ _ (by simp [upd, d6]) (upd_same _ _ _) (Below.refl _ _) (fun j hj _ _ hF => SG _ j _ _ _ _ hj (fun _ => by decide) (Below.refl _ _) hF) (fun h => by cases h)
          refine Helds.cons (fun f w1 hB hdep hdis K hK => ?_) ?_
          · have hK := hid hK
            clear hdis
            have d7 : f 7 = .tuple #[iv (Dy.E l), .int .i64 0] := hdep ⟨7, .data⟩ (List.mem_filter.2 ⟨by simp, rfl⟩)
            clear hdep
            go_simp
            exact hK.out (iv (Dy.E l)) _ _ (by simp [upd, d7]) (upd_same _ _ _) (Below.refl _ _) (fun j hj _ _ hF => SG _ j _ _ _ _ hj (fun _ => by decide) (Below.refl _ _) hF) (fun h => by cases h)
          refine Helds.cons (fun f w1 hB hdep hdis K hK => ?_) ?_
          · have hK := hid hK
            clear hdis
            have d7 : f 7 = .tuple #[iv (Dy.E l), .int .i64 0] := hdep ⟨7, .data⟩ (List.mem_filter.2 ⟨by simp, rfl⟩)
            clear hdep
            go_simp
            exact hK.out (.int .i64 0) _ _ (by simp [upd, d7]) (upd_same _ _ _) (Below.refl _ _) (fun j hj _ _ hF => SG _ j _ _ _ _ hj (fun _ => by decide) (Below.refl _ _) hF) (fun h => by cases h)
          refine Helds.cons (fun f w1 hB hdep hdis K hK => ?_) ?_
          · have hK := hid hK
            clear hdis
            clear hdep
            have hs := hB.size
            go_simp
            exact hK.out (.pointer (some ⟨w1.heap.size, 0, none⟩)) _ _ (by simp [upd]) ⟨_, upd_same _ _ _, by simpa using hs, Box.new w1⟩ ((Below.refl _ _).alloc hB.size _) (fun j hj _ hw hF => SG _ j _ _ _ _ hj (fun h => by subst h; exact Bool.noConfusion (show false = true from hw.symm.trans (by kernel_rfl))) ((Below.refl _ _).alloc (Nat.le_refl _) _) hF) (fun _ => ⟨_, 0, rfl, Nat.le_refl _⟩)
          refine Helds.cons (fun f w1 hB hdep hdis K hK => ?_) ?_
          · have hK := hid hK
            clear hdis
            obtain ⟨X, d10, hX, hBox⟩ : ∃ X, f 10 = .pointer (some ⟨X, 0, none⟩) ∧ wr7.heap.size ≤ X ∧ Box X w1 := hdep ⟨10, .data⟩ (List.mem_filter.2 ⟨by simp, rfl⟩)
            have d8 : f 8 = iv (Dy.E l) := hdep ⟨8, .data⟩ (List.mem_filter.2 ⟨by simp, rfl⟩)
            clear hdep
            obtain ⟨b0, z0⟩ := hBox.z0
            obtain ⟨b1, z1⟩ := hBox.z1
            have g0 := hBox.f0
            have g1 := hBox.f1
            have hlt := hBox.lt
            go_simp
            refine hK.out undef _ (((w1.setCell ⟨X, 0, none⟩ (.float .f64 (Dy.E l).1)).setCell ⟨X, 1, none⟩ (.float .f64 (Dy.E l).2))) (by simp [upd, d10, d8]) ⟨X, d10, hX, by simp; exact hlt, by simp [go_sem, *], by simp [go_sem, *]⟩ (((Below.refl _ _).setCell (by simpa using hX) _).setCell (by simpa using hX) _) (fun j hj _ _ h => ?_) (fun h => by cases h)
            exact match j, hj, h with | 0, _, h => h | 1, _, h => h | 2, _, h => h | 3, _, h => h | 4, _, h => h | 5, _, h => h | 6, _, h => h | 7, _, h => h | 8, _, h => h | 9, _, h => h | 10, _, ⟨Y, e, hx, hb⟩ => ⟨Y, e, hx, (hb.set _ _).set _ _⟩ | 11, hj, _ => absurd rfl hj | 12, _, h => h | _ + 13, _, h => h
          refine Helds.cons (fun f w1 hB hdep hdis K hK => ?_) ?_
          · have hK := hid hK
            clear hdis
            have d9 : f 9 = .int .i64 0 := hdep ⟨9, .data⟩ (List.mem_filter.2 ⟨by simp, rfl⟩)
            clear hdep
            go_simp
            exact hK.out (.int .i64 0) _ _ (by simp [upd, d9]) (upd_same _ _ _) (Below.refl _ _) (fun j hj _ _ hF => SG _ j _ _ _ _ hj (fun _ => by decide) (Below.refl _ _) hF) (fun h => by cases h)
          exact Helds.nil
        case fin =>
          intro f wr8 hB hF hD
          obtain ⟨X19, e10, hX19, hO19⟩ := hF 10 (by decide)
          have e12 : f 12 = .int .i64 0 := hF 12 (by decide)
          obtain ⟨Y, eY, _, hS19⟩ := hF 11 (by decide)
          have hY : X19 = Y := by have h := e10.symm.trans eY; injection h with h; injection h with h; injection h
          rw [← hY] at hS19
          clear hY eY hO19
          simp only [e10, e12]
          clear hF hD SG e10 e12
          replace hP := hP.keep hB
          replace hQ := hQ.keep hB
          replace hR := hR.keep hB
          replace hC := hC.keep hB
          replace hA := hA.keep hB
          replace hI := hI.keep hB
          replace hVv := hVv.keep hB
          replace hO := hO.keep hB
          replace hT := hT.keep hB
          replace HB := HB.trans (hB.mono HB.size)
          clear hB
          have hLl := hS19
          clear hS19
          go_wp2_with fail
          replace hP := hP.keep (Below.refl _ _).drew
          replace hQ := hQ.keep (Below.refl _ _).drew
          replace hR := hR.keep (Below.refl _ _).drew
          replace hC := hC.keep (Below.refl _ _).drew
          replace hA := hA.keep (Below.refl _ _).drew
          replace hI := hI.keep (Below.refl _ _).drew
          replace hVv := hVv.keep (Below.refl _ _).drew
          replace hO := hO.keep (Below.refl _ _).drew
          replace hT := hT.keep (Below.refl _ _).drew
          replace hLl := hLl.keep (Below.refl _ _).drew
          replace HB := HB.drew
          have SG : ∀ (i j : Nat) (f : Nat → Value) (v : Value) (w w' : World), j ≠ i → (j = 11 → i ≠ 10) → Below w.heap.size w w' → (fun i f w' => match i with | 0 => f 0 = .pointer (some ⟨X5, 1, none⟩) | 1 => f 1 = .float .f64 (Dy.E p).2 | 2 => f 2 = iv (Dy.E (p.2, p.2)) | 3 => f 3 = .pointer (some ⟨X6, 1, none⟩) | 4 => f 4 = .float .f64 (Dy.E q).2 | 5 => f 5 = iv (Dy.E (q.2, q.2)) | 6 => f 6 = .tuple #[iv (Dy.E m), .int .i64 0] | 7 => f 7 = .tuple #[iv (Dy.E m), .int .i64 0] | 8 => f 8 = iv (Dy.E m) | 9 => f 9 = .int .i64 0 | 10 => ∃ X, f 10 = .pointer (some ⟨X, 0, none⟩) ∧ wr8.heap.size ≤ X ∧ Box X w' | 11 => ∃ X, f 10 = .pointer (some ⟨X, 0, none⟩) ∧ wr8.heap.size ≤ X ∧ Ivl X (Dy.E m) w' | 12 => f 12 = .int .i64 0 | _ => False : Nat → (Nat → Value) → World → Prop) j f w → (fun i f w' => match i with | 0 => f 0 = .pointer (some ⟨X5, 1, none⟩) | 1 => f 1 = .float .f64 (Dy.E p).2 | 2 => f 2 = iv (Dy.E (p.2, p.2)) | 3 => f 3 = .pointer (some ⟨X6, 1, none⟩) | 4 => f 4 = .float .f64 (Dy.E q).2 | 5 => f 5 = iv (Dy.E (q.2, q.2)) | 6 => f 6 = .tuple #[iv (Dy.E m), .int .i64 0] | 7 => f 7 = .tuple #[iv (Dy.E m), .int .i64 0] | 8 => f 8 = iv (Dy.E m) | 9 => f 9 = .int .i64 0 | 10 => ∃ X, f 10 = .pointer (some ⟨X, 0, none⟩) ∧ wr8.heap.size ≤ X ∧ Box X w' | 11 => ∃ X, f 10 = .pointer (some ⟨X, 0, none⟩) ∧ wr8.heap.size ≤ X ∧ Ivl X (Dy.E m) w' | 12 => f 12 = .int .i64 0 | _ => False : Nat → (Nat → Value) → World → Prop) j (upd f i v) w' := by
            intro i j f v w w' hj c0 hbw h
            exact match j, hj, c0, h with | 0, hj, _, h => (upd_ne hj).trans h | 1, hj, _, h => (upd_ne hj).trans h | 2, hj, _, h => (upd_ne hj).trans h | 3, hj, _, h => (upd_ne hj).trans h | 4, hj, _, h => (upd_ne hj).trans h | 5, hj, _, h => (upd_ne hj).trans h | 6, hj, _, h => (upd_ne hj).trans h | 7, hj, _, h => (upd_ne hj).trans h | 8, hj, _, h => (upd_ne hj).trans h | 9, hj, _, h => (upd_ne hj).trans h | 10, hj, _, ⟨X, e, hx, hb⟩ => ⟨X, (upd_ne hj).trans e, hx, hb.keep hbw⟩ | 11, _, cc, ⟨X, e, hx, hi⟩ => ⟨X, (upd_ne (cc rfl).symm).trans e, hx, hi.keep hbw⟩ | 12, hj, _, h => (upd_ne hj).trans h | _ + 13, _, _, h => h
          refine wp_region_helds (mk := ?mk9) [(90, 0), (91, 1), (92, 2), (93, 3), (94, 4), (95, 5), (96, 6), (89, 7), (97, 8), (98, 9), (21, 10), (22, 12)] (fun i f w' => match i with | 0 => f 0 = .pointer (some ⟨X5, 1, none⟩) | 1 => f 1 = .float .f64 (Dy.E p).2 | 2 => f 2 = iv (Dy.E (p.2, p.2)) | 3 => f 3 = .pointer (some ⟨X6, 1, none⟩) | 4 => f 4 = .float .f64 (Dy.E q).2 | 5 => f 5 = iv (Dy.E (q.2, q.2)) | 6 => f 6 = .tuple #[iv (Dy.E m), .int .i64 0] | 7 => f 7 = .tuple #[iv (Dy.E m), .int .i64 0] | 8 => f 8 = iv (Dy.E m) | 9 => f 9 = .int .i64 0 | 10 => ∃ X, f 10 = .pointer (some ⟨X, 0, none⟩) ∧ wr8.heap.size ≤ X ∧ Box X w' | 11 => ∃ X, f 10 = .pointer (some ⟨X, 0, none⟩) ∧ wr8.heap.size ≤ X ∧ Ivl X (Dy.E m) w' | 12 => f 12 = .int .i64 0 | _ => False) (fun i => i == 10) (by kernel_rfl) (by kernel_rfl) ?hmk ?h0 ?old ?steps ?fin
          case hmk =>
            intro f
            simp only [putAll, List.foldl_cons, List.foldl_nil, Act.put, List.setIfInBounds_toArray, List.set_cons_succ, List.set_cons_zero]
            rfl
          case h0 => exact ⟨fun _ => undef, rfl⟩
          case old =>
            intro i f w ha h
            have hi : i = 10 := by simpa using ha
            clear ha
            subst hi
            obtain ⟨X, e, _, ho⟩ := h
            exact ⟨X, 0, e, ho.lt⟩
          case steps =>
            refine Helds.cons (fun f w1 hB hdep hdis K hK => ?_) ?_
            · have hK := hid hK
              clear hdis
              clear hdep
              go_simp
              exact hK.out (.pointer (some ⟨X5, 1, none⟩)) _ _ (by simp [upd]) (upd_same _ _ _) (Below.refl _ _) (fun j hj _ _ hF => SG _ j _ _ _ _ hj (fun _ => by decide) (Below.refl _ _) hF) (fun h => by cases h)
            refine Helds.cons (fun f w1 hB hdep hdis K hK => ?_) ?_
            · have hK := hid hK
              clear hdis
              have d0 : f 0 = .pointer (some ⟨X5, 1, none⟩) := hdep ⟨0, .data⟩ (List.mem_filter.2 ⟨by simp, rfl⟩)
              clear hdep
              have c1 := (hP.keep hB).s1
              go_simp
              exact hK.out (.float .f64 (Dy.E p).2) _ _ (by simp [upd, d0]) (upd_same _ _ _) (Below.refl _ _) (fun j hj _ _ hF => SG _ j _ _ _ _ hj (fun _ => by decide) (Below.refl _ _) hF) (fun h => by cases h)
            refine Helds.cons (fun f w1 hB hdep hdis K hK => ?_) ?_
            · have hK := hid hK
              clear hdis
              have d1 : f 1 = .float .f64 (Dy.E p).2 := hdep ⟨1, .data⟩ (List.mem_filter.2 ⟨by simp, rfl⟩)
              clear hdep
              go_simp
              refine (P2.out _).mono ?_
              rintro e w2 ⟨rfl, hb⟩
              (try go_simp)
              exact hK.out ((iv (Dy.E (p.2, p.2)))) _ _ (by simp [upd, d1]) (upd_same _ _ _) (hb.mono hB.size) (fun j hj _ _ hF => SG _ j _ _ _ _ hj (fun _ => by decide) hb hF) (fun h => by cases h)
            refine Helds.cons (fun f w1 hB hdep hdis K hK => ?_) ?_
            · have hK := hid hK
              clear hdis
              clear hdep
              go_simp
              exact hK.out (.pointer (some ⟨X6, 1, none⟩)) _ _ (by simp [upd]) (upd_same _ _ _) (Below.refl _ _) (fun j hj _ _ hF => SG _ j _ _ _ _ hj (fun _ => by decide) (Below.refl _ _) hF) (fun h => by cases h)
            refine Helds.cons (fun f w1 hB hdep hdis K hK => ?_) ?_
            · have hK := hid hK
              clear hdis
              have d3 : f 3 = .pointer (some ⟨X6, 1, none⟩) := hdep ⟨3, .data⟩ (List.mem_filter.2 ⟨by simp, rfl⟩)
              clear hdep
              have c1 := (hQ.keep hB).s1
              go_simp
              exact hK.out (.float .f64 (Dy.E q).2) _ _ (by simp [upd, d3]) (upd_same _ _ _) (Below.refl _ _) (fun j hj _ _ hF => SG _ j _ _ _ _ hj (fun _ => by decide) (Below.refl _ _) hF) (fun h => by cases h)
            refine Helds.cons (fun f w1 hB hdep hdis K hK => ?_) ?_
            · have hK := hid hK
              clear hdis
              have d4 : f 4 = .float .f64 (Dy.E q).2 := hdep ⟨4, .data⟩ (List.mem_filter.2 ⟨by simp, rfl⟩)
              clear hdep
              go_simp
              refine (P4.out _).mono ?_
              rintro e w2 ⟨rfl, hb⟩
              (try go_simp)
              exact hK.out ((iv (Dy.E (q.2, q.2)))) _ _ (by simp [upd, d4]) (upd_same _ _ _) (hb.mono hB.size) (fun j hj _ _ hF => SG _ j _ _ _ _ hj (fun _ => by decide) hb hF) (fun h => by cases h)
            refine Helds.cons (fun f w1 hB hdep hdis K hK => ?_) ?_
            · have hK := hid hK
              clear hdis
              have d2 : f 2 = iv (Dy.E (p.2, p.2)) := hdep ⟨2, .data⟩ (List.mem_filter.2 ⟨by simp, rfl⟩)
              have d5 : f 5 = iv (Dy.E (q.2, q.2)) := hdep ⟨5, .data⟩ (List.mem_filter.2 ⟨by simp, rfl⟩)
              clear hdep
              go_simp
              refine (C7.out _).mono ?_
              rintro e w2 ⟨rfl, hb⟩
              (try go_simp)
              exact hK.out ((.tuple #[iv (Dy.E m), .int .i64 0])) _ _ (by simp [upd, d2, d5]) (upd_same _ _ _) (hb.mono hB.size) (fun j hj _ _ hF => SG _ j _ _ _ _ hj (fun _ => by decide) hb hF) (fun h => by cases h)
            refine Helds.cons (fun f w1 hB hdep hdis K hK => ?_) ?_
            · have hK := hid hK
              clear hdis
              have d6 : f 6 = .tuple #[iv (Dy.E m), .int .i64 0] := hdep ⟨6, .data⟩ (List.mem_filter.2 ⟨by simp, rfl⟩)
              clear hdep
              go_simp
              exact hK.out (.tuple #[iv (Dy.E m), .int .i64 0]) _ _ (by simp [upd, d6]) (upd_same _ _ _) (Below.refl _ _) (fun j hj _ _ hF => SG _ j _ _ _ _ hj (fun _ => by decide) (Below.refl _ _) hF) (fun h => by cases h)
            refine Helds.cons (fun f w1 hB hdep hdis K hK => ?_) ?_
            · have hK := hid hK
              clear hdis
              have d7 : f 7 = .tuple #[iv (Dy.E m), .int .i64 0] := hdep ⟨7, .data⟩ (List.mem_filter.2 ⟨by simp, rfl⟩)
              clear hdep
              go_simp
              exact hK.out (iv (Dy.E m)) _ _ (by simp [upd, d7]) (upd_same _ _ _) (Below.refl _ _) (fun j hj _ _ hF => SG _ j _ _ _ _ hj (fun _ => by decide) (Below.refl _ _) hF) (fun h => by cases h)
            refine Helds.cons (fun f w1 hB hdep hdis K hK => ?_) ?_
            · have hK := hid hK
              clear hdis
              have d7 : f 7 = .tuple #[iv (Dy.E m), .int .i64 0] := hdep ⟨7, .data⟩ (List.mem_filter.2 ⟨by simp, rfl⟩)
              clear hdep
              go_simp
              exact hK.out (.int .i64 0) _ _ (by simp [upd, d7]) (upd_same _ _ _) (Below.refl _ _) (fun j hj _ _ hF => SG _ j _ _ _ _ hj (fun _ => by decide) (Below.refl _ _) hF) (fun h => by cases h)
            refine Helds.cons (fun f w1 hB hdep hdis K hK => ?_) ?_
            · have hK := hid hK
              clear hdis
              clear hdep
              have hs := hB.size
              go_simp
              exact hK.out (.pointer (some ⟨w1.heap.size, 0, none⟩)) _ _ (by simp [upd]) ⟨_, upd_same _ _ _, by simpa using hs, Box.new w1⟩ ((Below.refl _ _).alloc hB.size _) (fun j hj _ hw hF => SG _ j _ _ _ _ hj (fun h => by subst h; exact Bool.noConfusion (show false = true from hw.symm.trans (by kernel_rfl))) ((Below.refl _ _).alloc (Nat.le_refl _) _) hF) (fun _ => ⟨_, 0, rfl, Nat.le_refl _⟩)
            refine Helds.cons (fun f w1 hB hdep hdis K hK => ?_) ?_
            · have hK := hid hK
              clear hdis
              obtain ⟨X, d10, hX, hBox⟩ : ∃ X, f 10 = .pointer (some ⟨X, 0, none⟩) ∧ wr8.heap.size ≤ X ∧ Box X w1 := hdep ⟨10, .data⟩ (List.mem_filter.2 ⟨by simp, rfl⟩)
              have d8 : f 8 = iv (Dy.E m) := hdep ⟨8, .data⟩ (List.mem_filter.2 ⟨by simp, rfl⟩)
              clear hdep
              obtain ⟨b0, z0⟩ := hBox.z0
              obtain ⟨b1, z1⟩ := hBox.z1
              have g0 := hBox.f0
              have g1 := hBox.f1
              have hlt := hBox.lt
              go_simp
              refine hK.out undef _ (((w1.setCell ⟨X, 0, none⟩ (.float .f64 (Dy.E m).1)).setCell ⟨X, 1, none⟩ (.float .f64 (Dy.E m).2))) (by simp [upd, d10, d8]) ⟨X, d10, hX, by simp; exact hlt, by simp [go_sem, *], by simp [go_sem, *]⟩ (((Below.refl _ _).setCell (by simpa using hX) _).setCell (by simpa using hX) _) (fun j hj _ _ h => ?_) (fun h => by cases h)
              exact match j, hj, h with | 0, _, h => h | 1, _, h => h | 2, _, h => h | 3, _, h => h | 4, _, h => h | 5, _, h => h | 6, _, h => h | 7, _, h => h | 8, _, h => h | 9, _, h => h | 10, _, ⟨Y, e, hx, hb⟩ => ⟨Y, e, hx, (hb.set _ _).set _ _⟩ | 11, hj, _ => absurd rfl hj | 12, _, h => h | _ + 13, _, h => h
            refine Helds.cons (fun f w1 hB hdep hdis K hK => ?_) ?_
            · have hK := hid hK
              clear hdis
              have d9 : f 9 = .int .i64 0 := hdep ⟨9, .data⟩ (List.mem_filter.2 ⟨by simp, rfl⟩)
              clear hdep
              go_simp
              exact hK.out (.int .i64 0) _ _ (by simp [upd, d9]) (upd_same _ _ _) (Below.refl _ _) (fun j hj _ _ hF => SG _ j _ _ _ _ hj (fun _ => by decide) (Below.refl _ _) hF) (fun h => by cases h)
            exact Helds.nil
          case fin =>
            intro f wr9 hB hF hD
            obtain ⟨X21, e10, hX21, hO21⟩ := hF 10 (by decide)
            have e12 : f 12 = .int .i64 0 := hF 12 (by decide)
            obtain ⟨Y, eY, _, hS21⟩ := hF 11 (by decide)
            have hY : X21 = Y := by have h := e10.symm.trans eY; injection h with h; injection h with h; injection h
            rw [← hY] at hS21
            clear hY eY hO21
            simp only [e10, e12]
            clear hF hD SG e10 e12
            replace hP := hP.keep hB
            replace hQ := hQ.keep hB
            replace hR := hR.keep hB
            replace hC := hC.keep hB
            replace hA := hA.keep hB
            replace hI := hI.keep hB
            replace hVv := hVv.keep hB
            replace hO := hO.keep hB
            replace hT := hT.keep hB
            replace hLl := hLl.keep hB
            replace HB := HB.trans (hB.mono HB.size)
            clear hB
            have hMm := hS21
            clear hS21
            have hT0 : Ivl X17 (0, 0) wr9 := hT
            clear hT
            have N1 := hid (fun w => in_any i a w FA.ri FA.ra)
            rw [decide_eq_true FA.ia.lo, decide_eq_true FA.ia.hi] at N1
            have N2 := hid (fun w => in_any o v w FA.ro FA.rv)
            rw [decide_eq_true FA.ov.lo, decide_eq_true FA.ov.hi] at N2
            have g1 : (Dy.flt (Dy.E m).2 (Dy.E l).2 || Dy.feq (Dy.E m).2 (Dy.E l).2) = true := by rw [Dy.fle_dec FA.rm.w2 FA.rl.w2 FA.rm.r2 FA.rl.r2, FA.rm.d2, FA.rl.d2]; exact decide_eq_true FA.mh
            have g2 : (Dy.flt (Dy.E m).1 (Dy.E l).1 || Dy.feq (Dy.E m).1 (Dy.E l).1) = true := by rw [Dy.fle_dec FA.rm.w1 FA.rl.w1 FA.rm.r1 FA.rl.r1, FA.rm.d1, FA.rl.d1]; exact decide_eq_true FA.ml
            have g3 : (Dy.flt (Dy.E l).2 (Dy.E p).2 || Dy.feq (Dy.E l).2 (Dy.E p).2) = true := by rw [Dy.fle_dec FA.rl.w2 rp.w2 FA.rl.r2 rp.r2, FA.rl.d2, rp.d2]; exact decide_eq_true FA.lp
            have g4 : (Dy.fgt (Dy.E a).1 0 || Dy.feq (Dy.E a).1 0) = true := by rw [Dy.fge_dec FA.ra.w1 Dy.W_zero FA.ra.r1 Dy.right_zero, FA.ra.d1, Dy.dec_zero]; exact decide_eq_true FA.a0
            have q1 : ∀ w, (Op.equalIn 10000 26 (.agg #[.float .f64 0, .float .f64 0]) (.agg #[.float .f64 0, .float .f64 0])).run Try.prog w = .ok true w := fun w => by kernel_rfl
            have AW := hid awake07_any
            clear FA C1 C2 C3 C4 C5 C6 C7 P1 P2 P3 P4
            have k0_0 := hI.s0
            have k0_1 := hI.s1
            have k1_0 := hA.s0
            have k1_1 := hA.s1
            go_wp2_with fail
            refine (N1.out _).mono ?_
            rintro e y7 ⟨rfl, b7⟩
            clear k0_0 k0_1 k1_0 k1_1
            replace hP := hP.keep b7
            replace hQ := hQ.keep b7
            replace hR := hR.keep b7
            replace hC := hC.keep b7
            replace hA := hA.keep b7
            replace hI := hI.keep b7
            replace hVv := hVv.keep b7
            replace hO := hO.keep b7
            replace hLl := hLl.keep b7
            replace hMm := hMm.keep b7
            replace hT0 := hT0.keep b7
            replace HB := HB.trans (b7.mono HB.size)
            clear b7
            have k0_0 := hO.s0
            have k0_1 := hO.s1
            have k1_0 := hVv.s0
            have k1_1 := hVv.s1
            go_wp2_with fail
            refine (N2.out _).mono ?_
            rintro e y8 ⟨rfl, b8⟩
            clear k0_0 k0_1 k1_0 k1_1
            replace hP := hP.keep b8
            replace hQ := hQ.keep b8
            replace hR := hR.keep b8
            replace hC := hC.keep b8
            replace hA := hA.keep b8
            replace hI := hI.keep b8
            replace hVv := hVv.keep b8
            replace hO := hO.keep b8
            replace hLl := hLl.keep b8
            replace hMm := hMm.keep b8
            replace hT0 := hT0.keep b8
            replace HB := HB.trans (b8.mono HB.size)
            clear b8
            have k0_0 := hT0.s0
            have k0_1 := hT0.s1
            have k1_0 := hMm.s0
            have k1_1 := hMm.s1
            have k2_0 := hLl.s0
            have k2_1 := hLl.s1
            have k3_0 := hP.s0
            have k3_1 := hP.s1
            have k4_0 := hA.s0
            have k4_1 := hA.s1
            go_wp2_with fail
            refine (AW.out _).mono ?_
            rintro e y9 ⟨rfl, b9⟩
            clear k0_0 k0_1 k1_0 k1_1 k2_0 k2_1 k3_0 k3_1 k4_0 k4_1
            replace hP := hP.keep b9
            replace hQ := hQ.keep b9
            replace hR := hR.keep b9
            replace hC := hC.keep b9
            replace hA := hA.keep b9
            replace hI := hI.keep b9
            replace hVv := hVv.keep b9
            replace hO := hO.keep b9
            replace hLl := hLl.keep b9
            replace hMm := hMm.keep b9
            replace hT0 := hT0.keep b9
            replace HB := HB.trans (b9.mono HB.size)
            clear b9
            go_wp2_with fail
            go_ret
            exact ⟨rfl, HB⟩
end Go.Proofs.Ythfgdhobldejmaa
