/- Walks: the law DirSides, where all results are. -/
import Derived.Test.YtfjomcbbgnaaiaaLs
namespace Go.Proofs.Ytfjomcbbgnaaiaa
open Go.RowKit

set_option maxRecDepth 100000 in
set_option maxHeartbeats 16000000 in
theorem sides_v1 (a b n0 n1 n2 n3 n4 : Nat) (w : World) (ha : Dy.W a) (hb : Dy.W b) (ra : Dy.right a = true) (rb : Dy.right b = true)
    (p0 : Ieee.double.add a b = some n0) (p1 : Ieee.double.sub a b = some n1) (p2 : Ieee.double.mul a b = some n2) (p3 : Ieee.double.div a b = some n3) (p4 : Ieee.double.sqrt a = some n4)
    (s0 : Dy.Side (Dy.dAdd a b false) (Dy.dAdd a b true) n0) (s1 : Dy.Side (Dy.dSub a b false) (Dy.dSub a b true) n1) (s2 : Dy.Side (Dy.dMul a b false) (Dy.dMul a b true) n2)
    (s3 : (Dy.Side (Dy.dDiv a b false) (Dy.dDiv a b true) n3) ∨ Dy.dDiv a b false = (0, 11) ∧ Dy.dDiv a b true = (0, 11) ∧ Dy.fne b 0 = false) (s4 : Dy.Side (Dy.dSqrt a false) (Dy.dSqrt a true) n4) :
    Calls Try.prog 10 #[.float .f64 a, .float .f64 b] w fun e w' => e = .returned (.bool true) ∧ Below w.heap.size w w' := by
  have AW := awakes
  have q0 : ∀ t w, (binOp .add t (.float .f64 a) (.float .f64 b)).run Try.prog w = .ok (.float .f64 n0) w := fun t w => run_float_arith w .add t .f64 _ _ _ p0
  have q1 : ∀ t w, (binOp .sub t (.float .f64 a) (.float .f64 b)).run Try.prog w = .ok (.float .f64 n1) w := fun t w => run_float_arith w .sub t .f64 _ _ _ p1
  have q2 : ∀ t w, (binOp .mul t (.float .f64 a) (.float .f64 b)).run Try.prog w = .ok (.float .f64 n2) w := fun t w => run_float_arith w .mul t .f64 _ _ _ p2
  have q3 : ∀ t w, (binOp .quo t (.float .f64 a) (.float .f64 b)).run Try.prog w = .ok (.float .f64 n3) w := fun t w => run_float_arith w .quo t .f64 _ _ _ p3
  have Q4 := hid (fun w => sqrt_some a n4 w p4)
  have S0 := hid s0
  have S1 := hid s1
  have S2 := hid s2
  have S3 := hid s3
  have S4 := hid s4
  clear s0 s1 s2 s3 s4
  have M1 := hid (fun w => mul_any a b false w ha hb)
  have T1 := hid (fun w => mul_any (Dy.minus a) b true w (Dy.minus_dec ha ra).2.2 hb)
  have A1 := hid (fun w => add_any a b true w ha hb)
  have A2 := hid (fun w => add_any (Dy.minus a) (Dy.minus b) false w (Dy.minus_dec ha ra).2.2 (Dy.minus_dec hb rb).2.2)
  rw [Dy.turn_mul ha ra rb] at T1
  rw [Dy.turn_add ha hb ra rb] at A2
  have wm := Dy.dMul_W a b false
  have wp := Dy.dAdd_W a b true
  have rm := Dy.dMul_right (up := false) ra rb
  have rp := Dy.dAdd_right1 (up := true) ra rb
  generalize hr1 : Dy.dMul a b false = r1 at M1 T1 wm rm
  generalize hr2 : Dy.dAdd a b true = r2 at A1 A2 wp rp
  clear hr1 hr2
  obtain ⟨m, e⟩ := r1
  obtain ⟨p, g⟩ := r2
  dsimp only at *
  clear p0 p1 p2 p3 p4
  go_enter Try.func10, Try.ntmps10
  go_wp2_with (go_at_call 25; refine (right_any _ _ (by assumption)).mono ?_; rintro e w' ⟨rfl, rfl⟩)
  go_region_held3 (fun w' => w'.cell? ⟨w.heap.size, 0, none⟩ = some (.float .f64 a) ∧ w'.cell? ⟨w.heap.size + 1, 0, none⟩ = some (.float .f64 b))
    (first | (refine ⟨?_, ?_⟩ <;> first | assumption | (simp [go_sem]; done) | (simp [go_sem, *]; done)) | done | trivial)
    (first | (go_at_call 31; refine (Q4.out _).mono ?_; rintro e w' ⟨rfl, rfl⟩))
  go_wp2_with fail
  go_loopw [53] (fun i wr => ∃ k : Nat, k ≤ 5 ∧ i = .int .i64 k ∧ Held w a b n0 n1 n2 n3 n4 wr) (fun i _ => 5 - (intOf i).toNat)
  case atStart =>
    refine ⟨0, by omega, rfl, ?_⟩
    constructor
    all_goals first | (simp [go_sem]; done) | (simp [go_sem]; omega) | skip
    first | exact (((((Below.refl _ _).alloc (Nat.le_refl _) _).alloc (by simp) _).alloc (by simp; omega) _).alloc (by simp; omega) _).drew | exact (((((Below.refl _ _).alloc (Nat.le_refl _) _).alloc (by simp) _).alloc (by simp; omega) _).alloc (by simp; omega) _).drew.drew
  case round =>
    obtain ⟨k, hk, rfl, st⟩ := hrel
    have zr := st.sz
    by_cases hlt : k < 5
    · have hk5 : k = 0 ∨ k = 1 ∨ k = 2 ∨ k = 3 ∨ k = 4 := by omega
      clear hk hlt M1 T1 A1 A2
      have ca := st.ca
      have cb := st.cb
      rcases hk5 with rfl | rfl | rfl | rfl | rfl
      · have cf := st.f0
        rcases S0.out with ⟨x, y, n, e, e1, e2, e3, wx, wy, rx, ry, h1, h2, h3⟩ | ⟨y, e1, e2, h⟩ | ⟨x, e1, e2, h⟩
        · have E1 := hid e1
          have E2 := hid e2
          have E3 := hid e3
          clear e1 e2 e3
          rcases h2 with h2 | ⟨h2, h2'⟩ <;> rcases h3 with h3 | ⟨h3, h3'⟩
          all_goals as_aux_lemma =>
            go_wp2_with fail
            refine (side1_eq E1.out _ _ _ ha hb ca cb).mono ?_
            rintro e' w1 ⟨rfl, b1⟩
            have k1 := st.keep b1
            have ca1 := k1.ca
            have cb1 := k1.cb
            go_wp2_with fail
            refine (side1_eq E2.out _ _ _ ha hb ca1 cb1).mono ?_
            rintro e' w2 ⟨rfl, b2⟩
            have k2 := k1.keep b2
            go_wp2_with fail
            refine (step_eq E3.out _ wx).mono ?_
            rintro e' w3 ⟨rfl, b3⟩
            have k3 := k2.keep b3
            have cn3 := k3.c0
            go_wp2_with (go_at_call 25; refine (right_any _ _ (by assumption)).mono ?_; rintro e w' ⟨rfl, rfl⟩)
            go_roundw
            case rel => exact ⟨1, by omega, rfl, k3⟩
            case measure => simp [intOf]
        · as_aux_lemma =>
          have E1 := hid e1
          have E2 := hid e2
          clear e1 e2
          go_wp2_with fail
          refine (side1_eq E1.out _ _ _ ha hb ca cb).mono ?_
          rintro e' w1 ⟨rfl, b1⟩
          have k1 := st.keep b1
          have ca1 := k1.ca
          have cb1 := k1.cb
          go_wp2_with fail
          refine (side1_eq E2.out _ _ _ ha hb ca1 cb1).mono ?_
          rintro e' w2 ⟨rfl, b2⟩
          have k2 := k1.keep b2
          go_wp2_with fail
          go_roundw
          case rel => exact ⟨1, by omega, rfl, k2⟩
          case measure => simp [intOf]
        · as_aux_lemma =>
          have E1 := hid e1
          have E2 := hid e2
          clear e1 e2
          go_wp2_with fail
          refine (side1_eq E1.out _ _ _ ha hb ca cb).mono ?_
          rintro e' w1 ⟨rfl, b1⟩
          have k1 := st.keep b1
          have ca1 := k1.ca
          have cb1 := k1.cb
          go_wp2_with fail
          refine (side1_eq E2.out _ _ _ ha hb ca1 cb1).mono ?_
          rintro e' w2 ⟨rfl, b2⟩
          have k2 := k1.keep b2
          go_wp2_with fail
          go_roundw
          case rel => exact ⟨1, by omega, rfl, k2⟩
          case measure => simp [intOf]
      · have cf := st.f1
        rcases S1.out with ⟨x, y, n, e, e1, e2, e3, wx, wy, rx, ry, h1, h2, h3⟩ | ⟨y, e1, e2, h⟩ | ⟨x, e1, e2, h⟩
        · have E1 := hid e1
          have E2 := hid e2
          have E3 := hid e3
          clear e1 e2 e3
          rcases h2 with h2 | ⟨h2, h2'⟩ <;> rcases h3 with h3 | ⟨h3, h3'⟩
          all_goals as_aux_lemma =>
            go_wp2_with fail
            refine (side2_eq E1.out _ _ _ ha hb ca cb).mono ?_
            rintro e' w1 ⟨rfl, b1⟩
            have k1 := st.keep b1
            have ca1 := k1.ca
            have cb1 := k1.cb
            go_wp2_with fail
            refine (side2_eq E2.out _ _ _ ha hb ca1 cb1).mono ?_
            rintro e' w2 ⟨rfl, b2⟩
            have k2 := k1.keep b2
            go_wp2_with fail
            refine (step_eq E3.out _ wx).mono ?_
            rintro e' w3 ⟨rfl, b3⟩
            have k3 := k2.keep b3
            have cn3 := k3.c1
            go_wp2_with (go_at_call 25; refine (right_any _ _ (by assumption)).mono ?_; rintro e w' ⟨rfl, rfl⟩)
            go_roundw
            case rel => exact ⟨2, by omega, rfl, k3⟩
            case measure => simp [intOf]
        · as_aux_lemma =>
          have E1 := hid e1
          have E2 := hid e2
          clear e1 e2
          go_wp2_with fail
          refine (side2_eq E1.out _ _ _ ha hb ca cb).mono ?_
          rintro e' w1 ⟨rfl, b1⟩
          have k1 := st.keep b1
          have ca1 := k1.ca
          have cb1 := k1.cb
          go_wp2_with fail
          refine (side2_eq E2.out _ _ _ ha hb ca1 cb1).mono ?_
          rintro e' w2 ⟨rfl, b2⟩
          have k2 := k1.keep b2
          go_wp2_with fail
          go_roundw
          case rel => exact ⟨2, by omega, rfl, k2⟩
          case measure => simp [intOf]
        · as_aux_lemma =>
          have E1 := hid e1
          have E2 := hid e2
          clear e1 e2
          go_wp2_with fail
          refine (side2_eq E1.out _ _ _ ha hb ca cb).mono ?_
          rintro e' w1 ⟨rfl, b1⟩
          have k1 := st.keep b1
          have ca1 := k1.ca
          have cb1 := k1.cb
          go_wp2_with fail
          refine (side2_eq E2.out _ _ _ ha hb ca1 cb1).mono ?_
          rintro e' w2 ⟨rfl, b2⟩
          have k2 := k1.keep b2
          go_wp2_with fail
          go_roundw
          case rel => exact ⟨2, by omega, rfl, k2⟩
          case measure => simp [intOf]
      · have cf := st.f2
        rcases S2.out with ⟨x, y, n, e, e1, e2, e3, wx, wy, rx, ry, h1, h2, h3⟩ | ⟨y, e1, e2, h⟩ | ⟨x, e1, e2, h⟩
        · have E1 := hid e1
          have E2 := hid e2
          have E3 := hid e3
          clear e1 e2 e3
          rcases h2 with h2 | ⟨h2, h2'⟩ <;> rcases h3 with h3 | ⟨h3, h3'⟩
          all_goals as_aux_lemma =>
            go_wp2_with fail
            refine (side3_eq E1.out _ _ _ ha hb ca cb).mono ?_
            rintro e' w1 ⟨rfl, b1⟩
            have k1 := st.keep b1
            have ca1 := k1.ca
            have cb1 := k1.cb
            go_wp2_with fail
            refine (side3_eq E2.out _ _ _ ha hb ca1 cb1).mono ?_
            rintro e' w2 ⟨rfl, b2⟩
            have k2 := k1.keep b2
            go_wp2_with fail
            refine (step_eq E3.out _ wx).mono ?_
            rintro e' w3 ⟨rfl, b3⟩
            have k3 := k2.keep b3
            have cn3 := k3.c2
            go_wp2_with (go_at_call 25; refine (right_any _ _ (by assumption)).mono ?_; rintro e w' ⟨rfl, rfl⟩)
            go_roundw
            case rel => exact ⟨3, by omega, rfl, k3⟩
            case measure => simp [intOf]
        · as_aux_lemma =>
          have E1 := hid e1
          have E2 := hid e2
          clear e1 e2
          go_wp2_with fail
          refine (side3_eq E1.out _ _ _ ha hb ca cb).mono ?_
          rintro e' w1 ⟨rfl, b1⟩
          have k1 := st.keep b1
          have ca1 := k1.ca
          have cb1 := k1.cb
          go_wp2_with fail
          refine (side3_eq E2.out _ _ _ ha hb ca1 cb1).mono ?_
          rintro e' w2 ⟨rfl, b2⟩
          have k2 := k1.keep b2
          go_wp2_with fail
          go_roundw
          case rel => exact ⟨3, by omega, rfl, k2⟩
          case measure => simp [intOf]
        · as_aux_lemma =>
          have E1 := hid e1
          have E2 := hid e2
          clear e1 e2
          go_wp2_with fail
          refine (side3_eq E1.out _ _ _ ha hb ca cb).mono ?_
          rintro e' w1 ⟨rfl, b1⟩
          have k1 := st.keep b1
          have ca1 := k1.ca
          have cb1 := k1.cb
          go_wp2_with fail
          refine (side3_eq E2.out _ _ _ ha hb ca1 cb1).mono ?_
          rintro e' w2 ⟨rfl, b2⟩
          have k2 := k1.keep b2
          go_wp2_with fail
          go_roundw
          case rel => exact ⟨3, by omega, rfl, k2⟩
          case measure => simp [intOf]
      · have cf := st.f3
        rcases S3.out with (⟨x, y, n, e, e1, e2, e3, wx, wy, rx, ry, h1, h2, h3⟩ | ⟨y, e1, e2, h⟩ | ⟨x, e1, e2, h⟩) | ⟨e1, e2, h⟩
        · have E1 := hid e1
          have E2 := hid e2
          have E3 := hid e3
          clear e1 e2 e3
          rcases h2 with h2 | ⟨h2, h2'⟩ <;> rcases h3 with h3 | ⟨h3, h3'⟩
          all_goals as_aux_lemma =>
            go_wp2_with fail
            refine (side4_eq E1.out _ _ _ ha hb ca cb).mono ?_
            rintro e' w1 ⟨rfl, b1⟩
            have k1 := st.keep b1
            have ca1 := k1.ca
            have cb1 := k1.cb
            go_wp2_with fail
            refine (side4_eq E2.out _ _ _ ha hb ca1 cb1).mono ?_
            rintro e' w2 ⟨rfl, b2⟩
            have k2 := k1.keep b2
            go_wp2_with fail
            refine (step_eq E3.out _ wx).mono ?_
            rintro e' w3 ⟨rfl, b3⟩
            have k3 := k2.keep b3
            have cn3 := k3.c3
            go_wp2_with (go_at_call 25; refine (right_any _ _ (by assumption)).mono ?_; rintro e w' ⟨rfl, rfl⟩)
            go_roundw
            case rel => exact ⟨4, by omega, rfl, k3⟩
            case measure => simp [intOf]
        · as_aux_lemma =>
          have E1 := hid e1
          have E2 := hid e2
          clear e1 e2
          go_wp2_with fail
          refine (side4_eq E1.out _ _ _ ha hb ca cb).mono ?_
          rintro e' w1 ⟨rfl, b1⟩
          have k1 := st.keep b1
          have ca1 := k1.ca
          have cb1 := k1.cb
          go_wp2_with fail
          refine (side4_eq E2.out _ _ _ ha hb ca1 cb1).mono ?_
          rintro e' w2 ⟨rfl, b2⟩
          have k2 := k1.keep b2
          go_wp2_with fail
          go_roundw
          case rel => exact ⟨4, by omega, rfl, k2⟩
          case measure => simp [intOf]
        · as_aux_lemma =>
          have E1 := hid e1
          have E2 := hid e2
          clear e1 e2
          go_wp2_with fail
          refine (side4_eq E1.out _ _ _ ha hb ca cb).mono ?_
          rintro e' w1 ⟨rfl, b1⟩
          have k1 := st.keep b1
          have ca1 := k1.ca
          have cb1 := k1.cb
          go_wp2_with fail
          refine (side4_eq E2.out _ _ _ ha hb ca1 cb1).mono ?_
          rintro e' w2 ⟨rfl, b2⟩
          have k2 := k1.keep b2
          go_wp2_with fail
          go_roundw
          case rel => exact ⟨4, by omega, rfl, k2⟩
          case measure => simp [intOf]
        · have E1 := hid e1
          have E2 := hid e2
          clear e1 e2
          go_wp2_with fail
          refine (side4_eq E1.out _ _ _ ha hb ca cb).mono ?_
          rintro e' w1 ⟨rfl, b1⟩
          have k1 := st.keep b1
          have ca1 := k1.ca
          have cb1 := k1.cb
          go_wp2_with fail
          refine (side4_eq E2.out _ _ _ ha hb ca1 cb1).mono ?_
          rintro e' w2 ⟨rfl, b2⟩
          have k2 := k1.keep b2
          have ca2 := k2.ca
          have cb2 := k2.cb
          go_wp2_with fail
          go_roundw
          case rel => exact ⟨4, by omega, rfl, k2⟩
          case measure => simp [intOf]
      · have cf := st.f4
        rcases S4.out with ⟨x, y, n, e, e1, e2, e3, wx, wy, rx, ry, h1, h2, h3⟩ | ⟨y, e1, e2, h⟩ | ⟨x, e1, e2, h⟩
        · have E1 := hid e1
          have E2 := hid e2
          have E3 := hid e3
          clear e1 e2 e3
          rcases h2 with h2 | ⟨h2, h2'⟩ <;> rcases h3 with h3 | ⟨h3, h3'⟩
          all_goals as_aux_lemma =>
            go_wp2_with fail
            refine (side5_eq E1.out _ _ ha ca).mono ?_
            rintro e' w1 ⟨rfl, b1⟩
            have k1 := st.keep b1
            have ca1 := k1.ca
            have cb1 := k1.cb
            go_wp2_with fail
            refine (side5_eq E2.out _ _ ha ca1).mono ?_
            rintro e' w2 ⟨rfl, b2⟩
            have k2 := k1.keep b2
            go_wp2_with fail
            refine (step_eq E3.out _ wx).mono ?_
            rintro e' w3 ⟨rfl, b3⟩
            have k3 := k2.keep b3
            have cn3 := k3.c4
            go_wp2_with (go_at_call 25; refine (right_any _ _ (by assumption)).mono ?_; rintro e w' ⟨rfl, rfl⟩)
            go_roundw
            case rel => exact ⟨5, by omega, rfl, k3⟩
            case measure => simp [intOf]
        · as_aux_lemma =>
          have E1 := hid e1
          have E2 := hid e2
          clear e1 e2
          go_wp2_with fail
          refine (side5_eq E1.out _ _ ha ca).mono ?_
          rintro e' w1 ⟨rfl, b1⟩
          have k1 := st.keep b1
          have ca1 := k1.ca
          have cb1 := k1.cb
          go_wp2_with fail
          refine (side5_eq E2.out _ _ ha ca1).mono ?_
          rintro e' w2 ⟨rfl, b2⟩
          have k2 := k1.keep b2
          go_wp2_with fail
          go_roundw
          case rel => exact ⟨5, by omega, rfl, k2⟩
          case measure => simp [intOf]
        · as_aux_lemma =>
          have E1 := hid e1
          have E2 := hid e2
          clear e1 e2
          go_wp2_with fail
          refine (side5_eq E1.out _ _ ha ca).mono ?_
          rintro e' w1 ⟨rfl, b1⟩
          have k1 := st.keep b1
          have ca1 := k1.ca
          have cb1 := k1.cb
          go_wp2_with fail
          refine (side5_eq E2.out _ _ ha ca1).mono ?_
          rintro e' w2 ⟨rfl, b2⟩
          have k2 := k1.keep b2
          go_wp2_with fail
          go_roundw
          case rel => exact ⟨5, by omega, rfl, k2⟩
          case measure => simp [intOf]
    · obtain rfl : k = 5 := by omega
      have ca := st.ca
      have cb := st.cb
      have HM := hid (Dy.minus_minus wm rm)
      have HP := hid (Dy.minus_minus wp rp)
      obtain ⟨rm', _, wm'⟩ := Dy.minus_dec wm rm
      obtain ⟨rp', _, wp'⟩ := Dy.minus_dec wp rp
      have em : ((m : Int) == (m : Int)) = true := by simp
      have ep : ((p : Int) == (p : Int)) = true := by simp
      have U1 := hid (fun w => turned_any a w ha ra)
      have U2 := hid (fun w => turned_any b w hb rb)
      have U3 := hid (fun w => turned_any (Dy.minus m) w wm' rm')
      have U4 := hid (fun w => turned_any (Dy.minus p) w wp' rp')
      rw [HM.out] at U3
      rw [HP.out] at U4
      clear HM HP rm' rp' wm' wp' S0 S1 S2 S3 S4
      generalize Dy.minus m = nm at *
      generalize Dy.minus p = np at *
      generalize Dy.minus a = na at *
      generalize Dy.minus b = nb at *
      have hce : ∃ c, (e == 0) = c ∧ (e != 0) = !c := ⟨_, rfl, rfl⟩
      have hcg : ∃ c, (g == 0) = c ∧ (g != 0) = !c := ⟨_, rfl, rfl⟩
      obtain ⟨ce, he1, he2⟩ := hce
      obtain ⟨cg, hg1, hg2⟩ := hcg
      cases ce <;> cases cg
      all_goals as_aux_lemma =>
        go_wp2_with fail
        refine (M1.out _).mono ?_
        rintro e' w1 ⟨rfl, b1⟩
        have k1 := st.keep b1
        have ca1 := k1.ca
        have cb1 := k1.cb
        go_wp2_with fail
        go_region_held3 (fun w' => w'.cell? ⟨w.heap.size, 0, none⟩ = some (.float .f64 a) ∧ w'.cell? ⟨w.heap.size + 1, 0, none⟩ = some (.float .f64 b))
          (first | (refine ⟨?_, ?_⟩ <;> first | assumption | (simp [go_sem]; done) | (simp [go_sem, *]; done)) | done | trivial)
          (first | (go_at_call 37; refine (U1.out _).mono ?_; rintro e w' ⟨rfl, rfl⟩) | (go_at_call 19; refine (T1.out _).mono ?_; rintro e' w2 ⟨rfl, b2⟩; have k2 := (k1.keep ((Below.refl _ _).drew)).keep b2; have ca2 := k2.ca; have cb2 := k2.cb))
        go_wp2_with fail
        refine (A1.out _).mono ?_
        rintro e' w3 ⟨rfl, b3⟩
        have k3 := k2.keep b3
        have ca3 := k3.ca
        have cb3 := k3.cb
        go_wp2_with fail
        go_region_held3 (fun w' => w'.cell? ⟨w.heap.size, 0, none⟩ = some (.float .f64 a) ∧ w'.cell? ⟨w.heap.size + 1, 0, none⟩ = some (.float .f64 b))
          (first | (refine ⟨?_, ?_⟩ <;> first | assumption | (simp [go_sem]; done) | (simp [go_sem, *]; done)) | done | trivial)
          (first | (go_at_call 37; first | ((with_reducible refine (U1.out _).mono ?_); rintro e w' ⟨rfl, rfl⟩) | ((with_reducible refine (U2.out _).mono ?_); rintro e w' ⟨rfl, rfl⟩)) | (go_at_call 21; refine (A2.out _).mono ?_; rintro e' w4 ⟨rfl, b4⟩; have k4 := (k3.keep ((Below.refl _ _).drew)).keep b4; have ca4 := k4.ca; have cb4 := k4.cb))
        go_wp2_with (first | (go_at_call 37; first | ((with_reducible refine (U3.out _).mono ?_); rintro e w' ⟨rfl, rfl⟩) | ((with_reducible refine (U4.out _).mono ?_); rintro e w' ⟨rfl, rfl⟩)) | (go_at_call 29; refine (same_any _ _ _).mono ?_; rintro e w1 ⟨rfl, rfl⟩) | (go_at_call 22; refine (AW.out _).mono ?_; rintro e' w5 ⟨rfl, b5⟩; have k5 := k4.keep b5))
        go_ret
        exact ⟨rfl, k5.bel⟩
end Go.Proofs.Ytfjomcbbgnaaiaa
