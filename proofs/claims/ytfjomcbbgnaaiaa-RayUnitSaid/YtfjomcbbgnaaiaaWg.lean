/- Walks: dir.rounded. -/
import Derived.Test.YtfjomcbbgnaaiaaWf
import Derived.Test.YtfjomcbbgnaaiaaDyH
namespace Go.Proofs.Ytfjomcbbgnaaiaa
open Go.RowKit

abbrev xv (minus : Bool) (h l : Nat) (more : Bool) (e : Int) : Value := .agg #[.bool minus, .int .u64 (h : Int), .int .u64 (l : Int), .bool more, .int .i64 e]

theorem fi_conv (m : Nat) : floatOfInt .f64 (m : Int) = Dy.fi m := by
  unfold floatOfInt FloatKind.nearest FloatKind.encode Ieee.Format.write Dy.fi
  have : decide ((m : Int) < 0) = false := decide_eq_false (by omega)
  simp only [this, Int.natAbs_natCast]
  rfl

@[go_sem] theorem unary_negf (b : Nat) : Op.unary .neg (.float .f64 b) = pure (.float .f64 (Dy.flip b)) := rfl

theorem len64_z (x : Int) (w : World) (h0 : 0 ≤ x) (h1 : x ≤ 9007199254740992) :
    Calls Try.prog 92 #[.int .u64 x] w fun e w' => e = .returned (.int .i64 (Dy.blen x.toNat : Nat)) ∧ w = w' := by
  obtain ⟨n, rfl⟩ := Int.eq_ofNat_of_zero_le h0
  exact len64_any n w (by unfold Dy.W; omega)

set_option maxRecDepth 100000 in
set_option maxHeartbeats 4000000 in
theorem rounded_eq_true (more : Bool) (h l : Nat) (e : Int) (w : World) (hh : Dy.W h) (hl : Dy.W l) (he1 : -5000 ≤ e) (he2 : e ≤ 5000) :
    Calls Try.prog 56 #[xv true h l more e, .bool true] w fun e' w' => e' = .returned (.tuple #[.float .f64 (Dy.rnd true (Dy.wd h l) more e true).1, .int .i64 (Dy.rnd true (Dy.wd h l) more e true).2]) ∧ Below w.heap.size w w' := by
  have hb := (Dy.blen_le (x := Dy.wd h l) (k := 128)).2 (Dy.wd_lt hh hl)
  have hc0 : 0 ≤ Dy.cut (Dy.wd h l) e := by unfold Dy.cut; omega
  have hw1 : IntKind.i64.wrap ((Dy.blen (Dy.wd h l) : Int) - 53) = (Dy.blen (Dy.wd h l) : Int) - 53 := IntWalk.i64_in _ (by omega)
  have hw2 : IntKind.i64.wrap (-1074 - e) = -1074 - e := IntWalk.i64_in _ (by omega)
  have hmax : ∀ (w : World) ts t, (Builtin.max_ ts t #[.int .i64 ((Dy.blen (Dy.wd h l) : Int) - 53), .int .i64 (-1074 - e), .int .i64 0]).run Try.prog w = .ok (.int .i64 (Dy.cut (Dy.wd h l) e)) w := by
    intro w ts t
    rw [run_max_int3]
    refine congrArg (fun x => Result.ok (Value.int .i64 x) w) ?_
    unfold Dy.cut
    split <;> split at * <;> omega
  go_enter Try.func56, Try.ntmps56
  go_wp2
  go_region_held3 (fun w' => w'.cell? ⟨w.heap.size, 1, none⟩ = some (.int .u64 h) ∧ w'.cell? ⟨w.heap.size, 2, none⟩ = some (.int .u64 l) ∧ w'.cell? ⟨w.heap.size, 4, none⟩ = some (.int .i64 e))
    (refine ⟨?_, ?_, ?_⟩ <;> first | (simp [go_sem]; done) | (simp [go_sem, *]; done))
    (first | (go_at_call 91; refine (wideSize_any _ _ _ hh hl).mono ?_; rintro e' w1 ⟨rfl, hb1⟩; obtain ⟨hc, hf⟩ := bcell hb1; have hz := hb1.size; simp at hz))
  go_wp2_with fail
  refine (wideDown_any _ _ _ _ hh hl hc0).mono ?_
  rintro e' w2 ⟨p, q, rfl, hpq, hb2⟩
  obtain ⟨hc2, hf2⟩ := bcell hb2
  have hz2 := hb2.size
  obtain rfl : q = Dy.kept (Dy.wd h l) e := Dy.wide_small hpq (Dy.kept_lt _ _)
  have HP := hid hpq
  clear hpq
  have g0 : w2.cell? ⟨w.heap.size, 0, none⟩ = some (.bool true) := by rw [hc2 _ _ (by omega), hc _ _ (by simp)]; simp [go_sem]
  have g3 : w2.cell? ⟨w.heap.size, 3, none⟩ = some (.bool more) := by rw [hc2 _ _ (by omega), hc _ _ (by simp)]; simp [go_sem]
  have g4 : w2.cell? ⟨w.heap.size, 4, none⟩ = some (.int .i64 e) := by rw [hc2 _ _ (by omega), hc _ _ (by simp)]; simp [go_sem]
  have hz4 : w.heap.size < w2.heap.size := by omega
  have hbel : Below w.heap.size w w2 := (((Below.refl _ _).alloc (Nat.le_refl _) _).drew.trans (hb1.mono (by simp))).trans (hb2.mono (by omega))
  clear hc hf hz hc2 hf2 hz2 hb1 hb2
  go_wp2
  have hw3 : IntKind.i64.wrap (e + Dy.cut (Dy.wd h l) e) = e + Dy.cut (Dy.wd h l) e := IntWalk.i64_in _ (by unfold Dy.cut; omega)
  have hm53 := Dy.kept_lt (Dy.wd h l) e
  have hc1 : -1074 ≤ e + Dy.cut (Dy.wd h l) e ∧ e + Dy.cut (Dy.wd h l) e ≤ 6000 := by unfold Dy.cut; omega
  have HR := hid (Dy.rnd_rnd' true (Dy.wd h l) more e true)
  clear hmax hw1 hw2
  go_quiet (fail)
  generalize Dy.cut (Dy.wd h l) e = C at *
  generalize Dy.kept (Dy.wd h l) e = M at *
  generalize Dy.lost (Dy.wd h l) C.toNat = L at *
  clear hw3 hb
  obtain ⟨M1, HM1⟩ : ∃ M1 : Nat, Hid (M1 = M + 1) := ⟨M + 1, hid rfl⟩
  have hwM : IntKind.u64.wrap ((M : Int) + 1) = (M1 : Int) := by rw [HM1.out]; exact (IntWalk.u64_in _ (by omega)).trans (by omega)
  have hM1a : 0 < M1 := by have := HM1.out; omega
  have hM1b : M1 ≤ 9007199254740992 := by have := HM1.out; omega
  have hf0 := fi_conv M
  have hf1 := fi_conv M1
  have hf2 : floatOfInt .f64 9007199254740991 = Dy.fi 9007199254740991 := fi_conv 9007199254740991
  have ht0 : (M : Int).toNat = M := by omega
  have ht1 : (M1 : Int).toNat = M1 := by omega
  have hl0 : Dy.blen M ≤ 53 := Dy.blen_le.2 hm53
  have hl1 : Dy.blen M1 ≤ 54 := Dy.blen_le.2 (by omega)
  have hbel2 : Below w.heap.size w ((w2.alloc (Obj.cells #[Value.int IntKind.u64 ↑p, Value.int IntKind.u64 ↑M] 65)).drewN nq) := below_drewN (hbel.alloc (by omega) _) nq
  have HB := hid hbel2
  clear hbel2 hbel
  go_wp2_with (first | (go_at_call 92; refine (len64_z _ _ (by omega) (by omega)).mono ?_; rintro e w' ⟨rfl, rfl⟩) | (go_at_call 49; refine (ldexp_any _ _ _ (Dy.fi_spec (by omega)).2.1 (by omega) (by omega)).mono ?_; rintro e w' ⟨rfl, rfl⟩))
  all_goals
    go_ret2
    refine ⟨?_, HB.out⟩
    have hM2 := HM1.out
    clear hwM hf1 ht1 hl1 hM1a hM1b
    first
      | (subst hM2; rw [HR.out, Dy.r_z rfl ‹_›]; generalize Dy.ldx (Dy.fi 9007199254740991) 971 = F; rfl)
      | (subst hM2; rw [HR.out, Dy.r_bt rfl ‹_› ‹_› rfl]; generalize Dy.ldx (Dy.fi 9007199254740991) 971 = F; rfl)
      | (subst hM2; rw [HR.out, Dy.r_mt rfl ‹_› ‹_› rfl]; generalize Dy.ldx (Dy.fi 9007199254740991) 971 = F; rfl)

set_option maxRecDepth 100000 in
set_option maxHeartbeats 4000000 in
theorem rounded_lost_true (more : Bool) (h l : Nat) (e : Int) (w : World) (hh : Dy.W h) (hl : Dy.W l) (he1 : -5000 ≤ e) (he2 : e ≤ 5000) (hL : Dy.lost (Dy.wd h l) (Dy.cut (Dy.wd h l) e).toNat = true) :
    Calls Try.prog 56 #[xv true h l more e, .bool false] w fun e' w' => e' = .returned (.tuple #[.float .f64 (Dy.rnd true (Dy.wd h l) more e false).1, .int .i64 (Dy.rnd true (Dy.wd h l) more e false).2]) ∧ Below w.heap.size w w' := by
  have hb := (Dy.blen_le (x := Dy.wd h l) (k := 128)).2 (Dy.wd_lt hh hl)
  have hc0 : 0 ≤ Dy.cut (Dy.wd h l) e := by unfold Dy.cut; omega
  have hw1 : IntKind.i64.wrap ((Dy.blen (Dy.wd h l) : Int) - 53) = (Dy.blen (Dy.wd h l) : Int) - 53 := IntWalk.i64_in _ (by omega)
  have hw2 : IntKind.i64.wrap (-1074 - e) = -1074 - e := IntWalk.i64_in _ (by omega)
  have hmax : ∀ (w : World) ts t, (Builtin.max_ ts t #[.int .i64 ((Dy.blen (Dy.wd h l) : Int) - 53), .int .i64 (-1074 - e), .int .i64 0]).run Try.prog w = .ok (.int .i64 (Dy.cut (Dy.wd h l) e)) w := by
    intro w ts t
    rw [run_max_int3]
    refine congrArg (fun x => Result.ok (Value.int .i64 x) w) ?_
    unfold Dy.cut
    split <;> split at * <;> omega
  go_enter Try.func56, Try.ntmps56
  go_wp2
  go_region_held3 (fun w' => w'.cell? ⟨w.heap.size, 1, none⟩ = some (.int .u64 h) ∧ w'.cell? ⟨w.heap.size, 2, none⟩ = some (.int .u64 l) ∧ w'.cell? ⟨w.heap.size, 4, none⟩ = some (.int .i64 e))
    (refine ⟨?_, ?_, ?_⟩ <;> first | (simp [go_sem]; done) | (simp [go_sem, *]; done))
    (first | (go_at_call 91; refine (wideSize_any _ _ _ hh hl).mono ?_; rintro e' w1 ⟨rfl, hb1⟩; obtain ⟨hc, hf⟩ := bcell hb1; have hz := hb1.size; simp at hz))
  go_wp2_with fail
  refine (wideDown_any _ _ _ _ hh hl hc0).mono ?_
  rintro e' w2 ⟨p, q, rfl, hpq, hb2⟩
  obtain ⟨hc2, hf2⟩ := bcell hb2
  have hz2 := hb2.size
  obtain rfl : q = Dy.kept (Dy.wd h l) e := Dy.wide_small hpq (Dy.kept_lt _ _)
  have HP := hid hpq
  clear hpq
  have g0 : w2.cell? ⟨w.heap.size, 0, none⟩ = some (.bool true) := by rw [hc2 _ _ (by omega), hc _ _ (by simp)]; simp [go_sem]
  have g3 : w2.cell? ⟨w.heap.size, 3, none⟩ = some (.bool more) := by rw [hc2 _ _ (by omega), hc _ _ (by simp)]; simp [go_sem]
  have g4 : w2.cell? ⟨w.heap.size, 4, none⟩ = some (.int .i64 e) := by rw [hc2 _ _ (by omega), hc _ _ (by simp)]; simp [go_sem]
  have hz4 : w.heap.size < w2.heap.size := by omega
  have hbel : Below w.heap.size w w2 := (((Below.refl _ _).alloc (Nat.le_refl _) _).drew.trans (hb1.mono (by simp))).trans (hb2.mono (by omega))
  clear hc hf hz hc2 hf2 hz2 hb1 hb2
  go_wp2
  have hw3 : IntKind.i64.wrap (e + Dy.cut (Dy.wd h l) e) = e + Dy.cut (Dy.wd h l) e := IntWalk.i64_in _ (by unfold Dy.cut; omega)
  have hm53 := Dy.kept_lt (Dy.wd h l) e
  have hc1 : -1074 ≤ e + Dy.cut (Dy.wd h l) e ∧ e + Dy.cut (Dy.wd h l) e ≤ 6000 := by unfold Dy.cut; omega
  have HR := hid (Dy.rnd_rnd' true (Dy.wd h l) more e false)
  clear hmax hw1 hw2
  go_quiet (fail)
  generalize Dy.cut (Dy.wd h l) e = C at *
  generalize Dy.kept (Dy.wd h l) e = M at *
  generalize Dy.lost (Dy.wd h l) C.toNat = L at *
  clear hw3 hb
  subst hL
  obtain ⟨M1, HM1⟩ : ∃ M1 : Nat, Hid (M1 = M + 1) := ⟨M + 1, hid rfl⟩
  have hwM : IntKind.u64.wrap ((M : Int) + 1) = (M1 : Int) := by rw [HM1.out]; exact (IntWalk.u64_in _ (by omega)).trans (by omega)
  have hM1a : 0 < M1 := by have := HM1.out; omega
  have hM1b : M1 ≤ 9007199254740992 := by have := HM1.out; omega
  have hf0 := fi_conv M
  have hf1 := fi_conv M1
  have hf2 : floatOfInt .f64 9007199254740991 = Dy.fi 9007199254740991 := fi_conv 9007199254740991
  have ht0 : (M : Int).toNat = M := by omega
  have ht1 : (M1 : Int).toNat = M1 := by omega
  have hl0 : Dy.blen M ≤ 53 := Dy.blen_le.2 hm53
  have hl1 : Dy.blen M1 ≤ 54 := Dy.blen_le.2 (by omega)
  have hbel2 : Below w.heap.size w ((w2.alloc (Obj.cells #[Value.int IntKind.u64 ↑p, Value.int IntKind.u64 ↑M] 65)).drewN nq) := below_drewN (hbel.alloc (by omega) _) nq
  have HB := hid hbel2
  clear hbel2 hbel
  go_wp2_with (first | (go_at_call 92; refine (len64_z _ _ (by omega) (by omega)).mono ?_; rintro e w' ⟨rfl, rfl⟩) | (go_at_call 49; refine (ldexp_any _ _ _ (Dy.fi_spec (by omega)).2.1 (by omega) (by omega)).mono ?_; rintro e w' ⟨rfl, rfl⟩))
  all_goals
    go_ret2
    refine ⟨?_, HB.out⟩
    have hM2 := HM1.out
    clear hwM hf1 ht1 hl1 hM1a hM1b
    first
      | (subst hM2; rw [HR.out, Dy.a_b (by decide) rfl ‹_›]; generalize Dy.ldx (Dy.fi 9007199254740991) 971 = F; rfl)
      | (subst hM2; rw [HR.out, Dy.a_mt (by decide) rfl ‹_› rfl]; generalize Dy.ldx (Dy.fi 9007199254740991) 971 = F; rfl)

set_option maxRecDepth 100000 in
set_option maxHeartbeats 4000000 in
theorem rounded_more_true (h l : Nat) (e : Int) (w : World) (hh : Dy.W h) (hl : Dy.W l) (he1 : -5000 ≤ e) (he2 : e ≤ 5000) (hL : Dy.lost (Dy.wd h l) (Dy.cut (Dy.wd h l) e).toNat = false) :
    Calls Try.prog 56 #[xv true h l true e, .bool false] w fun e' w' => e' = .returned (.tuple #[.float .f64 (Dy.rnd true (Dy.wd h l) true e false).1, .int .i64 (Dy.rnd true (Dy.wd h l) true e false).2]) ∧ Below w.heap.size w w' := by
  have hb := (Dy.blen_le (x := Dy.wd h l) (k := 128)).2 (Dy.wd_lt hh hl)
  have hc0 : 0 ≤ Dy.cut (Dy.wd h l) e := by unfold Dy.cut; omega
  have hw1 : IntKind.i64.wrap ((Dy.blen (Dy.wd h l) : Int) - 53) = (Dy.blen (Dy.wd h l) : Int) - 53 := IntWalk.i64_in _ (by omega)
  have hw2 : IntKind.i64.wrap (-1074 - e) = -1074 - e := IntWalk.i64_in _ (by omega)
  have hmax : ∀ (w : World) ts t, (Builtin.max_ ts t #[.int .i64 ((Dy.blen (Dy.wd h l) : Int) - 53), .int .i64 (-1074 - e), .int .i64 0]).run Try.prog w = .ok (.int .i64 (Dy.cut (Dy.wd h l) e)) w := by
    intro w ts t
    rw [run_max_int3]
    refine congrArg (fun x => Result.ok (Value.int .i64 x) w) ?_
    unfold Dy.cut
    split <;> split at * <;> omega
  go_enter Try.func56, Try.ntmps56
  go_wp2
  go_region_held3 (fun w' => w'.cell? ⟨w.heap.size, 1, none⟩ = some (.int .u64 h) ∧ w'.cell? ⟨w.heap.size, 2, none⟩ = some (.int .u64 l) ∧ w'.cell? ⟨w.heap.size, 4, none⟩ = some (.int .i64 e))
    (refine ⟨?_, ?_, ?_⟩ <;> first | (simp [go_sem]; done) | (simp [go_sem, *]; done))
    (first | (go_at_call 91; refine (wideSize_any _ _ _ hh hl).mono ?_; rintro e' w1 ⟨rfl, hb1⟩; obtain ⟨hc, hf⟩ := bcell hb1; have hz := hb1.size; simp at hz))
  go_wp2_with fail
  refine (wideDown_any _ _ _ _ hh hl hc0).mono ?_
  rintro e' w2 ⟨p, q, rfl, hpq, hb2⟩
  obtain ⟨hc2, hf2⟩ := bcell hb2
  have hz2 := hb2.size
  obtain rfl : q = Dy.kept (Dy.wd h l) e := Dy.wide_small hpq (Dy.kept_lt _ _)
  have HP := hid hpq
  clear hpq
  have g0 : w2.cell? ⟨w.heap.size, 0, none⟩ = some (.bool true) := by rw [hc2 _ _ (by omega), hc _ _ (by simp)]; simp [go_sem]
  have g3 : w2.cell? ⟨w.heap.size, 3, none⟩ = some (.bool true) := by rw [hc2 _ _ (by omega), hc _ _ (by simp)]; simp [go_sem]
  have g4 : w2.cell? ⟨w.heap.size, 4, none⟩ = some (.int .i64 e) := by rw [hc2 _ _ (by omega), hc _ _ (by simp)]; simp [go_sem]
  have hz4 : w.heap.size < w2.heap.size := by omega
  have hbel : Below w.heap.size w w2 := (((Below.refl _ _).alloc (Nat.le_refl _) _).drew.trans (hb1.mono (by simp))).trans (hb2.mono (by omega))
  clear hc hf hz hc2 hf2 hz2 hb1 hb2
  go_wp2
  have hw3 : IntKind.i64.wrap (e + Dy.cut (Dy.wd h l) e) = e + Dy.cut (Dy.wd h l) e := IntWalk.i64_in _ (by unfold Dy.cut; omega)
  have hm53 := Dy.kept_lt (Dy.wd h l) e
  have hc1 : -1074 ≤ e + Dy.cut (Dy.wd h l) e ∧ e + Dy.cut (Dy.wd h l) e ≤ 6000 := by unfold Dy.cut; omega
  have HR := hid (Dy.rnd_rnd' true (Dy.wd h l) true e false)
  clear hmax hw1 hw2
  go_quiet (fail)
  generalize Dy.cut (Dy.wd h l) e = C at *
  generalize Dy.kept (Dy.wd h l) e = M at *
  generalize Dy.lost (Dy.wd h l) C.toNat = L at *
  clear hw3 hb
  subst hL
  obtain ⟨M1, HM1⟩ : ∃ M1 : Nat, Hid (M1 = M + 1) := ⟨M + 1, hid rfl⟩
  have hwM : IntKind.u64.wrap ((M : Int) + 1) = (M1 : Int) := by rw [HM1.out]; exact (IntWalk.u64_in _ (by omega)).trans (by omega)
  have hM1a : 0 < M1 := by have := HM1.out; omega
  have hM1b : M1 ≤ 9007199254740992 := by have := HM1.out; omega
  have hf0 := fi_conv M
  have hf1 := fi_conv M1
  have hf2 : floatOfInt .f64 9007199254740991 = Dy.fi 9007199254740991 := fi_conv 9007199254740991
  have ht0 : (M : Int).toNat = M := by omega
  have ht1 : (M1 : Int).toNat = M1 := by omega
  have hl0 : Dy.blen M ≤ 53 := Dy.blen_le.2 hm53
  have hl1 : Dy.blen M1 ≤ 54 := Dy.blen_le.2 (by omega)
  have hbel2 : Below w.heap.size w ((w2.alloc (Obj.cells #[Value.int IntKind.u64 ↑p, Value.int IntKind.u64 ↑M] 65)).drewN nq) := below_drewN (hbel.alloc (by omega) _) nq
  have HB := hid hbel2
  clear hbel2 hbel
  go_wp2_with (first | (go_at_call 92; refine (len64_z _ _ (by omega) (by omega)).mono ?_; rintro e w' ⟨rfl, rfl⟩) | (go_at_call 49; refine (ldexp_any _ _ _ (Dy.fi_spec (by omega)).2.1 (by omega) (by omega)).mono ?_; rintro e w' ⟨rfl, rfl⟩))
  all_goals
    go_ret2
    refine ⟨?_, HB.out⟩
    have hM2 := HM1.out
    clear hwM hf1 ht1 hl1 hM1a hM1b
    first
      | (subst hM2; rw [HR.out, Dy.b_b (by decide) rfl ‹_›]; generalize Dy.ldx (Dy.fi 9007199254740991) 971 = F; rfl)
      | (subst hM2; rw [HR.out, Dy.b_mt (by decide) rfl ‹_› rfl]; generalize Dy.ldx (Dy.fi 9007199254740991) 971 = F; rfl)

set_option maxRecDepth 100000 in
set_option maxHeartbeats 4000000 in
theorem rounded_none_true (h l : Nat) (e : Int) (w : World) (hh : Dy.W h) (hl : Dy.W l) (he1 : -5000 ≤ e) (he2 : e ≤ 5000) (hL : Dy.lost (Dy.wd h l) (Dy.cut (Dy.wd h l) e).toNat = false) :
    Calls Try.prog 56 #[xv true h l false e, .bool false] w fun e' w' => e' = .returned (.tuple #[.float .f64 (Dy.rnd true (Dy.wd h l) false e false).1, .int .i64 (Dy.rnd true (Dy.wd h l) false e false).2]) ∧ Below w.heap.size w w' := by
  have hb := (Dy.blen_le (x := Dy.wd h l) (k := 128)).2 (Dy.wd_lt hh hl)
  have hc0 : 0 ≤ Dy.cut (Dy.wd h l) e := by unfold Dy.cut; omega
  have hw1 : IntKind.i64.wrap ((Dy.blen (Dy.wd h l) : Int) - 53) = (Dy.blen (Dy.wd h l) : Int) - 53 := IntWalk.i64_in _ (by omega)
  have hw2 : IntKind.i64.wrap (-1074 - e) = -1074 - e := IntWalk.i64_in _ (by omega)
  have hmax : ∀ (w : World) ts t, (Builtin.max_ ts t #[.int .i64 ((Dy.blen (Dy.wd h l) : Int) - 53), .int .i64 (-1074 - e), .int .i64 0]).run Try.prog w = .ok (.int .i64 (Dy.cut (Dy.wd h l) e)) w := by
    intro w ts t
    rw [run_max_int3]
    refine congrArg (fun x => Result.ok (Value.int .i64 x) w) ?_
    unfold Dy.cut
    split <;> split at * <;> omega
  go_enter Try.func56, Try.ntmps56
  go_wp2
  go_region_held3 (fun w' => w'.cell? ⟨w.heap.size, 1, none⟩ = some (.int .u64 h) ∧ w'.cell? ⟨w.heap.size, 2, none⟩ = some (.int .u64 l) ∧ w'.cell? ⟨w.heap.size, 4, none⟩ = some (.int .i64 e))
    (refine ⟨?_, ?_, ?_⟩ <;> first | (simp [go_sem]; done) | (simp [go_sem, *]; done))
    (first | (go_at_call 91; refine (wideSize_any _ _ _ hh hl).mono ?_; rintro e' w1 ⟨rfl, hb1⟩; obtain ⟨hc, hf⟩ := bcell hb1; have hz := hb1.size; simp at hz))
  go_wp2_with fail
  refine (wideDown_any _ _ _ _ hh hl hc0).mono ?_
  rintro e' w2 ⟨p, q, rfl, hpq, hb2⟩
  obtain ⟨hc2, hf2⟩ := bcell hb2
  have hz2 := hb2.size
  obtain rfl : q = Dy.kept (Dy.wd h l) e := Dy.wide_small hpq (Dy.kept_lt _ _)
  have HP := hid hpq
  clear hpq
  have g0 : w2.cell? ⟨w.heap.size, 0, none⟩ = some (.bool true) := by rw [hc2 _ _ (by omega), hc _ _ (by simp)]; simp [go_sem]
  have g3 : w2.cell? ⟨w.heap.size, 3, none⟩ = some (.bool false) := by rw [hc2 _ _ (by omega), hc _ _ (by simp)]; simp [go_sem]
  have g4 : w2.cell? ⟨w.heap.size, 4, none⟩ = some (.int .i64 e) := by rw [hc2 _ _ (by omega), hc _ _ (by simp)]; simp [go_sem]
  have hz4 : w.heap.size < w2.heap.size := by omega
  have hbel : Below w.heap.size w w2 := (((Below.refl _ _).alloc (Nat.le_refl _) _).drew.trans (hb1.mono (by simp))).trans (hb2.mono (by omega))
  clear hc hf hz hc2 hf2 hz2 hb1 hb2
  go_wp2
  have hw3 : IntKind.i64.wrap (e + Dy.cut (Dy.wd h l) e) = e + Dy.cut (Dy.wd h l) e := IntWalk.i64_in _ (by unfold Dy.cut; omega)
  have hm53 := Dy.kept_lt (Dy.wd h l) e
  have hc1 : -1074 ≤ e + Dy.cut (Dy.wd h l) e ∧ e + Dy.cut (Dy.wd h l) e ≤ 6000 := by unfold Dy.cut; omega
  have HR := hid (Dy.rnd_rnd' true (Dy.wd h l) false e false)
  clear hmax hw1 hw2
  go_quiet (fail)
  generalize Dy.cut (Dy.wd h l) e = C at *
  generalize Dy.kept (Dy.wd h l) e = M at *
  generalize Dy.lost (Dy.wd h l) C.toNat = L at *
  clear hw3 hb
  subst hL
  obtain ⟨M1, HM1⟩ : ∃ M1 : Nat, Hid (M1 = M + 1) := ⟨M + 1, hid rfl⟩
  have hwM : IntKind.u64.wrap ((M : Int) + 1) = (M1 : Int) := by rw [HM1.out]; exact (IntWalk.u64_in _ (by omega)).trans (by omega)
  have hM1a : 0 < M1 := by have := HM1.out; omega
  have hM1b : M1 ≤ 9007199254740992 := by have := HM1.out; omega
  have hf0 := fi_conv M
  have hf1 := fi_conv M1
  have hf2 : floatOfInt .f64 9007199254740991 = Dy.fi 9007199254740991 := fi_conv 9007199254740991
  have ht0 : (M : Int).toNat = M := by omega
  have ht1 : (M1 : Int).toNat = M1 := by omega
  have hl0 : Dy.blen M ≤ 53 := Dy.blen_le.2 hm53
  have hl1 : Dy.blen M1 ≤ 54 := Dy.blen_le.2 (by omega)
  have hbel2 : Below w.heap.size w ((w2.alloc (Obj.cells #[Value.int IntKind.u64 ↑p, Value.int IntKind.u64 ↑M] 65)).drewN nq) := below_drewN (hbel.alloc (by omega) _) nq
  have HB := hid hbel2
  clear hbel2 hbel
  go_wp2_with (first | (go_at_call 92; refine (len64_z _ _ (by omega) (by omega)).mono ?_; rintro e w' ⟨rfl, rfl⟩) | (go_at_call 49; refine (ldexp_any _ _ _ (Dy.fi_spec (by omega)).2.1 (by omega) (by omega)).mono ?_; rintro e w' ⟨rfl, rfl⟩))
  all_goals
    go_ret2
    refine ⟨?_, HB.out⟩
    have hM2 := HM1.out
    clear hwM hf1 ht1 hl1 hM1a hM1b
    first
      | (subst hM2; rw [HR.out, Dy.c_z (by decide) rfl rfl ‹_›]; generalize Dy.ldx (Dy.fi 9007199254740991) 971 = F; rfl)
      | (subst hM2; rw [HR.out, Dy.c_b (by decide) rfl rfl ‹_› ‹_›]; generalize Dy.ldx (Dy.fi 9007199254740991) 971 = F; rfl)
      | (subst hM2; rw [HR.out, Dy.c_mt (by decide) rfl rfl ‹_› ‹_› rfl]; generalize Dy.ldx (Dy.fi 9007199254740991) 971 = F; rfl)

set_option maxRecDepth 100000 in
set_option maxHeartbeats 4000000 in
theorem rounded_eq_false (more : Bool) (h l : Nat) (e : Int) (w : World) (hh : Dy.W h) (hl : Dy.W l) (he1 : -5000 ≤ e) (he2 : e ≤ 5000) :
    Calls Try.prog 56 #[xv false h l more e, .bool false] w fun e' w' => e' = .returned (.tuple #[.float .f64 (Dy.rnd false (Dy.wd h l) more e false).1, .int .i64 (Dy.rnd false (Dy.wd h l) more e false).2]) ∧ Below w.heap.size w w' := by
  have hb := (Dy.blen_le (x := Dy.wd h l) (k := 128)).2 (Dy.wd_lt hh hl)
  have hc0 : 0 ≤ Dy.cut (Dy.wd h l) e := by unfold Dy.cut; omega
  have hw1 : IntKind.i64.wrap ((Dy.blen (Dy.wd h l) : Int) - 53) = (Dy.blen (Dy.wd h l) : Int) - 53 := IntWalk.i64_in _ (by omega)
  have hw2 : IntKind.i64.wrap (-1074 - e) = -1074 - e := IntWalk.i64_in _ (by omega)
  have hmax : ∀ (w : World) ts t, (Builtin.max_ ts t #[.int .i64 ((Dy.blen (Dy.wd h l) : Int) - 53), .int .i64 (-1074 - e), .int .i64 0]).run Try.prog w = .ok (.int .i64 (Dy.cut (Dy.wd h l) e)) w := by
    intro w ts t
    rw [run_max_int3]
    refine congrArg (fun x => Result.ok (Value.int .i64 x) w) ?_
    unfold Dy.cut
    split <;> split at * <;> omega
  go_enter Try.func56, Try.ntmps56
  go_wp2
  go_region_held3 (fun w' => w'.cell? ⟨w.heap.size, 1, none⟩ = some (.int .u64 h) ∧ w'.cell? ⟨w.heap.size, 2, none⟩ = some (.int .u64 l) ∧ w'.cell? ⟨w.heap.size, 4, none⟩ = some (.int .i64 e))
    (refine ⟨?_, ?_, ?_⟩ <;> first | (simp [go_sem]; done) | (simp [go_sem, *]; done))
    (first | (go_at_call 91; refine (wideSize_any _ _ _ hh hl).mono ?_; rintro e' w1 ⟨rfl, hb1⟩; obtain ⟨hc, hf⟩ := bcell hb1; have hz := hb1.size; simp at hz))
  go_wp2_with fail
  refine (wideDown_any _ _ _ _ hh hl hc0).mono ?_
  rintro e' w2 ⟨p, q, rfl, hpq, hb2⟩
  obtain ⟨hc2, hf2⟩ := bcell hb2
  have hz2 := hb2.size
  obtain rfl : q = Dy.kept (Dy.wd h l) e := Dy.wide_small hpq (Dy.kept_lt _ _)
  have HP := hid hpq
  clear hpq
  have g0 : w2.cell? ⟨w.heap.size, 0, none⟩ = some (.bool false) := by rw [hc2 _ _ (by omega), hc _ _ (by simp)]; simp [go_sem]
  have g3 : w2.cell? ⟨w.heap.size, 3, none⟩ = some (.bool more) := by rw [hc2 _ _ (by omega), hc _ _ (by simp)]; simp [go_sem]
  have g4 : w2.cell? ⟨w.heap.size, 4, none⟩ = some (.int .i64 e) := by rw [hc2 _ _ (by omega), hc _ _ (by simp)]; simp [go_sem]
  have hz4 : w.heap.size < w2.heap.size := by omega
  have hbel : Below w.heap.size w w2 := (((Below.refl _ _).alloc (Nat.le_refl _) _).drew.trans (hb1.mono (by simp))).trans (hb2.mono (by omega))
  clear hc hf hz hc2 hf2 hz2 hb1 hb2
  go_wp2
  have hw3 : IntKind.i64.wrap (e + Dy.cut (Dy.wd h l) e) = e + Dy.cut (Dy.wd h l) e := IntWalk.i64_in _ (by unfold Dy.cut; omega)
  have hm53 := Dy.kept_lt (Dy.wd h l) e
  have hc1 : -1074 ≤ e + Dy.cut (Dy.wd h l) e ∧ e + Dy.cut (Dy.wd h l) e ≤ 6000 := by unfold Dy.cut; omega
  have HR := hid (Dy.rnd_rnd' false (Dy.wd h l) more e false)
  clear hmax hw1 hw2
  go_quiet (fail)
  generalize Dy.cut (Dy.wd h l) e = C at *
  generalize Dy.kept (Dy.wd h l) e = M at *
  generalize Dy.lost (Dy.wd h l) C.toNat = L at *
  clear hw3 hb
  obtain ⟨M1, HM1⟩ : ∃ M1 : Nat, Hid (M1 = M + 1) := ⟨M + 1, hid rfl⟩
  have hwM : IntKind.u64.wrap ((M : Int) + 1) = (M1 : Int) := by rw [HM1.out]; exact (IntWalk.u64_in _ (by omega)).trans (by omega)
  have hM1a : 0 < M1 := by have := HM1.out; omega
  have hM1b : M1 ≤ 9007199254740992 := by have := HM1.out; omega
  have hf0 := fi_conv M
  have hf1 := fi_conv M1
  have hf2 : floatOfInt .f64 9007199254740991 = Dy.fi 9007199254740991 := fi_conv 9007199254740991
  have ht0 : (M : Int).toNat = M := by omega
  have ht1 : (M1 : Int).toNat = M1 := by omega
  have hl0 : Dy.blen M ≤ 53 := Dy.blen_le.2 hm53
  have hl1 : Dy.blen M1 ≤ 54 := Dy.blen_le.2 (by omega)
  have hbel2 : Below w.heap.size w ((w2.alloc (Obj.cells #[Value.int IntKind.u64 ↑p, Value.int IntKind.u64 ↑M] 65)).drewN nq) := below_drewN (hbel.alloc (by omega) _) nq
  have HB := hid hbel2
  clear hbel2 hbel
  go_wp2_with (first | (go_at_call 92; refine (len64_z _ _ (by omega) (by omega)).mono ?_; rintro e w' ⟨rfl, rfl⟩) | (go_at_call 49; refine (ldexp_any _ _ _ (Dy.fi_spec (by omega)).2.1 (by omega) (by omega)).mono ?_; rintro e w' ⟨rfl, rfl⟩))
  all_goals
    go_ret2
    refine ⟨?_, HB.out⟩
    have hM2 := HM1.out
    clear hwM hf1 ht1 hl1 hM1a hM1b
    first
      | (subst hM2; rw [HR.out, Dy.r_z rfl ‹_›]; generalize Dy.ldx (Dy.fi 9007199254740991) 971 = F; rfl)
      | (subst hM2; rw [HR.out, Dy.r_bf rfl ‹_› ‹_› rfl]; generalize Dy.ldx (Dy.fi 9007199254740991) 971 = F; rfl)
      | (subst hM2; rw [HR.out, Dy.r_mf rfl ‹_› ‹_› rfl]; generalize Dy.ldx (Dy.fi 9007199254740991) 971 = F; rfl)

set_option maxRecDepth 100000 in
set_option maxHeartbeats 4000000 in
theorem rounded_lost_false (more : Bool) (h l : Nat) (e : Int) (w : World) (hh : Dy.W h) (hl : Dy.W l) (he1 : -5000 ≤ e) (he2 : e ≤ 5000) (hL : Dy.lost (Dy.wd h l) (Dy.cut (Dy.wd h l) e).toNat = true) :
    Calls Try.prog 56 #[xv false h l more e, .bool true] w fun e' w' => e' = .returned (.tuple #[.float .f64 (Dy.rnd false (Dy.wd h l) more e true).1, .int .i64 (Dy.rnd false (Dy.wd h l) more e true).2]) ∧ Below w.heap.size w w' := by
  have hb := (Dy.blen_le (x := Dy.wd h l) (k := 128)).2 (Dy.wd_lt hh hl)
  have hc0 : 0 ≤ Dy.cut (Dy.wd h l) e := by unfold Dy.cut; omega
  have hw1 : IntKind.i64.wrap ((Dy.blen (Dy.wd h l) : Int) - 53) = (Dy.blen (Dy.wd h l) : Int) - 53 := IntWalk.i64_in _ (by omega)
  have hw2 : IntKind.i64.wrap (-1074 - e) = -1074 - e := IntWalk.i64_in _ (by omega)
  have hmax : ∀ (w : World) ts t, (Builtin.max_ ts t #[.int .i64 ((Dy.blen (Dy.wd h l) : Int) - 53), .int .i64 (-1074 - e), .int .i64 0]).run Try.prog w = .ok (.int .i64 (Dy.cut (Dy.wd h l) e)) w := by
    intro w ts t
    rw [run_max_int3]
    refine congrArg (fun x => Result.ok (Value.int .i64 x) w) ?_
    unfold Dy.cut
    split <;> split at * <;> omega
  go_enter Try.func56, Try.ntmps56
  go_wp2
  go_region_held3 (fun w' => w'.cell? ⟨w.heap.size, 1, none⟩ = some (.int .u64 h) ∧ w'.cell? ⟨w.heap.size, 2, none⟩ = some (.int .u64 l) ∧ w'.cell? ⟨w.heap.size, 4, none⟩ = some (.int .i64 e))
    (refine ⟨?_, ?_, ?_⟩ <;> first | (simp [go_sem]; done) | (simp [go_sem, *]; done))
    (first | (go_at_call 91; refine (wideSize_any _ _ _ hh hl).mono ?_; rintro e' w1 ⟨rfl, hb1⟩; obtain ⟨hc, hf⟩ := bcell hb1; have hz := hb1.size; simp at hz))
  go_wp2_with fail
  refine (wideDown_any _ _ _ _ hh hl hc0).mono ?_
  rintro e' w2 ⟨p, q, rfl, hpq, hb2⟩
  obtain ⟨hc2, hf2⟩ := bcell hb2
  have hz2 := hb2.size
  obtain rfl : q = Dy.kept (Dy.wd h l) e := Dy.wide_small hpq (Dy.kept_lt _ _)
  have HP := hid hpq
  clear hpq
  have g0 : w2.cell? ⟨w.heap.size, 0, none⟩ = some (.bool false) := by rw [hc2 _ _ (by omega), hc _ _ (by simp)]; simp [go_sem]
  have g3 : w2.cell? ⟨w.heap.size, 3, none⟩ = some (.bool more) := by rw [hc2 _ _ (by omega), hc _ _ (by simp)]; simp [go_sem]
  have g4 : w2.cell? ⟨w.heap.size, 4, none⟩ = some (.int .i64 e) := by rw [hc2 _ _ (by omega), hc _ _ (by simp)]; simp [go_sem]
  have hz4 : w.heap.size < w2.heap.size := by omega
  have hbel : Below w.heap.size w w2 := (((Below.refl _ _).alloc (Nat.le_refl _) _).drew.trans (hb1.mono (by simp))).trans (hb2.mono (by omega))
  clear hc hf hz hc2 hf2 hz2 hb1 hb2
  go_wp2
  have hw3 : IntKind.i64.wrap (e + Dy.cut (Dy.wd h l) e) = e + Dy.cut (Dy.wd h l) e := IntWalk.i64_in _ (by unfold Dy.cut; omega)
  have hm53 := Dy.kept_lt (Dy.wd h l) e
  have hc1 : -1074 ≤ e + Dy.cut (Dy.wd h l) e ∧ e + Dy.cut (Dy.wd h l) e ≤ 6000 := by unfold Dy.cut; omega
  have HR := hid (Dy.rnd_rnd' false (Dy.wd h l) more e true)
  clear hmax hw1 hw2
  go_quiet (fail)
  generalize Dy.cut (Dy.wd h l) e = C at *
  generalize Dy.kept (Dy.wd h l) e = M at *
  generalize Dy.lost (Dy.wd h l) C.toNat = L at *
  clear hw3 hb
  subst hL
  obtain ⟨M1, HM1⟩ : ∃ M1 : Nat, Hid (M1 = M + 1) := ⟨M + 1, hid rfl⟩
  have hwM : IntKind.u64.wrap ((M : Int) + 1) = (M1 : Int) := by rw [HM1.out]; exact (IntWalk.u64_in _ (by omega)).trans (by omega)
  have hM1a : 0 < M1 := by have := HM1.out; omega
  have hM1b : M1 ≤ 9007199254740992 := by have := HM1.out; omega
  have hf0 := fi_conv M
  have hf1 := fi_conv M1
  have hf2 : floatOfInt .f64 9007199254740991 = Dy.fi 9007199254740991 := fi_conv 9007199254740991
  have ht0 : (M : Int).toNat = M := by omega
  have ht1 : (M1 : Int).toNat = M1 := by omega
  have hl0 : Dy.blen M ≤ 53 := Dy.blen_le.2 hm53
  have hl1 : Dy.blen M1 ≤ 54 := Dy.blen_le.2 (by omega)
  have hbel2 : Below w.heap.size w ((w2.alloc (Obj.cells #[Value.int IntKind.u64 ↑p, Value.int IntKind.u64 ↑M] 65)).drewN nq) := below_drewN (hbel.alloc (by omega) _) nq
  have HB := hid hbel2
  clear hbel2 hbel
  go_wp2_with (first | (go_at_call 92; refine (len64_z _ _ (by omega) (by omega)).mono ?_; rintro e w' ⟨rfl, rfl⟩) | (go_at_call 49; refine (ldexp_any _ _ _ (Dy.fi_spec (by omega)).2.1 (by omega) (by omega)).mono ?_; rintro e w' ⟨rfl, rfl⟩))
  all_goals
    go_ret2
    refine ⟨?_, HB.out⟩
    have hM2 := HM1.out
    clear hwM hf1 ht1 hl1 hM1a hM1b
    first
      | (subst hM2; rw [HR.out, Dy.a_b (by decide) rfl ‹_›]; generalize Dy.ldx (Dy.fi 9007199254740991) 971 = F; rfl)
      | (subst hM2; rw [HR.out, Dy.a_mf (by decide) rfl ‹_› rfl]; generalize Dy.ldx (Dy.fi 9007199254740991) 971 = F; rfl)

set_option maxRecDepth 100000 in
set_option maxHeartbeats 4000000 in
theorem rounded_more_false (h l : Nat) (e : Int) (w : World) (hh : Dy.W h) (hl : Dy.W l) (he1 : -5000 ≤ e) (he2 : e ≤ 5000) (hL : Dy.lost (Dy.wd h l) (Dy.cut (Dy.wd h l) e).toNat = false) :
    Calls Try.prog 56 #[xv false h l true e, .bool true] w fun e' w' => e' = .returned (.tuple #[.float .f64 (Dy.rnd false (Dy.wd h l) true e true).1, .int .i64 (Dy.rnd false (Dy.wd h l) true e true).2]) ∧ Below w.heap.size w w' := by
  have hb := (Dy.blen_le (x := Dy.wd h l) (k := 128)).2 (Dy.wd_lt hh hl)
  have hc0 : 0 ≤ Dy.cut (Dy.wd h l) e := by unfold Dy.cut; omega
  have hw1 : IntKind.i64.wrap ((Dy.blen (Dy.wd h l) : Int) - 53) = (Dy.blen (Dy.wd h l) : Int) - 53 := IntWalk.i64_in _ (by omega)
  have hw2 : IntKind.i64.wrap (-1074 - e) = -1074 - e := IntWalk.i64_in _ (by omega)
  have hmax : ∀ (w : World) ts t, (Builtin.max_ ts t #[.int .i64 ((Dy.blen (Dy.wd h l) : Int) - 53), .int .i64 (-1074 - e), .int .i64 0]).run Try.prog w = .ok (.int .i64 (Dy.cut (Dy.wd h l) e)) w := by
    intro w ts t
    rw [run_max_int3]
    refine congrArg (fun x => Result.ok (Value.int .i64 x) w) ?_
    unfold Dy.cut
    split <;> split at * <;> omega
  go_enter Try.func56, Try.ntmps56
  go_wp2
  go_region_held3 (fun w' => w'.cell? ⟨w.heap.size, 1, none⟩ = some (.int .u64 h) ∧ w'.cell? ⟨w.heap.size, 2, none⟩ = some (.int .u64 l) ∧ w'.cell? ⟨w.heap.size, 4, none⟩ = some (.int .i64 e))
    (refine ⟨?_, ?_, ?_⟩ <;> first | (simp [go_sem]; done) | (simp [go_sem, *]; done))
    (first | (go_at_call 91; refine (wideSize_any _ _ _ hh hl).mono ?_; rintro e' w1 ⟨rfl, hb1⟩; obtain ⟨hc, hf⟩ := bcell hb1; have hz := hb1.size; simp at hz))
  go_wp2_with fail
  refine (wideDown_any _ _ _ _ hh hl hc0).mono ?_
  rintro e' w2 ⟨p, q, rfl, hpq, hb2⟩
  obtain ⟨hc2, hf2⟩ := bcell hb2
  have hz2 := hb2.size
  obtain rfl : q = Dy.kept (Dy.wd h l) e := Dy.wide_small hpq (Dy.kept_lt _ _)
  have HP := hid hpq
  clear hpq
  have g0 : w2.cell? ⟨w.heap.size, 0, none⟩ = some (.bool false) := by rw [hc2 _ _ (by omega), hc _ _ (by simp)]; simp [go_sem]
  have g3 : w2.cell? ⟨w.heap.size, 3, none⟩ = some (.bool true) := by rw [hc2 _ _ (by omega), hc _ _ (by simp)]; simp [go_sem]
  have g4 : w2.cell? ⟨w.heap.size, 4, none⟩ = some (.int .i64 e) := by rw [hc2 _ _ (by omega), hc _ _ (by simp)]; simp [go_sem]
  have hz4 : w.heap.size < w2.heap.size := by omega
  have hbel : Below w.heap.size w w2 := (((Below.refl _ _).alloc (Nat.le_refl _) _).drew.trans (hb1.mono (by simp))).trans (hb2.mono (by omega))
  clear hc hf hz hc2 hf2 hz2 hb1 hb2
  go_wp2
  have hw3 : IntKind.i64.wrap (e + Dy.cut (Dy.wd h l) e) = e + Dy.cut (Dy.wd h l) e := IntWalk.i64_in _ (by unfold Dy.cut; omega)
  have hm53 := Dy.kept_lt (Dy.wd h l) e
  have hc1 : -1074 ≤ e + Dy.cut (Dy.wd h l) e ∧ e + Dy.cut (Dy.wd h l) e ≤ 6000 := by unfold Dy.cut; omega
  have HR := hid (Dy.rnd_rnd' false (Dy.wd h l) true e true)
  clear hmax hw1 hw2
  go_quiet (fail)
  generalize Dy.cut (Dy.wd h l) e = C at *
  generalize Dy.kept (Dy.wd h l) e = M at *
  generalize Dy.lost (Dy.wd h l) C.toNat = L at *
  clear hw3 hb
  subst hL
  obtain ⟨M1, HM1⟩ : ∃ M1 : Nat, Hid (M1 = M + 1) := ⟨M + 1, hid rfl⟩
  have hwM : IntKind.u64.wrap ((M : Int) + 1) = (M1 : Int) := by rw [HM1.out]; exact (IntWalk.u64_in _ (by omega)).trans (by omega)
  have hM1a : 0 < M1 := by have := HM1.out; omega
  have hM1b : M1 ≤ 9007199254740992 := by have := HM1.out; omega
  have hf0 := fi_conv M
  have hf1 := fi_conv M1
  have hf2 : floatOfInt .f64 9007199254740991 = Dy.fi 9007199254740991 := fi_conv 9007199254740991
  have ht0 : (M : Int).toNat = M := by omega
  have ht1 : (M1 : Int).toNat = M1 := by omega
  have hl0 : Dy.blen M ≤ 53 := Dy.blen_le.2 hm53
  have hl1 : Dy.blen M1 ≤ 54 := Dy.blen_le.2 (by omega)
  have hbel2 : Below w.heap.size w ((w2.alloc (Obj.cells #[Value.int IntKind.u64 ↑p, Value.int IntKind.u64 ↑M] 65)).drewN nq) := below_drewN (hbel.alloc (by omega) _) nq
  have HB := hid hbel2
  clear hbel2 hbel
  go_wp2_with (first | (go_at_call 92; refine (len64_z _ _ (by omega) (by omega)).mono ?_; rintro e w' ⟨rfl, rfl⟩) | (go_at_call 49; refine (ldexp_any _ _ _ (Dy.fi_spec (by omega)).2.1 (by omega) (by omega)).mono ?_; rintro e w' ⟨rfl, rfl⟩))
  all_goals
    go_ret2
    refine ⟨?_, HB.out⟩
    have hM2 := HM1.out
    clear hwM hf1 ht1 hl1 hM1a hM1b
    first
      | (subst hM2; rw [HR.out, Dy.b_b (by decide) rfl ‹_›]; generalize Dy.ldx (Dy.fi 9007199254740991) 971 = F; rfl)
      | (subst hM2; rw [HR.out, Dy.b_mf (by decide) rfl ‹_› rfl]; generalize Dy.ldx (Dy.fi 9007199254740991) 971 = F; rfl)

set_option maxRecDepth 100000 in
set_option maxHeartbeats 4000000 in
theorem rounded_none_false (h l : Nat) (e : Int) (w : World) (hh : Dy.W h) (hl : Dy.W l) (he1 : -5000 ≤ e) (he2 : e ≤ 5000) (hL : Dy.lost (Dy.wd h l) (Dy.cut (Dy.wd h l) e).toNat = false) :
    Calls Try.prog 56 #[xv false h l false e, .bool true] w fun e' w' => e' = .returned (.tuple #[.float .f64 (Dy.rnd false (Dy.wd h l) false e true).1, .int .i64 (Dy.rnd false (Dy.wd h l) false e true).2]) ∧ Below w.heap.size w w' := by
  have hb := (Dy.blen_le (x := Dy.wd h l) (k := 128)).2 (Dy.wd_lt hh hl)
  have hc0 : 0 ≤ Dy.cut (Dy.wd h l) e := by unfold Dy.cut; omega
  have hw1 : IntKind.i64.wrap ((Dy.blen (Dy.wd h l) : Int) - 53) = (Dy.blen (Dy.wd h l) : Int) - 53 := IntWalk.i64_in _ (by omega)
  have hw2 : IntKind.i64.wrap (-1074 - e) = -1074 - e := IntWalk.i64_in _ (by omega)
  have hmax : ∀ (w : World) ts t, (Builtin.max_ ts t #[.int .i64 ((Dy.blen (Dy.wd h l) : Int) - 53), .int .i64 (-1074 - e), .int .i64 0]).run Try.prog w = .ok (.int .i64 (Dy.cut (Dy.wd h l) e)) w := by
    intro w ts t
    rw [run_max_int3]
    refine congrArg (fun x => Result.ok (Value.int .i64 x) w) ?_
    unfold Dy.cut
    split <;> split at * <;> omega
  go_enter Try.func56, Try.ntmps56
  go_wp2
  go_region_held3 (fun w' => w'.cell? ⟨w.heap.size, 1, none⟩ = some (.int .u64 h) ∧ w'.cell? ⟨w.heap.size, 2, none⟩ = some (.int .u64 l) ∧ w'.cell? ⟨w.heap.size, 4, none⟩ = some (.int .i64 e))
    (refine ⟨?_, ?_, ?_⟩ <;> first | (simp [go_sem]; done) | (simp [go_sem, *]; done))
    (first | (go_at_call 91; refine (wideSize_any _ _ _ hh hl).mono ?_; rintro e' w1 ⟨rfl, hb1⟩; obtain ⟨hc, hf⟩ := bcell hb1; have hz := hb1.size; simp at hz))
  go_wp2_with fail
  refine (wideDown_any _ _ _ _ hh hl hc0).mono ?_
  rintro e' w2 ⟨p, q, rfl, hpq, hb2⟩
  obtain ⟨hc2, hf2⟩ := bcell hb2
  have hz2 := hb2.size
  obtain rfl : q = Dy.kept (Dy.wd h l) e := Dy.wide_small hpq (Dy.kept_lt _ _)
  have HP := hid hpq
  clear hpq
  have g0 : w2.cell? ⟨w.heap.size, 0, none⟩ = some (.bool false) := by rw [hc2 _ _ (by omega), hc _ _ (by simp)]; simp [go_sem]
  have g3 : w2.cell? ⟨w.heap.size, 3, none⟩ = some (.bool false) := by rw [hc2 _ _ (by omega), hc _ _ (by simp)]; simp [go_sem]
  have g4 : w2.cell? ⟨w.heap.size, 4, none⟩ = some (.int .i64 e) := by rw [hc2 _ _ (by omega), hc _ _ (by simp)]; simp [go_sem]
  have hz4 : w.heap.size < w2.heap.size := by omega
  have hbel : Below w.heap.size w w2 := (((Below.refl _ _).alloc (Nat.le_refl _) _).drew.trans (hb1.mono (by simp))).trans (hb2.mono (by omega))
  clear hc hf hz hc2 hf2 hz2 hb1 hb2
  go_wp2
  have hw3 : IntKind.i64.wrap (e + Dy.cut (Dy.wd h l) e) = e + Dy.cut (Dy.wd h l) e := IntWalk.i64_in _ (by unfold Dy.cut; omega)
  have hm53 := Dy.kept_lt (Dy.wd h l) e
  have hc1 : -1074 ≤ e + Dy.cut (Dy.wd h l) e ∧ e + Dy.cut (Dy.wd h l) e ≤ 6000 := by unfold Dy.cut; omega
  have HR := hid (Dy.rnd_rnd' false (Dy.wd h l) false e true)
  clear hmax hw1 hw2
  go_quiet (fail)
  generalize Dy.cut (Dy.wd h l) e = C at *
  generalize Dy.kept (Dy.wd h l) e = M at *
  generalize Dy.lost (Dy.wd h l) C.toNat = L at *
  clear hw3 hb
  subst hL
  obtain ⟨M1, HM1⟩ : ∃ M1 : Nat, Hid (M1 = M + 1) := ⟨M + 1, hid rfl⟩
  have hwM : IntKind.u64.wrap ((M : Int) + 1) = (M1 : Int) := by rw [HM1.out]; exact (IntWalk.u64_in _ (by omega)).trans (by omega)
  have hM1a : 0 < M1 := by have := HM1.out; omega
  have hM1b : M1 ≤ 9007199254740992 := by have := HM1.out; omega
  have hf0 := fi_conv M
  have hf1 := fi_conv M1
  have hf2 : floatOfInt .f64 9007199254740991 = Dy.fi 9007199254740991 := fi_conv 9007199254740991
  have ht0 : (M : Int).toNat = M := by omega
  have ht1 : (M1 : Int).toNat = M1 := by omega
  have hl0 : Dy.blen M ≤ 53 := Dy.blen_le.2 hm53
  have hl1 : Dy.blen M1 ≤ 54 := Dy.blen_le.2 (by omega)
  have hbel2 : Below w.heap.size w ((w2.alloc (Obj.cells #[Value.int IntKind.u64 ↑p, Value.int IntKind.u64 ↑M] 65)).drewN nq) := below_drewN (hbel.alloc (by omega) _) nq
  have HB := hid hbel2
  clear hbel2 hbel
  go_wp2_with (first | (go_at_call 92; refine (len64_z _ _ (by omega) (by omega)).mono ?_; rintro e w' ⟨rfl, rfl⟩) | (go_at_call 49; refine (ldexp_any _ _ _ (Dy.fi_spec (by omega)).2.1 (by omega) (by omega)).mono ?_; rintro e w' ⟨rfl, rfl⟩))
  all_goals
    go_ret2
    refine ⟨?_, HB.out⟩
    have hM2 := HM1.out
    clear hwM hf1 ht1 hl1 hM1a hM1b
    first
      | (subst hM2; rw [HR.out, Dy.c_z (by decide) rfl rfl ‹_›]; generalize Dy.ldx (Dy.fi 9007199254740991) 971 = F; rfl)
      | (subst hM2; rw [HR.out, Dy.c_b (by decide) rfl rfl ‹_› ‹_›]; generalize Dy.ldx (Dy.fi 9007199254740991) 971 = F; rfl)
      | (subst hM2; rw [HR.out, Dy.c_mf (by decide) rfl rfl ‹_› ‹_› rfl]; generalize Dy.ldx (Dy.fi 9007199254740991) 971 = F; rfl)

theorem rounded_any (minus more up : Bool) (h l : Nat) (e : Int) (w : World) (hh : Dy.W h) (hl : Dy.W l) (he1 : -5000 ≤ e) (he2 : e ≤ 5000) :
    Calls Try.prog 56 #[xv minus h l more e, .bool up] w fun e' w' => e' = .returned (.tuple #[.float .f64 (Dy.rnd minus (Dy.wd h l) more e up).1, .int .i64 (Dy.rnd minus (Dy.wd h l) more e up).2]) ∧ Below w.heap.size w w' := by
  cases minus <;> cases up
  · exact rounded_eq_false more h l e w hh hl he1 he2
  · cases hL : Dy.lost (Dy.wd h l) (Dy.cut (Dy.wd h l) e).toNat
    · cases more
      · exact rounded_none_false h l e w hh hl he1 he2 hL
      · exact rounded_more_false h l e w hh hl he1 he2 hL
    · exact rounded_lost_false more h l e w hh hl he1 he2 hL
  · cases hL : Dy.lost (Dy.wd h l) (Dy.cut (Dy.wd h l) e).toNat
    · cases more
      · exact rounded_none_true h l e w hh hl he1 he2 hL
      · exact rounded_more_true h l e w hh hl he1 he2 hL
    · exact rounded_lost_true more h l e w hh hl he1 he2 hL
  · exact rounded_eq_true more h l e w hh hl he1 he2
end Go.Proofs.Ytfjomcbbgnaaiaa
