/- Walks: shifts of whole numbers of 128 bits. -/
import Derived.Test.YtfjomcbbgnaaiaaWc
import Derived.RegionTactic
import Derived.BigRegion
import Derived.StillTailTactics
import Derived.Deep.RegionWith
import Derived.Deep.RegionHeld3
namespace Go.Proofs.Ytfjomcbbgnaaiaa
open Go.RowKit

theorem shlN (a j : Nat) : IntKind.u64.wrap ((a : Int) * 2 ^ j) = ((Dy.shl a j : Nat) : Int) := by
  rw [IntKind.wrap_u64]
  unfold Dy.shl Dy.lo64
  simp
theorem shrN (a j : Nat) : ((a : Int) / 2 ^ j) = ((Dy.shr a j : Nat) : Int) := by unfold Dy.shr; simp
theorem orN {a b : Nat} (ha : Dy.W a) (hb : Dy.W b) : bits BinOp.or IntKind.u64 (a : Int) (b : Int) = ((a ||| b : Nat) : Int) := u64_or_nat a b ha.lt hb.lt

set_option maxRecDepth 100000 in
set_option maxHeartbeats 1000000 in
theorem wideUp_nat (h l k : Nat) (w : World) (hh : Dy.W h) (hl : Dy.W l) (hk2 : k < 128) :
    Calls Try.prog 94 #[wv h l, .int .i64 (k : Int)] w fun e w' => ∃ p q, e = .returned (wv p q) ∧ Dy.Wide p q (Dy.wd h l * 2 ^ k % 2 ^ 128) ∧ Below w.heap.size w w' := by
  by_cases hk : 64 ≤ k
  · have r := Dy.up_great (h := h) (l := l) hk
    have e1 := shlN l (k - 64)
    go_enter Try.func94, Try.ntmps94
    go_wp2
    refine bodyPost_ret (v := wv _ _) (by simp [results, Try.results94, go_sem]) rfl ⟨_, _, rfl, r, ?_⟩
    exact ((Below.refl _ _).alloc (Nat.le_refl _) _).alloc (by simp) _
  · have hk' : k < 64 := by omega
    clear hk
    have r := Dy.up_small hh hl hk'
    have e1 := shlN h k
    have e2 := shlN l k
    have e3 := shrN l (64 - k)
    have e4 := orN (Dy.W_shl h k) (Dy.W_shr hl (64 - k))
    go_enter Try.func94, Try.ntmps94
    go_wp2
    go_region
    go_wp2
    refine bodyPost_ret (v := wv _ _) (by simp [results, Try.results94, go_sem]) rfl ⟨_, _, rfl, r, ?_⟩
    exact (((Below.refl _ _).alloc (Nat.le_refl _) _).alloc (by simp) _).drew

theorem wideUp_any (h l : Nat) (k : Int) (w : World) (hh : Dy.W h) (hl : Dy.W l) (h0 : 0 ≤ k) (hk2 : k < 128) :
    Calls Try.prog 94 #[wv h l, .int .i64 k] w fun e w' => ∃ p q, e = .returned (wv p q) ∧ Dy.Wide p q (Dy.wd h l * 2 ^ k.toNat % 2 ^ 128) ∧ Below w.heap.size w w' := by
  obtain ⟨n, rfl⟩ := Int.eq_ofNat_of_zero_le h0
  exact wideUp_nat h l n w hh hl (by omega)

theorem bcell {W w1 : World} (hb : Below W.heap.size W w1) : (∀ b o, b < W.heap.size → w1.cell? ⟨b, o, none⟩ = W.cell? ⟨b, o, none⟩) ∧ (∀ b o, b < W.heap.size → w1.frozen? ⟨b, o, none⟩ = W.frozen? ⟨b, o, none⟩) :=
  ⟨fun b o h => hb.cell (p := ⟨b, o, none⟩) h, fun b o h => hb.frozen (p := ⟨b, o, none⟩) h⟩

set_option maxRecDepth 100000 in
set_option maxHeartbeats 1000000 in
theorem wideDown_out (h l k : Nat) (w : World) (hh : Dy.W h) (hl : Dy.W l) (hk : 128 ≤ k) :
    Calls Try.prog 59 #[wv h l, .int .i64 (k : Int)] w fun e w' => ∃ p q, e = .returned (.tuple #[wv p q, .bool (Dy.lost (Dy.wd h l) k)]) ∧ Dy.Wide p q (Dy.wd h l / 2 ^ k) ∧ Below w.heap.size w w' := by
  have e1 := Dy.lost_out (Dy.wd_lt hh hl) hk
  have e2 : Dy.Wide 0 0 (Dy.wd h l / 2 ^ k) := by
    rw [Dy.div_out (Dy.wd_lt hh hl) hk]; exact ⟨by unfold Dy.W; omega, by unfold Dy.W; omega, rfl⟩
  have E1 := hid e1
  clear e1
  go_enter Try.func59, Try.ntmps59
  go_wp2_with (go_at_call 93; refine (wideIs_any _ _ _).mono ?_; rintro e w1 ⟨rfl, hb⟩; obtain ⟨hc, hf⟩ := bcell hb; have hz := hb.size; simp at hz)
  refine bodyPost_ret (v := .tuple #[wv 0 0, .bool (Dy.lost (Dy.wd h l) k)]) (by simp [results, Try.results59, go_sem, hc, E1.out]) rfl ⟨_, _, rfl, e2, ?_⟩
  exact ((((((Below.refl _ _).alloc (Nat.le_refl _) _).alloc (by simp) _).trans (hb.mono (by simp; omega))).setCell (by simp) _).setCell (by simp) _)

theorem ex_cell {w : World} {a : Addr} (h : (w.cell? a).isSome = true) : ∃ v, w.cell? a = some v := Option.isSome_iff_exists.1 h

set_option maxRecDepth 100000 in
set_option maxHeartbeats 1000000 in
theorem wideDown_great (h l k : Nat) (w : World) (hh : Dy.W h) (hl : Dy.W l) (hk : 64 ≤ k) (hk2 : k < 128) :
    Calls Try.prog 59 #[wv h l, .int .i64 (k : Int)] w fun e w' => ∃ p q, e = .returned (.tuple #[wv p q, .bool (Dy.lost (Dy.wd h l) k)]) ∧ Dy.Wide p q (Dy.wd h l / 2 ^ k) ∧ Below w.heap.size w w' := by
  have r := Dy.down_great hh hl hk
  have e1 := shrN h (k - 64)
  have HR := hid (fun p' q' (r2 : Dy.Wide p' q' (Dy.wd 0 (Dy.shr h (k - 64)) * 2 ^ k % 2 ^ 128)) => Dy.lost_back hh hl r r2)
  go_enter Try.func59, Try.ntmps59
  go_wp2
  have b0 : Below w.heap.size w (((w.alloc (Obj.cells #[Value.int IntKind.u64 ↑h, Value.int IntKind.u64 ↑l] 65)).alloc (Obj.cells #[Value.int IntKind.u64 0, Value.int IntKind.u64 0] 65)).alloc (Obj.cells #[Value.int IntKind.u64 0, Value.int IntKind.u64 ↑(Dy.shr h (k - 64))] 65)) :=
    ((((Below.refl _ _).alloc (Nat.le_refl _) _).alloc (by simp) _).alloc (by simp; omega) _)
  go_region_held3 (fun w' => w'.cell? ⟨w.heap.size, 0, none⟩ = some (.int .u64 h) ∧ w'.cell? ⟨w.heap.size, 1, none⟩ = some (.int .u64 l) ∧ w'.cell? ⟨w.heap.size + 1 + 1, 0, none⟩ = some (.int .u64 0) ∧ w'.cell? ⟨w.heap.size + 1 + 1, 1, none⟩ = some (.int .u64 (Dy.shr h (k - 64) : Nat)) ∧
      (∃ v, w'.cell? ⟨w.heap.size + 1, 0, none⟩ = some v) ∧ (∃ v, w'.cell? ⟨w.heap.size + 1, 1, none⟩ = some v) ∧ w'.frozen? ⟨w.heap.size + 1, 0, none⟩ = false ∧ w'.frozen? ⟨w.heap.size + 1, 1, none⟩ = false)
    (refine ⟨?_, ?_, ?_, ?_, ?_, ?_, ?_, ?_⟩ <;> first | (simp [go_sem]; done) | (simp [go_sem, *]; done) | (refine ex_cell ?_; simp [go_sem, *]; done))
    (first | (go_at_call 94; refine (wideUp_nat _ _ k _ r.hh r.hl hk2).mono ?_; rintro e w1 ⟨p', q', rfl, r2, hb⟩; obtain ⟨hc, hf⟩ := bcell hb; have hz := hb.size; simp at hz))
  go_wp2
  refine bodyPost_ret (v := .tuple #[wv 0 (Dy.shr h (k - 64)), .bool (Dy.lost (Dy.wd h l) k)]) (by simp [results, Try.results59, go_sem, hc, HR.out _ _ r2]) rfl ⟨_, _, rfl, r, ?_⟩
  exact ((b0.drew.trans (hb.mono (by simp; omega))).setCell (by simp) _).setCell (by simp) _

set_option maxRecDepth 100000 in
set_option maxHeartbeats 1000000 in
theorem wideDown_small (h l k : Nat) (w : World) (hh : Dy.W h) (hl : Dy.W l) (hk : k < 64) :
    Calls Try.prog 59 #[wv h l, .int .i64 (k : Int)] w fun e w' => ∃ p q, e = .returned (.tuple #[wv p q, .bool (Dy.lost (Dy.wd h l) k)]) ∧ Dy.Wide p q (Dy.wd h l / 2 ^ k) ∧ Below w.heap.size w w' := by
  have r := Dy.down_small hh hl hk
  have e1 := shrN h k
  have e2 := shrN l k
  have e3 := shlN h (64 - k)
  have e4 := orN (Dy.W_shr hl k) (Dy.W_shl h (64 - k))
  generalize hP : Dy.shr h k = P at *
  generalize hQ : (Dy.shr l k ||| Dy.shl h (64 - k)) = Q at *
  clear hP hQ
  have HR := hid (fun p' q' (r2 : Dy.Wide p' q' (Dy.wd P Q * 2 ^ k % 2 ^ 128)) => Dy.lost_back hh hl r r2)
  go_enter Try.func59, Try.ntmps59
  go_wp2
  go_region
  go_wp2
  have b0 : Below w.heap.size w (((w.alloc (Obj.cells #[Value.int IntKind.u64 ↑h, Value.int IntKind.u64 ↑l] 65)).alloc (Obj.cells #[Value.int IntKind.u64 0, Value.int IntKind.u64 0] 65)).alloc (Obj.cells #[Value.int IntKind.u64 ↑P, Value.int IntKind.u64 ↑Q] 65)) :=
    ((((Below.refl _ _).alloc (Nat.le_refl _) _).alloc (by simp) _).alloc (by simp; omega) _)
  go_region_held3 (fun w' => w'.cell? ⟨w.heap.size, 0, none⟩ = some (.int .u64 h) ∧ w'.cell? ⟨w.heap.size, 1, none⟩ = some (.int .u64 l) ∧ w'.cell? ⟨w.heap.size + 1 + 1, 0, none⟩ = some (.int .u64 P) ∧ w'.cell? ⟨w.heap.size + 1 + 1, 1, none⟩ = some (.int .u64 Q) ∧
      (∃ v, w'.cell? ⟨w.heap.size + 1, 0, none⟩ = some v) ∧ (∃ v, w'.cell? ⟨w.heap.size + 1, 1, none⟩ = some v) ∧ w'.frozen? ⟨w.heap.size + 1, 0, none⟩ = false ∧ w'.frozen? ⟨w.heap.size + 1, 1, none⟩ = false)
    (refine ⟨?_, ?_, ?_, ?_, ?_, ?_, ?_, ?_⟩ <;> first | (simp [go_sem]; done) | (simp [go_sem, *]; done) | (refine ex_cell ?_; simp [go_sem, *]; done))
    (first | (go_at_call 94; refine (wideUp_nat _ _ k _ r.hh r.hl (by omega)).mono ?_; rintro e w1 ⟨p', q', rfl, r2, hb⟩; obtain ⟨hc, hf⟩ := bcell hb; have hz := hb.size; simp at hz))
  go_wp2
  refine bodyPost_ret (v := .tuple #[wv P Q, .bool (Dy.lost (Dy.wd h l) k)]) (by simp [results, Try.results59, go_sem, hc, HR.out _ _ r2]) rfl ⟨_, _, rfl, r, ?_⟩
  exact ((b0.drew.drew.trans (hb.mono (by simp; omega))).setCell (by simp) _).setCell (by simp) _

theorem wideDown_any (h l : Nat) (k : Int) (w : World) (hh : Dy.W h) (hl : Dy.W l) (h0 : 0 ≤ k) :
    Calls Try.prog 59 #[wv h l, .int .i64 k] w fun e w' => ∃ p q, e = .returned (.tuple #[wv p q, .bool (Dy.lost (Dy.wd h l) k.toNat)]) ∧ Dy.Wide p q (Dy.wd h l / 2 ^ k.toNat) ∧ Below w.heap.size w w' := by
  obtain ⟨n, rfl⟩ := Int.eq_ofNat_of_zero_le h0
  by_cases h1 : n < 64
  · exact wideDown_small h l n w hh hl h1
  · by_cases h2 : n < 128
    · exact wideDown_great h l n w hh hl (by omega) h2
    · exact wideDown_out h l n w hh hl (by omega)

set_option maxHeartbeats 1000000 in
theorem square_any (x : Nat) (w : World) (hx : Dy.W x) :
    Calls Try.prog 74 #[.int .u64 (x : Int)] w fun e w' => ∃ p q, e = .returned (wv p q) ∧ Dy.Wide p q (x * x) ∧ Below w.heap.size w w' := by
  go_enter Try.func74, Try.ntmps74
  go_wp2_with (go_at_call 55; refine (mul64_any _ _ _ hx hx).mono ?_; rintro e w1 ⟨rfl, rfl⟩)
  refine bodyPost_ret (v := wv (Dy.hi64 (x * x)) (Dy.lo64 (x * x))) (by simp [results, Try.results74, go_sem]) rfl ⟨_, _, rfl, ?_, ?_⟩
  · have h := hx.lt
    exact ⟨Dy.W_hi64 (Nat.lt_of_le_of_lt (Nat.mul_le_mul (Nat.le_of_lt_succ h) (Nat.le_of_lt_succ h)) (by omega)), Dy.W_lo64 _, Dy.wd_hilo _⟩
  · exact (Below.refl _ _).alloc (Nat.le_refl _) _
end Go.Proofs.Ytfjomcbbgnaaiaa
