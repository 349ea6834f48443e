/- The law MirrorStraight: walk and plain law joined. -/
import Derived.Test.YtiphdhpacklboaaSg
import Derived.Test.YtiphdhpacklboaaSc
import Derived.Test.YtiphdhpacklboaaVn
namespace Go.Proofs.Ytiphdhpacklboaa
open Go Go.RowKit

theorem zsub {x : Int} (ox : Dy.ok x) : (Ieee.double.sub 0 (Dy.enc x)).getD 0 = Dy.enc (-x) ∧ (fN Ieee.double.sub) [.f 0, .f (Dy.enc x)] = true := by
  have e0 : Dy.nz (Dy.V 0 - Dy.V x) = -x := by rw [Dy.V_zero, Int.zero_sub, ← Dy.V_neg]; exact Int.le_antisymm (Dy.nz_le (Int.le_refl _)) (Dy.le_nz (Int.le_refl _))
  have e := Dy.sub_enc Dy.ok_zero ox (by rw [e0]; exact Dy.ok_neg ox)
  rw [e0] at e
  have e' : Ieee.double.sub 0 (Dy.enc x) = some (Dy.enc (-x)) := e
  exact ⟨by rw [e']; rfl, okF_some e' (Dy.W_enc (Dy.ok_neg ox))⟩
theorem in_1 {p : Int × Int} {L w x : Rat} (b : Dy.Bd p (-1) 1 w) (h : Dy.Has p x) : -1 ≤ x ∧ x ≤ 1 := ⟨Rat.le_trans b.lo h.lo, Rat.le_trans h.hi b.hi⟩
theorem in_rk {p : Int × Int} {w : Rat} (b : Dy.Bd p (-1) 1 w) : -4607182418800017408 ≤ p.1 ∧ p.2 ≤ 4607182418800017408 :=
  ⟨Dy.val_le.1 (by rw [Dy.val_neg, Dy.val_one]; exact b.lo), Dy.val_le.1 (by rw [Dy.val_one]; exact b.hi)⟩
set_option maxHeartbeats 2000000 in
theorem mstraight_num {x y z : Int} (ox : Dy.ok x) (oy : Dy.ok y) (oz : Dy.ok z) (w : World) :
    Calls Try.prog 6 #[.agg #[.float .f64 (Dy.enc x), .float .f64 (Dy.enc y), .float .f64 (Dy.enc z)]] w fun e w' => e = .returned (.bool true) ∧ Below w.heap.size w w' := by
  have n3 := nR3_E ox oy oz
  rcases unit_two ox oy oz with h | ⟨p, q, r, t, hm, hG, ⟨bp, bq, br⟩, τb, ⟨hp, hq, hr⟩, st⟩
  · exact mstraight_b _ _ _ w (Dy.W_enc ox) (Dy.W_enc oy) (Dy.W_enc oz) h rfl n3
  · have st' := (st.turnX ox).turnY oy
    have hG' : unitG (Dy.enc (-x)) (Dy.enc (-y)) (Dy.enc z) = ((Dy.E (Dy.rTurned p), Dy.E (Dy.rTurned q), Dy.E r), 0) := by
      rw [unitG_mid (Dy.ok_neg ox) (Dy.ok_neg oy) oz (by rw [Int.natAbs_neg, Int.natAbs_neg]; exact hm.1) (by rw [Int.natAbs_neg, Int.natAbs_neg]; exact hm.2), unit_of (Dy.ok_neg ox) (Dy.ok_neg oy) oz st']
    obtain ⟨a, b, c, hR, ⟨ra, ha⟩, ⟨rb, hb⟩, ⟨rc, hc⟩⟩ := refl_up bp bq br (hp 0) (hq 0) (hr 0) (in_1 (L := 0) bp (hp 0)) (in_1 (L := 0) bq (hq 0)) (in_1 (L := 0) br (hr 0))
    have n6 : nM6 [.f (Dy.enc p.1), .f (Dy.enc p.2), .f (Dy.enc q.1), .f (Dy.enc q.2), .f (Dy.enc r.1), .f (Dy.enc r.2), .f 0, .f 0, .f 0, .f 0, .f 4607182418800017408, .f 4607182418800017408] = true := by
      show (mJ (Dy.enc p.1, Dy.enc p.2) && mJ (Dy.enc q.1, Dy.enc q.2) && mJ (Dy.enc r.1, Dy.enc r.2) && mJ (0, 0) && mJ (0, 0) && mJ (4607182418800017408, 4607182418800017408)) = true
      rw [mJ_E bp.rk (in_rk bp).1 (in_rk bp).2, mJ_E bq.rk (in_rk bq).1 (in_rk bq).2, mJ_E br.rk (in_rk br).1 (in_rk br).2]
      decide +kernel
    have z1 := zsub ox; have z2 := zsub oy; have z3 := point_all oz
    have z4 := zsub (Dy.ok_neg ox); have z5 := zsub (Dy.ok_neg oy)
    rw [Int.neg_neg] at z4 z5
    exact mstraight_a _ _ _ w (Dy.W_enc ox) (Dy.W_enc oy) (Dy.W_enc oz) hG z1.1 z2.1 z3.1 hG' z4.1 z5.1 z3.1 (t20 := 4607182418800017408) (by decide +kernel) hR rfl n3 z1.2 z2.2 z3.2 rfl (nR3_E (Dy.ok_neg ox) (Dy.ok_neg oy) oz) z4.2 z5.2 z3.2 (by decide +kernel) n6 rfl rfl rfl
      (by rw [eq_true ox, eq_true oy, eq_true oz]; rfl) (meets_has bp.rk.turned ra (has_turn (hp 0)) ha) (meets_has bq.rk.turned rb (has_turn (hq 0)) hb) (meets_has br.rk rc (hr 0) hc)
      (by rw [eq_true br.rk.lo, eq_true br.rk.hi]; rfl) (eq_true oz)
theorem mstraight_ok (a1 a2 a3 : Nat) (w : World) (w1 : Dy.W a1) (w2 : Dy.W a2) (w3 : Dy.W a3) :
    Calls Try.prog 6 #[.agg #[.float .f64 a1, .float .f64 a2, .float .f64 a3]] w fun e w' => e = .returned (.bool true) ∧ Below w.heap.size w w' := by
  cases h1 : Dy.right a1 <;> cases h2 : Dy.right a2 <;> cases h3 : Dy.right a3
  case true.true.true =>
    rw [← Dy.enc_of_dec w1 h1, ← Dy.enc_of_dec w2 h2, ← Dy.enc_of_dec w3 h3]
    exact mstraight_num (Dy.ok_dec w1 h1) (Dy.ok_dec w2 h2) (Dy.ok_dec w3 h3) w
  all_goals exact mstraight_d a1 a2 a3 w w1 w2 w3 (by show (!(Dy.right a1 && (Dy.right a2 && Dy.right a3))) = true; rw [h1, h2, h3]; rfl)
end Go.Proofs.Ytiphdhpacklboaa
