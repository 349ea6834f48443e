/- Walks: the law RayTurned. -/
import Derived.Test.YtfjomcbbgnaaiaaLe
import Derived.Test.YtfjomcbbgnaaiaaDc
import Derived.LoopTactic

namespace Go.Proofs.Ytfjomcbbgnaaiaa
open Go.RowKit

set_option maxRecDepth 100000 in
set_option maxHeartbeats 8000000 in
theorem rayTurned_may (x y p q : Nat) (hi : Bool) (w : World) (hx : Dy.W x) (hy : Dy.W y) (m1 : Dy.may x = true) (m2 : Dy.may y = true) (hp : p < 65536) (hq : q < 65536) (hh : Dy.hits x y = hi) :
    Calls Try.prog 4 #[.float .f64 x, .float .f64 y, .int .u16 (p : Int), .int .u16 (q : Int)] w fun e w' => e = .returned (.bool true) ∧ Below w.heap.size w w' := by
  have AW := awakes25
  have H := hid (fun w => hit_any x y w hx hy)
  have I := hid (fun w => inside_any x y w hx hy)
  have MX := hid (fun w => may25_any x w hx)
  have MY := hid (fun w => may25_any y w hy)
  rw [m1] at MX
  rw [m2] at MY
  have rx := (Dy.may_right m1).1
  have ry := (Dy.may_right m2).1
  obtain ⟨ax, bx, cx⟩ := Dy.minus_dec hx rx
  obtain ⟨ay, bY, cy⟩ := Dy.minus_dec hy ry
  have n1 : ∀ t w, (binOp .sub t (.float .f64 0) (.float .f64 x)).run Try.prog w = .ok (.float .f64 (Dy.minus x)) w := fun t w => run_float_arith w .sub t .f64 _ _ _ (Dy.zero_sub hx rx)
  have n2 : ∀ t w, (binOp .sub t (.float .f64 0) (.float .f64 y)).run Try.prog w = .ok (.float .f64 (Dy.minus y)) w := fun t w => run_float_arith w .sub t .f64 _ _ _ (Dy.zero_sub hy ry)
  have S1 := Dy.same_swap m1 m2
  have S2 := Dy.same_sign m1 m2 ax ry (by rw [bx]; omega) rfl
  have S3 := Dy.same_sign m1 m2 rx ay rfl (by rw [bY]; omega)
  have H1 := hid (fun w => hit_any y x w hy hx)
  have I1 := hid (fun w => inside_any y x w hy hx)
  have H2 := hid (fun w => hit_any (Dy.minus x) y w cx hy)
  have I2 := hid (fun w => inside_any (Dy.minus x) y w cx hy)
  have H3 := hid (fun w => hit_any x (Dy.minus y) w hx cy)
  have I3 := hid (fun w => inside_any x (Dy.minus y) w hx cy)
  rw [S1.i, S1.h, S1.X, S1.Z] at H1
  rw [S1.i] at I1
  rw [S2.i, S2.h, S2.X, S2.Z] at H2
  rw [S2.i] at I2
  rw [S3.i, S3.h, S3.X, S3.Z] at H3
  rw [S3.i] at I3
  rw [Dy.dIn_may m1 m2] at H I H1 I1 H2 I2 H3 I3
  obtain ⟨pr, ep, lp⟩ := Dy.frac_of hp
  obtain ⟨qr, eq, lq⟩ := Dy.frac_of hq
  obtain ⟨U, u0, u1, oU, eU, mU⟩ := Dy.part_of hx m1 lp
  obtain ⟨V, v0, v1, oV, eV, mV⟩ := Dy.part_of hy m2 lq
  have N := fun h => Dy.nearer m1 m2 mU mV (Dy.sq_le_of oU rfl u0 u1) (Dy.sq_le_of oV rfl v0 v1) h
  have d1 : ∀ t w, (binOp .quo t (.float .f64 (Dy.fi p)) (.float .f64 4679240012837945344)).run Try.prog w = .ok (.float .f64 pr) w := fun t w => run_float_arith w .quo t .f64 _ _ _ ep
  have d2 : ∀ t w, (binOp .quo t (.float .f64 (Dy.fi q)) (.float .f64 4679240012837945344)).run Try.prog w = .ok (.float .f64 qr) w := fun t w => run_float_arith w .quo t .f64 _ _ _ eq
  have k1 := fi_conv p
  have k2 := fi_conv q
  have A1 := hid (fun w => abs_any x w hx)
  have A2 := hid (fun w => abs_any y w hy)
  have P1 := hid (fun w => mul_any (Dy.abs x) pr false w (Dy.W_abs x) (Dy.dec_small lp).2.1)
  have P2 := hid (fun w => mul_any (Dy.abs y) qr false w (Dy.W_abs y) (Dy.dec_small lq).2.1)
  rw [eU] at P1
  rw [eV] at P2
  have HU := hid (fun w => hit_any (Dy.enc U) (Dy.enc V) w (Dy.W_enc oU) (Dy.W_enc oV))
  rw [Dy.dIn_may mU mV] at HU
  rw [hh] at H H1 H2 H3 N
  clear S1 S2 S3 m1 m2 mU mV u0 u1 v0 v1 oU oV eU eV ep eq lp lq ax bx cx ay bY cy rx ry hh
  generalize Dy.fi p = fp at *
  generalize Dy.fi q = fq at *
  generalize Dy.abs x = abx at *
  generalize Dy.abs y = aby at *
  generalize Dy.inB x y = inb at *
  generalize Dy.minus x = nx at *
  generalize Dy.minus y = ny at *
  generalize Dy.hX x y = X at *
  generalize Dy.hZ x y = Z at *
  generalize Dy.hX (Dy.enc U) (Dy.enc V) = X5 at *
  generalize Dy.hZ (Dy.enc U) (Dy.enc V) = Z5 at *
  generalize Dy.hits (Dy.enc U) (Dy.enc V) = h5 at *
  generalize Dy.enc U = u at *
  generalize Dy.enc V = v at *
  have N' : hi = false ∨ hi = true ∧ h5 = true ∧ (Dy.fgt Z5 Z || Dy.feq Z5 Z) = true ∧ (Dy.flt X5 X || Dy.feq X5 X) = true := by
    cases hi
    · exact Or.inl rfl
    · exact Or.inr ⟨rfl, N rfl⟩
  clear N
  rcases N' with rfl | ⟨rfl, rfl, g1, g2⟩
  all_goals
    go_enter Try.func4, Try.ntmps4
    go_wp2_with (go_at_call 16; first | ((with_reducible refine (MX.out _).mono ?_); rintro e w' ⟨rfl, rfl⟩) | ((with_reducible refine (MY.out _).mono ?_); rintro e w' ⟨rfl, rfl⟩))
    refine (H.out _).mono ?_
    rintro e w1 ⟨rfl, b1⟩
    go_wp2_with fail
    refine (I.out _).mono ?_
    rintro e w2 ⟨rfl, b2⟩
    go_wp2_with fail
    have z1 := b1.size
    have z2 := b2.size
    simp at z2
    have C0 : w2.cell? ⟨w1.heap.size, 0, none⟩ = some (.float .f64 X) := carry b2 (by simp) (by simp [go_sem])
    have C1 : w2.cell? ⟨w1.heap.size, 1, none⟩ = some (.float .f64 0) := carry b2 (by simp) (by simp [go_sem])
    have C2 : w2.cell? ⟨w1.heap.size, 2, none⟩ = some (.float .f64 Z) := carry b2 (by simp) (by simp [go_sem])
    have BB : Below w.heap.size w w2 := b1.trans ((below_of_alloc b2).mono (by simp; omega))
    have BS : Below w.heap.size w (w2.alloc (.cells #[.float .f64 y, .float .f64 x, .float .f64 nx, .float .f64 y, .float .f64 x, .float .f64 ny] 38)) := BB.alloc (by omega) _
    clear b1 b2 BB H I
    go_loopw [63] (fun i wr => ∃ k : Nat, k ≤ 3 ∧ i = .int .i64 k ∧ Below (w2.heap.size + 1) (w2.alloc (.cells #[.float .f64 y, .float .f64 x, .float .f64 nx, .float .f64 y, .float .f64 x, .float .f64 ny] 38)) wr) (fun i _ => 3 - (intOf i).toNat)
    case atStart => exact ⟨0, by omega, rfl, Below.refl _ _⟩
    case round =>
      obtain ⟨k, hk, rfl, BR⟩ := hrel
      have zr := BR.size
      simp at zr
      have D0 : wr.cell? ⟨w1.heap.size, 0, none⟩ = some (.float .f64 X) := carry BR (by omega) (carry ((Below.refl _ _).alloc (Nat.le_refl _) _) (by omega) C0)
      have D1 : wr.cell? ⟨w1.heap.size, 1, none⟩ = some (.float .f64 0) := carry BR (by omega) (carry ((Below.refl _ _).alloc (Nat.le_refl _) _) (by omega) C1)
      have D2 : wr.cell? ⟨w1.heap.size, 2, none⟩ = some (.float .f64 Z) := carry BR (by omega) (carry ((Below.refl _ _).alloc (Nat.le_refl _) _) (by omega) C2)
      have E0 : wr.cell? ⟨w2.heap.size, 0, none⟩ = some (.float .f64 y) := carry BR (by omega) (by simp [go_sem])
      have E1 : wr.cell? ⟨w2.heap.size, 1, none⟩ = some (.float .f64 x) := carry BR (by omega) (by simp [go_sem])
      have E2 : wr.cell? ⟨w2.heap.size, 2, none⟩ = some (.float .f64 nx) := carry BR (by omega) (by simp [go_sem])
      have E3 : wr.cell? ⟨w2.heap.size, 3, none⟩ = some (.float .f64 y) := carry BR (by omega) (by simp [go_sem])
      have E4 : wr.cell? ⟨w2.heap.size, 4, none⟩ = some (.float .f64 x) := carry BR (by omega) (by simp [go_sem])
      have E5 : wr.cell? ⟨w2.heap.size, 5, none⟩ = some (.float .f64 ny) := carry BR (by omega) (by simp [go_sem])
      have y1 : w1.heap.size < wr.heap.size := by omega
      clear C0 C1 C2
      by_cases hlt : k < 3
      · have hk3 : k = 0 ∨ k = 1 ∨ k = 2 := by omega
        clear hk hlt
        rcases hk3 with rfl | rfl | rfl
        · go_wp2_with fail
          refine (H1.out _).mono ?_
          rintro e wa ⟨rfl, ba⟩
          have za := ba.size
          simp at za
          have F0 : wa.cell? ⟨w1.heap.size, 0, none⟩ = some (.float .f64 X) := carry ba (by simp; omega) (carry ((Below.refl _ _).alloc (Nat.le_refl _) _) (by omega) D0)
          have F1 : wa.cell? ⟨w1.heap.size, 1, none⟩ = some (.float .f64 0) := carry ba (by simp; omega) (carry ((Below.refl _ _).alloc (Nat.le_refl _) _) (by omega) D1)
          have F2 : wa.cell? ⟨w1.heap.size, 2, none⟩ = some (.float .f64 Z) := carry ba (by simp; omega) (carry ((Below.refl _ _).alloc (Nat.le_refl _) _) (by omega) D2)
          have G0 : wa.cell? ⟨wr.heap.size, 0, none⟩ = some (.float .f64 y) := carry ba (by simp) (by simp [go_sem])
          have G1 : wa.cell? ⟨wr.heap.size, 1, none⟩ = some (.float .f64 x) := carry ba (by simp) (by simp [go_sem])
          have BA : Below (w2.heap.size + 1) _ wa := BR.trans ((below_of_alloc ba).mono (by simp; omega))
          clear D0 D1 D2 E0 E1 E2 E3 E4 E5 ba
          have y2 : w1.heap.size < wa.heap.size := by omega
          have y3 : wr.heap.size < wa.heap.size := by omega
          go_wp2_with fail
          refine (I1.out _).mono ?_
          rintro e wb ⟨rfl, bb⟩
          have zb := bb.size
          simp at zb
          have J0 : wb.cell? ⟨w1.heap.size, 0, none⟩ = some (.float .f64 X) := carry bb (by simp; omega) (carry ((Below.refl _ _).alloc (Nat.le_refl _) _) (by omega) F0)
          have J1 : wb.cell? ⟨w1.heap.size, 1, none⟩ = some (.float .f64 0) := carry bb (by simp; omega) (carry ((Below.refl _ _).alloc (Nat.le_refl _) _) (by omega) F1)
          have J2 : wb.cell? ⟨w1.heap.size, 2, none⟩ = some (.float .f64 Z) := carry bb (by simp; omega) (carry ((Below.refl _ _).alloc (Nat.le_refl _) _) (by omega) F2)
          have K0 : wb.cell? ⟨wa.heap.size, 0, none⟩ = some (.float .f64 X) := carry bb (by simp) (by simp [go_sem])
          have K1 : wb.cell? ⟨wa.heap.size, 1, none⟩ = some (.float .f64 0) := carry bb (by simp) (by simp [go_sem])
          have K2 : wb.cell? ⟨wa.heap.size, 2, none⟩ = some (.float .f64 Z) := carry bb (by simp) (by simp [go_sem])
          have BB : Below (w2.heap.size + 1) _ wb := BA.trans ((below_of_alloc bb).mono (by simp; omega))
          clear F0 F1 F2 G0 G1 bb BA
          go_wp2_with fail
          refine (same3_any _ _ _ _).mono ?_
          rintro e wc ⟨rfl, bc⟩
          have BC : Below (w2.heap.size + 1) _ wc := BB.trans (bc.mono (by omega))
          clear J0 J1 J2 K0 K1 K2
          go_wp2_with fail
          go_roundw
          case rel => exact ⟨1, by omega, rfl, BC⟩
          case measure => simp [intOf]
        · go_wp2_with fail
          refine (H2.out _).mono ?_
          rintro e wa ⟨rfl, ba⟩
          have za := ba.size
          simp at za
          have F0 : wa.cell? ⟨w1.heap.size, 0, none⟩ = some (.float .f64 X) := carry ba (by simp; omega) (carry ((Below.refl _ _).alloc (Nat.le_refl _) _) (by omega) D0)
          have F1 : wa.cell? ⟨w1.heap.size, 1, none⟩ = some (.float .f64 0) := carry ba (by simp; omega) (carry ((Below.refl _ _).alloc (Nat.le_refl _) _) (by omega) D1)
          have F2 : wa.cell? ⟨w1.heap.size, 2, none⟩ = some (.float .f64 Z) := carry ba (by simp; omega) (carry ((Below.refl _ _).alloc (Nat.le_refl _) _) (by omega) D2)
          have G0 : wa.cell? ⟨wr.heap.size, 0, none⟩ = some (.float .f64 nx) := carry ba (by simp) (by simp [go_sem])
          have G1 : wa.cell? ⟨wr.heap.size, 1, none⟩ = some (.float .f64 y) := carry ba (by simp) (by simp [go_sem])
          have BA : Below (w2.heap.size + 1) _ wa := BR.trans ((below_of_alloc ba).mono (by simp; omega))
          clear D0 D1 D2 E0 E1 E2 E3 E4 E5 ba
          have y2 : w1.heap.size < wa.heap.size := by omega
          have y3 : wr.heap.size < wa.heap.size := by omega
          go_wp2_with fail
          refine (I2.out _).mono ?_
          rintro e wb ⟨rfl, bb⟩
          have zb := bb.size
          simp at zb
          have J0 : wb.cell? ⟨w1.heap.size, 0, none⟩ = some (.float .f64 X) := carry bb (by simp; omega) (carry ((Below.refl _ _).alloc (Nat.le_refl _) _) (by omega) F0)
          have J1 : wb.cell? ⟨w1.heap.size, 1, none⟩ = some (.float .f64 0) := carry bb (by simp; omega) (carry ((Below.refl _ _).alloc (Nat.le_refl _) _) (by omega) F1)
          have J2 : wb.cell? ⟨w1.heap.size, 2, none⟩ = some (.float .f64 Z) := carry bb (by simp; omega) (carry ((Below.refl _ _).alloc (Nat.le_refl _) _) (by omega) F2)
          have K0 : wb.cell? ⟨wa.heap.size, 0, none⟩ = some (.float .f64 X) := carry bb (by simp) (by simp [go_sem])
          have K1 : wb.cell? ⟨wa.heap.size, 1, none⟩ = some (.float .f64 0) := carry bb (by simp) (by simp [go_sem])
          have K2 : wb.cell? ⟨wa.heap.size, 2, none⟩ = some (.float .f64 Z) := carry bb (by simp) (by simp [go_sem])
          have BB : Below (w2.heap.size + 1) _ wb := BA.trans ((below_of_alloc bb).mono (by simp; omega))
          clear F0 F1 F2 G0 G1 bb BA
          go_wp2_with fail
          refine (same3_any _ _ _ _).mono ?_
          rintro e wc ⟨rfl, bc⟩
          have BC : Below (w2.heap.size + 1) _ wc := BB.trans (bc.mono (by omega))
          clear J0 J1 J2 K0 K1 K2
          go_wp2_with fail
          go_roundw
          case rel => exact ⟨2, by omega, rfl, BC⟩
          case measure => simp [intOf]
        · go_wp2_with fail
          refine (H3.out _).mono ?_
          rintro e wa ⟨rfl, ba⟩
          have za := ba.size
          simp at za
          have F0 : wa.cell? ⟨w1.heap.size, 0, none⟩ = some (.float .f64 X) := carry ba (by simp; omega) (carry ((Below.refl _ _).alloc (Nat.le_refl _) _) (by omega) D0)
          have F1 : wa.cell? ⟨w1.heap.size, 1, none⟩ = some (.float .f64 0) := carry ba (by simp; omega) (carry ((Below.refl _ _).alloc (Nat.le_refl _) _) (by omega) D1)
          have F2 : wa.cell? ⟨w1.heap.size, 2, none⟩ = some (.float .f64 Z) := carry ba (by simp; omega) (carry ((Below.refl _ _).alloc (Nat.le_refl _) _) (by omega) D2)
          have G0 : wa.cell? ⟨wr.heap.size, 0, none⟩ = some (.float .f64 x) := carry ba (by simp) (by simp [go_sem])
          have G1 : wa.cell? ⟨wr.heap.size, 1, none⟩ = some (.float .f64 ny) := carry ba (by simp) (by simp [go_sem])
          have BA : Below (w2.heap.size + 1) _ wa := BR.trans ((below_of_alloc ba).mono (by simp; omega))
          clear D0 D1 D2 E0 E1 E2 E3 E4 E5 ba
          have y2 : w1.heap.size < wa.heap.size := by omega
          have y3 : wr.heap.size < wa.heap.size := by omega
          go_wp2_with fail
          refine (I3.out _).mono ?_
          rintro e wb ⟨rfl, bb⟩
          have zb := bb.size
          simp at zb
          have J0 : wb.cell? ⟨w1.heap.size, 0, none⟩ = some (.float .f64 X) := carry bb (by simp; omega) (carry ((Below.refl _ _).alloc (Nat.le_refl _) _) (by omega) F0)
          have J1 : wb.cell? ⟨w1.heap.size, 1, none⟩ = some (.float .f64 0) := carry bb (by simp; omega) (carry ((Below.refl _ _).alloc (Nat.le_refl _) _) (by omega) F1)
          have J2 : wb.cell? ⟨w1.heap.size, 2, none⟩ = some (.float .f64 Z) := carry bb (by simp; omega) (carry ((Below.refl _ _).alloc (Nat.le_refl _) _) (by omega) F2)
          have K0 : wb.cell? ⟨wa.heap.size, 0, none⟩ = some (.float .f64 X) := carry bb (by simp) (by simp [go_sem])
          have K1 : wb.cell? ⟨wa.heap.size, 1, none⟩ = some (.float .f64 0) := carry bb (by simp) (by simp [go_sem])
          have K2 : wb.cell? ⟨wa.heap.size, 2, none⟩ = some (.float .f64 Z) := carry bb (by simp) (by simp [go_sem])
          have BB : Below (w2.heap.size + 1) _ wb := BA.trans ((below_of_alloc bb).mono (by simp; omega))
          clear F0 F1 F2 G0 G1 bb BA
          go_wp2_with fail
          refine (same3_any _ _ _ _).mono ?_
          rintro e wc ⟨rfl, bc⟩
          have BC : Below (w2.heap.size + 1) _ wc := BB.trans (bc.mono (by omega))
          clear J0 J1 J2 K0 K1 K2
          go_wp2_with fail
          go_roundw
          case rel => exact ⟨3, by omega, rfl, BC⟩
          case measure => simp [intOf]
      · obtain rfl : k = 3 := by omega
        have hBr : Below wr.heap.size wr wr := Below.refl _ _
        go_wp2_with (first | (go_at_call 20; first | ((with_reducible refine (A1.out _).mono ?_); rintro e w' ⟨rfl, rfl⟩) | ((with_reducible refine (A2.out _).mono ?_); rintro e w' ⟨rfl, rfl⟩)) | (go_at_call 19; first | ((with_reducible refine (chain P1 hBr).mono ?_); clear hBr P1; rintro e w3 ⟨rfl, hBr⟩) | ((with_reducible refine (chain P2 hBr).mono ?_); clear hBr P2; rintro e w4 ⟨rfl, hBr⟩)))
        refine (chain HU hBr).mono ?_
        clear hBr
        rintro e w5 ⟨rfl, hBr⟩
        have z5 := hBr.size
        have L0 : w5.cell? ⟨w1.heap.size, 0, none⟩ = some (.float .f64 X) := carry hBr y1 D0
        have L2 : w5.cell? ⟨w1.heap.size, 2, none⟩ = some (.float .f64 Z) := carry hBr y1 D2
        have y5 : w1.heap.size < w5.heap.size := by omega
        have BT : Below w.heap.size w w5 := BS.trans ((BR.trans (hBr.mono (by omega))).mono (by omega))
        have zt := BT.size
        clear D0 D1 D2 E0 E1 E2 E3 E4 E5 hBr
        go_wp2_with fail
        refine (AW.out _).mono ?_
        rintro e w6 ⟨rfl, b6⟩
        go_wp2_with fail
        go_ret
        exact ⟨rfl, (BT.alloc zt _).trans (b6.mono (by first | omega | (simp; omega)))⟩

theorem rayTurned_walk (x y p q : Nat) (w : World) (hx : Dy.W x) (hy : Dy.W y) (hp : p < 65536) (hq : q < 65536) :
    Calls Try.prog 4 #[.float .f64 x, .float .f64 y, .int .u16 (p : Int), .int .u16 (q : Int)] w fun e w' => e = .returned (.bool true) ∧ Below w.heap.size w w' := by
  have hc : Dy.may x = true ∧ Dy.may y = true ∨ Dy.may x = false ∨ Dy.may x = true ∧ Dy.may y = false := by
    generalize Dy.may x = a
    generalize Dy.may y = b
    cases a <;> cases b <;> decide
  have AW := awakes25
  have MX := hid (fun w => may25_any x w hx)
  have MY := hid (fun w => may25_any y w hy)
  rcases hc with ⟨m1, m2⟩ | m1 | ⟨m1, m2⟩
  · exact rayTurned_may x y p q _ w hx hy m1 m2 hp hq rfl
  all_goals
    rw [m1] at MX
    try rw [m2] at MY
    clear m1
    go_enter Try.func4, Try.ntmps4
    go_wp2_with (first | (go_at_call 16; first | ((with_reducible refine (MX.out _).mono ?_); rintro e w' ⟨rfl, rfl⟩) | ((with_reducible refine (MY.out _).mono ?_); rintro e w' ⟨rfl, rfl⟩)) | (go_at_call 18; (with_reducible refine (AW.out _).mono ?_); rintro e w' ⟨rfl, hB⟩))
    go_ret
    exact ⟨rfl, hB⟩
end Go.Proofs.Ytfjomcbbgnaaiaa
