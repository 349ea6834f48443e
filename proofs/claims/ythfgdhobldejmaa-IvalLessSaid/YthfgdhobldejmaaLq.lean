/- The law IvalLess: walk and plain law joined. -/
import Derived.Test.YthfgdhobldejmaaLp
namespace Go.Proofs.Ythfgdhobldejmaa
open Go Go.RowKit

theorem rN_enc {y z : Int} (hy : Dy.ok y) (hz : Dy.ok z) : rN [.f (Dy.enc y), .f (Dy.enc z)] = true := by
  show (Dy.right (Dy.enc y) && Dy.right (Dy.enc z)) = true
  rw [Dy.right_enc hy, Dy.right_enc hz]; rfl
theorem nIv_enc {p : Int × Int} (hp : Dy.Rk p) : nIv [.f (Dy.enc p.1), .f (Dy.enc p.2)] = true := hp.E_R
theorem pair3 (r : (Nat × Nat) × Int) : r = ((r.1.1, r.1.2), r.2) := rfl
set_option maxHeartbeats 8000000 in
theorem less_any (k : Int) (a1 a2 b1 b2 m0 m1 m2 m3 : Nat) (w : World) (w1 : Dy.W a1) (w2 : Dy.W a2) (w3 : Dy.W b1) (w4 : Dy.W b2) (hk : 0 ≤ k) (k0 : m0 < 65536) (k1 : m1 < 65536) (k2 : m2 < 65536) (k3 : m3 < 65536) :
    Calls Try.prog 9 #[.agg #[.int .u8 k, .float .f64 a1, .float .f64 a2, .float .f64 b1, .float .f64 b2], .int .u16 m0, .int .u16 m1, .int .u16 m2, .int .u16 m3] w fun e w' => e = .returned (.bool true) ∧ Below w.heap.size w w' := by
  cases ra : Dy.ivR (a1, a2) with
  | false => exact less_w1 k a1 a2 b1 b2 m0 m1 m2 m3 w w1 w2 w3 w4 ra
  | true =>
    cases rb : Dy.ivR (b1, b2) with
    | false => exact less_w2 k a1 a2 b1 b2 m0 m1 m2 m3 w w1 w2 w3 w4 ra rb
    | true =>
      obtain ⟨x, hx, ex⟩ := Dy.rk_of (a := (a1, a2)) ⟨w1, w2⟩ ra
      obtain ⟨y, hy, ey⟩ := Dy.rk_of (a := (b1, b2)) ⟨w3, w4⟩ rb
      obtain ⟨rfl, rfl⟩ := Prod.mk.inj (show (a1, a2) = (Dy.enc x.1, Dy.enc x.2) from ex)
      obtain ⟨rfl, rfl⟩ := Prod.mk.inj (show (b1, b2) = (Dy.enc y.1, Dy.enc y.2) from ey)
      cases ten : (k.tmod 11 == 10) with
      | false =>
        have hX : Dy.Rk x := hx
        obtain ⟨z0, e0, l0, u0, o0⟩ := btw_in hX (m0 : Int)
        obtain ⟨z1, e1, l1, u1, o1⟩ := btw_in hX (m1 : Int)
        obtain ⟨z2, e2, l2, u2, o2⟩ := btw_in hy (m2 : Int)
        obtain ⟨z3, e3, l3, u3, o3⟩ := btw_in hy (m3 : Int)
        have hU : Dy.Rk (min z0 z1, max z0 z1) := ⟨Dy.ok_min2 o0 o1, Dy.ok_max2 o0 o1, by dsimp only; omega⟩
        have hV : Dy.Rk (min z2 z3, max z2 z3) := ⟨Dy.ok_min2 o2 o3, Dy.ok_max2 o2 o3, by dsimp only; omega⟩
        have wU : Dy.Wi (min z0 z1, max z0 z1) x := by (try dsimp only at l0 l1 u0 u1); constructor <;> (dsimp only; omega)
        have wV : Dy.Wi (min z2 z3, max z2 z3) y := by constructor <;> (dsimp only; omega)
        by_cases hE : (opAsk k 0 (Dy.enc x.1, Dy.enc x.2) (Dy.enc y.1, Dy.enc y.2)).2 = 0
        · obtain ⟨s, hs⟩ := got_good (ask_good (err := 0) hk hX hy) (show (opAsk k 0 (Dy.E x) (Dy.E y)).2 = 0 from hE)
          obtain ⟨s', hs', hw⟩ := ask_mono hk hX hy hU hV wU wV (fun h => by rw [ten] at h; cases h) hs
          have q1 : opAsk k 0 (Dy.enc x.1, Dy.enc x.2) (Dy.enc y.1, Dy.enc y.2) = ((Dy.enc s.1, Dy.enc s.2), 0) := hs.1
          have q2 : opAsk k 0 (Dy.enc (min z0 z1), Dy.enc (max z0 z1)) (Dy.enc (min z2 z3), Dy.enc (max z2 z3)) = ((Dy.enc s'.1, Dy.enc s'.2), 0) := hs'.1
          exact less_of k _ _ _ _ m0 m1 m2 m3 w w1 w2 w3 w4 hx.E_R hy.E_R rfl ten e0 e1 (Dy.dmin_enc o0 o1) (Dy.dmax_enc o0 o1) (prt_ok k0) (prt_ok k1) (rN_enc o0 o1) e2 e3 (Dy.dmin_enc o2 o3) (Dy.dmax_enc o2 o3) (prt_ok k2) (prt_ok k3) (rN_enc o2 o3)
            q1 (nIv_enc hX) (nIv_enc hy) q2 (nIv_enc hU) (nIv_enc hV) rfl rfl (by rw [Dy.fle_enc hs.rk.lo hs'.rk.lo, decide_eq_true_eq]; exact hw.lo) (by rw [Dy.fle_enc hs'.rk.hi hs.rk.hi, decide_eq_true_eq]; exact hw.hi)
        · have q1 := pair3 (opAsk k 0 (Dy.enc x.1, Dy.enc x.2) (Dy.enc y.1, Dy.enc y.2))
          exact less_ef k _ _ _ _ m0 m1 m2 m3 w w1 w2 w3 w4 hx.E_R hy.E_R rfl ten e0 e1 (Dy.dmin_enc o0 o1) (Dy.dmax_enc o0 o1) (prt_ok k0) (prt_ok k1) (rN_enc o0 o1) e2 e3 (Dy.dmin_enc o2 o3) (Dy.dmax_enc o2 o3) (prt_ok k2) (prt_ok k3) (rN_enc o2 o3)
            q1 (nIv_enc hX) (nIv_enc hy) (pair3 _) (nIv_enc hU) (nIv_enc hV) (bne_iff_ne.2 hE)
      | true =>
        have hX : Dy.Rk (x.1, x.1) := ⟨hx.lo, hx.lo, Int.le_refl _⟩
        obtain ⟨z0, e0, l0, u0, o0⟩ := btw_in hX (m0 : Int)
        obtain ⟨z1, e1, l1, u1, o1⟩ := btw_in hX (m1 : Int)
        obtain ⟨z2, e2, l2, u2, o2⟩ := btw_in hy (m2 : Int)
        obtain ⟨z3, e3, l3, u3, o3⟩ := btw_in hy (m3 : Int)
        have hU : Dy.Rk (min z0 z1, max z0 z1) := ⟨Dy.ok_min2 o0 o1, Dy.ok_max2 o0 o1, by dsimp only; omega⟩
        have hV : Dy.Rk (min z2 z3, max z2 z3) := ⟨Dy.ok_min2 o2 o3, Dy.ok_max2 o2 o3, by dsimp only; omega⟩
        have wU : Dy.Wi (min z0 z1, max z0 z1) (x.1, x.1) := by (try dsimp only at l0 l1 u0 u1); constructor <;> (dsimp only; omega)
        have wV : Dy.Wi (min z2 z3, max z2 z3) y := by constructor <;> (dsimp only; omega)
        by_cases hE : (opAsk k 0 (Dy.enc x.1, Dy.enc x.1) (Dy.enc y.1, Dy.enc y.2)).2 = 0
        · obtain ⟨s, hs⟩ := got_good (ask_good (err := 0) hk hX hy) (show (opAsk k 0 (Dy.E (x.1, x.1)) (Dy.E y)).2 = 0 from hE)
          obtain ⟨s', hs', hw⟩ := ask_mono hk hX hy hU hV wU wV (fun _ => rfl) hs
          have q1 : opAsk k 0 (Dy.enc x.1, Dy.enc x.1) (Dy.enc y.1, Dy.enc y.2) = ((Dy.enc s.1, Dy.enc s.2), 0) := hs.1
          have q2 : opAsk k 0 (Dy.enc (min z0 z1), Dy.enc (max z0 z1)) (Dy.enc (min z2 z3), Dy.enc (max z2 z3)) = ((Dy.enc s'.1, Dy.enc s'.2), 0) := hs'.1
          exact less_ot k _ _ _ _ m0 m1 m2 m3 w w1 w2 w3 w4 hx.E_R hy.E_R rfl ten e0 e1 (Dy.dmin_enc o0 o1) (Dy.dmax_enc o0 o1) (prt_ok k0) (prt_ok k1) (rN_enc o0 o1) e2 e3 (Dy.dmin_enc o2 o3) (Dy.dmax_enc o2 o3) (prt_ok k2) (prt_ok k3) (rN_enc o2 o3)
            q1 (nIv_enc hX) (nIv_enc hy) q2 (nIv_enc hU) (nIv_enc hV) rfl rfl (by rw [Dy.fle_enc hs.rk.lo hs'.rk.lo, decide_eq_true_eq]; exact hw.lo) (by rw [Dy.fle_enc hs'.rk.hi hs.rk.hi, decide_eq_true_eq]; exact hw.hi)
        · have q1 := pair3 (opAsk k 0 (Dy.enc x.1, Dy.enc x.1) (Dy.enc y.1, Dy.enc y.2))
          exact less_et k _ _ _ _ m0 m1 m2 m3 w w1 w2 w3 w4 hx.E_R hy.E_R rfl ten e0 e1 (Dy.dmin_enc o0 o1) (Dy.dmax_enc o0 o1) (prt_ok k0) (prt_ok k1) (rN_enc o0 o1) e2 e3 (Dy.dmin_enc o2 o3) (Dy.dmax_enc o2 o3) (prt_ok k2) (prt_ok k3) (rN_enc o2 o3)
            q1 (nIv_enc hX) (nIv_enc hy) (pair3 _) (nIv_enc hU) (nIv_enc hV) (bne_iff_ne.2 hE)
end Go.Proofs.Ythfgdhobldejmaa
