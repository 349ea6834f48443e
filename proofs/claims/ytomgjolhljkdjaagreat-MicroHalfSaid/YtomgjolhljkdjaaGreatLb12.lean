/- The law MicroHalf: walk and plain law joined. -/
import Derived.Test.YtomgjolhljkdjaaGreatLa12
import Derived.Test.YtomgjolhljkdjaaGreatJm
import Derived.Test.YtomgjolhljkdjaaGreatRx
namespace Go.Proofs.YtomgjolhljkdjaaGreat
open Go Go.RowKit

set_option maxRecDepth 100000 in
set_option maxHeartbeats 4000000 in
theorem mihalf_any (u0 u1 u2 u3 u4 u5 : Nat) (w : World) (k0 : u0 < 4294967296) (k1 : u1 < 4294967296) (k2 : u2 < 4294967296) (k3 : u3 < 4294967296) (k4 : u4 < 4294967296) (k5 : u5 < 4294967296) : Calls Tryz.prog 3 #[.agg #[.int .u32 ((u0 : Nat) : Int), .int .u32 ((u1 : Nat) : Int), .int .u32 ((u2 : Nat) : Int), .int .u32 ((u3 : Nat) : Int), .int .u32 ((u4 : Nat) : Int), .int .u32 ((u5 : Nat) : Int)]] w fun e w' => e = .returned (.bool true) ∧ Below w.heap.size w w' := by
  obtain ⟨x, y, z, p, q, r, t, D⟩ := dir3 k0 k1 k2
  obtain ⟨x', y', z', p', q', r', t', D'⟩ := dir3 k3 k4 k5
  have U := D.u3; have U' := D'.u3
  obtain ⟨s1, s2, s3, q1, q2, u, q3, v, n, hn, ln, th, tw, d1, d2, d3, d4, d5, ad, sq, hs, h, l, o1, o2, o3, o4, o5, o6, o7, o8, o9, o10, o11, o12, o13, o14, o15, o16, o17, o18, o19, o20, o21, rh, rl, r3, rtw, rhs, rsq, m3, mtw, ntw, mhs, msq, nhs⟩ := mhalf_num D.bp D.bq D.br D'.bp D'.bq D'.br D.hp D.hq D.hr D'.hp D'.hq D'.hr U U'
  obtain ⟨e1, e2, r1⟩ := clip_parts rh
  obtain ⟨e3, e4, r2⟩ := clip_parts rl
  have one : Dy.cNum 0 4607182418800017408 = ((4607182418800017408, 4607182418800017408), 0) := by decide +kernel
  have two : Dy.cNum 0 4611686018427387904 = ((4611686018427387904, 4611686018427387904), 0) := by decide +kernel
  have half : Dy.cNum 0 4602678819172646912 = ((4602678819172646912, 4602678819172646912), 0) := by decide +kernel
  have ok1 : Dy.ok 4607182418800017408 := Dy.ok_B (by decide) (by decide)
  have r0 := D.r0; have r0' := D'.r0
  have look := look_ok D.ip D.iq D.ir D'.ip D'.iq D'.ir (by omega) (by omega)
  have cl : ∀ (p : Int × Int), 0 ≤ (Dy.rClip 0 4607182418800017408 p).1 ∧ (Dy.rClip 0 4607182418800017408 p).2 ≤ 4607182418800017408 := fun p => ⟨by show 0 ≤ min (max p.1 0) _; omega, by show min (max p.2 0) _ ≤ _; omega⟩
  have A := meets_hasS r3 rtw m3 mtw ntw.symm
  have B := meets_hasS rhs rsq mhs msq nhs
  have a1 := ge_true (y := 0) r2.lo Dy.ok_zero (cl ln).1
  have a2 := le_true (y := 4607182418800017408) r2.hi ok1 (cl ln).2
  have a3 := le_true (y := 4607182418800017408) r1.hi ok1 (cl hn).2
  exact microhalf_ok u0 u1 u2 u3 u4 u5 w D.ex D.ey D.ez D.eG D'.ex D'.ey D'.ez D'.eG rfl rfl D.gt D'.gt D.nx D.ny D.nz D.nr D'.nx D'.ny D'.nz D'.nr
    look rfl o1.1 o2.1 o3.1 o4.1 o5.1 o6.1 o7.1 o8.1 o9.1 half o10.1 rfl e1 rfl e2 o3.1 o11.1 rfl e3 rfl e4 rfl
    (rn_0 rh.lo) (rn_1 rh.lo) (rn_0 rh.hi) (rn_1 rh.hi) (rn_0 rl.lo) (rn_1 rl.lo) (rn_0 rl.hi) (rn_1 rl.hi)
    o3.1 two o12.1 o13.1 one o14.1 o15.1 o16.1 o17.1 o18.1 o19.1 two o20.1 rfl A o21.1 B a1 a2 a3
end Go.Proofs.YtomgjolhljkdjaaGreat
