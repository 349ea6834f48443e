/- The law MirrorBack: walk and plain law joined. -/
import Derived.Test.YthmkjnhgialnlaaLa10
import Derived.Test.YthmkjnhgialnlaaRq
namespace Go.Proofs.Ythmkjnhgialnlaa
open Go Go.RowKit

theorem bdm {p : Int × Int} {L : Rat} (h : Dy.Bd p L 1 2) (hL : -1 ≤ L) : Dy.Bd p (-1) 1 2 := h.mono ⟨hL, Rat.le_refl, Rat.le_refl⟩
set_option maxRecDepth 100000 in
set_option maxHeartbeats 4000000 in
theorem mback_any (u0 u1 u2 u3 u4 u5 : Nat) (w : World) (k0 : u0 < 4294967296) (k1 : u1 < 4294967296) (k2 : u2 < 4294967296) (k3 : u3 < 4294967296) (k4 : u4 < 4294967296) (k5 : u5 < 4294967296) : Calls Try.prog 11 #[.agg #[.int .u32 ((u0 : Nat) : Int), .int .u32 ((u1 : Nat) : Int), .int .u32 ((u2 : Nat) : Int), .int .u32 ((u3 : Nat) : Int), .int .u32 ((u4 : Nat) : Int), .int .u32 ((u5 : Nat) : Int)]] w fun e w' => e = .returned (.bool true) ∧ Below w.heap.size w w' := by
  obtain ⟨x, y, z, p, q, r, t, D⟩ := dir3 k0 k1 k2
  obtain ⟨x', y', z', p', q', r', t', D'⟩ := dir3 k3 k4 k5
  have bp := D.bp; have bq := D.bq; have br := bdm D.br (by decide +kernel)
  have bp' := D'.bp; have bq' := D'.bq; have br' := bdm D'.br (by decide +kernel)
  have U := D.u3; have U' := D'.u3
  obtain ⟨a, b, c, eR, ba, bb, bc, ha, hb, hc⟩ := reflG_num bp bq br bp' bq' br' D.hp D.hq D.hr D'.hp D'.hq D'.hr U U'
  have V := U.back U'
  obtain ⟨a2, b2, c2, eR2, ba2, bb2, bc2, ha2, hb2, hc2⟩ := reflG_num ba bb bc bp' bq' br' ha hb hc D'.hp D'.hq D'.hr V U'
  obtain ⟨m1, m2, m3, m4, m5, g1, g2, g3, g4, g5, rm, hm⟩ := dot_num bp bq br bp' bq' br' D.hp D.hq D.hr D'.hp D'.hq D'.hr
  obtain ⟨n1, n2, n3, n4, n5, l1, l2, l3, l4, l5, rn, hn⟩ := dot_num ba bb bc bp' bq' br' ha hb hc D'.hp D'.hq D'.hr
  obtain ⟨s1, s2, s3, s4, s5, o1, o2, o3, o4, o5, rs, hs⟩ := dot_num ba bb bc ba bb bc ha hb hc ha hb hc
  have i : ∀ {p : Int × Int}, Dy.Bd p (-1) 1 2 → In1 p := fun h => in1_bd h (by decide +kernel)
  have ok1 : Dy.ok 4607182418800017408 := Dy.ok_B (by decide) (by decide)
  have near1 := V.n
  have c1 : s5.1 ≤ 4607182418800017408 := Dy.val_le.1 (by
    rw [Dy.val_one]
    exact Dy.near_le (x := fun _ => (1 : Rat)) near1.symm (fun _ => Rat.le_refl) (fun κ => (hs κ).lo))
  have c2' : 4607182418800017408 ≤ s5.2 := Dy.val_le.1 (by
    rw [Dy.val_one]
    exact Dy.near_le (y := fun _ => (1 : Rat)) near1 (fun κ => (hs κ).hi) (fun _ => Rat.le_refl))
  obtain ⟨bx, by', bz⟩ := U'.bnd
  exact mirrorback_ok u0 u1 u2 u3 u4 u5 w D.ex D.ey D.ez D.eG D'.ex D'.ey D'.ez D'.eG rfl rfl D.gt D'.gt D.nx D.ny D.nz D.nr D'.nx D'.ny D'.nz D'.nr
    eR (nM6_ok (i bp) (i bq) (i br) (i bp') (i bq') (i br')) eR2 (nM6_ok (i ba) (i bb) (i bc) (i bp') (i bq') (i br'))
    g1.1 g2.1 g3.1 g4.1 g5.1 l1.1 l2.1 l3.1 l4.1 l5.1 o1.1 o2.1 o3.1 o4.1 o5.1 rfl rfl rfl (meets_hasS rm rn hm hn (back_dot U U').symm) (le_true rs.lo ok1 c1) (ge_true rs.hi ok1 c2')
    (meets_hasS ba2.rk bp.rk ha2 D.hp (back_back U U' bx)) (meets_hasS bb2.rk bq.rk hb2 D.hq (back_back U U' by')) (meets_hasS bc2.rk br.rk hc2 D.hr (back_back U U' bz))
end Go.Proofs.Ythmkjnhgialnlaa
