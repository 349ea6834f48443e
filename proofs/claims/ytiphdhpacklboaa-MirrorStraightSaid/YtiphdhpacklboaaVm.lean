/- A reckoning of programs by symbols: mirrors; the examples of burnishlaw14. -/
import Derived.Test.YtiphdhpacklboaaVb
import Derived.Test.YtiphdhpacklboaaCf
import Derived.Test.YtiphdhpacklboaaCd
namespace Go.Proofs.Ytiphdhpacklboaa
open Go Go.RowKit
set_option linter.unusedSimpArgs false
set_option linter.unusedVariables false

section
variable {P : Program} {cts : List (Nat × Ct)} {dr : Array Oper → SF → (SF → T) → T}
theorem CtOk.of_eval2P (hcts : AllOk P cts) (hdr : DrOk P dr) {f : Nat} {fn : Func} (hf : P.funcs[f]? = some fn) (hb : fn.body.isSome = true) (hn : (fn.name == "runtime.NumGoroutine") = false) (lh : List (Nat × LHint)) (fuel : Nat) {ct : Ct} (hct : ctB ct none = true) (hnew : ct.eff.new = none) (o : List Bool) (t : T) (ht : (evF P cts dr lh fuel fn ct.m ct.blks ct.args none).prune o = t)
    (hv0 : (ct.args.all fun a => varsIn ct.m a) = true) (hv1 : (ct.blks.all fun c => c.all fun a => varsIn ct.m a) = true)
    (H : ∀ us, us.length = ct.m → FactsL us ct.args → FactsB us ct.blks → NeedsAt (runB ct.eff.binds us) ct.eff.needs → t.holds (Leaf2 ct (runB ct.eff.binds us)) us) : CtOk P f ct :=
  CtOk.of_eval hcts hdr hf hb hn lh fuel hct rfl (fun us h1 h2 h3 h4 => T.prune_holds _ o (by rw [ht]; exact T.holds_mono (fun _ _ _ h => h.leaf hnew) t (H us h1 h2 h3 h4))) hv0 hv1
end
/-- What a mirror sends back, with its error. -/
def reflG (a b c d e f : Nat × Nat) : ((Nat × Nat) × (Nat × Nat) × (Nat × Nat)) × Int := if ((reflM a b c d e f 0).2 != 0) = true then (((0, 0), (0, 0), (0, 0)), (reflM a b c d e f 0).2) else ((Dy.clip 13830554455654793216 4607182418800017408 (reflM a b c d e f 0).1.1, Dy.clip 13830554455654793216 4607182418800017408 (reflM a b c d e f 0).1.2.1, Dy.clip 13830554455654793216 4607182418800017408 (reflM a b c d e f 0).1.2.2), 0)
/-- Likewise, of what may not be. -/
def mW (a : Nat × Nat) : Bool := (Dy.fgt a.1 13830554455654793216 || Dy.feq a.1 13830554455654793216) && (Dy.flt a.2 4607182418800017408 || Dy.feq a.2 4607182418800017408)
def mJ (a : Nat × Nat) : Bool := Dy.ivR a && mW a
def nM6 (us : List U) : Bool := mJ (gF us 0, gF us 1) && mJ (gF us 2, gF us 3) && mJ (gF us 4, gF us 5) && mJ (gF us 6, gF us 7) && mJ (gF us 8, gF us 9) && mJ (gF us 10, gF us 11)
theorem mJ_of {a b : Nat} (h : mJ (a, b) = true) : Dy.ivR (a, b) = true ∧ (Dy.fgt a 13830554455654793216 || Dy.feq a 13830554455654793216) = true ∧ (Dy.flt b 4607182418800017408 || Dy.feq b 4607182418800017408) = true := by
  unfold mJ mW at h; rw [Bool.and_eq_true, Bool.and_eq_true] at h; exact ⟨h.1, h.2.1, h.2.2⟩
attribute [local irreducible] reflM
def w0 : List (Nat × Ct) := vx14
theorem w0_ok : AllOk Try.prog w0 := vx14_ok
def ctMParts : Ct := ⟨6, [], [.agg [vf 0, vf 1, vf 2, vf 3, vf 4, vf 5]], { binds := [], needs := [], val := .agg [.fl (.v 0), .fl (.v 1), .fl (.v 2), .fl (.v 3), .fl (.v 4), .fl (.v 5)], upd := [] }⟩
theorem ctMParts_ok : CtOk Try.prog 70 ctMParts := CtOk.flat w0_ok (dr_ok w0_ok) Try.func70 rfl (by decide) [] 200 ⟨[.agg [.fl (.v 0), .fl (.v 1), .fl (.v 2), .fl (.v 3), .fl (.v 4), .fl (.v 5)]], [], 6, []⟩ (by kernel_rfl) rfl (by kernel_rfl) rfl (by kernel_rfl) (by kernel_rfl) (by kernel_rfl) (by kernel_rfl)

def w1 : List (Nat × Ct) := (70, ctMParts) :: w0
theorem w1_ok : AllOk Try.prog w1 := ⟨ctMParts_ok, w0_ok⟩

def ctRefl : Ct := ⟨12, [], [.agg [vf 0, vf 1, vf 2, vf 3, vf 4, vf 5], .agg [vf 6, vf 7, vf 8, vf 9, vf 10, vf 11]], { binds := [⟨fun us i => vecU ((reflG (gF us 0, gF us 1) (gF us 2, gF us 3) (gF us 4, gF us 5) (gF us 6, gF us 7) (gF us 8, gF us 9) (gF us 10, gF us 11))) i, 7, upto 0 12⟩], needs := [⟨nM6, [.v 0, .v 1, .v 2, .v 3, .v 4, .v 5, .v 6, .v 7, .v 8, .v 9, .v 10, .v 11]⟩], val := .tup [.agg [vf 12, vf 13, vf 14, vf 15, vf 16, vf 17], vi .i64 18], upd := [] }⟩
set_option maxRecDepth 100000 in
set_option maxHeartbeats 8000000 in
theorem ctRefl_ok : CtOk Try.prog 27 ctRefl := by
  refine CtOk.of_eval2P w1_ok (dr_ok w1_ok) Try.func27 rfl (by decide) [] 200 (by kernel_rfl) rfl [true, true, true, true, true, true, true, true, true, true, true, true, true, true, true, true, false, false] (.bind ⟨fIv1 Dy.ivR, 1, [(.v 0), (.v 1)]⟩ (.bind ⟨fun us _ => cB (fun a b => Dy.fgt a b || Dy.feq a b) us, 1, [(.v 0), (.l (.f 13830554455654793216))]⟩ (.need ⟨pT, [(.v 13)]⟩ (.bind ⟨fun us _ => cB (fun a b => Dy.flt a b || Dy.feq a b) us, 1, [(.v 1), (.l (.f 4607182418800017408))]⟩ (.need ⟨pT, [(.v 12)]⟩ (.bind ⟨fIv1 Dy.ivR, 1, [(.v 2), (.v 3)]⟩ (.need ⟨pT, [(.v 14)]⟩ (.bind ⟨fun us _ => cB (fun a b => Dy.fgt a b || Dy.feq a b) us, 1, [(.v 2), (.l (.f 13830554455654793216))]⟩ (.need ⟨pT, [(.v 16)]⟩ (.bind ⟨fun us _ => cB (fun a b => Dy.flt a b || Dy.feq a b) us, 1, [(.v 3), (.l (.f 4607182418800017408))]⟩ (.need ⟨pT, [(.v 15)]⟩ (.bind ⟨fIv1 Dy.ivR, 1, [(.v 4), (.v 5)]⟩ (.need ⟨pT, [(.v 17)]⟩ (.bind ⟨fun us _ => cB (fun a b => Dy.fgt a b || Dy.feq a b) us, 1, [(.v 4), (.l (.f 13830554455654793216))]⟩ (.need ⟨pT, [(.v 19)]⟩ (.bind ⟨fun us _ => cB (fun a b => Dy.flt a b || Dy.feq a b) us, 1, [(.v 5), (.l (.f 4607182418800017408))]⟩ (.need ⟨pT, [(.v 18)]⟩ (.bind ⟨fIv1 Dy.ivR, 1, [(.v 6), (.v 7)]⟩ (.need ⟨pT, [(.v 20)]⟩ (.bind ⟨fun us _ => cB (fun a b => Dy.fgt a b || Dy.feq a b) us, 1, [(.v 6), (.l (.f 13830554455654793216))]⟩ (.need ⟨pT, [(.v 22)]⟩ (.bind ⟨fun us _ => cB (fun a b => Dy.flt a b || Dy.feq a b) us, 1, [(.v 7), (.l (.f 4607182418800017408))]⟩ (.need ⟨pT, [(.v 21)]⟩ (.bind ⟨fIv1 Dy.ivR, 1, [(.v 8), (.v 9)]⟩ (.need ⟨pT, [(.v 23)]⟩ (.bind ⟨fun us _ => cB (fun a b => Dy.fgt a b || Dy.feq a b) us, 1, [(.v 8), (.l (.f 13830554455654793216))]⟩ (.need ⟨pT, [(.v 25)]⟩ (.bind ⟨fun us _ => cB (fun a b => Dy.flt a b || Dy.feq a b) us, 1, [(.v 9), (.l (.f 4607182418800017408))]⟩ (.need ⟨pT, [(.v 24)]⟩ (.bind ⟨fIv1 Dy.ivR, 1, [(.v 10), (.v 11)]⟩ (.need ⟨pT, [(.v 26)]⟩ (.bind ⟨fun us _ => cB (fun a b => Dy.fgt a b || Dy.feq a b) us, 1, [(.v 10), (.l (.f 13830554455654793216))]⟩ (.need ⟨pT, [(.v 28)]⟩ (.bind ⟨fun us _ => cB (fun a b => Dy.flt a b || Dy.feq a b) us, 1, [(.v 11), (.l (.f 4607182418800017408))]⟩ (.bind ⟨fun us _ => nB us, 1, [(.v 27)]⟩ (.need ⟨pF, [(.v 30)]⟩ (.bind ⟨fun us _ => nB us, 1, [(.v 29)]⟩ (.need ⟨pF, [(.v 31)]⟩ (.bind ⟨calF0 Dy.cNum, 3, [(.l (.i 0)), (.l (.f 4611686018427387904))]⟩ (.bind ⟨calF2 Dy.cMul, 3, [(.v 34), (.v 0), (.v 1), (.v 6), (.v 7)]⟩ (.bind ⟨calF2 Dy.cMul, 3, [(.v 37), (.v 2), (.v 3), (.v 8), (.v 9)]⟩ (.bind ⟨calF2 Dy.cAdd, 3, [(.v 40), (.v 35), (.v 36), (.v 38), (.v 39)]⟩ (.bind ⟨calF2 Dy.cMul, 3, [(.v 43), (.v 4), (.v 5), (.v 10), (.v 11)]⟩ (.bind ⟨calF2 Dy.cAdd, 3, [(.v 46), (.v 41), (.v 42), (.v 44), (.v 45)]⟩ (.bind ⟨calF2 Dy.cMul, 3, [(.v 49), (.v 32), (.v 33), (.v 47), (.v 48)]⟩ (.bind ⟨calF2 Dy.cMul, 3, [(.v 52), (.v 50), (.v 51), (.v 6), (.v 7)]⟩ (.bind ⟨calF2 Dy.cMul, 3, [(.v 55), (.v 50), (.v 51), (.v 8), (.v 9)]⟩ (.bind ⟨calF2 Dy.cMul, 3, [(.v 58), (.v 50), (.v 51), (.v 10), (.v 11)]⟩ (.bind ⟨calF2 Dy.cSub, 3, [(.v 61), (.v 53), (.v 54), (.v 0), (.v 1)]⟩ (.bind ⟨calF2 Dy.cSub, 3, [(.v 64), (.v 56), (.v 57), (.v 2), (.v 3)]⟩ (.bind ⟨calF2 Dy.cSub, 3, [(.v 67), (.v 59), (.v 60), (.v 4), (.v 5)]⟩ (.bind ⟨fun us _ => jB (fun a b => a != b) us, 1, [(.v 70), (.l (.i 0))]⟩ (.ite (.v 71) (.done .ret ⟨[.tup [.agg [.fl (.l (.f 0)), .fl (.l (.f 0)), .fl (.l (.f 0)), .fl (.l (.f 0)), .fl (.l (.f 0)), .fl (.l (.f 0))], .it .i64 (.v 70)]], [], 72, []⟩) (.bind ⟨fun us _ => gB Dy.dmax us, 1, [(.v 62), (.l (.f 13830554455654793216))]⟩ (.need ⟨rN, [(.v 62), (.l (.f 13830554455654793216))]⟩ (.bind ⟨fun us _ => gB Dy.dmin us, 1, [(.v 72), (.l (.f 4607182418800017408))]⟩ (.need ⟨rN, [(.v 72), (.l (.f 4607182418800017408))]⟩ (.bind ⟨fun us _ => gB Dy.dmax us, 1, [(.v 63), (.l (.f 13830554455654793216))]⟩ (.need ⟨rN, [(.v 63), (.l (.f 13830554455654793216))]⟩ (.bind ⟨fun us _ => gB Dy.dmin us, 1, [(.v 74), (.l (.f 4607182418800017408))]⟩ (.need ⟨rN, [(.v 74), (.l (.f 4607182418800017408))]⟩ (.bind ⟨fun us _ => gB Dy.dmax us, 1, [(.v 65), (.l (.f 13830554455654793216))]⟩ (.need ⟨rN, [(.v 65), (.l (.f 13830554455654793216))]⟩ (.bind ⟨fun us _ => gB Dy.dmin us, 1, [(.v 76), (.l (.f 4607182418800017408))]⟩ (.need ⟨rN, [(.v 76), (.l (.f 4607182418800017408))]⟩ (.bind ⟨fun us _ => gB Dy.dmax us, 1, [(.v 66), (.l (.f 13830554455654793216))]⟩ (.need ⟨rN, [(.v 66), (.l (.f 13830554455654793216))]⟩ (.bind ⟨fun us _ => gB Dy.dmin us, 1, [(.v 78), (.l (.f 4607182418800017408))]⟩ (.need ⟨rN, [(.v 78), (.l (.f 4607182418800017408))]⟩ (.bind ⟨fun us _ => gB Dy.dmax us, 1, [(.v 68), (.l (.f 13830554455654793216))]⟩ (.need ⟨rN, [(.v 68), (.l (.f 13830554455654793216))]⟩ (.bind ⟨fun us _ => gB Dy.dmin us, 1, [(.v 80), (.l (.f 4607182418800017408))]⟩ (.need ⟨rN, [(.v 80), (.l (.f 4607182418800017408))]⟩ (.bind ⟨fun us _ => gB Dy.dmax us, 1, [(.v 69), (.l (.f 13830554455654793216))]⟩ (.need ⟨rN, [(.v 69), (.l (.f 13830554455654793216))]⟩ (.bind ⟨fun us _ => gB Dy.dmin us, 1, [(.v 82), (.l (.f 4607182418800017408))]⟩ (.need ⟨rN, [(.v 82), (.l (.f 4607182418800017408))]⟩ (.done .ret ⟨[.tup [.agg [.fl (.v 73), .fl (.v 75), .fl (.v 77), .fl (.v 79), .fl (.v 81), .fl (.v 83)], .it .i64 (.l (.i 0))]], [], 84, []⟩)))))))))))))))))))))))))))))))))))))))))))))))))))))))))))))))))))))))))))))) (by kernel_rfl) (by kernel_rfl) (by kernel_rfl) (fun us hl hF hB hN => ?_)
  match us, hl with
  | [u0, u1, u2, u3, u4, u5, u6, u7, u8, u9, u10, u11], _ =>
    simp [FactsB, FactsL, Facts, ctRefl] at hF hB
    simp [NeedsAt, runB, evs, E.ev, upto, resl, List.range, List.range.loop, ctRefl] at hN
    obtain ⟨⟨⟨pa1, rfl, wpa1⟩, ⟨pa2, rfl, wpa2⟩, ⟨pb1, rfl, wpb1⟩, ⟨pb2, rfl, wpb2⟩, ⟨pc1, rfl, wpc1⟩, ⟨pc2, rfl, wpc2⟩⟩, ⟨qa1, rfl, wqa1⟩, ⟨qa2, rfl, wqa2⟩, ⟨qb1, rfl, wqb1⟩, ⟨qb2, rfl, wqb2⟩, ⟨qc1, rfl, wqc1⟩, ⟨qc2, rfl, wqc2⟩⟩ := hF
    simp only [nM6, gF, Bool.and_eq_true] at hN
    obtain ⟨⟨⟨⟨⟨kpa, kpb⟩, kpc⟩, kqa⟩, kqb⟩, kqc⟩ := hN
    replace kpa : mJ (pa1, pa2) = true := kpa
    replace kpb : mJ (pb1, pb2) = true := kpb
    replace kpc : mJ (pc1, pc2) = true := kpc
    replace kqa : mJ (qa1, qa2) = true := kqa
    replace kqb : mJ (qb1, qb2) = true := kqb
    replace kqc : mJ (qc1, qc2) = true := kqc
    refine T.HH.h ?_
    obtain ⟨t0, e1⟩ : ∃ t0, (Dy.ivR (pa1, pa2)) = t0 := ⟨_, rfl⟩
    refine T.hbind (us := [.f pa1, .f pa2]) (xs := [.b t0]) (ρ' := [.f pa1, .f pa2, .f pb1, .f pb2, .f pc1, .f pc2, .f qa1, .f qa2, .f qb1, .f qb2, .f qc1, .f qc2, .b t0]) rfl (congrArg (fun r => [U.b r]) e1) rfl ?_
    obtain ⟨t2, e3⟩ : ∃ t2, (Dy.fgt pa1 13830554455654793216 || Dy.feq pa1 13830554455654793216) = t2 := ⟨_, rfl⟩
    refine T.hbind (us := [.f pa1, .f 13830554455654793216]) (xs := [.b t2]) (ρ' := [.f pa1, .f pa2, .f pb1, .f pb2, .f pc1, .f pc2, .f qa1, .f qa2, .f qb1, .f qb2, .f qc1, .f qc2, .b t0, .b t2]) rfl (congrArg (fun r => [U.b r]) e3) rfl ?_
    refine T.hneed (us := [.b t2]) rfl (show t2 = true from e3.symm.trans (mJ_of kpa).2.1) ?_
    obtain ⟨t4, e5⟩ : ∃ t4, (Dy.flt pa2 4607182418800017408 || Dy.feq pa2 4607182418800017408) = t4 := ⟨_, rfl⟩
    refine T.hbind (us := [.f pa2, .f 4607182418800017408]) (xs := [.b t4]) (ρ' := [.f pa1, .f pa2, .f pb1, .f pb2, .f pc1, .f pc2, .f qa1, .f qa2, .f qb1, .f qb2, .f qc1, .f qc2, .b t0, .b t2, .b t4]) rfl (congrArg (fun r => [U.b r]) e5) rfl ?_
    refine T.hneed (us := [.b t0]) rfl (show t0 = true from e1.symm.trans (mJ_of kpa).1) ?_
    obtain ⟨t6, e7⟩ : ∃ t6, (Dy.ivR (pb1, pb2)) = t6 := ⟨_, rfl⟩
    refine T.hbind (us := [.f pb1, .f pb2]) (xs := [.b t6]) (ρ' := [.f pa1, .f pa2, .f pb1, .f pb2, .f pc1, .f pc2, .f qa1, .f qa2, .f qb1, .f qb2, .f qc1, .f qc2, .b t0, .b t2, .b t4, .b t6]) rfl (congrArg (fun r => [U.b r]) e7) rfl ?_
    refine T.hneed (us := [.b t4]) rfl (show t4 = true from e5.symm.trans (mJ_of kpa).2.2) ?_
    obtain ⟨t8, e9⟩ : ∃ t8, (Dy.fgt pb1 13830554455654793216 || Dy.feq pb1 13830554455654793216) = t8 := ⟨_, rfl⟩
    refine T.hbind (us := [.f pb1, .f 13830554455654793216]) (xs := [.b t8]) (ρ' := [.f pa1, .f pa2, .f pb1, .f pb2, .f pc1, .f pc2, .f qa1, .f qa2, .f qb1, .f qb2, .f qc1, .f qc2, .b t0, .b t2, .b t4, .b t6, .b t8]) rfl (congrArg (fun r => [U.b r]) e9) rfl ?_
    refine T.hneed (us := [.b t8]) rfl (show t8 = true from e9.symm.trans (mJ_of kpb).2.1) ?_
    obtain ⟨t10, e11⟩ : ∃ t10, (Dy.flt pb2 4607182418800017408 || Dy.feq pb2 4607182418800017408) = t10 := ⟨_, rfl⟩
    refine T.hbind (us := [.f pb2, .f 4607182418800017408]) (xs := [.b t10]) (ρ' := [.f pa1, .f pa2, .f pb1, .f pb2, .f pc1, .f pc2, .f qa1, .f qa2, .f qb1, .f qb2, .f qc1, .f qc2, .b t0, .b t2, .b t4, .b t6, .b t8, .b t10]) rfl (congrArg (fun r => [U.b r]) e11) rfl ?_
    refine T.hneed (us := [.b t6]) rfl (show t6 = true from e7.symm.trans (mJ_of kpb).1) ?_
    obtain ⟨t12, e13⟩ : ∃ t12, (Dy.ivR (pc1, pc2)) = t12 := ⟨_, rfl⟩
    refine T.hbind (us := [.f pc1, .f pc2]) (xs := [.b t12]) (ρ' := [.f pa1, .f pa2, .f pb1, .f pb2, .f pc1, .f pc2, .f qa1, .f qa2, .f qb1, .f qb2, .f qc1, .f qc2, .b t0, .b t2, .b t4, .b t6, .b t8, .b t10, .b t12]) rfl (congrArg (fun r => [U.b r]) e13) rfl ?_
    refine T.hneed (us := [.b t10]) rfl (show t10 = true from e11.symm.trans (mJ_of kpb).2.2) ?_
    obtain ⟨t14, e15⟩ : ∃ t14, (Dy.fgt pc1 13830554455654793216 || Dy.feq pc1 13830554455654793216) = t14 := ⟨_, rfl⟩
    refine T.hbind (us := [.f pc1, .f 13830554455654793216]) (xs := [.b t14]) (ρ' := [.f pa1, .f pa2, .f pb1, .f pb2, .f pc1, .f pc2, .f qa1, .f qa2, .f qb1, .f qb2, .f qc1, .f qc2, .b t0, .b t2, .b t4, .b t6, .b t8, .b t10, .b t12, .b t14]) rfl (congrArg (fun r => [U.b r]) e15) rfl ?_
    refine T.hneed (us := [.b t14]) rfl (show t14 = true from e15.symm.trans (mJ_of kpc).2.1) ?_
    obtain ⟨t16, e17⟩ : ∃ t16, (Dy.flt pc2 4607182418800017408 || Dy.feq pc2 4607182418800017408) = t16 := ⟨_, rfl⟩
    refine T.hbind (us := [.f pc2, .f 4607182418800017408]) (xs := [.b t16]) (ρ' := [.f pa1, .f pa2, .f pb1, .f pb2, .f pc1, .f pc2, .f qa1, .f qa2, .f qb1, .f qb2, .f qc1, .f qc2, .b t0, .b t2, .b t4, .b t6, .b t8, .b t10, .b t12, .b t14, .b t16]) rfl (congrArg (fun r => [U.b r]) e17) rfl ?_
    refine T.hneed (us := [.b t12]) rfl (show t12 = true from e13.symm.trans (mJ_of kpc).1) ?_
    obtain ⟨t18, e19⟩ : ∃ t18, (Dy.ivR (qa1, qa2)) = t18 := ⟨_, rfl⟩
    refine T.hbind (us := [.f qa1, .f qa2]) (xs := [.b t18]) (ρ' := [.f pa1, .f pa2, .f pb1, .f pb2, .f pc1, .f pc2, .f qa1, .f qa2, .f qb1, .f qb2, .f qc1, .f qc2, .b t0, .b t2, .b t4, .b t6, .b t8, .b t10, .b t12, .b t14, .b t16, .b t18]) rfl (congrArg (fun r => [U.b r]) e19) rfl ?_
    refine T.hneed (us := [.b t16]) rfl (show t16 = true from e17.symm.trans (mJ_of kpc).2.2) ?_
    obtain ⟨t20, e21⟩ : ∃ t20, (Dy.fgt qa1 13830554455654793216 || Dy.feq qa1 13830554455654793216) = t20 := ⟨_, rfl⟩
    refine T.hbind (us := [.f qa1, .f 13830554455654793216]) (xs := [.b t20]) (ρ' := [.f pa1, .f pa2, .f pb1, .f pb2, .f pc1, .f pc2, .f qa1, .f qa2, .f qb1, .f qb2, .f qc1, .f qc2, .b t0, .b t2, .b t4, .b t6, .b t8, .b t10, .b t12, .b t14, .b t16, .b t18, .b t20]) rfl (congrArg (fun r => [U.b r]) e21) rfl ?_
    refine T.hneed (us := [.b t20]) rfl (show t20 = true from e21.symm.trans (mJ_of kqa).2.1) ?_
    obtain ⟨t22, e23⟩ : ∃ t22, (Dy.flt qa2 4607182418800017408 || Dy.feq qa2 4607182418800017408) = t22 := ⟨_, rfl⟩
    refine T.hbind (us := [.f qa2, .f 4607182418800017408]) (xs := [.b t22]) (ρ' := [.f pa1, .f pa2, .f pb1, .f pb2, .f pc1, .f pc2, .f qa1, .f qa2, .f qb1, .f qb2, .f qc1, .f qc2, .b t0, .b t2, .b t4, .b t6, .b t8, .b t10, .b t12, .b t14, .b t16, .b t18, .b t20, .b t22]) rfl (congrArg (fun r => [U.b r]) e23) rfl ?_
    refine T.hneed (us := [.b t18]) rfl (show t18 = true from e19.symm.trans (mJ_of kqa).1) ?_
    obtain ⟨t24, e25⟩ : ∃ t24, (Dy.ivR (qb1, qb2)) = t24 := ⟨_, rfl⟩
    refine T.hbind (us := [.f qb1, .f qb2]) (xs := [.b t24]) (ρ' := [.f pa1, .f pa2, .f pb1, .f pb2, .f pc1, .f pc2, .f qa1, .f qa2, .f qb1, .f qb2, .f qc1, .f qc2, .b t0, .b t2, .b t4, .b t6, .b t8, .b t10, .b t12, .b t14, .b t16, .b t18, .b t20, .b t22, .b t24]) rfl (congrArg (fun r => [U.b r]) e25) rfl ?_
    refine T.hneed (us := [.b t22]) rfl (show t22 = true from e23.symm.trans (mJ_of kqa).2.2) ?_
    obtain ⟨t26, e27⟩ : ∃ t26, (Dy.fgt qb1 13830554455654793216 || Dy.feq qb1 13830554455654793216) = t26 := ⟨_, rfl⟩
    refine T.hbind (us := [.f qb1, .f 13830554455654793216]) (xs := [.b t26]) (ρ' := [.f pa1, .f pa2, .f pb1, .f pb2, .f pc1, .f pc2, .f qa1, .f qa2, .f qb1, .f qb2, .f qc1, .f qc2, .b t0, .b t2, .b t4, .b t6, .b t8, .b t10, .b t12, .b t14, .b t16, .b t18, .b t20, .b t22, .b t24, .b t26]) rfl (congrArg (fun r => [U.b r]) e27) rfl ?_
    refine T.hneed (us := [.b t26]) rfl (show t26 = true from e27.symm.trans (mJ_of kqb).2.1) ?_
    obtain ⟨t28, e29⟩ : ∃ t28, (Dy.flt qb2 4607182418800017408 || Dy.feq qb2 4607182418800017408) = t28 := ⟨_, rfl⟩
    refine T.hbind (us := [.f qb2, .f 4607182418800017408]) (xs := [.b t28]) (ρ' := [.f pa1, .f pa2, .f pb1, .f pb2, .f pc1, .f pc2, .f qa1, .f qa2, .f qb1, .f qb2, .f qc1, .f qc2, .b t0, .b t2, .b t4, .b t6, .b t8, .b t10, .b t12, .b t14, .b t16, .b t18, .b t20, .b t22, .b t24, .b t26, .b t28]) rfl (congrArg (fun r => [U.b r]) e29) rfl ?_
    refine T.hneed (us := [.b t24]) rfl (show t24 = true from e25.symm.trans (mJ_of kqb).1) ?_
    obtain ⟨t30, e31⟩ : ∃ t30, (Dy.ivR (qc1, qc2)) = t30 := ⟨_, rfl⟩
    refine T.hbind (us := [.f qc1, .f qc2]) (xs := [.b t30]) (ρ' := [.f pa1, .f pa2, .f pb1, .f pb2, .f pc1, .f pc2, .f qa1, .f qa2, .f qb1, .f qb2, .f qc1, .f qc2, .b t0, .b t2, .b t4, .b t6, .b t8, .b t10, .b t12, .b t14, .b t16, .b t18, .b t20, .b t22, .b t24, .b t26, .b t28, .b t30]) rfl (congrArg (fun r => [U.b r]) e31) rfl ?_
    refine T.hneed (us := [.b t28]) rfl (show t28 = true from e29.symm.trans (mJ_of kqb).2.2) ?_
    obtain ⟨t32, e33⟩ : ∃ t32, (Dy.fgt qc1 13830554455654793216 || Dy.feq qc1 13830554455654793216) = t32 := ⟨_, rfl⟩
    refine T.hbind (us := [.f qc1, .f 13830554455654793216]) (xs := [.b t32]) (ρ' := [.f pa1, .f pa2, .f pb1, .f pb2, .f pc1, .f pc2, .f qa1, .f qa2, .f qb1, .f qb2, .f qc1, .f qc2, .b t0, .b t2, .b t4, .b t6, .b t8, .b t10, .b t12, .b t14, .b t16, .b t18, .b t20, .b t22, .b t24, .b t26, .b t28, .b t30, .b t32]) rfl (congrArg (fun r => [U.b r]) e33) rfl ?_
    refine T.hneed (us := [.b t32]) rfl (show t32 = true from e33.symm.trans (mJ_of kqc).2.1) ?_
    obtain ⟨t34, e35⟩ : ∃ t34, (Dy.flt qc2 4607182418800017408 || Dy.feq qc2 4607182418800017408) = t34 := ⟨_, rfl⟩
    refine T.hbind (us := [.f qc2, .f 4607182418800017408]) (xs := [.b t34]) (ρ' := [.f pa1, .f pa2, .f pb1, .f pb2, .f pc1, .f pc2, .f qa1, .f qa2, .f qb1, .f qb2, .f qc1, .f qc2, .b t0, .b t2, .b t4, .b t6, .b t8, .b t10, .b t12, .b t14, .b t16, .b t18, .b t20, .b t22, .b t24, .b t26, .b t28, .b t30, .b t32, .b t34]) rfl (congrArg (fun r => [U.b r]) e35) rfl ?_
    obtain ⟨t36, e37⟩ : ∃ t36, (!t30) = t36 := ⟨_, rfl⟩
    refine T.hbind (us := [.b t30]) (xs := [.b t36]) (ρ' := [.f pa1, .f pa2, .f pb1, .f pb2, .f pc1, .f pc2, .f qa1, .f qa2, .f qb1, .f qb2, .f qc1, .f qc2, .b t0, .b t2, .b t4, .b t6, .b t8, .b t10, .b t12, .b t14, .b t16, .b t18, .b t20, .b t22, .b t24, .b t26, .b t28, .b t30, .b t32, .b t34, .b t36]) rfl (congrArg (fun r => [U.b r]) e37) rfl ?_
    refine T.hneed (us := [.b t36]) rfl (show (!t36) = true from by rw [show t36 = false from e37.symm.trans (by rw [e31.symm.trans (mJ_of kqc).1]; rfl)]; rfl) ?_
    obtain ⟨t38, e39⟩ : ∃ t38, (!t34) = t38 := ⟨_, rfl⟩
    refine T.hbind (us := [.b t34]) (xs := [.b t38]) (ρ' := [.f pa1, .f pa2, .f pb1, .f pb2, .f pc1, .f pc2, .f qa1, .f qa2, .f qb1, .f qb2, .f qc1, .f qc2, .b t0, .b t2, .b t4, .b t6, .b t8, .b t10, .b t12, .b t14, .b t16, .b t18, .b t20, .b t22, .b t24, .b t26, .b t28, .b t30, .b t32, .b t34, .b t36, .b t38]) rfl (congrArg (fun r => [U.b r]) e39) rfl ?_
    refine T.hneed (us := [.b t38]) rfl (show (!t38) = true from by rw [show t38 = false from e39.symm.trans (by rw [e35.symm.trans (mJ_of kqc).2.2]; rfl)]; rfl) ?_
    obtain ⟨t40, t41, t42, e43⟩ : ∃ t40 t41 t42, (Dy.cNum 0 4611686018427387904) = ((t40, t41), t42) := Dy.ex3 _
    have g43 := Dy.good_num (show Dy.W 4611686018427387904 from by unfold Dy.W; decide) (err := 0)
    rw [e43] at g43
    refine T.hbind (us := [.i 0, .f 4611686018427387904]) (xs := [.f t40, .f t41, .i t42]) (ρ' := [.f pa1, .f pa2, .f pb1, .f pb2, .f pc1, .f pc2, .f qa1, .f qa2, .f qb1, .f qb2, .f qc1, .f qc2, .b t0, .b t2, .b t4, .b t6, .b t8, .b t10, .b t12, .b t14, .b t16, .b t18, .b t20, .b t22, .b t24, .b t26, .b t28, .b t30, .b t32, .b t34, .b t36, .b t38, .f t40, .f t41, .i t42]) rfl (congrArg (fun r => [calR r 0, calR r 1, calR r 2]) e43) rfl ?_
    obtain ⟨t44, t45, t46, e47⟩ : ∃ t44 t45 t46, (Dy.cMul t42 (pa1, pa2) (qa1, qa2)) = ((t44, t45), t46) := Dy.ex3 _
    have g47 := Dy.good_mul (a := (pa1, pa2)) (b := (qa1, qa2)) (err := t42)
    rw [e47] at g47
    refine T.hbind (us := [.i t42, .f pa1, .f pa2, .f qa1, .f qa2]) (xs := [.f t44, .f t45, .i t46]) (ρ' := [.f pa1, .f pa2, .f pb1, .f pb2, .f pc1, .f pc2, .f qa1, .f qa2, .f qb1, .f qb2, .f qc1, .f qc2, .b t0, .b t2, .b t4, .b t6, .b t8, .b t10, .b t12, .b t14, .b t16, .b t18, .b t20, .b t22, .b t24, .b t26, .b t28, .b t30, .b t32, .b t34, .b t36, .b t38, .f t40, .f t41, .i t42, .f t44, .f t45, .i t46]) rfl (congrArg (fun r => [calR r 0, calR r 1, calR r 2]) e47) rfl ?_
    obtain ⟨t48, t49, t50, e51⟩ : ∃ t48 t49 t50, (Dy.cMul t46 (pb1, pb2) (qb1, qb2)) = ((t48, t49), t50) := Dy.ex3 _
    have g51 := Dy.good_mul (a := (pb1, pb2)) (b := (qb1, qb2)) (err := t46)
    rw [e51] at g51
    refine T.hbind (us := [.i t46, .f pb1, .f pb2, .f qb1, .f qb2]) (xs := [.f t48, .f t49, .i t50]) (ρ' := [.f pa1, .f pa2, .f pb1, .f pb2, .f pc1, .f pc2, .f qa1, .f qa2, .f qb1, .f qb2, .f qc1, .f qc2, .b t0, .b t2, .b t4, .b t6, .b t8, .b t10, .b t12, .b t14, .b t16, .b t18, .b t20, .b t22, .b t24, .b t26, .b t28, .b t30, .b t32, .b t34, .b t36, .b t38, .f t40, .f t41, .i t42, .f t44, .f t45, .i t46, .f t48, .f t49, .i t50]) rfl (congrArg (fun r => [calR r 0, calR r 1, calR r 2]) e51) rfl ?_
    obtain ⟨t52, t53, t54, e55⟩ : ∃ t52 t53 t54, (Dy.cAdd t50 (t44, t45) (t48, t49)) = ((t52, t53), t54) := Dy.ex3 _
    have g55 := Dy.good_add (a := (t44, t45)) (b := (t48, t49)) (err := t50)
    rw [e55] at g55
    refine T.hbind (us := [.i t50, .f t44, .f t45, .f t48, .f t49]) (xs := [.f t52, .f t53, .i t54]) (ρ' := [.f pa1, .f pa2, .f pb1, .f pb2, .f pc1, .f pc2, .f qa1, .f qa2, .f qb1, .f qb2, .f qc1, .f qc2, .b t0, .b t2, .b t4, .b t6, .b t8, .b t10, .b t12, .b t14, .b t16, .b t18, .b t20, .b t22, .b t24, .b t26, .b t28, .b t30, .b t32, .b t34, .b t36, .b t38, .f t40, .f t41, .i t42, .f t44, .f t45, .i t46, .f t48, .f t49, .i t50, .f t52, .f t53, .i t54]) rfl (congrArg (fun r => [calR r 0, calR r 1, calR r 2]) e55) rfl ?_
    obtain ⟨t56, t57, t58, e59⟩ : ∃ t56 t57 t58, (Dy.cMul t54 (pc1, pc2) (qc1, qc2)) = ((t56, t57), t58) := Dy.ex3 _
    have g59 := Dy.good_mul (a := (pc1, pc2)) (b := (qc1, qc2)) (err := t54)
    rw [e59] at g59
    refine T.hbind (us := [.i t54, .f pc1, .f pc2, .f qc1, .f qc2]) (xs := [.f t56, .f t57, .i t58]) (ρ' := [.f pa1, .f pa2, .f pb1, .f pb2, .f pc1, .f pc2, .f qa1, .f qa2, .f qb1, .f qb2, .f qc1, .f qc2, .b t0, .b t2, .b t4, .b t6, .b t8, .b t10, .b t12, .b t14, .b t16, .b t18, .b t20, .b t22, .b t24, .b t26, .b t28, .b t30, .b t32, .b t34, .b t36, .b t38, .f t40, .f t41, .i t42, .f t44, .f t45, .i t46, .f t48, .f t49, .i t50, .f t52, .f t53, .i t54, .f t56, .f t57, .i t58]) rfl (congrArg (fun r => [calR r 0, calR r 1, calR r 2]) e59) rfl ?_
    obtain ⟨t60, t61, t62, e63⟩ : ∃ t60 t61 t62, (Dy.cAdd t58 (t52, t53) (t56, t57)) = ((t60, t61), t62) := Dy.ex3 _
    have g63 := Dy.good_add (a := (t52, t53)) (b := (t56, t57)) (err := t58)
    rw [e63] at g63
    refine T.hbind (us := [.i t58, .f t52, .f t53, .f t56, .f t57]) (xs := [.f t60, .f t61, .i t62]) (ρ' := [.f pa1, .f pa2, .f pb1, .f pb2, .f pc1, .f pc2, .f qa1, .f qa2, .f qb1, .f qb2, .f qc1, .f qc2, .b t0, .b t2, .b t4, .b t6, .b t8, .b t10, .b t12, .b t14, .b t16, .b t18, .b t20, .b t22, .b t24, .b t26, .b t28, .b t30, .b t32, .b t34, .b t36, .b t38, .f t40, .f t41, .i t42, .f t44, .f t45, .i t46, .f t48, .f t49, .i t50, .f t52, .f t53, .i t54, .f t56, .f t57, .i t58, .f t60, .f t61, .i t62]) rfl (congrArg (fun r => [calR r 0, calR r 1, calR r 2]) e63) rfl ?_
    obtain ⟨t64, t65, t66, e67⟩ : ∃ t64 t65 t66, (Dy.cMul t62 (t40, t41) (t60, t61)) = ((t64, t65), t66) := Dy.ex3 _
    have g67 := Dy.good_mul (a := (t40, t41)) (b := (t60, t61)) (err := t62)
    rw [e67] at g67
    refine T.hbind (us := [.i t62, .f t40, .f t41, .f t60, .f t61]) (xs := [.f t64, .f t65, .i t66]) (ρ' := [.f pa1, .f pa2, .f pb1, .f pb2, .f pc1, .f pc2, .f qa1, .f qa2, .f qb1, .f qb2, .f qc1, .f qc2, .b t0, .b t2, .b t4, .b t6, .b t8, .b t10, .b t12, .b t14, .b t16, .b t18, .b t20, .b t22, .b t24, .b t26, .b t28, .b t30, .b t32, .b t34, .b t36, .b t38, .f t40, .f t41, .i t42, .f t44, .f t45, .i t46, .f t48, .f t49, .i t50, .f t52, .f t53, .i t54, .f t56, .f t57, .i t58, .f t60, .f t61, .i t62, .f t64, .f t65, .i t66]) rfl (congrArg (fun r => [calR r 0, calR r 1, calR r 2]) e67) rfl ?_
    obtain ⟨t68, t69, t70, e71⟩ : ∃ t68 t69 t70, (Dy.cMul t66 (t64, t65) (qa1, qa2)) = ((t68, t69), t70) := Dy.ex3 _
    have g71 := Dy.good_mul (a := (t64, t65)) (b := (qa1, qa2)) (err := t66)
    rw [e71] at g71
    refine T.hbind (us := [.i t66, .f t64, .f t65, .f qa1, .f qa2]) (xs := [.f t68, .f t69, .i t70]) (ρ' := [.f pa1, .f pa2, .f pb1, .f pb2, .f pc1, .f pc2, .f qa1, .f qa2, .f qb1, .f qb2, .f qc1, .f qc2, .b t0, .b t2, .b t4, .b t6, .b t8, .b t10, .b t12, .b t14, .b t16, .b t18, .b t20, .b t22, .b t24, .b t26, .b t28, .b t30, .b t32, .b t34, .b t36, .b t38, .f t40, .f t41, .i t42, .f t44, .f t45, .i t46, .f t48, .f t49, .i t50, .f t52, .f t53, .i t54, .f t56, .f t57, .i t58, .f t60, .f t61, .i t62, .f t64, .f t65, .i t66, .f t68, .f t69, .i t70]) rfl (congrArg (fun r => [calR r 0, calR r 1, calR r 2]) e71) rfl ?_
    obtain ⟨t72, t73, t74, e75⟩ : ∃ t72 t73 t74, (Dy.cMul t70 (t64, t65) (qb1, qb2)) = ((t72, t73), t74) := Dy.ex3 _
    have g75 := Dy.good_mul (a := (t64, t65)) (b := (qb1, qb2)) (err := t70)
    rw [e75] at g75
    refine T.hbind (us := [.i t70, .f t64, .f t65, .f qb1, .f qb2]) (xs := [.f t72, .f t73, .i t74]) (ρ' := [.f pa1, .f pa2, .f pb1, .f pb2, .f pc1, .f pc2, .f qa1, .f qa2, .f qb1, .f qb2, .f qc1, .f qc2, .b t0, .b t2, .b t4, .b t6, .b t8, .b t10, .b t12, .b t14, .b t16, .b t18, .b t20, .b t22, .b t24, .b t26, .b t28, .b t30, .b t32, .b t34, .b t36, .b t38, .f t40, .f t41, .i t42, .f t44, .f t45, .i t46, .f t48, .f t49, .i t50, .f t52, .f t53, .i t54, .f t56, .f t57, .i t58, .f t60, .f t61, .i t62, .f t64, .f t65, .i t66, .f t68, .f t69, .i t70, .f t72, .f t73, .i t74]) rfl (congrArg (fun r => [calR r 0, calR r 1, calR r 2]) e75) rfl ?_
    obtain ⟨t76, t77, t78, e79⟩ : ∃ t76 t77 t78, (Dy.cMul t74 (t64, t65) (qc1, qc2)) = ((t76, t77), t78) := Dy.ex3 _
    have g79 := Dy.good_mul (a := (t64, t65)) (b := (qc1, qc2)) (err := t74)
    rw [e79] at g79
    refine T.hbind (us := [.i t74, .f t64, .f t65, .f qc1, .f qc2]) (xs := [.f t76, .f t77, .i t78]) (ρ' := [.f pa1, .f pa2, .f pb1, .f pb2, .f pc1, .f pc2, .f qa1, .f qa2, .f qb1, .f qb2, .f qc1, .f qc2, .b t0, .b t2, .b t4, .b t6, .b t8, .b t10, .b t12, .b t14, .b t16, .b t18, .b t20, .b t22, .b t24, .b t26, .b t28, .b t30, .b t32, .b t34, .b t36, .b t38, .f t40, .f t41, .i t42, .f t44, .f t45, .i t46, .f t48, .f t49, .i t50, .f t52, .f t53, .i t54, .f t56, .f t57, .i t58, .f t60, .f t61, .i t62, .f t64, .f t65, .i t66, .f t68, .f t69, .i t70, .f t72, .f t73, .i t74, .f t76, .f t77, .i t78]) rfl (congrArg (fun r => [calR r 0, calR r 1, calR r 2]) e79) rfl ?_
    obtain ⟨t80, t81, t82, e83⟩ : ∃ t80 t81 t82, (Dy.cSub t78 (t68, t69) (pa1, pa2)) = ((t80, t81), t82) := Dy.ex3 _
    have g83 := Dy.good_sub (a := (t68, t69)) (b := (pa1, pa2)) ⟨wpa1, wpa2⟩ (err := t78)
    rw [e83] at g83
    refine T.hbind (us := [.i t78, .f t68, .f t69, .f pa1, .f pa2]) (xs := [.f t80, .f t81, .i t82]) (ρ' := [.f pa1, .f pa2, .f pb1, .f pb2, .f pc1, .f pc2, .f qa1, .f qa2, .f qb1, .f qb2, .f qc1, .f qc2, .b t0, .b t2, .b t4, .b t6, .b t8, .b t10, .b t12, .b t14, .b t16, .b t18, .b t20, .b t22, .b t24, .b t26, .b t28, .b t30, .b t32, .b t34, .b t36, .b t38, .f t40, .f t41, .i t42, .f t44, .f t45, .i t46, .f t48, .f t49, .i t50, .f t52, .f t53, .i t54, .f t56, .f t57, .i t58, .f t60, .f t61, .i t62, .f t64, .f t65, .i t66, .f t68, .f t69, .i t70, .f t72, .f t73, .i t74, .f t76, .f t77, .i t78, .f t80, .f t81, .i t82]) rfl (congrArg (fun r => [calR r 0, calR r 1, calR r 2]) e83) rfl ?_
    obtain ⟨t84, t85, t86, e87⟩ : ∃ t84 t85 t86, (Dy.cSub t82 (t72, t73) (pb1, pb2)) = ((t84, t85), t86) := Dy.ex3 _
    have g87 := Dy.good_sub (a := (t72, t73)) (b := (pb1, pb2)) ⟨wpb1, wpb2⟩ (err := t82)
    rw [e87] at g87
    refine T.hbind (us := [.i t82, .f t72, .f t73, .f pb1, .f pb2]) (xs := [.f t84, .f t85, .i t86]) (ρ' := [.f pa1, .f pa2, .f pb1, .f pb2, .f pc1, .f pc2, .f qa1, .f qa2, .f qb1, .f qb2, .f qc1, .f qc2, .b t0, .b t2, .b t4, .b t6, .b t8, .b t10, .b t12, .b t14, .b t16, .b t18, .b t20, .b t22, .b t24, .b t26, .b t28, .b t30, .b t32, .b t34, .b t36, .b t38, .f t40, .f t41, .i t42, .f t44, .f t45, .i t46, .f t48, .f t49, .i t50, .f t52, .f t53, .i t54, .f t56, .f t57, .i t58, .f t60, .f t61, .i t62, .f t64, .f t65, .i t66, .f t68, .f t69, .i t70, .f t72, .f t73, .i t74, .f t76, .f t77, .i t78, .f t80, .f t81, .i t82, .f t84, .f t85, .i t86]) rfl (congrArg (fun r => [calR r 0, calR r 1, calR r 2]) e87) rfl ?_
    obtain ⟨t88, t89, t90, e91⟩ : ∃ t88 t89 t90, (Dy.cSub t86 (t76, t77) (pc1, pc2)) = ((t88, t89), t90) := Dy.ex3 _
    have g91 := Dy.good_sub (a := (t76, t77)) (b := (pc1, pc2)) ⟨wpc1, wpc2⟩ (err := t86)
    rw [e91] at g91
    refine T.hbind (us := [.i t86, .f t76, .f t77, .f pc1, .f pc2]) (xs := [.f t88, .f t89, .i t90]) (ρ' := [.f pa1, .f pa2, .f pb1, .f pb2, .f pc1, .f pc2, .f qa1, .f qa2, .f qb1, .f qb2, .f qc1, .f qc2, .b t0, .b t2, .b t4, .b t6, .b t8, .b t10, .b t12, .b t14, .b t16, .b t18, .b t20, .b t22, .b t24, .b t26, .b t28, .b t30, .b t32, .b t34, .b t36, .b t38, .f t40, .f t41, .i t42, .f t44, .f t45, .i t46, .f t48, .f t49, .i t50, .f t52, .f t53, .i t54, .f t56, .f t57, .i t58, .f t60, .f t61, .i t62, .f t64, .f t65, .i t66, .f t68, .f t69, .i t70, .f t72, .f t73, .i t74, .f t76, .f t77, .i t78, .f t80, .f t81, .i t82, .f t84, .f t85, .i t86, .f t88, .f t89, .i t90]) rfl (congrArg (fun r => [calR r 0, calR r 1, calR r 2]) e91) rfl ?_
    obtain ⟨t92, e93⟩ : ∃ t92, (t90 != 0) = t92 := ⟨_, rfl⟩
    refine T.hbind (us := [.i t90, .i 0]) (xs := [.b t92]) (ρ' := [.f pa1, .f pa2, .f pb1, .f pb2, .f pc1, .f pc2, .f qa1, .f qa2, .f qb1, .f qb2, .f qc1, .f qc2, .b t0, .b t2, .b t4, .b t6, .b t8, .b t10, .b t12, .b t14, .b t16, .b t18, .b t20, .b t22, .b t24, .b t26, .b t28, .b t30, .b t32, .b t34, .b t36, .b t38, .f t40, .f t41, .i t42, .f t44, .f t45, .i t46, .f t48, .f t49, .i t50, .f t52, .f t53, .i t54, .f t56, .f t57, .i t58, .f t60, .f t61, .i t62, .f t64, .f t65, .i t66, .f t68, .f t69, .i t70, .f t72, .f t73, .i t74, .f t76, .f t77, .i t78, .f t80, .f t81, .i t82, .f t84, .f t85, .i t86, .f t88, .f t89, .i t90, .b t92]) rfl (congrArg (fun r => [U.b r]) e93) rfl ?_
    refine T.hite (x := t92) ?_ ?_ ?_
    · rfl
    · intro c95
      refine T.hdone ?_
      have eM : reflM (pa1, pa2) (pb1, pb2) (pc1, pc2) (qa1, qa2) (qb1, qb2) (qc1, qc2) 0 = (((t80, t81), (t84, t85), (t88, t89)), t90) := by
        unfold reflM
        refine (Dy.cs_num e43).trans ?_
        refine (Dy.cs_mul e47).trans ?_
        refine (Dy.cs_mul e51).trans ?_
        refine (Dy.cs_add e55).trans ?_
        refine (Dy.cs_mul e59).trans ?_
        refine (Dy.cs_add e63).trans ?_
        refine (Dy.cs_mul e67).trans ?_
        refine (Dy.cs_mul e71).trans ?_
        refine (Dy.cs_mul e75).trans ?_
        refine (Dy.cs_mul e79).trans ?_
        refine (Dy.cs_sub e83).trans ?_
        refine (Dy.cs_sub e87).trans ?_
        first | exact e91 | (refine (Dy.cs_sub e91).trans ?_; rfl) | (refine (Dy.cs_sub e91).trans ?_; rw [Dy.cm_pure]; simp only [e1, e3, e5, e7, e9, e11, e13, e15, e17, e19, e21, e23, e25, e27, e29, e31, e33, e35, e37, e39, e93, c95])
      have e00 : (reflG (pa1, pa2) (pb1, pb2) (pc1, pc2) (qa1, qa2) (qb1, qb2) (qc1, qc2)) = (((0, 0), (0, 0), (0, 0)), t90) := by simp only [reflG, Dy.clip, eM, e1, e3, e5, e7, e9, e11, e13, e15, e17, e19, e21, e23, e25, e27, e29, e31, e33, e35, e37, e39, e93, c95, reduceIte, Bool.false_eq_true, Bool.true_eq_false, Bool.true_and, Bool.false_and, Bool.and_true, Bool.and_false, Bool.true_or, Bool.false_or, Bool.or_true, Bool.or_false, Bool.not_true, Bool.not_false] <;> simp_all
      exact ⟨⟨⟨(congrArg (fun r => some (vecU r 0)) e00.symm), (congrArg (fun r => some (vecU r 1)) e00.symm), (congrArg (fun r => some (vecU r 2)) e00.symm), (congrArg (fun r => some (vecU r 3)) e00.symm), (congrArg (fun r => some (vecU r 4)) e00.symm), (congrArg (fun r => some (vecU r 5)) e00.symm), trivial⟩, ⟨rfl, (congrArg (fun r => some (vecU r 6)) e00.symm)⟩, trivial⟩, trivial, rfl⟩
    · intro c95
      obtain ⟨t95, e96⟩ : ∃ t95, (Dy.dmax t80 13830554455654793216) = t95 := ⟨_, rfl⟩
      have W96 : Dy.W t95 := by rw [← e96]; exact Dy.dmax_W g83.1.1 (show Dy.W 13830554455654793216 from by unfold Dy.W; decide)
      have R96 : Dy.right t95 = true := by rw [← e96]; exact Dy.dmax_right (Dy.ivR_of g83.2).1 (show Dy.right 13830554455654793216 = true from by decide +kernel)
      refine T.hbind (us := [.f t80, .f 13830554455654793216]) (xs := [.f t95]) (ρ' := [.f pa1, .f pa2, .f pb1, .f pb2, .f pc1, .f pc2, .f qa1, .f qa2, .f qb1, .f qb2, .f qc1, .f qc2, .b t0, .b t2, .b t4, .b t6, .b t8, .b t10, .b t12, .b t14, .b t16, .b t18, .b t20, .b t22, .b t24, .b t26, .b t28, .b t30, .b t32, .b t34, .b t36, .b t38, .f t40, .f t41, .i t42, .f t44, .f t45, .i t46, .f t48, .f t49, .i t50, .f t52, .f t53, .i t54, .f t56, .f t57, .i t58, .f t60, .f t61, .i t62, .f t64, .f t65, .i t66, .f t68, .f t69, .i t70, .f t72, .f t73, .i t74, .f t76, .f t77, .i t78, .f t80, .f t81, .i t82, .f t84, .f t85, .i t86, .f t88, .f t89, .i t90, .b t92, .f t95]) rfl (congrArg (fun r => [U.f r]) e96) rfl ?_
      refine T.hneed (us := [.f t80, .f 13830554455654793216]) rfl (show (Dy.right t80 && Dy.right 13830554455654793216) = true from by rw [(Dy.ivR_of g83.2).1, (show Dy.right 13830554455654793216 = true from by decide +kernel)]; rfl) ?_
      obtain ⟨t97, e98⟩ : ∃ t97, (Dy.dmin t95 4607182418800017408) = t97 := ⟨_, rfl⟩
      have W98 : Dy.W t97 := by rw [← e98]; exact Dy.dmin_W W96 (show Dy.W 4607182418800017408 from by unfold Dy.W; decide)
      have R98 : Dy.right t97 = true := by rw [← e98]; exact Dy.dmin_right R96 (show Dy.right 4607182418800017408 = true from by decide +kernel)
      refine T.hbind (us := [.f t95, .f 4607182418800017408]) (xs := [.f t97]) (ρ' := [.f pa1, .f pa2, .f pb1, .f pb2, .f pc1, .f pc2, .f qa1, .f qa2, .f qb1, .f qb2, .f qc1, .f qc2, .b t0, .b t2, .b t4, .b t6, .b t8, .b t10, .b t12, .b t14, .b t16, .b t18, .b t20, .b t22, .b t24, .b t26, .b t28, .b t30, .b t32, .b t34, .b t36, .b t38, .f t40, .f t41, .i t42, .f t44, .f t45, .i t46, .f t48, .f t49, .i t50, .f t52, .f t53, .i t54, .f t56, .f t57, .i t58, .f t60, .f t61, .i t62, .f t64, .f t65, .i t66, .f t68, .f t69, .i t70, .f t72, .f t73, .i t74, .f t76, .f t77, .i t78, .f t80, .f t81, .i t82, .f t84, .f t85, .i t86, .f t88, .f t89, .i t90, .b t92, .f t95, .f t97]) rfl (congrArg (fun r => [U.f r]) e98) rfl ?_
      refine T.hneed (us := [.f t95, .f 4607182418800017408]) rfl (show (Dy.right t95 && Dy.right 4607182418800017408) = true from by rw [R96, (show Dy.right 4607182418800017408 = true from by decide +kernel)]; rfl) ?_
      obtain ⟨t99, e100⟩ : ∃ t99, (Dy.dmax t81 13830554455654793216) = t99 := ⟨_, rfl⟩
      have W100 : Dy.W t99 := by rw [← e100]; exact Dy.dmax_W g83.1.2 (show Dy.W 13830554455654793216 from by unfold Dy.W; decide)
      have R100 : Dy.right t99 = true := by rw [← e100]; exact Dy.dmax_right (Dy.ivR_of g83.2).2.1 (show Dy.right 13830554455654793216 = true from by decide +kernel)
      refine T.hbind (us := [.f t81, .f 13830554455654793216]) (xs := [.f t99]) (ρ' := [.f pa1, .f pa2, .f pb1, .f pb2, .f pc1, .f pc2, .f qa1, .f qa2, .f qb1, .f qb2, .f qc1, .f qc2, .b t0, .b t2, .b t4, .b t6, .b t8, .b t10, .b t12, .b t14, .b t16, .b t18, .b t20, .b t22, .b t24, .b t26, .b t28, .b t30, .b t32, .b t34, .b t36, .b t38, .f t40, .f t41, .i t42, .f t44, .f t45, .i t46, .f t48, .f t49, .i t50, .f t52, .f t53, .i t54, .f t56, .f t57, .i t58, .f t60, .f t61, .i t62, .f t64, .f t65, .i t66, .f t68, .f t69, .i t70, .f t72, .f t73, .i t74, .f t76, .f t77, .i t78, .f t80, .f t81, .i t82, .f t84, .f t85, .i t86, .f t88, .f t89, .i t90, .b t92, .f t95, .f t97, .f t99]) rfl (congrArg (fun r => [U.f r]) e100) rfl ?_
      refine T.hneed (us := [.f t81, .f 13830554455654793216]) rfl (show (Dy.right t81 && Dy.right 13830554455654793216) = true from by rw [(Dy.ivR_of g83.2).2.1, (show Dy.right 13830554455654793216 = true from by decide +kernel)]; rfl) ?_
      obtain ⟨t101, e102⟩ : ∃ t101, (Dy.dmin t99 4607182418800017408) = t101 := ⟨_, rfl⟩
      have W102 : Dy.W t101 := by rw [← e102]; exact Dy.dmin_W W100 (show Dy.W 4607182418800017408 from by unfold Dy.W; decide)
      have R102 : Dy.right t101 = true := by rw [← e102]; exact Dy.dmin_right R100 (show Dy.right 4607182418800017408 = true from by decide +kernel)
      refine T.hbind (us := [.f t99, .f 4607182418800017408]) (xs := [.f t101]) (ρ' := [.f pa1, .f pa2, .f pb1, .f pb2, .f pc1, .f pc2, .f qa1, .f qa2, .f qb1, .f qb2, .f qc1, .f qc2, .b t0, .b t2, .b t4, .b t6, .b t8, .b t10, .b t12, .b t14, .b t16, .b t18, .b t20, .b t22, .b t24, .b t26, .b t28, .b t30, .b t32, .b t34, .b t36, .b t38, .f t40, .f t41, .i t42, .f t44, .f t45, .i t46, .f t48, .f t49, .i t50, .f t52, .f t53, .i t54, .f t56, .f t57, .i t58, .f t60, .f t61, .i t62, .f t64, .f t65, .i t66, .f t68, .f t69, .i t70, .f t72, .f t73, .i t74, .f t76, .f t77, .i t78, .f t80, .f t81, .i t82, .f t84, .f t85, .i t86, .f t88, .f t89, .i t90, .b t92, .f t95, .f t97, .f t99, .f t101]) rfl (congrArg (fun r => [U.f r]) e102) rfl ?_
      refine T.hneed (us := [.f t99, .f 4607182418800017408]) rfl (show (Dy.right t99 && Dy.right 4607182418800017408) = true from by rw [R100, (show Dy.right 4607182418800017408 = true from by decide +kernel)]; rfl) ?_
      obtain ⟨t103, e104⟩ : ∃ t103, (Dy.dmax t84 13830554455654793216) = t103 := ⟨_, rfl⟩
      have W104 : Dy.W t103 := by rw [← e104]; exact Dy.dmax_W g87.1.1 (show Dy.W 13830554455654793216 from by unfold Dy.W; decide)
      have R104 : Dy.right t103 = true := by rw [← e104]; exact Dy.dmax_right (Dy.ivR_of g87.2).1 (show Dy.right 13830554455654793216 = true from by decide +kernel)
      refine T.hbind (us := [.f t84, .f 13830554455654793216]) (xs := [.f t103]) (ρ' := [.f pa1, .f pa2, .f pb1, .f pb2, .f pc1, .f pc2, .f qa1, .f qa2, .f qb1, .f qb2, .f qc1, .f qc2, .b t0, .b t2, .b t4, .b t6, .b t8, .b t10, .b t12, .b t14, .b t16, .b t18, .b t20, .b t22, .b t24, .b t26, .b t28, .b t30, .b t32, .b t34, .b t36, .b t38, .f t40, .f t41, .i t42, .f t44, .f t45, .i t46, .f t48, .f t49, .i t50, .f t52, .f t53, .i t54, .f t56, .f t57, .i t58, .f t60, .f t61, .i t62, .f t64, .f t65, .i t66, .f t68, .f t69, .i t70, .f t72, .f t73, .i t74, .f t76, .f t77, .i t78, .f t80, .f t81, .i t82, .f t84, .f t85, .i t86, .f t88, .f t89, .i t90, .b t92, .f t95, .f t97, .f t99, .f t101, .f t103]) rfl (congrArg (fun r => [U.f r]) e104) rfl ?_
      refine T.hneed (us := [.f t84, .f 13830554455654793216]) rfl (show (Dy.right t84 && Dy.right 13830554455654793216) = true from by rw [(Dy.ivR_of g87.2).1, (show Dy.right 13830554455654793216 = true from by decide +kernel)]; rfl) ?_
      obtain ⟨t105, e106⟩ : ∃ t105, (Dy.dmin t103 4607182418800017408) = t105 := ⟨_, rfl⟩
      have W106 : Dy.W t105 := by rw [← e106]; exact Dy.dmin_W W104 (show Dy.W 4607182418800017408 from by unfold Dy.W; decide)
      have R106 : Dy.right t105 = true := by rw [← e106]; exact Dy.dmin_right R104 (show Dy.right 4607182418800017408 = true from by decide +kernel)
      refine T.hbind (us := [.f t103, .f 4607182418800017408]) (xs := [.f t105]) (ρ' := [.f pa1, .f pa2, .f pb1, .f pb2, .f pc1, .f pc2, .f qa1, .f qa2, .f qb1, .f qb2, .f qc1, .f qc2, .b t0, .b t2, .b t4, .b t6, .b t8, .b t10, .b t12, .b t14, .b t16, .b t18, .b t20, .b t22, .b t24, .b t26, .b t28, .b t30, .b t32, .b t34, .b t36, .b t38, .f t40, .f t41, .i t42, .f t44, .f t45, .i t46, .f t48, .f t49, .i t50, .f t52, .f t53, .i t54, .f t56, .f t57, .i t58, .f t60, .f t61, .i t62, .f t64, .f t65, .i t66, .f t68, .f t69, .i t70, .f t72, .f t73, .i t74, .f t76, .f t77, .i t78, .f t80, .f t81, .i t82, .f t84, .f t85, .i t86, .f t88, .f t89, .i t90, .b t92, .f t95, .f t97, .f t99, .f t101, .f t103, .f t105]) rfl (congrArg (fun r => [U.f r]) e106) rfl ?_
      refine T.hneed (us := [.f t103, .f 4607182418800017408]) rfl (show (Dy.right t103 && Dy.right 4607182418800017408) = true from by rw [R104, (show Dy.right 4607182418800017408 = true from by decide +kernel)]; rfl) ?_
      obtain ⟨t107, e108⟩ : ∃ t107, (Dy.dmax t85 13830554455654793216) = t107 := ⟨_, rfl⟩
      have W108 : Dy.W t107 := by rw [← e108]; exact Dy.dmax_W g87.1.2 (show Dy.W 13830554455654793216 from by unfold Dy.W; decide)
      have R108 : Dy.right t107 = true := by rw [← e108]; exact Dy.dmax_right (Dy.ivR_of g87.2).2.1 (show Dy.right 13830554455654793216 = true from by decide +kernel)
      refine T.hbind (us := [.f t85, .f 13830554455654793216]) (xs := [.f t107]) (ρ' := [.f pa1, .f pa2, .f pb1, .f pb2, .f pc1, .f pc2, .f qa1, .f qa2, .f qb1, .f qb2, .f qc1, .f qc2, .b t0, .b t2, .b t4, .b t6, .b t8, .b t10, .b t12, .b t14, .b t16, .b t18, .b t20, .b t22, .b t24, .b t26, .b t28, .b t30, .b t32, .b t34, .b t36, .b t38, .f t40, .f t41, .i t42, .f t44, .f t45, .i t46, .f t48, .f t49, .i t50, .f t52, .f t53, .i t54, .f t56, .f t57, .i t58, .f t60, .f t61, .i t62, .f t64, .f t65, .i t66, .f t68, .f t69, .i t70, .f t72, .f t73, .i t74, .f t76, .f t77, .i t78, .f t80, .f t81, .i t82, .f t84, .f t85, .i t86, .f t88, .f t89, .i t90, .b t92, .f t95, .f t97, .f t99, .f t101, .f t103, .f t105, .f t107]) rfl (congrArg (fun r => [U.f r]) e108) rfl ?_
      refine T.hneed (us := [.f t85, .f 13830554455654793216]) rfl (show (Dy.right t85 && Dy.right 13830554455654793216) = true from by rw [(Dy.ivR_of g87.2).2.1, (show Dy.right 13830554455654793216 = true from by decide +kernel)]; rfl) ?_
      obtain ⟨t109, e110⟩ : ∃ t109, (Dy.dmin t107 4607182418800017408) = t109 := ⟨_, rfl⟩
      have W110 : Dy.W t109 := by rw [← e110]; exact Dy.dmin_W W108 (show Dy.W 4607182418800017408 from by unfold Dy.W; decide)
      have R110 : Dy.right t109 = true := by rw [← e110]; exact Dy.dmin_right R108 (show Dy.right 4607182418800017408 = true from by decide +kernel)
      refine T.hbind (us := [.f t107, .f 4607182418800017408]) (xs := [.f t109]) (ρ' := [.f pa1, .f pa2, .f pb1, .f pb2, .f pc1, .f pc2, .f qa1, .f qa2, .f qb1, .f qb2, .f qc1, .f qc2, .b t0, .b t2, .b t4, .b t6, .b t8, .b t10, .b t12, .b t14, .b t16, .b t18, .b t20, .b t22, .b t24, .b t26, .b t28, .b t30, .b t32, .b t34, .b t36, .b t38, .f t40, .f t41, .i t42, .f t44, .f t45, .i t46, .f t48, .f t49, .i t50, .f t52, .f t53, .i t54, .f t56, .f t57, .i t58, .f t60, .f t61, .i t62, .f t64, .f t65, .i t66, .f t68, .f t69, .i t70, .f t72, .f t73, .i t74, .f t76, .f t77, .i t78, .f t80, .f t81, .i t82, .f t84, .f t85, .i t86, .f t88, .f t89, .i t90, .b t92, .f t95, .f t97, .f t99, .f t101, .f t103, .f t105, .f t107, .f t109]) rfl (congrArg (fun r => [U.f r]) e110) rfl ?_
      refine T.hneed (us := [.f t107, .f 4607182418800017408]) rfl (show (Dy.right t107 && Dy.right 4607182418800017408) = true from by rw [R108, (show Dy.right 4607182418800017408 = true from by decide +kernel)]; rfl) ?_
      obtain ⟨t111, e112⟩ : ∃ t111, (Dy.dmax t88 13830554455654793216) = t111 := ⟨_, rfl⟩
      have W112 : Dy.W t111 := by rw [← e112]; exact Dy.dmax_W g91.1.1 (show Dy.W 13830554455654793216 from by unfold Dy.W; decide)
      have R112 : Dy.right t111 = true := by rw [← e112]; exact Dy.dmax_right (Dy.ivR_of g91.2).1 (show Dy.right 13830554455654793216 = true from by decide +kernel)
      refine T.hbind (us := [.f t88, .f 13830554455654793216]) (xs := [.f t111]) (ρ' := [.f pa1, .f pa2, .f pb1, .f pb2, .f pc1, .f pc2, .f qa1, .f qa2, .f qb1, .f qb2, .f qc1, .f qc2, .b t0, .b t2, .b t4, .b t6, .b t8, .b t10, .b t12, .b t14, .b t16, .b t18, .b t20, .b t22, .b t24, .b t26, .b t28, .b t30, .b t32, .b t34, .b t36, .b t38, .f t40, .f t41, .i t42, .f t44, .f t45, .i t46, .f t48, .f t49, .i t50, .f t52, .f t53, .i t54, .f t56, .f t57, .i t58, .f t60, .f t61, .i t62, .f t64, .f t65, .i t66, .f t68, .f t69, .i t70, .f t72, .f t73, .i t74, .f t76, .f t77, .i t78, .f t80, .f t81, .i t82, .f t84, .f t85, .i t86, .f t88, .f t89, .i t90, .b t92, .f t95, .f t97, .f t99, .f t101, .f t103, .f t105, .f t107, .f t109, .f t111]) rfl (congrArg (fun r => [U.f r]) e112) rfl ?_
      refine T.hneed (us := [.f t88, .f 13830554455654793216]) rfl (show (Dy.right t88 && Dy.right 13830554455654793216) = true from by rw [(Dy.ivR_of g91.2).1, (show Dy.right 13830554455654793216 = true from by decide +kernel)]; rfl) ?_
      obtain ⟨t113, e114⟩ : ∃ t113, (Dy.dmin t111 4607182418800017408) = t113 := ⟨_, rfl⟩
      have W114 : Dy.W t113 := by rw [← e114]; exact Dy.dmin_W W112 (show Dy.W 4607182418800017408 from by unfold Dy.W; decide)
      have R114 : Dy.right t113 = true := by rw [← e114]; exact Dy.dmin_right R112 (show Dy.right 4607182418800017408 = true from by decide +kernel)
      refine T.hbind (us := [.f t111, .f 4607182418800017408]) (xs := [.f t113]) (ρ' := [.f pa1, .f pa2, .f pb1, .f pb2, .f pc1, .f pc2, .f qa1, .f qa2, .f qb1, .f qb2, .f qc1, .f qc2, .b t0, .b t2, .b t4, .b t6, .b t8, .b t10, .b t12, .b t14, .b t16, .b t18, .b t20, .b t22, .b t24, .b t26, .b t28, .b t30, .b t32, .b t34, .b t36, .b t38, .f t40, .f t41, .i t42, .f t44, .f t45, .i t46, .f t48, .f t49, .i t50, .f t52, .f t53, .i t54, .f t56, .f t57, .i t58, .f t60, .f t61, .i t62, .f t64, .f t65, .i t66, .f t68, .f t69, .i t70, .f t72, .f t73, .i t74, .f t76, .f t77, .i t78, .f t80, .f t81, .i t82, .f t84, .f t85, .i t86, .f t88, .f t89, .i t90, .b t92, .f t95, .f t97, .f t99, .f t101, .f t103, .f t105, .f t107, .f t109, .f t111, .f t113]) rfl (congrArg (fun r => [U.f r]) e114) rfl ?_
      refine T.hneed (us := [.f t111, .f 4607182418800017408]) rfl (show (Dy.right t111 && Dy.right 4607182418800017408) = true from by rw [R112, (show Dy.right 4607182418800017408 = true from by decide +kernel)]; rfl) ?_
      obtain ⟨t115, e116⟩ : ∃ t115, (Dy.dmax t89 13830554455654793216) = t115 := ⟨_, rfl⟩
      have W116 : Dy.W t115 := by rw [← e116]; exact Dy.dmax_W g91.1.2 (show Dy.W 13830554455654793216 from by unfold Dy.W; decide)
      have R116 : Dy.right t115 = true := by rw [← e116]; exact Dy.dmax_right (Dy.ivR_of g91.2).2.1 (show Dy.right 13830554455654793216 = true from by decide +kernel)
      refine T.hbind (us := [.f t89, .f 13830554455654793216]) (xs := [.f t115]) (ρ' := [.f pa1, .f pa2, .f pb1, .f pb2, .f pc1, .f pc2, .f qa1, .f qa2, .f qb1, .f qb2, .f qc1, .f qc2, .b t0, .b t2, .b t4, .b t6, .b t8, .b t10, .b t12, .b t14, .b t16, .b t18, .b t20, .b t22, .b t24, .b t26, .b t28, .b t30, .b t32, .b t34, .b t36, .b t38, .f t40, .f t41, .i t42, .f t44, .f t45, .i t46, .f t48, .f t49, .i t50, .f t52, .f t53, .i t54, .f t56, .f t57, .i t58, .f t60, .f t61, .i t62, .f t64, .f t65, .i t66, .f t68, .f t69, .i t70, .f t72, .f t73, .i t74, .f t76, .f t77, .i t78, .f t80, .f t81, .i t82, .f t84, .f t85, .i t86, .f t88, .f t89, .i t90, .b t92, .f t95, .f t97, .f t99, .f t101, .f t103, .f t105, .f t107, .f t109, .f t111, .f t113, .f t115]) rfl (congrArg (fun r => [U.f r]) e116) rfl ?_
      refine T.hneed (us := [.f t89, .f 13830554455654793216]) rfl (show (Dy.right t89 && Dy.right 13830554455654793216) = true from by rw [(Dy.ivR_of g91.2).2.1, (show Dy.right 13830554455654793216 = true from by decide +kernel)]; rfl) ?_
      obtain ⟨t117, e118⟩ : ∃ t117, (Dy.dmin t115 4607182418800017408) = t117 := ⟨_, rfl⟩
      have W118 : Dy.W t117 := by rw [← e118]; exact Dy.dmin_W W116 (show Dy.W 4607182418800017408 from by unfold Dy.W; decide)
      have R118 : Dy.right t117 = true := by rw [← e118]; exact Dy.dmin_right R116 (show Dy.right 4607182418800017408 = true from by decide +kernel)
      refine T.hbind (us := [.f t115, .f 4607182418800017408]) (xs := [.f t117]) (ρ' := [.f pa1, .f pa2, .f pb1, .f pb2, .f pc1, .f pc2, .f qa1, .f qa2, .f qb1, .f qb2, .f qc1, .f qc2, .b t0, .b t2, .b t4, .b t6, .b t8, .b t10, .b t12, .b t14, .b t16, .b t18, .b t20, .b t22, .b t24, .b t26, .b t28, .b t30, .b t32, .b t34, .b t36, .b t38, .f t40, .f t41, .i t42, .f t44, .f t45, .i t46, .f t48, .f t49, .i t50, .f t52, .f t53, .i t54, .f t56, .f t57, .i t58, .f t60, .f t61, .i t62, .f t64, .f t65, .i t66, .f t68, .f t69, .i t70, .f t72, .f t73, .i t74, .f t76, .f t77, .i t78, .f t80, .f t81, .i t82, .f t84, .f t85, .i t86, .f t88, .f t89, .i t90, .b t92, .f t95, .f t97, .f t99, .f t101, .f t103, .f t105, .f t107, .f t109, .f t111, .f t113, .f t115, .f t117]) rfl (congrArg (fun r => [U.f r]) e118) rfl ?_
      refine T.hneed (us := [.f t115, .f 4607182418800017408]) rfl (show (Dy.right t115 && Dy.right 4607182418800017408) = true from by rw [R116, (show Dy.right 4607182418800017408 = true from by decide +kernel)]; rfl) ?_
      refine T.hdone ?_
      have eM : reflM (pa1, pa2) (pb1, pb2) (pc1, pc2) (qa1, qa2) (qb1, qb2) (qc1, qc2) 0 = (((t80, t81), (t84, t85), (t88, t89)), t90) := by
        unfold reflM
        refine (Dy.cs_num e43).trans ?_
        refine (Dy.cs_mul e47).trans ?_
        refine (Dy.cs_mul e51).trans ?_
        refine (Dy.cs_add e55).trans ?_
        refine (Dy.cs_mul e59).trans ?_
        refine (Dy.cs_add e63).trans ?_
        refine (Dy.cs_mul e67).trans ?_
        refine (Dy.cs_mul e71).trans ?_
        refine (Dy.cs_mul e75).trans ?_
        refine (Dy.cs_mul e79).trans ?_
        refine (Dy.cs_sub e83).trans ?_
        refine (Dy.cs_sub e87).trans ?_
        first | exact e91 | (refine (Dy.cs_sub e91).trans ?_; rfl) | (refine (Dy.cs_sub e91).trans ?_; rw [Dy.cm_pure]; simp only [e1, e3, e5, e7, e9, e11, e13, e15, e17, e19, e21, e23, e25, e27, e29, e31, e33, e35, e37, e39, e93, c95, e96, e98, e100, e102, e104, e106, e108, e110, e112, e114, e116, e118])
      have e00 : (reflG (pa1, pa2) (pb1, pb2) (pc1, pc2) (qa1, qa2) (qb1, qb2) (qc1, qc2)) = (((t97, t101), (t105, t109), (t113, t117)), 0) := by simp only [reflG, Dy.clip, eM, e1, e3, e5, e7, e9, e11, e13, e15, e17, e19, e21, e23, e25, e27, e29, e31, e33, e35, e37, e39, e93, c95, e96, e98, e100, e102, e104, e106, e108, e110, e112, e114, e116, e118, reduceIte, Bool.false_eq_true, Bool.true_eq_false, Bool.true_and, Bool.false_and, Bool.and_true, Bool.and_false, Bool.true_or, Bool.false_or, Bool.or_true, Bool.or_false, Bool.not_true, Bool.not_false] <;> simp_all
      exact ⟨⟨⟨(congrArg (fun r => some (vecU r 0)) e00.symm), (congrArg (fun r => some (vecU r 1)) e00.symm), (congrArg (fun r => some (vecU r 2)) e00.symm), (congrArg (fun r => some (vecU r 3)) e00.symm), (congrArg (fun r => some (vecU r 4)) e00.symm), (congrArg (fun r => some (vecU r 5)) e00.symm), trivial⟩, ⟨rfl, (congrArg (fun r => some (vecU r 6)) e00.symm)⟩, trivial⟩, trivial, rfl⟩

def w2 : List (Nat × Ct) := (27, ctRefl) :: w1
theorem w2_ok : AllOk Try.prog w2 := ⟨ctRefl_ok, w1_ok⟩

def ctReflBad : Ct := ⟨2, [], [.agg [vf 0, vf 1, .fl (.l (.f 0)), .fl (.l (.f 0)), .fl (.l (.f 0)), .fl (.l (.f 0))], .agg [.fl (.l (.f 0)), .fl (.l (.f 0)), .fl (.l (.f 0)), .fl (.l (.f 0)), .fl (.l (.f 0)), .fl (.l (.f 0))]], { binds := [⟨fIv1 Dy.ivR, 1, [(.v 0), (.v 1)]⟩, ⟨fun us _ => cB (fun a b => Dy.fgt a b || Dy.feq a b) us, 1, [(.v 0), (.l (.f 13830554455654793216))]⟩, ⟨fun us _ => cB (fun a b => Dy.flt a b || Dy.feq a b) us, 1, [(.v 1), (.l (.f 4607182418800017408))]⟩, ⟨fIv1 Dy.ivR, 1, [(.l (.f 0)), (.l (.f 0))]⟩, ⟨fIv1 Dy.ivR, 1, [(.l (.f 0)), (.l (.f 0))]⟩, ⟨fIv1 Dy.ivR, 1, [(.l (.f 0)), (.l (.f 0))]⟩, ⟨fIv1 Dy.ivR, 1, [(.l (.f 0)), (.l (.f 0))]⟩, ⟨fIv1 Dy.ivR, 1, [(.l (.f 0)), (.l (.f 0))]⟩, ⟨fun us _ => nB us, 1, [(.v 9)]⟩], needs := [⟨pT, [(.v 3)]⟩, ⟨pT, [(.v 2)]⟩, ⟨pF, [(.v 4)]⟩, ⟨pT, [(.v 5)]⟩, ⟨pT, [(.v 6)]⟩, ⟨pT, [(.v 7)]⟩, ⟨pT, [(.v 8)]⟩, ⟨pF, [(.v 10)]⟩], val := .tup [.agg [.fl (.l (.f 0)), .fl (.l (.f 0)), .fl (.l (.f 0)), .fl (.l (.f 0)), .fl (.l (.f 0)), .fl (.l (.f 0))], .it .i64 (.l (.i 2))], upd := [] }⟩
theorem ctReflBad_ok : CtOk Try.prog 27 ctReflBad := CtOk.flatP w2_ok (dr_ok w2_ok) Try.func27 rfl (by decide) [] 200 [true, true, false, true, true, true, true, false] ⟨[.tup [.agg [.fl (.l (.f 0)), .fl (.l (.f 0)), .fl (.l (.f 0)), .fl (.l (.f 0)), .fl (.l (.f 0)), .fl (.l (.f 0))], .it .i64 (.l (.i 2))]], [], 11, []⟩ (by kernel_rfl) rfl (by kernel_rfl) rfl (by kernel_rfl) (by kernel_rfl) (by kernel_rfl) (by kernel_rfl)

def w3 : List (Nat × Ct) := (27, ctReflBad) :: w2
theorem w3_ok : AllOk Try.prog w3 := ⟨ctReflBad_ok, w2_ok⟩

def ctP14 : Ct := ⟨1, [], [vf 0], { binds := [⟨fun us _ => fB Ieee.double.add us, 1, [(.v 0), (.l (.f 0))]⟩, ⟨fun us _ => fB Ieee.double.add us, 1, [(.v 0), (.l (.f 0))]⟩], needs := [⟨fN Ieee.double.add, [(.v 0), (.l (.f 0))]⟩, ⟨fN Ieee.double.add, [(.v 0), (.l (.f 0))]⟩], val := .agg [.fl (.v 1), .fl (.v 2)], upd := [] }⟩
theorem ctP14_ok : CtOk Try.prog 28 ctP14 := CtOk.flat w3_ok (dr_ok w3_ok) Try.func28 rfl (by decide) [] 200 ⟨[.agg [.fl (.v 1), .fl (.v 2)]], [], 3, []⟩ (by kernel_rfl) rfl (by kernel_rfl) rfl (by kernel_rfl) (by kernel_rfl) (by kernel_rfl) (by kernel_rfl)

def w4 : List (Nat × Ct) := (28, ctP14) :: w3
theorem w4_ok : AllOk Try.prog w4 := ⟨ctP14_ok, w3_ok⟩

def ctNear14T : T := .bind ⟨fun us _ => cB (fun a b => Dy.flt a b || Dy.feq a b) us, 1, [(.v 0), (.v 1)]⟩ (.ite (.v 3) (.bind ⟨fun us _ => fB Ieee.double.sub us, 1, [(.v 2), (.l (.f 4427038433705197568))]⟩ (.need ⟨fN Ieee.double.sub, [(.v 2), (.l (.f 4427038433705197568))]⟩ (.bind ⟨fun us _ => cB (fun a b => Dy.fgt a b || Dy.feq a b) us, 1, [(.v 0), (.v 4)]⟩ (.ite (.v 5) (.bind ⟨fun us _ => fB Ieee.double.add us, 1, [(.v 2), (.l (.f 4427038433705197568))]⟩ (.need ⟨fN Ieee.double.add, [(.v 2), (.l (.f 4427038433705197568))]⟩ (.bind ⟨fun us _ => cB (fun a b => Dy.flt a b || Dy.feq a b) us, 1, [(.v 1), (.v 6)]⟩ (.done .ret ⟨[.bo (.v 7)], [], 8, []⟩)))) (.done .ret ⟨[.bo (.l (.b false))], [], 6, []⟩))))) (.done .ret ⟨[.bo (.l (.b false))], [], 4, []⟩))
def ctNear14 : Ct := ctT 3 [vp 0 1, vf 2] ctNear14T (vb 3) 1
theorem ctNear14_ok : CtOk Try.prog 69 ctNear14 := ctT_ok w4_ok (dr_ok w4_ok) Try.func69 rfl (by decide) 200 3 [vp 0 1, vf 2] ctNear14T (vb 3) 1 (by kernel_rfl) (by kernel_rfl) (by kernel_rfl)

def w5 : List (Nat × Ct) := (69, ctNear14) :: w4
theorem w5_ok : AllOk Try.prog w5 := ⟨ctNear14_ok, w4_ok⟩

def ctStraightT : T := .bind ⟨fun us i => vecU ((unitG (gF us 0) (gF us 1) (gF us 2))) i, 7, [(.v 0), (.v 1), (.v 2)]⟩ (.need ⟨nR3, [(.v 0), (.v 1), (.v 2)]⟩ (.bind ⟨fun us _ => jB (fun a b => a != b) us, 1, [(.v 9), (.l (.i 0))]⟩ (.ite (.v 10) (.done .ret ⟨[.tup [.agg [.fl (.l (.f 0)), .fl (.l (.f 0)), .fl (.l (.f 0))], .it .i64 (.l (.i 50))]], [], 11, []⟩) (.bind ⟨fun us _ => fB Ieee.double.sub us, 1, [(.l (.f 0)), (.v 0)]⟩ (.need ⟨fN Ieee.double.sub, [(.l (.f 0)), (.v 0)]⟩ (.bind ⟨fun us _ => fB Ieee.double.sub us, 1, [(.l (.f 0)), (.v 1)]⟩ (.need ⟨fN Ieee.double.sub, [(.l (.f 0)), (.v 1)]⟩ (.bind ⟨fun us _ => fB Ieee.double.add us, 1, [(.v 2), (.l (.f 0))]⟩ (.need ⟨fN Ieee.double.add, [(.v 2), (.l (.f 0))]⟩ (.done .ret ⟨[.tup [.agg [.fl (.v 11), .fl (.v 12), .fl (.v 13)], .it .i64 (.l (.i 0))]], [], 14, []⟩))))))))))
def ctStraight : Ct := ctT 3 [.agg [vf 0, vf 1, vf 2]] ctStraightT (.tup [.agg [vf 3, vf 4, vf 5], vi .i64 6]) 4
theorem ctStraight_ok : CtOk Try.prog 25 ctStraight := ctT_ok w5_ok (dr_ok w5_ok) Try.func25 rfl (by decide) 200 3 [.agg [vf 0, vf 1, vf 2]] ctStraightT (.tup [.agg [vf 3, vf 4, vf 5], vi .i64 6]) 4 (by kernel_rfl) (by kernel_rfl) (by kernel_rfl)

def w6 : List (Nat × Ct) := (25, ctStraight) :: w5
theorem w6_ok : AllOk Try.prog w6 := ⟨ctStraight_ok, w5_ok⟩

def ctAwake14 : Ct := ctTrue
theorem ctAwake14_ok : CtOk Try.prog 26 ctAwake14 := ctTrue_ok w6_ok (dr_ok w6_ok) Try.func26 rfl (by decide) 200 _ rfl (by kernel_rfl)

def w7 : List (Nat × Ct) := (26, ctAwake14) :: w6
theorem w7_ok : AllOk Try.prog w7 := ⟨ctAwake14_ok, w6_ok⟩

def ctSame14 : Ct := ⟨12, [], [.agg [vf 0, vf 1, vf 2, vf 3, vf 4, vf 5], .agg [vf 6, vf 7, vf 8, vf 9, vf 10, vf 11]], { binds := [⟨fun us i => bRes (meetsB (gF us 0, gF us 1) (gF us 2, gF us 3)) i, 1, [(.v 0), (.v 1), (.v 6), (.v 7)]⟩, ⟨fun us i => bRes (meetsB (gF us 0, gF us 1) (gF us 2, gF us 3)) i, 1, [(.v 2), (.v 3), (.v 8), (.v 9)]⟩, ⟨fun us i => bRes (meetsB (gF us 0, gF us 1) (gF us 2, gF us 3)) i, 1, [(.v 4), (.v 5), (.v 10), (.v 11)]⟩], needs := [⟨pT, [(.v 12)]⟩, ⟨pT, [(.v 13)]⟩], val := .bo (.v 14), upd := [] }⟩
theorem ctSame14_ok : CtOk Try.prog 29 ctSame14 := CtOk.flatP w7_ok (dr_ok w7_ok) Try.func29 rfl (by decide) [] 200 [true, true] ⟨[.bo (.v 14)], [], 15, []⟩ (by kernel_rfl) rfl (by kernel_rfl) rfl (by kernel_rfl) (by kernel_rfl) (by kernel_rfl) (by kernel_rfl)

def w8 : List (Nat × Ct) := (29, ctSame14) :: w7
theorem w8_ok : AllOk Try.prog w8 := ⟨ctSame14_ok, w7_ok⟩

end Go.Proofs.Ytiphdhpacklboaa
