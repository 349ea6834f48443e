/- The law LambertParts walked. -/
import Derived.Test.YthfgdhobldejmaaYn
namespace Go.Proofs.Ythfgdhobldejmaa
open Go Go.RowKit

def r0 : List (Nat × Ct) := n2
theorem r0_ok : AllOk Try.prog r0 := n2_ok
def ctPoint : Ct := ⟨1, [], [vf 0], { binds := [⟨fun us _ => fB Ieee.double.add us, 1, [(.v 0), (.l (.f 0))]⟩, ⟨fun us _ => fB Ieee.double.add us, 1, [(.v 0), (.l (.f 0))]⟩], needs := [⟨fN Ieee.double.add, [(.v 0), (.l (.f 0))]⟩, ⟨fN Ieee.double.add, [(.v 0), (.l (.f 0))]⟩], val := .agg [.fl (.v 1), .fl (.v 2)], upd := [] }⟩
theorem ctPoint_ok : CtOk Try.prog 46 ctPoint := CtOk.flat r0_ok (dr_ok r0_ok) Try.func46 rfl (by decide) [] 200 ⟨[.agg [.fl (.v 1), .fl (.v 2)]], [], 3, []⟩ (by kernel_rfl) rfl (by kernel_rfl) rfl (by kernel_rfl) (by kernel_rfl) (by kernel_rfl) (by kernel_rfl)

def r1 : List (Nat × Ct) := (46, ctPoint) :: r0
theorem r1_ok : AllOk Try.prog r1 := ⟨ctPoint_ok, r0_ok⟩

def ctP7 : Ct := ⟨1, [], [vf 0], { binds := [⟨fun us _ => fB Ieee.double.add us, 1, [(.v 0), (.l (.f 0))]⟩, ⟨fun us _ => fB Ieee.double.add us, 1, [(.v 0), (.l (.f 0))]⟩], needs := [⟨fN Ieee.double.add, [(.v 0), (.l (.f 0))]⟩, ⟨fN Ieee.double.add, [(.v 0), (.l (.f 0))]⟩], val := .agg [.fl (.v 1), .fl (.v 2)], upd := [] }⟩
theorem ctP7_ok : CtOk Try.prog 14 ctP7 := CtOk.flat r1_ok (dr_ok r1_ok) Try.func14 rfl (by decide) [] 200 ⟨[.agg [.fl (.v 1), .fl (.v 2)]], [], 3, []⟩ (by kernel_rfl) rfl (by kernel_rfl) rfl (by kernel_rfl) (by kernel_rfl) (by kernel_rfl) (by kernel_rfl)

def r2 : List (Nat × Ct) := (14, ctP7) :: r1
theorem r2_ok : AllOk Try.prog r2 := ⟨ctP7_ok, r1_ok⟩

def ctFrac : Ct := ⟨1, [], [vi .u32 0], { binds := [⟨fun us _ => nF us, 1, [(.v 0)]⟩, ⟨fun us _ => fB Ieee.double.div us, 1, [(.v 1), (.l (.f 4751297606873776128))]⟩], needs := [⟨nN, [(.v 0)]⟩, ⟨fN Ieee.double.div, [(.v 1), (.l (.f 4751297606873776128))]⟩], val := .fl (.v 2), upd := [] }⟩
theorem ctFrac_ok : CtOk Try.prog 24 ctFrac := CtOk.flat r2_ok (dr_ok r2_ok) Try.func24 rfl (by decide) [] 200 ⟨[.fl (.v 2)], [], 3, []⟩ (by kernel_rfl) rfl (by kernel_rfl) rfl (by kernel_rfl) (by kernel_rfl) (by kernel_rfl) (by kernel_rfl)

def r3 : List (Nat × Ct) := (24, ctFrac) :: r2
theorem r3_ok : AllOk Try.prog r3 := ⟨ctFrac_ok, r2_ok⟩

def ctAwake07 : Ct := ctTrue
theorem ctAwake07_ok : CtOk Try.prog 16 ctAwake07 := ctTrue_ok r3_ok (dr_ok r3_ok) Try.func16 rfl (by decide) 200 _ rfl (by kernel_rfl)

def r4 : List (Nat × Ct) := (16, ctAwake07) :: r3
theorem r4_ok : AllOk Try.prog r4 := ⟨ctAwake07_ok, r3_ok⟩

/-- Have two intervals a number in common? -/
def meetsB (a b : Nat × Nat) : Bool := (Dy.flt a.1 b.2 || Dy.feq a.1 b.2) && (Dy.flt b.1 a.2 || Dy.feq b.1 a.2)
def ctMeets : Ct := ⟨4, [], [vp 0 1, vp 2 3], { binds := [⟨fun us i => bRes (meetsB (gF us 0, gF us 1) (gF us 2, gF us 3)) i, 1, upto 0 4⟩], needs := [], val := vb 4, upd := [] }⟩
set_option maxRecDepth 100000 in
set_option maxHeartbeats 4000000 in
theorem ctMeets_ok : CtOk Try.prog 32 ctMeets := by
  refine CtOk.of_eval2 r4_ok (dr_ok r4_ok) Try.func32 rfl (by decide) [] 200 (by kernel_rfl) rfl (.bind ⟨fun us _ => cB (fun a b => Dy.flt a b || Dy.feq a b) us, 1, [(.v 0), (.v 3)]⟩ (.ite (.v 4) (.bind ⟨fun us _ => cB (fun a b => Dy.flt a b || Dy.feq a b) us, 1, [(.v 2), (.v 1)]⟩ (.done .ret ⟨[.bo (.v 5)], [], 6, []⟩)) (.done .ret ⟨[.bo (.l (.b false))], [], 5, []⟩))) (by kernel_rfl) (by kernel_rfl) (by kernel_rfl) (fun us hl hF hB hN => ?_)
  match us, hl with
  | [u0, u1, u2, u3], _ =>
    simp [FactsB, FactsL, Facts, ctMeets] at hF hB
    simp [NeedsAt, runB, evs, E.ev, upto, resl, List.range, List.range.loop, ctMeets] at hN
    obtain ⟨⟨⟨a1, rfl, w1⟩, ⟨a2, rfl, w2⟩⟩, ⟨b1, rfl, w3⟩, ⟨b2, rfl, w4⟩⟩ := hF
    refine T.bind_n (us := [.f a1, .f b2]) (xs := [.b (Dy.flt a1 b2 || Dy.feq a1 b2)]) (ρ' := [.f a1, .f a2, .f b1, .f b2, .b (Dy.flt a1 b2 || Dy.feq a1 b2)]) rfl (rfl) rfl ?_
    refine T.ite_i (x := (Dy.flt a1 b2 || Dy.feq a1 b2)) rfl (fun c1 => ?_) (fun c1 => ?_)
    · skip
      refine T.bind_n (us := [.f b1, .f a2]) (xs := [.b (Dy.flt b1 a2 || Dy.feq b1 a2)]) (ρ' := [.f a1, .f a2, .f b1, .f b2, .b (Dy.flt a1 b2 || Dy.feq a1 b2), .b (Dy.flt b1 a2 || Dy.feq b1 a2)]) rfl (rfl) rfl ?_
      refine T.done_i ?_
      have e0 : meetsB (a1, a2) (b1, b2) = (Dy.flt b1 a2 || Dy.feq b1 a2) := by unfold meetsB; rw [c1]; rfl
      exact ⟨(congrArg (fun r => some (bRes r 0)) e0.symm), trivial, rfl⟩
    · skip
      refine T.done_i ?_
      have e0 : meetsB (a1, a2) (b1, b2) = false := by unfold meetsB; rw [c1]; rfl
      exact ⟨(congrArg (fun r => some (bRes r 0)) e0.symm), trivial, rfl⟩

def r5 : List (Nat × Ct) := (32, ctMeets) :: r4
theorem r5_ok : AllOk Try.prog r5 := ⟨ctMeets_ok, r4_ok⟩

set_option maxRecDepth 100000 in
set_option maxHeartbeats 4000000 in
theorem parts_ok (u v : Nat) (w : World) {t0 : Nat} {t1 : Nat} {t2 : Nat} {t3 : Nat} {t4 : Nat} {t5 : Nat} {t6 : Nat} {t7 : Nat} {t8 : Nat} {t9 : Nat} {t10 : Int} {t11 : Nat} {t12 : Nat} {t13 : Int} {t14 : Nat} {t15 : Nat} {t16 : Nat} {t17 : Nat} {t18 : Int} {t19 : Nat} {t20 : Nat} {t21 : Int} {t22 : Nat} {t23 : Nat} {t24 : Int} {t25 : Nat} {t26 : Nat} {t27 : Int} {t28 : Nat} {t29 : Nat} (h0 : (FloatKind.f64.nearest ((u : Nat) : Int)) = t0) (h1 : ((Ieee.double.div t0 4751297606873776128).getD 0) = t1) (h2 : nN [.i ((u : Nat) : Int)] = true) (h3 : (fN Ieee.double.div) [.f t0, .f 4751297606873776128] = true) (h4 : ((Ieee.double.div t1 4611686018427387904).getD 0) = t2) (h5 : (fN Ieee.double.div) [.f t1, .f 4611686018427387904] = true) (h6 : ((Ieee.double.add t2 0).getD 0) = t3) (h7 : (fN Ieee.double.add) [.f t2, .f 0] = true) (h8 : (FloatKind.f64.nearest ((v : Nat) : Int)) = t4) (h9 : ((Ieee.double.div t4 4751297606873776128).getD 0) = t5) (h10 : nN [.i ((v : Nat) : Int)] = true) (h11 : (fN Ieee.double.div) [.f t4, .f 4751297606873776128] = true) (h12 : ((Ieee.double.div t5 4611686018427387904).getD 0) = t6) (h13 : (fN Ieee.double.div) [.f t5, .f 4611686018427387904] = true) (h14 : ((Ieee.double.add t6 0).getD 0) = t7) (h15 : (fN Ieee.double.add) [.f t6, .f 0] = true) (h16 : (lamV (t3, t3)) = ((t8, t9), t10)) (h17 : (lamV (t7, t7)) = ((t11, t12), t13)) (h18 : ((Ieee.double.mul t3 4611686018427387904).getD 0) = t14) (h19 : (fN Ieee.double.mul) [.f t3, .f 4611686018427387904] = true) (h20 : ((Ieee.double.add t14 0).getD 0) = t15) (h21 : (fN Ieee.double.add) [.f t14, .f 0] = true) (h22 : (lamV (t15, t15)) = ((t16, t17), t18)) (h23 : (Dy.cAdd (0) (t3, t3) (t7, t7)) = ((t19, t20), t21)) (h24 : (lamV (t19, t20)) = ((t22, t23), t24)) (h25 : (Dy.fgt t20 4607182418800017408) = false) (h26 : (Dy.cAdd (t21) (t8, t9) (t11, t12)) = ((t25, t26), t27)) (h27 : (t10 == 0) = true) (h28 : (t13 == 0) = true) (h29 : (t10 == 0) = true) (h30 : (t18 == 0) = true) (h31 : (t24 == 0) = true) (h32 : (t27 == 0) = true) (h33 : ((meetsB (t22, t23) (t25, t26))) = true) (h34 : ((Dy.feq t8 t8 && (Dy.feq t9 t9 && true))) = true) (h35 : ((Ieee.double.mul t8 4611686018427387904).getD 0) = t28) (h36 : (fN Ieee.double.mul) [.f t8, .f 4611686018427387904] = true) (h37 : ((Ieee.double.mul t9 4611686018427387904).getD 0) = t29) (h38 : (fN Ieee.double.mul) [.f t9, .f 4611686018427387904] = true) (h39 : ((Dy.feq t16 t28 && (Dy.feq t17 t29 && true))) = true) : Calls Try.prog 6 #[.int .u32 ((u : Nat) : Int), .int .u32 ((v : Nat) : Int)] w fun e w' => e = .returned (.bool true) ∧ Below w.heap.size w w' := by
  refine law_calls (vs := [.int .u32 ((u : Nat) : Int), .int .u32 ((v : Nat) : Int)]) (us := [.i ((u : Nat) : Int), .i ((v : Nat) : Int)]) (args := [vi .u32 0, vi .u32 1]) r5_ok (dr_ok r5_ok) Try.func6 [] 200 2 rfl [false, true, true, true, true, true, true, true, true, true] (t := .bind ⟨fun us _ => nF us, 1, [(.v 0)]⟩ (.bind ⟨fun us _ => fB Ieee.double.div us, 1, [(.v 2), (.l (.f 4751297606873776128))]⟩ (.need ⟨nN, [(.v 0)]⟩ (.need ⟨fN Ieee.double.div, [(.v 2), (.l (.f 4751297606873776128))]⟩ (.bind ⟨fun us _ => fB Ieee.double.div us, 1, [(.v 3), (.l (.f 4611686018427387904))]⟩ (.need ⟨fN Ieee.double.div, [(.v 3), (.l (.f 4611686018427387904))]⟩ (.bind ⟨fun us _ => fB Ieee.double.add us, 1, [(.v 4), (.l (.f 0))]⟩ (.bind ⟨fun us _ => fB Ieee.double.add us, 1, [(.v 4), (.l (.f 0))]⟩ (.need ⟨fN Ieee.double.add, [(.v 4), (.l (.f 0))]⟩ (.need ⟨fN Ieee.double.add, [(.v 4), (.l (.f 0))]⟩ (.bind ⟨fun us _ => nF us, 1, [(.v 1)]⟩ (.bind ⟨fun us _ => fB Ieee.double.div us, 1, [(.v 7), (.l (.f 4751297606873776128))]⟩ (.need ⟨nN, [(.v 1)]⟩ (.need ⟨fN Ieee.double.div, [(.v 7), (.l (.f 4751297606873776128))]⟩ (.bind ⟨fun us _ => fB Ieee.double.div us, 1, [(.v 8), (.l (.f 4611686018427387904))]⟩ (.need ⟨fN Ieee.double.div, [(.v 8), (.l (.f 4611686018427387904))]⟩ (.bind ⟨fun us _ => fB Ieee.double.add us, 1, [(.v 9), (.l (.f 0))]⟩ (.bind ⟨fun us _ => fB Ieee.double.add us, 1, [(.v 9), (.l (.f 0))]⟩ (.need ⟨fN Ieee.double.add, [(.v 9), (.l (.f 0))]⟩ (.need ⟨fN Ieee.double.add, [(.v 9), (.l (.f 0))]⟩ (.bind ⟨fun us i => calR (lamV (gF us 0, gF us 1)) i, 3, [(.v 5), (.v 6)]⟩ (.bind ⟨fun us i => calR (lamV (gF us 0, gF us 1)) i, 3, [(.v 10), (.v 11)]⟩ (.bind ⟨fun us i => calR (lamV (gF us 0, gF us 1)) i, 3, [(.v 5), (.v 6)]⟩ (.bind ⟨fun us _ => fB Ieee.double.mul us, 1, [(.v 5), (.l (.f 4611686018427387904))]⟩ (.need ⟨fN Ieee.double.mul, [(.v 5), (.l (.f 4611686018427387904))]⟩ (.bind ⟨fun us _ => fB Ieee.double.add us, 1, [(.v 21), (.l (.f 0))]⟩ (.bind ⟨fun us _ => fB Ieee.double.add us, 1, [(.v 21), (.l (.f 0))]⟩ (.need ⟨fN Ieee.double.add, [(.v 21), (.l (.f 0))]⟩ (.need ⟨fN Ieee.double.add, [(.v 21), (.l (.f 0))]⟩ (.bind ⟨fun us i => calR (lamV (gF us 0, gF us 1)) i, 3, [(.v 22), (.v 23)]⟩ (.bind ⟨fun us i => calR (Dy.cAdd (gI us 0) (gF us 1, gF us 2) (gF us 3, gF us 4)) i, 3, [(.l (.i 0)), (.v 5), (.v 6), (.v 10), (.v 11)]⟩ (.bind ⟨fun us i => calR (lamV (gF us 0, gF us 1)) i, 3, [(.v 27), (.v 28)]⟩ (.bind ⟨fun us _ => cB Dy.fgt us, 1, [(.v 28), (.l (.f 4607182418800017408))]⟩ (.need ⟨pF, [(.v 33)]⟩ (.bind ⟨fun us i => calR (Dy.cAdd (gI us 0) (gF us 1, gF us 2) (gF us 3, gF us 4)) i, 3, [(.v 29), (.v 12), (.v 13), (.v 15), (.v 16)]⟩ (.bind ⟨fun us _ => jB (fun a b => a == b) us, 1, [(.v 14), (.l (.i 0))]⟩ (.need ⟨pT, [(.v 37)]⟩ (.bind ⟨fun us _ => jB (fun a b => a == b) us, 1, [(.v 17), (.l (.i 0))]⟩ (.need ⟨pT, [(.v 38)]⟩ (.bind ⟨fun us _ => jB (fun a b => a == b) us, 1, [(.v 20), (.l (.i 0))]⟩ (.need ⟨pT, [(.v 39)]⟩ (.bind ⟨fun us _ => jB (fun a b => a == b) us, 1, [(.v 26), (.l (.i 0))]⟩ (.need ⟨pT, [(.v 40)]⟩ (.bind ⟨fun us _ => jB (fun a b => a == b) us, 1, [(.v 32), (.l (.i 0))]⟩ (.need ⟨pT, [(.v 41)]⟩ (.bind ⟨fun us _ => jB (fun a b => a == b) us, 1, [(.v 36), (.l (.i 0))]⟩ (.need ⟨pT, [(.v 42)]⟩ (.bind ⟨fun us i => bRes (meetsB (gF us 0, gF us 1) (gF us 2, gF us 3)) i, 1, [(.v 30), (.v 31), (.v 34), (.v 35)]⟩ (.need ⟨pT, [(.v 43)]⟩ (.bind ⟨fun us _ => eqB [Kd.f, Kd.f] us, 1, [(.v 18), (.v 12), (.v 19), (.v 13)]⟩ (.need ⟨pT, [(.v 44)]⟩ (.bind ⟨fun us _ => fB Ieee.double.mul us, 1, [(.v 12), (.l (.f 4611686018427387904))]⟩ (.need ⟨fN Ieee.double.mul, [(.v 12), (.l (.f 4611686018427387904))]⟩ (.bind ⟨fun us _ => fB Ieee.double.mul us, 1, [(.v 13), (.l (.f 4611686018427387904))]⟩ (.need ⟨fN Ieee.double.mul, [(.v 13), (.l (.f 4611686018427387904))]⟩ (.bind ⟨fun us _ => eqB [Kd.f, Kd.f] us, 1, [(.v 24), (.v 45), (.v 25), (.v 46)]⟩ (.need ⟨pT, [(.v 47)]⟩ (.done .ret ⟨[.bo (.l (.b true))], [], 48, []⟩)))))))))))))))))))))))))))))))))))))))))))))))))))))))))) (by kernel_rfl) ?_ (denL_cons.2 ⟨_, _, (it_den rfl), (denL_cons.2 ⟨_, _, (it_den rfl), rfl, rfl⟩), rfl⟩)
  refine T.bind_n (us := [.i ((u : Nat) : Int)]) (xs := [.f t0]) (ρ' := [.i ((u : Nat) : Int), .i ((v : Nat) : Int), .f t0]) rfl (congrArg (fun r => [U.f r]) h0) rfl ?_
  refine T.bind_n (us := [.f t0, .f 4751297606873776128]) (xs := [.f t1]) (ρ' := [.i ((u : Nat) : Int), .i ((v : Nat) : Int), .f t0, .f t1]) rfl (congrArg (fun r => [U.f r]) h1) rfl ?_
  refine T.need_i (us := [.i ((u : Nat) : Int)]) rfl (h2) ?_
  refine T.need_i (us := [.f t0, .f 4751297606873776128]) rfl (h3) ?_
  refine T.bind_n (us := [.f t1, .f 4611686018427387904]) (xs := [.f t2]) (ρ' := [.i ((u : Nat) : Int), .i ((v : Nat) : Int), .f t0, .f t1, .f t2]) rfl (congrArg (fun r => [U.f r]) h4) rfl ?_
  refine T.need_i (us := [.f t1, .f 4611686018427387904]) rfl (h5) ?_
  refine T.bind_n (us := [.f t2, .f 0]) (xs := [.f t3]) (ρ' := [.i ((u : Nat) : Int), .i ((v : Nat) : Int), .f t0, .f t1, .f t2, .f t3]) rfl (congrArg (fun r => [U.f r]) h6) rfl ?_
  refine T.bind_n (us := [.f t2, .f 0]) (xs := [.f t3]) (ρ' := [.i ((u : Nat) : Int), .i ((v : Nat) : Int), .f t0, .f t1, .f t2, .f t3, .f t3]) rfl (congrArg (fun r => [U.f r]) h6) rfl ?_
  refine T.need_i (us := [.f t2, .f 0]) rfl (h7) ?_
  refine T.need_i (us := [.f t2, .f 0]) rfl (h7) ?_
  refine T.bind_n (us := [.i ((v : Nat) : Int)]) (xs := [.f t4]) (ρ' := [.i ((u : Nat) : Int), .i ((v : Nat) : Int), .f t0, .f t1, .f t2, .f t3, .f t3, .f t4]) rfl (congrArg (fun r => [U.f r]) h8) rfl ?_
  refine T.bind_n (us := [.f t4, .f 4751297606873776128]) (xs := [.f t5]) (ρ' := [.i ((u : Nat) : Int), .i ((v : Nat) : Int), .f t0, .f t1, .f t2, .f t3, .f t3, .f t4, .f t5]) rfl (congrArg (fun r => [U.f r]) h9) rfl ?_
  refine T.need_i (us := [.i ((v : Nat) : Int)]) rfl (h10) ?_
  refine T.need_i (us := [.f t4, .f 4751297606873776128]) rfl (h11) ?_
  refine T.bind_n (us := [.f t5, .f 4611686018427387904]) (xs := [.f t6]) (ρ' := [.i ((u : Nat) : Int), .i ((v : Nat) : Int), .f t0, .f t1, .f t2, .f t3, .f t3, .f t4, .f t5, .f t6]) rfl (congrArg (fun r => [U.f r]) h12) rfl ?_
  refine T.need_i (us := [.f t5, .f 4611686018427387904]) rfl (h13) ?_
  refine T.bind_n (us := [.f t6, .f 0]) (xs := [.f t7]) (ρ' := [.i ((u : Nat) : Int), .i ((v : Nat) : Int), .f t0, .f t1, .f t2, .f t3, .f t3, .f t4, .f t5, .f t6, .f t7]) rfl (congrArg (fun r => [U.f r]) h14) rfl ?_
  refine T.bind_n (us := [.f t6, .f 0]) (xs := [.f t7]) (ρ' := [.i ((u : Nat) : Int), .i ((v : Nat) : Int), .f t0, .f t1, .f t2, .f t3, .f t3, .f t4, .f t5, .f t6, .f t7, .f t7]) rfl (congrArg (fun r => [U.f r]) h14) rfl ?_
  refine T.need_i (us := [.f t6, .f 0]) rfl (h15) ?_
  refine T.need_i (us := [.f t6, .f 0]) rfl (h15) ?_
  refine T.bind_n (us := [.f t3, .f t3]) (xs := [.f t8, .f t9, .i t10]) (ρ' := [.i ((u : Nat) : Int), .i ((v : Nat) : Int), .f t0, .f t1, .f t2, .f t3, .f t3, .f t4, .f t5, .f t6, .f t7, .f t7, .f t8, .f t9, .i t10]) rfl (congrArg (fun r => [calR r 0, calR r 1, calR r 2]) h16) rfl ?_
  refine T.bind_n (us := [.f t7, .f t7]) (xs := [.f t11, .f t12, .i t13]) (ρ' := [.i ((u : Nat) : Int), .i ((v : Nat) : Int), .f t0, .f t1, .f t2, .f t3, .f t3, .f t4, .f t5, .f t6, .f t7, .f t7, .f t8, .f t9, .i t10, .f t11, .f t12, .i t13]) rfl (congrArg (fun r => [calR r 0, calR r 1, calR r 2]) h17) rfl ?_
  refine T.bind_n (us := [.f t3, .f t3]) (xs := [.f t8, .f t9, .i t10]) (ρ' := [.i ((u : Nat) : Int), .i ((v : Nat) : Int), .f t0, .f t1, .f t2, .f t3, .f t3, .f t4, .f t5, .f t6, .f t7, .f t7, .f t8, .f t9, .i t10, .f t11, .f t12, .i t13, .f t8, .f t9, .i t10]) rfl (congrArg (fun r => [calR r 0, calR r 1, calR r 2]) h16) rfl ?_
  refine T.bind_n (us := [.f t3, .f 4611686018427387904]) (xs := [.f t14]) (ρ' := [.i ((u : Nat) : Int), .i ((v : Nat) : Int), .f t0, .f t1, .f t2, .f t3, .f t3, .f t4, .f t5, .f t6, .f t7, .f t7, .f t8, .f t9, .i t10, .f t11, .f t12, .i t13, .f t8, .f t9, .i t10, .f t14]) rfl (congrArg (fun r => [U.f r]) h18) rfl ?_
  refine T.need_i (us := [.f t3, .f 4611686018427387904]) rfl (h19) ?_
  refine T.bind_n (us := [.f t14, .f 0]) (xs := [.f t15]) (ρ' := [.i ((u : Nat) : Int), .i ((v : Nat) : Int), .f t0, .f t1, .f t2, .f t3, .f t3, .f t4, .f t5, .f t6, .f t7, .f t7, .f t8, .f t9, .i t10, .f t11, .f t12, .i t13, .f t8, .f t9, .i t10, .f t14, .f t15]) rfl (congrArg (fun r => [U.f r]) h20) rfl ?_
  refine T.bind_n (us := [.f t14, .f 0]) (xs := [.f t15]) (ρ' := [.i ((u : Nat) : Int), .i ((v : Nat) : Int), .f t0, .f t1, .f t2, .f t3, .f t3, .f t4, .f t5, .f t6, .f t7, .f t7, .f t8, .f t9, .i t10, .f t11, .f t12, .i t13, .f t8, .f t9, .i t10, .f t14, .f t15, .f t15]) rfl (congrArg (fun r => [U.f r]) h20) rfl ?_
  refine T.need_i (us := [.f t14, .f 0]) rfl (h21) ?_
  refine T.need_i (us := [.f t14, .f 0]) rfl (h21) ?_
  refine T.bind_n (us := [.f t15, .f t15]) (xs := [.f t16, .f t17, .i t18]) (ρ' := [.i ((u : Nat) : Int), .i ((v : Nat) : Int), .f t0, .f t1, .f t2, .f t3, .f t3, .f t4, .f t5, .f t6, .f t7, .f t7, .f t8, .f t9, .i t10, .f t11, .f t12, .i t13, .f t8, .f t9, .i t10, .f t14, .f t15, .f t15, .f t16, .f t17, .i t18]) rfl (congrArg (fun r => [calR r 0, calR r 1, calR r 2]) h22) rfl ?_
  refine T.bind_n (us := [.i 0, .f t3, .f t3, .f t7, .f t7]) (xs := [.f t19, .f t20, .i t21]) (ρ' := [.i ((u : Nat) : Int), .i ((v : Nat) : Int), .f t0, .f t1, .f t2, .f t3, .f t3, .f t4, .f t5, .f t6, .f t7, .f t7, .f t8, .f t9, .i t10, .f t11, .f t12, .i t13, .f t8, .f t9, .i t10, .f t14, .f t15, .f t15, .f t16, .f t17, .i t18, .f t19, .f t20, .i t21]) rfl (congrArg (fun r => [calR r 0, calR r 1, calR r 2]) h23) rfl ?_
  refine T.bind_n (us := [.f t19, .f t20]) (xs := [.f t22, .f t23, .i t24]) (ρ' := [.i ((u : Nat) : Int), .i ((v : Nat) : Int), .f t0, .f t1, .f t2, .f t3, .f t3, .f t4, .f t5, .f t6, .f t7, .f t7, .f t8, .f t9, .i t10, .f t11, .f t12, .i t13, .f t8, .f t9, .i t10, .f t14, .f t15, .f t15, .f t16, .f t17, .i t18, .f t19, .f t20, .i t21, .f t22, .f t23, .i t24]) rfl (congrArg (fun r => [calR r 0, calR r 1, calR r 2]) h24) rfl ?_
  refine T.bind_n (us := [.f t20, .f 4607182418800017408]) (xs := [.b false]) (ρ' := [.i ((u : Nat) : Int), .i ((v : Nat) : Int), .f t0, .f t1, .f t2, .f t3, .f t3, .f t4, .f t5, .f t6, .f t7, .f t7, .f t8, .f t9, .i t10, .f t11, .f t12, .i t13, .f t8, .f t9, .i t10, .f t14, .f t15, .f t15, .f t16, .f t17, .i t18, .f t19, .f t20, .i t21, .f t22, .f t23, .i t24, .b false]) rfl (congrArg (fun r => [U.b r]) h25) rfl ?_
  refine T.need_i (us := [.b false]) rfl (rfl) ?_
  refine T.bind_n (us := [.i t21, .f t8, .f t9, .f t11, .f t12]) (xs := [.f t25, .f t26, .i t27]) (ρ' := [.i ((u : Nat) : Int), .i ((v : Nat) : Int), .f t0, .f t1, .f t2, .f t3, .f t3, .f t4, .f t5, .f t6, .f t7, .f t7, .f t8, .f t9, .i t10, .f t11, .f t12, .i t13, .f t8, .f t9, .i t10, .f t14, .f t15, .f t15, .f t16, .f t17, .i t18, .f t19, .f t20, .i t21, .f t22, .f t23, .i t24, .b false, .f t25, .f t26, .i t27]) rfl (congrArg (fun r => [calR r 0, calR r 1, calR r 2]) h26) rfl ?_
  refine T.bind_n (us := [.i t10, .i 0]) (xs := [.b true]) (ρ' := [.i ((u : Nat) : Int), .i ((v : Nat) : Int), .f t0, .f t1, .f t2, .f t3, .f t3, .f t4, .f t5, .f t6, .f t7, .f t7, .f t8, .f t9, .i t10, .f t11, .f t12, .i t13, .f t8, .f t9, .i t10, .f t14, .f t15, .f t15, .f t16, .f t17, .i t18, .f t19, .f t20, .i t21, .f t22, .f t23, .i t24, .b false, .f t25, .f t26, .i t27, .b true]) rfl (congrArg (fun r => [U.b r]) h27) rfl ?_
  refine T.need_i (us := [.b true]) rfl (rfl) ?_
  refine T.bind_n (us := [.i t13, .i 0]) (xs := [.b true]) (ρ' := [.i ((u : Nat) : Int), .i ((v : Nat) : Int), .f t0, .f t1, .f t2, .f t3, .f t3, .f t4, .f t5, .f t6, .f t7, .f t7, .f t8, .f t9, .i t10, .f t11, .f t12, .i t13, .f t8, .f t9, .i t10, .f t14, .f t15, .f t15, .f t16, .f t17, .i t18, .f t19, .f t20, .i t21, .f t22, .f t23, .i t24, .b false, .f t25, .f t26, .i t27, .b true, .b true]) rfl (congrArg (fun r => [U.b r]) h28) rfl ?_
  refine T.need_i (us := [.b true]) rfl (rfl) ?_
  refine T.bind_n (us := [.i t10, .i 0]) (xs := [.b true]) (ρ' := [.i ((u : Nat) : Int), .i ((v : Nat) : Int), .f t0, .f t1, .f t2, .f t3, .f t3, .f t4, .f t5, .f t6, .f t7, .f t7, .f t8, .f t9, .i t10, .f t11, .f t12, .i t13, .f t8, .f t9, .i t10, .f t14, .f t15, .f t15, .f t16, .f t17, .i t18, .f t19, .f t20, .i t21, .f t22, .f t23, .i t24, .b false, .f t25, .f t26, .i t27, .b true, .b true, .b true]) rfl (congrArg (fun r => [U.b r]) h29) rfl ?_
  refine T.need_i (us := [.b true]) rfl (rfl) ?_
  refine T.bind_n (us := [.i t18, .i 0]) (xs := [.b true]) (ρ' := [.i ((u : Nat) : Int), .i ((v : Nat) : Int), .f t0, .f t1, .f t2, .f t3, .f t3, .f t4, .f t5, .f t6, .f t7, .f t7, .f t8, .f t9, .i t10, .f t11, .f t12, .i t13, .f t8, .f t9, .i t10, .f t14, .f t15, .f t15, .f t16, .f t17, .i t18, .f t19, .f t20, .i t21, .f t22, .f t23, .i t24, .b false, .f t25, .f t26, .i t27, .b true, .b true, .b true, .b true]) rfl (congrArg (fun r => [U.b r]) h30) rfl ?_
  refine T.need_i (us := [.b true]) rfl (rfl) ?_
  refine T.bind_n (us := [.i t24, .i 0]) (xs := [.b true]) (ρ' := [.i ((u : Nat) : Int), .i ((v : Nat) : Int), .f t0, .f t1, .f t2, .f t3, .f t3, .f t4, .f t5, .f t6, .f t7, .f t7, .f t8, .f t9, .i t10, .f t11, .f t12, .i t13, .f t8, .f t9, .i t10, .f t14, .f t15, .f t15, .f t16, .f t17, .i t18, .f t19, .f t20, .i t21, .f t22, .f t23, .i t24, .b false, .f t25, .f t26, .i t27, .b true, .b true, .b true, .b true, .b true]) rfl (congrArg (fun r => [U.b r]) h31) rfl ?_
  refine T.need_i (us := [.b true]) rfl (rfl) ?_
  refine T.bind_n (us := [.i t27, .i 0]) (xs := [.b true]) (ρ' := [.i ((u : Nat) : Int), .i ((v : Nat) : Int), .f t0, .f t1, .f t2, .f t3, .f t3, .f t4, .f t5, .f t6, .f t7, .f t7, .f t8, .f t9, .i t10, .f t11, .f t12, .i t13, .f t8, .f t9, .i t10, .f t14, .f t15, .f t15, .f t16, .f t17, .i t18, .f t19, .f t20, .i t21, .f t22, .f t23, .i t24, .b false, .f t25, .f t26, .i t27, .b true, .b true, .b true, .b true, .b true, .b true]) rfl (congrArg (fun r => [U.b r]) h32) rfl ?_
  refine T.need_i (us := [.b true]) rfl (rfl) ?_
  refine T.bind_n (us := [.f t22, .f t23, .f t25, .f t26]) (xs := [.b true]) (ρ' := [.i ((u : Nat) : Int), .i ((v : Nat) : Int), .f t0, .f t1, .f t2, .f t3, .f t3, .f t4, .f t5, .f t6, .f t7, .f t7, .f t8, .f t9, .i t10, .f t11, .f t12, .i t13, .f t8, .f t9, .i t10, .f t14, .f t15, .f t15, .f t16, .f t17, .i t18, .f t19, .f t20, .i t21, .f t22, .f t23, .i t24, .b false, .f t25, .f t26, .i t27, .b true, .b true, .b true, .b true, .b true, .b true, .b true]) rfl (congrArg (fun r => [U.b r]) h33) rfl ?_
  refine T.need_i (us := [.b true]) rfl (rfl) ?_
  refine T.bind_n (us := [.f t8, .f t8, .f t9, .f t9]) (xs := [.b true]) (ρ' := [.i ((u : Nat) : Int), .i ((v : Nat) : Int), .f t0, .f t1, .f t2, .f t3, .f t3, .f t4, .f t5, .f t6, .f t7, .f t7, .f t8, .f t9, .i t10, .f t11, .f t12, .i t13, .f t8, .f t9, .i t10, .f t14, .f t15, .f t15, .f t16, .f t17, .i t18, .f t19, .f t20, .i t21, .f t22, .f t23, .i t24, .b false, .f t25, .f t26, .i t27, .b true, .b true, .b true, .b true, .b true, .b true, .b true, .b true]) rfl (congrArg (fun r => [U.b r]) h34) rfl ?_
  refine T.need_i (us := [.b true]) rfl (rfl) ?_
  refine T.bind_n (us := [.f t8, .f 4611686018427387904]) (xs := [.f t28]) (ρ' := [.i ((u : Nat) : Int), .i ((v : Nat) : Int), .f t0, .f t1, .f t2, .f t3, .f t3, .f t4, .f t5, .f t6, .f t7, .f t7, .f t8, .f t9, .i t10, .f t11, .f t12, .i t13, .f t8, .f t9, .i t10, .f t14, .f t15, .f t15, .f t16, .f t17, .i t18, .f t19, .f t20, .i t21, .f t22, .f t23, .i t24, .b false, .f t25, .f t26, .i t27, .b true, .b true, .b true, .b true, .b true, .b true, .b true, .b true, .f t28]) rfl (congrArg (fun r => [U.f r]) h35) rfl ?_
  refine T.need_i (us := [.f t8, .f 4611686018427387904]) rfl (h36) ?_
  refine T.bind_n (us := [.f t9, .f 4611686018427387904]) (xs := [.f t29]) (ρ' := [.i ((u : Nat) : Int), .i ((v : Nat) : Int), .f t0, .f t1, .f t2, .f t3, .f t3, .f t4, .f t5, .f t6, .f t7, .f t7, .f t8, .f t9, .i t10, .f t11, .f t12, .i t13, .f t8, .f t9, .i t10, .f t14, .f t15, .f t15, .f t16, .f t17, .i t18, .f t19, .f t20, .i t21, .f t22, .f t23, .i t24, .b false, .f t25, .f t26, .i t27, .b true, .b true, .b true, .b true, .b true, .b true, .b true, .b true, .f t28, .f t29]) rfl (congrArg (fun r => [U.f r]) h37) rfl ?_
  refine T.need_i (us := [.f t9, .f 4611686018427387904]) rfl (h38) ?_
  refine T.bind_n (us := [.f t16, .f t28, .f t17, .f t29]) (xs := [.b true]) (ρ' := [.i ((u : Nat) : Int), .i ((v : Nat) : Int), .f t0, .f t1, .f t2, .f t3, .f t3, .f t4, .f t5, .f t6, .f t7, .f t7, .f t8, .f t9, .i t10, .f t11, .f t12, .i t13, .f t8, .f t9, .i t10, .f t14, .f t15, .f t15, .f t16, .f t17, .i t18, .f t19, .f t20, .i t21, .f t22, .f t23, .i t24, .b false, .f t25, .f t26, .i t27, .b true, .b true, .b true, .b true, .b true, .b true, .b true, .b true, .f t28, .f t29, .b true]) rfl (congrArg (fun r => [U.b r]) h39) rfl ?_
  refine T.need_i (us := [.b true]) rfl (rfl) ?_
  exact T.done_i rfl

end Go.Proofs.Ythfgdhobldejmaa
