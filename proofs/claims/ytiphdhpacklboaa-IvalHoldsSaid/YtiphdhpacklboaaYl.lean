/- A reckoning of programs by symbols: functions of package math. -/
import Derived.Test.YtiphdhpacklboaaYj
import Derived.Test.YtiphdhpacklboaaYw
namespace Go.Proofs.Ytiphdhpacklboaa
open Go Go.RowKit
set_option linter.unusedSimpArgs false
set_option linter.unusedVariables false

def m0 : List (Nat × Ct) := ((66, ctBits) :: (65, ctFrom) :: s13)
theorem m0_ok : AllOk Try.prog m0 := ⟨bits_ct, from_ct, s13_ok⟩
def ctIsNaN : Ct := ⟨1, [], [vf 0], { binds := [⟨fun us _ => cB Dy.fne us, 1, [(.v 0), (.v 0)]⟩], needs := [], val := .bo (.v 1), upd := [] }⟩
theorem ctIsNaN_ok : CtOk Try.prog 88 ctIsNaN := CtOk.flat m0_ok (dr_ok m0_ok) Try.func88 rfl (by decide) [] 200 ⟨[.bo (.v 1)], [], 2, []⟩ (by kernel_rfl) rfl (by kernel_rfl) rfl (by kernel_rfl) (by kernel_rfl) (by kernel_rfl) (by kernel_rfl)

def m1 : List (Nat × Ct) := (88, ctIsNaN) :: m0
theorem m1_ok : AllOk Try.prog m1 := ⟨ctIsNaN_ok, m0_ok⟩

def ctAbsF : Ct := ⟨1, [], [vf 0], { binds := [⟨fun us _ => .i (gF us 0 : Nat), 1, [(.v 0)]⟩, ⟨fun us _ => iB (fun a b => IntKind.u64.wrap ((BitVec.ofInt IntKind.u64.bits a &&& ~~~(BitVec.ofInt IntKind.u64.bits b)).toNat : Nat)) us, 1, [(.v 1), (.l (.i 9223372036854775808))]⟩, ⟨fun us _ => .f (gI us 0).toNat, 1, [(.v 2)]⟩], needs := [⟨nFrom, [(.v 2)]⟩], val := .fl (.v 3), upd := [] }⟩
theorem ctAbsF_ok : CtOk Try.prog 20 ctAbsF := CtOk.flat m1_ok (dr_ok m1_ok) Try.func20 rfl (by decide) [] 200 ⟨[.fl (.v 3)], [], 4, []⟩ (by kernel_rfl) rfl (by kernel_rfl) rfl (by kernel_rfl) (by kernel_rfl) (by kernel_rfl) (by kernel_rfl)

def m2 : List (Nat × Ct) := (20, ctAbsF) :: m1
theorem m2_ok : AllOk Try.prog m2 := ⟨ctAbsF_ok, m1_ok⟩

def ctSignbit : Ct := ⟨1, [], [vf 0], { binds := [⟨fun us _ => .i (gF us 0 : Nat), 1, [(.v 0)]⟩, ⟨fun us _ => wI IntKind.i64 us, 1, [(.v 1)]⟩, ⟨fun us _ => jB (fun a b => decide (a < b)) us, 1, [(.v 2), (.l (.i 0))]⟩], needs := [], val := .bo (.v 3), upd := [] }⟩
theorem ctSignbit_ok : CtOk Try.prog 90 ctSignbit := CtOk.flat m2_ok (dr_ok m2_ok) Try.func90 rfl (by decide) [] 200 ⟨[.bo (.v 3)], [], 4, []⟩ (by kernel_rfl) rfl (by kernel_rfl) rfl (by kernel_rfl) (by kernel_rfl) (by kernel_rfl) (by kernel_rfl)

def m3 : List (Nat × Ct) := (90, ctSignbit) :: m2
theorem m3_ok : AllOk Try.prog m3 := ⟨ctSignbit_ok, m2_ok⟩

def ctCopysign : Ct := ⟨2, [], [vf 0, vf 1], { binds := [⟨fun us _ => .i (gF us 0 : Nat), 1, [(.v 0)]⟩, ⟨fun us _ => iB (fun a b => IntKind.u64.wrap ((BitVec.ofInt IntKind.u64.bits a &&& ~~~(BitVec.ofInt IntKind.u64.bits b)).toNat : Nat)) us, 1, [(.v 2), (.l (.i 9223372036854775808))]⟩, ⟨fun us _ => .i (gF us 0 : Nat), 1, [(.v 1)]⟩, ⟨fun us _ => iB (fun a b => IntKind.u64.wrap ((BitVec.ofInt IntKind.u64.bits a &&& BitVec.ofInt IntKind.u64.bits b).toNat : Nat)) us, 1, [(.v 4), (.l (.i 9223372036854775808))]⟩, ⟨fun us _ => iB (fun a b => IntKind.u64.wrap ((BitVec.ofInt IntKind.u64.bits a ||| BitVec.ofInt IntKind.u64.bits b).toNat : Nat)) us, 1, [(.v 3), (.v 5)]⟩, ⟨fun us _ => .f (gI us 0).toNat, 1, [(.v 6)]⟩], needs := [⟨nFrom, [(.v 6)]⟩], val := .fl (.v 7), upd := [] }⟩
theorem ctCopysign_ok : CtOk Try.prog 103 ctCopysign := CtOk.flat m3_ok (dr_ok m3_ok) Try.func103 rfl (by decide) [] 200 ⟨[.fl (.v 7)], [], 8, []⟩ (by kernel_rfl) rfl (by kernel_rfl) rfl (by kernel_rfl) (by kernel_rfl) (by kernel_rfl) (by kernel_rfl)

def m4 : List (Nat × Ct) := (103, ctCopysign) :: m3
theorem m4_ok : AllOk Try.prog m4 := ⟨ctCopysign_ok, m3_ok⟩

def ctNaN : Ct := ⟨0, [], [], { binds := [⟨fun us _ => .f (gI us 0).toNat, 1, [(.l (.i 9221120237041090561))]⟩], needs := [⟨nFrom, [(.l (.i 9221120237041090561))]⟩], val := .fl (.v 0), upd := [] }⟩
theorem ctNaN_ok : CtOk Try.prog 102 ctNaN := CtOk.flat m4_ok (dr_ok m4_ok) Try.func102 rfl (by decide) [] 200 ⟨[.fl (.v 0)], [], 1, []⟩ (by kernel_rfl) rfl (by kernel_rfl) rfl (by kernel_rfl) (by kernel_rfl) (by kernel_rfl) (by kernel_rfl)

def m5 : List (Nat × Ct) := (102, ctNaN) :: m4
theorem m5_ok : AllOk Try.prog m5 := ⟨ctNaN_ok, m4_ok⟩

def ctIsInfT : T := .bind ⟨fun us _ => jB (fun a b => a == b) us, 1, [(.v 1), (.l (.i 0))]⟩ (.ite (.v 2) (.bind ⟨fun us _ => .i (gF us 0 : Nat), 1, [(.v 0)]⟩ (.bind ⟨fun us _ => iB (fun a b => IntKind.u64.wrap ((BitVec.ofInt IntKind.u64.bits a &&& ~~~(BitVec.ofInt IntKind.u64.bits b)).toNat : Nat)) us, 1, [(.v 3), (.l (.i 9223372036854775808))]⟩ (.bind ⟨fun us _ => .f (gI us 0).toNat, 1, [(.v 4)]⟩ (.need ⟨nFrom, [(.v 4)]⟩ (.bind ⟨fun us _ => cB Dy.fgt us, 1, [(.v 5), (.l (.f 9218868437227405311))]⟩ (.done .ret ⟨[.bo (.v 6)], [], 7, []⟩)))))) (.bind ⟨fun us _ => jB (fun a b => decide (a < b)) us, 1, [(.v 1), (.l (.i 0))]⟩ (.ite (.v 3) (.bind ⟨fun us _ => mF us, 1, [(.v 0)]⟩ (.need ⟨mN, [(.v 0)]⟩ (.bind ⟨fun us _ => cB Dy.fgt us, 1, [(.v 4), (.l (.f 9218868437227405311))]⟩ (.done .ret ⟨[.bo (.v 5)], [], 6, []⟩)))) (.bind ⟨fun us _ => cB Dy.fgt us, 1, [(.v 0), (.l (.f 9218868437227405311))]⟩ (.done .ret ⟨[.bo (.v 4)], [], 5, []⟩)))))
def ctIsInf : Ct := ctT 2 [vf 0, vi .i64 1] ctIsInfT (vb 2) 1
theorem ctIsInf_ok : CtOk Try.prog 89 ctIsInf := ctT_ok m5_ok (dr_ok m5_ok) Try.func89 rfl (by decide) 200 2 [vf 0, vi .i64 1] ctIsInfT (vb 2) 1 (by kernel_rfl) (by kernel_rfl) (by kernel_rfl)

def m6 : List (Nat × Ct) := (89, ctIsInf) :: m5
theorem m6_ok : AllOk Try.prog m6 := ⟨ctIsInf_ok, m5_ok⟩

def ctNextafterT : T := .bind ⟨fun us _ => cB Dy.fne us, 1, [(.v 0), (.v 0)]⟩ (.ite (.v 2) (.bind ⟨fun us _ => .f (gI us 0).toNat, 1, [(.l (.i 9221120237041090561))]⟩ (.need ⟨nFrom, [(.l (.i 9221120237041090561))]⟩ (.done .ret ⟨[.fl (.v 3)], [], 4, []⟩))) (.bind ⟨fun us _ => cB Dy.fne us, 1, [(.v 1), (.v 1)]⟩ (.ite (.v 3) (.bind ⟨fun us _ => .f (gI us 0).toNat, 1, [(.l (.i 9221120237041090561))]⟩ (.need ⟨nFrom, [(.l (.i 9221120237041090561))]⟩ (.done .ret ⟨[.fl (.v 4)], [], 5, []⟩))) (.bind ⟨fun us _ => cB Dy.feq us, 1, [(.v 0), (.v 1)]⟩ (.ite (.v 4) (.done .ret ⟨[.fl (.v 0)], [], 5, []⟩) (.bind ⟨fun us _ => cB Dy.feq us, 1, [(.v 0), (.l (.f 0))]⟩ (.ite (.v 5) (.bind ⟨fun us _ => .f (gI us 0).toNat, 1, [(.l (.i 1))]⟩ (.need ⟨nFrom, [(.l (.i 1))]⟩ (.bind ⟨fun us _ => .i (gF us 0 : Nat), 1, [(.v 6)]⟩ (.bind ⟨fun us _ => iB (fun a b => IntKind.u64.wrap ((BitVec.ofInt IntKind.u64.bits a &&& ~~~(BitVec.ofInt IntKind.u64.bits b)).toNat : Nat)) us, 1, [(.v 7), (.l (.i 9223372036854775808))]⟩ (.bind ⟨fun us _ => .i (gF us 0 : Nat), 1, [(.v 1)]⟩ (.bind ⟨fun us _ => iB (fun a b => IntKind.u64.wrap ((BitVec.ofInt IntKind.u64.bits a &&& BitVec.ofInt IntKind.u64.bits b).toNat : Nat)) us, 1, [(.v 9), (.l (.i 9223372036854775808))]⟩ (.bind ⟨fun us _ => iB (fun a b => IntKind.u64.wrap ((BitVec.ofInt IntKind.u64.bits a ||| BitVec.ofInt IntKind.u64.bits b).toNat : Nat)) us, 1, [(.v 8), (.v 10)]⟩ (.bind ⟨fun us _ => .f (gI us 0).toNat, 1, [(.v 11)]⟩ (.need ⟨nFrom, [(.v 11)]⟩ (.done .ret ⟨[.fl (.v 12)], [], 13, []⟩)))))))))) (.bind ⟨fun us _ => cB Dy.fgt us, 1, [(.v 1), (.v 0)]⟩ (.bind ⟨fun us _ => cB Dy.fgt us, 1, [(.v 0), (.l (.f 0))]⟩ (.bind ⟨fun us _ => bB (fun x y => x == y) us, 1, [(.v 6), (.v 7)]⟩ (.ite (.v 8) (.bind ⟨fun us _ => .i (gF us 0 : Nat), 1, [(.v 0)]⟩ (.bind ⟨fun us _ => iB (fun a b => IntKind.u64.wrap (a + b)) us, 1, [(.v 9), (.l (.i 1))]⟩ (.bind ⟨fun us _ => .f (gI us 0).toNat, 1, [(.v 10)]⟩ (.need ⟨nFrom, [(.v 10)]⟩ (.done .ret ⟨[.fl (.v 11)], [], 12, []⟩))))) (.bind ⟨fun us _ => .i (gF us 0 : Nat), 1, [(.v 0)]⟩ (.bind ⟨fun us _ => iB (fun a b => IntKind.u64.wrap (a - b)) us, 1, [(.v 9), (.l (.i 1))]⟩ (.bind ⟨fun us _ => .f (gI us 0).toNat, 1, [(.v 10)]⟩ (.need ⟨nFrom, [(.v 10)]⟩ (.done .ret ⟨[.fl (.v 11)], [], 12, []⟩))))))))))))))))
def ctNextafter : Ct := ctT 2 [vf 0, vf 1] ctNextafterT (vf 2) 1
theorem ctNextafter_ok : CtOk Try.prog 43 ctNextafter := ctT_ok m6_ok (dr_ok m6_ok) Try.func43 rfl (by decide) 200 2 [vf 0, vf 1] ctNextafterT (vf 2) 1 (by kernel_rfl) (by kernel_rfl) (by kernel_rfl)

def m7 : List (Nat × Ct) := (43, ctNextafter) :: m6
theorem m7_ok : AllOk Try.prog m7 := ⟨ctNextafter_ok, m6_ok⟩

def ctNormalizeT : T := .bind ⟨fun us _ => .i (gF us 0 : Nat), 1, [(.v 0)]⟩ (.bind ⟨fun us _ => iB (fun a b => IntKind.u64.wrap ((BitVec.ofInt IntKind.u64.bits a &&& ~~~(BitVec.ofInt IntKind.u64.bits b)).toNat : Nat)) us, 1, [(.v 1), (.l (.i 9223372036854775808))]⟩ (.bind ⟨fun us _ => .f (gI us 0).toNat, 1, [(.v 2)]⟩ (.need ⟨nFrom, [(.v 2)]⟩ (.bind ⟨fun us _ => cB Dy.flt us, 1, [(.v 3), (.l (.f 4503599627370496))]⟩ (.ite (.v 4) (.bind ⟨fun us _ => fB Ieee.double.mul us, 1, [(.v 0), (.l (.f 4841369599423283200))]⟩ (.need ⟨fN Ieee.double.mul, [(.v 0), (.l (.f 4841369599423283200))]⟩ (.done .ret ⟨[.tup [.fl (.v 5), .it .i64 (.l (.i (-52)))]], [], 6, []⟩))) (.done .ret ⟨[.tup [.fl (.v 0), .it .i64 (.l (.i 0))]], [], 5, []⟩))))))
def ctNormalize : Ct := ctT 1 [vf 0] ctNormalizeT (.tup [vf 1, vi .i64 2]) 2
theorem ctNormalize_ok : CtOk Try.prog 138 ctNormalize := ctT_ok m7_ok (dr_ok m7_ok) Try.func138 rfl (by decide) 200 1 [vf 0] ctNormalizeT (.tup [vf 1, vi .i64 2]) 2 (by kernel_rfl) (by kernel_rfl) (by kernel_rfl)

def m8 : List (Nat × Ct) := (138, ctNormalize) :: m7
theorem m8_ok : AllOk Try.prog m8 := ⟨ctNormalize_ok, m7_ok⟩

def ctLdexp0T : T := .bind ⟨fun us _ => cB Dy.feq us, 1, [(.v 0), (.l (.f 0))]⟩ (.ite (.v 2) (.done .ret ⟨[.fl (.v 0)], [], 3, []⟩) (.bind ⟨fun us i => ((leafN 2 (vb 2) ctIsInfT us).getD []).getD i .no, 1, [(.v 0), (.l (.i 0))]⟩ (.need ⟨fun us => match leafN 2 (vb 2) ctIsInfT us with | some ns => Nat.beq ns.length 1 | none => false, [(.v 0), (.l (.i 0))]⟩ (.ite (.v 3) (.done .ret ⟨[.fl (.v 0)], [], 4, []⟩) (.bind ⟨fun us _ => cB Dy.fne us, 1, [(.v 0), (.v 0)]⟩ (.ite (.v 4) (.done .ret ⟨[.fl (.v 0)], [], 5, []⟩) (.bind ⟨fun us i => ((leafN 1 (.tup [vf 1, vi .i64 2]) ctNormalizeT us).getD []).getD i .no, 2, [(.v 0)]⟩ (.need ⟨fun us => match leafN 1 (.tup [vf 1, vi .i64 2]) ctNormalizeT us with | some ns => Nat.beq ns.length 2 | none => false, [(.v 0)]⟩ (.bind ⟨fun us _ => iB (fun a b => IntKind.i64.wrap (a + b)) us, 1, [(.v 1), (.v 6)]⟩ (.bind ⟨fun us _ => .i (gF us 0 : Nat), 1, [(.v 5)]⟩ (.bind ⟨fun us _ => iB (fun x y => x.fdiv (2 ^ (min y.toNat IntKind.u64.bits))) us, 1, [(.v 8), (.l (.i 52))]⟩ (.need ⟨sN, [(.v 8), (.l (.i 52))]⟩ (.bind ⟨fun us _ => wI IntKind.i64 us, 1, [(.v 9)]⟩ (.bind ⟨fun us _ => iB (fun a b => IntKind.i64.wrap ((BitVec.ofInt IntKind.i64.bits a &&& BitVec.ofInt IntKind.i64.bits b).toNat : Nat)) us, 1, [(.v 10), (.l (.i 2047))]⟩ (.bind ⟨fun us _ => iB (fun a b => IntKind.i64.wrap (a - b)) us, 1, [(.v 11), (.l (.i 1023))]⟩ (.bind ⟨fun us _ => iB (fun a b => IntKind.i64.wrap (a + b)) us, 1, [(.v 7), (.v 12)]⟩ (.bind ⟨fun us _ => jB (fun a b => decide (a < b)) us, 1, [(.v 13), (.l (.i (-1075)))]⟩ (.ite (.v 14) (.bind ⟨fun us _ => .i (gF us 0 : Nat), 1, [(.l (.f 0))]⟩ (.bind ⟨fun us _ => iB (fun a b => IntKind.u64.wrap ((BitVec.ofInt IntKind.u64.bits a &&& ~~~(BitVec.ofInt IntKind.u64.bits b)).toNat : Nat)) us, 1, [(.v 15), (.l (.i 9223372036854775808))]⟩ (.bind ⟨fun us _ => .i (gF us 0 : Nat), 1, [(.v 5)]⟩ (.bind ⟨fun us _ => iB (fun a b => IntKind.u64.wrap ((BitVec.ofInt IntKind.u64.bits a &&& BitVec.ofInt IntKind.u64.bits b).toNat : Nat)) us, 1, [(.v 17), (.l (.i 9223372036854775808))]⟩ (.bind ⟨fun us _ => iB (fun a b => IntKind.u64.wrap ((BitVec.ofInt IntKind.u64.bits a ||| BitVec.ofInt IntKind.u64.bits b).toNat : Nat)) us, 1, [(.v 16), (.v 18)]⟩ (.bind ⟨fun us _ => .f (gI us 0).toNat, 1, [(.v 19)]⟩ (.need ⟨nFrom, [(.v 19)]⟩ (.done .ret ⟨[.fl (.v 20)], [], 21, []⟩)))))))) (.bind ⟨fun us _ => jB (fun a b => decide (a > b)) us, 1, [(.v 13), (.l (.i 1023))]⟩ (.ite (.v 15) (.bind ⟨fun us _ => cB Dy.flt us, 1, [(.v 5), (.l (.f 0))]⟩ (.ite (.v 16) (.bad 1) (.bad 1))) (.bind ⟨fun us _ => jB (fun a b => decide (a < b)) us, 1, [(.v 13), (.l (.i (-1022)))]⟩ (.ite (.v 16) (.bind ⟨fun us _ => iB (fun a b => IntKind.i64.wrap (a + b)) us, 1, [(.v 13), (.l (.i 53))]⟩ (.bind ⟨fun us _ => iB (fun a b => IntKind.u64.wrap ((BitVec.ofInt IntKind.u64.bits a &&& ~~~(BitVec.ofInt IntKind.u64.bits b)).toNat : Nat)) us, 1, [(.v 8), (.l (.i 9218868437227405312))]⟩ (.bind ⟨fun us _ => iB (fun a b => IntKind.i64.wrap (a + b)) us, 1, [(.v 17), (.l (.i 1023))]⟩ (.bind ⟨fun us _ => wI IntKind.u64 us, 1, [(.v 19)]⟩ (.bind ⟨fun us _ => iB (fun x y => IntKind.u64.wrap (x * 2 ^ (min y.toNat IntKind.u64.bits))) us, 1, [(.v 20), (.l (.i 52))]⟩ (.need ⟨sN, [(.v 20), (.l (.i 52))]⟩ (.bind ⟨fun us _ => iB (fun a b => IntKind.u64.wrap ((BitVec.ofInt IntKind.u64.bits a ||| BitVec.ofInt IntKind.u64.bits b).toNat : Nat)) us, 1, [(.v 18), (.v 21)]⟩ (.bind ⟨fun us _ => .f (gI us 0).toNat, 1, [(.v 22)]⟩ (.need ⟨nFrom, [(.v 22)]⟩ (.bind ⟨fun us _ => fB Ieee.double.mul us, 1, [(.l (.f 4368491638549381120)), (.v 23)]⟩ (.need ⟨fN Ieee.double.mul, [(.l (.f 4368491638549381120)), (.v 23)]⟩ (.done .ret ⟨[.fl (.v 24)], [], 25, []⟩)))))))))))) (.bind ⟨fun us _ => iB (fun a b => IntKind.u64.wrap ((BitVec.ofInt IntKind.u64.bits a &&& ~~~(BitVec.ofInt IntKind.u64.bits b)).toNat : Nat)) us, 1, [(.v 8), (.l (.i 9218868437227405312))]⟩ (.bind ⟨fun us _ => iB (fun a b => IntKind.i64.wrap (a + b)) us, 1, [(.v 13), (.l (.i 1023))]⟩ (.bind ⟨fun us _ => wI IntKind.u64 us, 1, [(.v 18)]⟩ (.bind ⟨fun us _ => iB (fun x y => IntKind.u64.wrap (x * 2 ^ (min y.toNat IntKind.u64.bits))) us, 1, [(.v 19), (.l (.i 52))]⟩ (.need ⟨sN, [(.v 19), (.l (.i 52))]⟩ (.bind ⟨fun us _ => iB (fun a b => IntKind.u64.wrap ((BitVec.ofInt IntKind.u64.bits a ||| BitVec.ofInt IntKind.u64.bits b).toNat : Nat)) us, 1, [(.v 17), (.v 20)]⟩ (.bind ⟨fun us _ => .f (gI us 0).toNat, 1, [(.v 21)]⟩ (.need ⟨nFrom, [(.v 21)]⟩ (.bind ⟨fun us _ => fB Ieee.double.mul us, 1, [(.l (.f 4607182418800017408)), (.v 22)]⟩ (.need ⟨fN Ieee.double.mul, [(.l (.f 4607182418800017408)), (.v 22)]⟩ (.done .ret ⟨[.fl (.v 23)], [], 24, []⟩)))))))))))))))))))))))))))))))))
def ctLdexp0 : Ct := ctT 2 [vf 0, vi .i64 1] ctLdexp0T (vf 2) 1
theorem ctLdexp0_ok : CtOk Try.prog 106 ctLdexp0 := ctT_ok m8_ok (dr_ok m8_ok) Try.func106 rfl (by decide) 200 2 [vf 0, vi .i64 1] ctLdexp0T (vf 2) 1 (by kernel_rfl) (by kernel_rfl) (by kernel_rfl)

def m9 : List (Nat × Ct) := (106, ctLdexp0) :: m8
theorem m9_ok : AllOk Try.prog m9 := ⟨ctLdexp0_ok, m8_ok⟩

def ctLdexpT : T := .bind ⟨fun us i => ((leafN 2 (vf 2) ctLdexp0T us).getD []).getD i .no, 1, [(.v 0), (.v 1)]⟩ (.need ⟨fun us => match leafN 2 (vf 2) ctLdexp0T us with | some ns => Nat.beq ns.length 1 | none => false, [(.v 0), (.v 1)]⟩ (.done .ret ⟨[.fl (.v 2)], [], 3, []⟩))
def ctLdexp : Ct := ctT 2 [vf 0, vi .i64 1] ctLdexpT (vf 2) 1
theorem ctLdexp_ok : CtOk Try.prog 46 ctLdexp := ctT_ok m9_ok (dr_ok m9_ok) Try.func46 rfl (by decide) 200 2 [vf 0, vi .i64 1] ctLdexpT (vf 2) 1 (by kernel_rfl) (by kernel_rfl) (by kernel_rfl)

def m10 : List (Nat × Ct) := (46, ctLdexp) :: m9
theorem m10_ok : AllOk Try.prog m10 := ⟨ctLdexp_ok, m9_ok⟩

end Go.Proofs.Ytiphdhpacklboaa
