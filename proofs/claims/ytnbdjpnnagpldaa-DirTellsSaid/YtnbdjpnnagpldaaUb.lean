/- The law DirTells walked. -/
import Derived.Test.YtnbdjpnnagpldaaUa
namespace Go.Proofs.Ytnbdjpnnagpldaa
open Go Go.RowKit
set_option linter.unusedSimpArgs false
set_option linter.unusedVariables false

def dirT : List (Nat × Ct) := (4, ctO2 Dy.dAdd) :: (5, ctO2 Dy.dSub) :: (6, ctO2 Dy.dMul) :: (7, ctO2 Dy.dDiv) :: (13, ctO1 Dy.dSqrt) :: (15, ctO1 Dy.dNext) :: (17, ctRight) :: uA0
theorem dirT_ok : AllOk Try.prog dirT := ⟨add_ct, sub_ct, mul_ct, div_ct, sqrt_ct, next_ct, right_ct, uA0_ok⟩
def ub0 : List (Nat × Ct) := dirT
theorem ub0_ok : AllOk Try.prog ub0 := dirT_ok
def ctSame01T : Ct := ctP 2 [vf 0, vf 1] (fun us _ => .b (decide (gF us 0 = gF us 1))) 1 (vb 2) []
theorem ctSame01T_ok : CtOk Try.prog 12 ctSame01T := by
  refine ctP_ok (en Try.func12 rfl (by decide)) rfl rfl (fun us w vs hl hv hn => ?_) rfl
  match us, hl with
  | [u0, u1], _ =>
    obtain ⟨x0, y0, hx0, hy0, rfl⟩ := denL_cons.1 hv
    obtain ⟨a0, e0, w0, rfl⟩ := den_fl hx0
    obtain ⟨x1, y1, hx1, hy1, rfl⟩ := denL_cons.1 hy0
    obtain ⟨a1, e1, w1, rfl⟩ := den_fl hx1
    rw [denL_nil.1 hy1]
    simp [E.ev] at e0 e1
    subst e0 e1
    exact ⟨.bool (decide (a0 = a1)), rfl, (same_any a0 a1 w).mono fun e w2 ⟨h1, h2⟩ => ⟨by rw [h1]; congr 2; rw [Bool.eq_iff_iff]; simp; omega, by subst h2; exact Below.refl _ _⟩⟩

def ub1 : List (Nat × Ct) := (12, ctSame01T) :: ub0
theorem ub1_ok : AllOk Try.prog ub1 := ⟨ctSame01T_ok, ub0_ok⟩

def ctPowT : Ct := ⟨1, [], [vi .i64 0], { binds := [⟨fun us _ => .f (Dy.ldx (gF us 0) (gI us 1)), 1, [(.l (.f 4607182418800017408)), (.v 0)]⟩], needs := [⟨nLdx, [(.v 0)]⟩], val := .fl (.v 1), upd := [] }⟩
theorem ctPowT_ok : CtOk Try.prog 47 ctPowT := CtOk.flat ub1_ok (dr_ok ub1_ok) Try.func47 rfl (by decide) [] 200 ⟨[.fl (.v 1)], [], 2, []⟩ (by kernel_rfl) rfl (by kernel_rfl) rfl (by kernel_rfl) (by kernel_rfl) (by kernel_rfl) (by kernel_rfl)

def ub2 : List (Nat × Ct) := (47, ctPowT) :: ub1
theorem ub2_ok : AllOk Try.prog ub2 := ⟨ctPowT_ok, ub1_ok⟩

def ctAw1T : Ct := ⟨1, [], [vb 0], { binds := [⟨fun us _ => .f (Dy.ldx (gF us 0) (gI us 1)), 1, [(.l (.f 4607182418800017408)), (.l (.i (-60)))]⟩, ⟨fOp2 Dy.dAdd, 2, [(.l (.f 4607182418800017408)), (.v 1), (.v 0)]⟩], needs := [⟨nLdx, [(.l (.i (-60)))]⟩], val := .tup [.fl (.v 2), .it .i64 (.v 3)], upd := [] }⟩
theorem ctAw1T_ok : CtOk Try.prog 46 ctAw1T := CtOk.flat ub2_ok (dr_ok ub2_ok) Try.func46 rfl (by decide) [] 200 ⟨[.tup [.fl (.v 2), .it .i64 (.v 3)]], [], 4, []⟩ (by kernel_rfl) rfl (by kernel_rfl) rfl (by kernel_rfl) (by kernel_rfl) (by kernel_rfl) (by kernel_rfl)

def ub3 : List (Nat × Ct) := (46, ctAw1T) :: ub2
theorem ub3_ok : AllOk Try.prog ub3 := ⟨ctAw1T_ok, ub2_ok⟩

def ctAw2T : Ct := ⟨1, [], [vb 0], { binds := [⟨fOp2 Dy.dMul, 2, [(.l (.f 4613937818241073152)), (.l (.f 4617315517961601024)), (.v 0)]⟩], needs := [], val := .tup [.fl (.v 1), .it .i64 (.v 2)], upd := [] }⟩
theorem ctAw2T_ok : CtOk Try.prog 48 ctAw2T := CtOk.flat ub3_ok (dr_ok ub3_ok) Try.func48 rfl (by decide) [] 200 ⟨[.tup [.fl (.v 1), .it .i64 (.v 2)]], [], 3, []⟩ (by kernel_rfl) rfl (by kernel_rfl) rfl (by kernel_rfl) (by kernel_rfl) (by kernel_rfl) (by kernel_rfl)

def ub4 : List (Nat × Ct) := (48, ctAw2T) :: ub3
theorem ub4_ok : AllOk Try.prog ub4 := ⟨ctAw2T_ok, ub3_ok⟩

def ctAw3T : Ct := ⟨1, [], [vb 0], { binds := [⟨fOp2 Dy.dDiv, 2, [(.l (.f 4607182418800017408)), (.l (.f 4613937818241073152)), (.v 0)]⟩], needs := [], val := .tup [.fl (.v 1), .it .i64 (.v 2)], upd := [] }⟩
theorem ctAw3T_ok : CtOk Try.prog 49 ctAw3T := CtOk.flat ub4_ok (dr_ok ub4_ok) Try.func49 rfl (by decide) [] 200 ⟨[.tup [.fl (.v 1), .it .i64 (.v 2)]], [], 3, []⟩ (by kernel_rfl) rfl (by kernel_rfl) rfl (by kernel_rfl) (by kernel_rfl) (by kernel_rfl) (by kernel_rfl)

def ub5 : List (Nat × Ct) := (49, ctAw3T) :: ub4
theorem ub5_ok : AllOk Try.prog ub5 := ⟨ctAw3T_ok, ub4_ok⟩

def ctAw4T : Ct := ⟨1, [], [vb 0], { binds := [⟨fOp1 Dy.dSqrt, 2, [(.l (.f 4611686018427387904)), (.v 0)]⟩], needs := [], val := .tup [.fl (.v 1), .it .i64 (.v 2)], upd := [] }⟩
theorem ctAw4T_ok : CtOk Try.prog 50 ctAw4T := CtOk.flat ub5_ok (dr_ok ub5_ok) Try.func50 rfl (by decide) [] 200 ⟨[.tup [.fl (.v 1), .it .i64 (.v 2)]], [], 3, []⟩ (by kernel_rfl) rfl (by kernel_rfl) rfl (by kernel_rfl) (by kernel_rfl) (by kernel_rfl) (by kernel_rfl)

def ub6 : List (Nat × Ct) := (50, ctAw4T) :: ub5
theorem ub6_ok : AllOk Try.prog ub6 := ⟨ctAw4T_ok, ub5_ok⟩

def ctAw5T : Ct := ⟨1, [], [vb 0], { binds := [⟨fun us _ => .f (Dy.ldx (gF us 0) (gI us 1)), 1, [(.l (.f 4607182418800017408)), (.l (.i (-600)))]⟩, ⟨fun us _ => .f (Dy.ldx (gF us 0) (gI us 1)), 1, [(.l (.f 4607182418800017408)), (.l (.i (-600)))]⟩, ⟨fOp2 Dy.dMul, 2, [(.v 1), (.v 2), (.v 0)]⟩], needs := [⟨nLdx, [(.l (.i (-600)))]⟩, ⟨nLdx, [(.l (.i (-600)))]⟩], val := .tup [.fl (.v 3), .it .i64 (.v 4)], upd := [] }⟩
theorem ctAw5T_ok : CtOk Try.prog 51 ctAw5T := CtOk.flat ub6_ok (dr_ok ub6_ok) Try.func51 rfl (by decide) [] 200 ⟨[.tup [.fl (.v 3), .it .i64 (.v 4)]], [], 5, []⟩ (by kernel_rfl) rfl (by kernel_rfl) rfl (by kernel_rfl) (by kernel_rfl) (by kernel_rfl) (by kernel_rfl)

def ub7 : List (Nat × Ct) := (51, ctAw5T) :: ub6
theorem ub7_ok : AllOk Try.prog ub7 := ⟨ctAw5T_ok, ub6_ok⟩

def ctBoth1T : Ct := ⟨0, [], [.fn 46 [] []], { binds := [⟨fun us _ => .f (Dy.ldx (gF us 0) (gI us 1)), 1, [(.l (.f 4607182418800017408)), (.l (.i (-60)))]⟩, ⟨fOp2 Dy.dAdd, 2, [(.l (.f 4607182418800017408)), (.v 0), (.l (.b false))]⟩, ⟨fun us _ => .f (Dy.ldx (gF us 0) (gI us 1)), 1, [(.l (.f 4607182418800017408)), (.l (.i (-60)))]⟩, ⟨fOp2 Dy.dAdd, 2, [(.l (.f 4607182418800017408)), (.v 3), (.l (.b true))]⟩, ⟨fun us _ => iB (fun a b => IntKind.i64.wrap (a + b)) us, 1, [(.v 2), (.v 5)]⟩, ⟨fun us _ => jB (fun a b => a == b) us, 1, [(.v 6), (.l (.i 0))]⟩], needs := [⟨nLdx, [(.l (.i (-60)))]⟩, ⟨nLdx, [(.l (.i (-60)))]⟩], val := .tup [.fl (.v 1), .fl (.v 4), .bo (.v 7)], upd := [] }⟩
theorem ctBoth1T_ok : CtOk Try.prog 45 ctBoth1T := CtOk.flat ub7_ok (dr_ok ub7_ok) Try.func45 rfl (by decide) [] 200 ⟨[.tup [.fl (.v 1), .fl (.v 4), .bo (.v 7)]], [], 8, []⟩ (by kernel_rfl) rfl (by kernel_rfl) rfl (by kernel_rfl) (by kernel_rfl) (by kernel_rfl) (by kernel_rfl)

def ub8 : List (Nat × Ct) := (45, ctBoth1T) :: ub7
theorem ub8_ok : AllOk Try.prog ub8 := ⟨ctBoth1T_ok, ub7_ok⟩

def ctBoth2T : Ct := ⟨0, [], [.fn 48 [] []], { binds := [⟨fOp2 Dy.dMul, 2, [(.l (.f 4613937818241073152)), (.l (.f 4617315517961601024)), (.l (.b false))]⟩, ⟨fOp2 Dy.dMul, 2, [(.l (.f 4613937818241073152)), (.l (.f 4617315517961601024)), (.l (.b true))]⟩, ⟨fun us _ => iB (fun a b => IntKind.i64.wrap (a + b)) us, 1, [(.v 1), (.v 3)]⟩, ⟨fun us _ => jB (fun a b => a == b) us, 1, [(.v 4), (.l (.i 0))]⟩], needs := [], val := .tup [.fl (.v 0), .fl (.v 2), .bo (.v 5)], upd := [] }⟩
theorem ctBoth2T_ok : CtOk Try.prog 45 ctBoth2T := CtOk.flat ub8_ok (dr_ok ub8_ok) Try.func45 rfl (by decide) [] 200 ⟨[.tup [.fl (.v 0), .fl (.v 2), .bo (.v 5)]], [], 6, []⟩ (by kernel_rfl) rfl (by kernel_rfl) rfl (by kernel_rfl) (by kernel_rfl) (by kernel_rfl) (by kernel_rfl)

def ub9 : List (Nat × Ct) := (45, ctBoth2T) :: ub8
theorem ub9_ok : AllOk Try.prog ub9 := ⟨ctBoth2T_ok, ub8_ok⟩

def ctBoth3T : Ct := ⟨0, [], [.fn 49 [] []], { binds := [⟨fOp2 Dy.dDiv, 2, [(.l (.f 4607182418800017408)), (.l (.f 4613937818241073152)), (.l (.b false))]⟩, ⟨fOp2 Dy.dDiv, 2, [(.l (.f 4607182418800017408)), (.l (.f 4613937818241073152)), (.l (.b true))]⟩, ⟨fun us _ => iB (fun a b => IntKind.i64.wrap (a + b)) us, 1, [(.v 1), (.v 3)]⟩, ⟨fun us _ => jB (fun a b => a == b) us, 1, [(.v 4), (.l (.i 0))]⟩], needs := [], val := .tup [.fl (.v 0), .fl (.v 2), .bo (.v 5)], upd := [] }⟩
theorem ctBoth3T_ok : CtOk Try.prog 45 ctBoth3T := CtOk.flat ub9_ok (dr_ok ub9_ok) Try.func45 rfl (by decide) [] 200 ⟨[.tup [.fl (.v 0), .fl (.v 2), .bo (.v 5)]], [], 6, []⟩ (by kernel_rfl) rfl (by kernel_rfl) rfl (by kernel_rfl) (by kernel_rfl) (by kernel_rfl) (by kernel_rfl)

def ub10 : List (Nat × Ct) := (45, ctBoth3T) :: ub9
theorem ub10_ok : AllOk Try.prog ub10 := ⟨ctBoth3T_ok, ub9_ok⟩

def ctBoth4T : Ct := ⟨0, [], [.fn 50 [] []], { binds := [⟨fOp1 Dy.dSqrt, 2, [(.l (.f 4611686018427387904)), (.l (.b false))]⟩, ⟨fOp1 Dy.dSqrt, 2, [(.l (.f 4611686018427387904)), (.l (.b true))]⟩, ⟨fun us _ => iB (fun a b => IntKind.i64.wrap (a + b)) us, 1, [(.v 1), (.v 3)]⟩, ⟨fun us _ => jB (fun a b => a == b) us, 1, [(.v 4), (.l (.i 0))]⟩], needs := [], val := .tup [.fl (.v 0), .fl (.v 2), .bo (.v 5)], upd := [] }⟩
theorem ctBoth4T_ok : CtOk Try.prog 45 ctBoth4T := CtOk.flat ub10_ok (dr_ok ub10_ok) Try.func45 rfl (by decide) [] 200 ⟨[.tup [.fl (.v 0), .fl (.v 2), .bo (.v 5)]], [], 6, []⟩ (by kernel_rfl) rfl (by kernel_rfl) rfl (by kernel_rfl) (by kernel_rfl) (by kernel_rfl) (by kernel_rfl)

def ub11 : List (Nat × Ct) := (45, ctBoth4T) :: ub10
theorem ub11_ok : AllOk Try.prog ub11 := ⟨ctBoth4T_ok, ub10_ok⟩

def ctBoth5T : Ct := ⟨0, [], [.fn 51 [] []], { binds := [⟨fun us _ => .f (Dy.ldx (gF us 0) (gI us 1)), 1, [(.l (.f 4607182418800017408)), (.l (.i (-600)))]⟩, ⟨fun us _ => .f (Dy.ldx (gF us 0) (gI us 1)), 1, [(.l (.f 4607182418800017408)), (.l (.i (-600)))]⟩, ⟨fOp2 Dy.dMul, 2, [(.v 0), (.v 1), (.l (.b false))]⟩, ⟨fun us _ => .f (Dy.ldx (gF us 0) (gI us 1)), 1, [(.l (.f 4607182418800017408)), (.l (.i (-600)))]⟩, ⟨fun us _ => .f (Dy.ldx (gF us 0) (gI us 1)), 1, [(.l (.f 4607182418800017408)), (.l (.i (-600)))]⟩, ⟨fOp2 Dy.dMul, 2, [(.v 4), (.v 5), (.l (.b true))]⟩, ⟨fun us _ => iB (fun a b => IntKind.i64.wrap (a + b)) us, 1, [(.v 3), (.v 7)]⟩, ⟨fun us _ => jB (fun a b => a == b) us, 1, [(.v 8), (.l (.i 0))]⟩], needs := [⟨nLdx, [(.l (.i (-600)))]⟩, ⟨nLdx, [(.l (.i (-600)))]⟩, ⟨nLdx, [(.l (.i (-600)))]⟩, ⟨nLdx, [(.l (.i (-600)))]⟩], val := .tup [.fl (.v 2), .fl (.v 6), .bo (.v 9)], upd := [] }⟩
theorem ctBoth5T_ok : CtOk Try.prog 45 ctBoth5T := CtOk.flat ub11_ok (dr_ok ub11_ok) Try.func45 rfl (by decide) [] 200 ⟨[.tup [.fl (.v 2), .fl (.v 6), .bo (.v 9)]], [], 10, []⟩ (by kernel_rfl) rfl (by kernel_rfl) rfl (by kernel_rfl) (by kernel_rfl) (by kernel_rfl) (by kernel_rfl)

def ub12 : List (Nat × Ct) := (45, ctBoth5T) :: ub11
theorem ub12_ok : AllOk Try.prog ub12 := ⟨ctBoth5T_ok, ub11_ok⟩

def ctAwake01 : Ct := ctTrue
theorem ctAwake01_ok : CtOk Try.prog 19 ctAwake01 := ctTrue_ok ub12_ok (dr_ok ub12_ok) Try.func19 rfl (by decide) 200 _ rfl (by kernel_rfl)

def ub13 : List (Nat × Ct) := (19, ctAwake01) :: ub12
theorem ub13_ok : AllOk Try.prog ub13 := ⟨ctAwake01_ok, ub12_ok⟩

set_option maxRecDepth 100000 in
set_option maxHeartbeats 4000000 in
theorem dirtells (a b : Nat) (up : Bool) (w : World) (ha : Dy.W a) (hb : Dy.W b) {t0 : Nat} {t1 : Int} {t2 : Nat} {t3 : Int} {t4 : Nat} {t5 : Int} {t6 : Nat} {t7 : Int} {t8 : Nat} {t9 : Int} {t10 : Nat} {t11 : Int} {t12 : Bool} {t13 : Bool} (h0 : (Dy.dAdd a b up) = (t0, t1)) (h1 : (t1 != t1) = false) (h2 : ((decide (t0 = t0))) = true) (h3 : (Dy.dSub a b up) = (t2, t3)) (h4 : (t3 != t3) = false) (h5 : ((decide (t2 = t2))) = true) (h6 : (Dy.dMul a b up) = (t4, t5)) (h7 : (t5 != t5) = false) (h8 : ((decide (t4 = t4))) = true) (h9 : (Dy.dDiv a b up) = (t6, t7)) (h10 : (t7 != t7) = false) (h11 : ((decide (t6 = t6))) = true) (h12 : (Dy.dSqrt a up) = (t8, t9)) (h13 : (Dy.dNext a up) = (t10, t11)) (h14 : ((Dy.right (a))) = t12) (h15 : ((rrT (a))) = t13) (h16 : (t12 == t13) = true) (h17 : (t9 == t9) = true) (h18 : ((decide (t8 = t8))) = true) (h19 : (t11 == t11) = true) (h20 : ((decide (t10 = t10))) = true) : Calls Try.prog 3 #[.float .f64 a, .float .f64 b, .bool up] w fun e w' => e = .returned (.bool true) ∧ Below w.heap.size w w' := by
  refine law_calls (vs := [.float .f64 a, .float .f64 b, .bool up]) (us := [.f a, .f b, .b up]) (args := [vf 0, vf 1, vb 2]) ub13_ok (dr_ok ub13_ok) Try.func3 [] 200 3 rfl [false, false, false, false, false, false, false, false, true, true, true, true, true] (t := .bind ⟨fOp2 Dy.dAdd, 2, [(.v 0), (.v 1), (.v 2)]⟩ (.bind ⟨fOp2 Dy.dAdd, 2, [(.v 0), (.v 1), (.v 2)]⟩ (.bind ⟨fun us _ => jB (fun a b => a != b) us, 1, [(.v 4), (.v 6)]⟩ (.need ⟨pF, [(.v 7)]⟩ (.bind ⟨fun us _ => .b (decide (gF us 0 = gF us 1)), 1, [(.v 3), (.v 5)]⟩ (.bind ⟨fun us _ => nB us, 1, [(.v 8)]⟩ (.need ⟨pF, [(.v 9)]⟩ (.bind ⟨fOp2 Dy.dSub, 2, [(.v 0), (.v 1), (.v 2)]⟩ (.bind ⟨fOp2 Dy.dSub, 2, [(.v 0), (.v 1), (.v 2)]⟩ (.bind ⟨fun us _ => jB (fun a b => a != b) us, 1, [(.v 11), (.v 13)]⟩ (.need ⟨pF, [(.v 14)]⟩ (.bind ⟨fun us _ => .b (decide (gF us 0 = gF us 1)), 1, [(.v 10), (.v 12)]⟩ (.bind ⟨fun us _ => nB us, 1, [(.v 15)]⟩ (.need ⟨pF, [(.v 16)]⟩ (.bind ⟨fOp2 Dy.dMul, 2, [(.v 0), (.v 1), (.v 2)]⟩ (.bind ⟨fOp2 Dy.dMul, 2, [(.v 0), (.v 1), (.v 2)]⟩ (.bind ⟨fun us _ => jB (fun a b => a != b) us, 1, [(.v 18), (.v 20)]⟩ (.need ⟨pF, [(.v 21)]⟩ (.bind ⟨fun us _ => .b (decide (gF us 0 = gF us 1)), 1, [(.v 17), (.v 19)]⟩ (.bind ⟨fun us _ => nB us, 1, [(.v 22)]⟩ (.need ⟨pF, [(.v 23)]⟩ (.bind ⟨fOp2 Dy.dDiv, 2, [(.v 0), (.v 1), (.v 2)]⟩ (.bind ⟨fOp2 Dy.dDiv, 2, [(.v 0), (.v 1), (.v 2)]⟩ (.bind ⟨fun us _ => jB (fun a b => a != b) us, 1, [(.v 25), (.v 27)]⟩ (.need ⟨pF, [(.v 28)]⟩ (.bind ⟨fun us _ => .b (decide (gF us 0 = gF us 1)), 1, [(.v 24), (.v 26)]⟩ (.bind ⟨fun us _ => nB us, 1, [(.v 29)]⟩ (.need ⟨pF, [(.v 30)]⟩ (.bind ⟨fOp1 Dy.dSqrt, 2, [(.v 0), (.v 2)]⟩ (.bind ⟨fOp1 Dy.dSqrt, 2, [(.v 0), (.v 2)]⟩ (.bind ⟨fOp1 Dy.dNext, 2, [(.v 0), (.v 2)]⟩ (.bind ⟨fOp1 Dy.dNext, 2, [(.v 0), (.v 2)]⟩ (.bind ⟨fun us _ => .b (Dy.right (gF us 0)), 1, [(.v 0)]⟩ (.bind ⟨fun us i => bRes (rrT (gF us 0)) i, 1, [(.v 0)]⟩ (.bind ⟨fun us _ => bB (fun x y => x == y) us, 1, [(.v 39), (.v 40)]⟩ (.need ⟨pT, [(.v 41)]⟩ (.bind ⟨fun us _ => jB (fun a b => a == b) us, 1, [(.v 32), (.v 34)]⟩ (.need ⟨pT, [(.v 42)]⟩ (.bind ⟨fun us _ => .b (decide (gF us 0 = gF us 1)), 1, [(.v 31), (.v 33)]⟩ (.need ⟨pT, [(.v 43)]⟩ (.bind ⟨fun us _ => jB (fun a b => a == b) us, 1, [(.v 36), (.v 38)]⟩ (.need ⟨pT, [(.v 44)]⟩ (.bind ⟨fun us _ => .b (decide (gF us 0 = gF us 1)), 1, [(.v 35), (.v 37)]⟩ (.need ⟨pT, [(.v 45)]⟩ (.done .ret ⟨[.bo (.l (.b true))], [], 46, []⟩))))))))))))))))))))))))))))))))))))))))))))) (by kernel_rfl) ?_ (denL_cons.2 ⟨_, _, (fl_den rfl ha), (denL_cons.2 ⟨_, _, (fl_den rfl hb), (denL_cons.2 ⟨_, _, (bo_den rfl), rfl, rfl⟩), rfl⟩), rfl⟩)
  refine T.HH.h ?_
  refine T.hbind (us := [.f a, .f b, .b up]) (xs := [.f t0, .i t1]) (ρ' := [.f a, .f b, .b up, .f t0, .i t1]) rfl (congrArg (fun r : Nat × Int => [U.f r.1, U.i r.2]) h0) rfl ?_
  refine T.hbind (us := [.f a, .f b, .b up]) (xs := [.f t0, .i t1]) (ρ' := [.f a, .f b, .b up, .f t0, .i t1, .f t0, .i t1]) rfl (congrArg (fun r : Nat × Int => [U.f r.1, U.i r.2]) h0) rfl ?_
  refine T.hbind (us := [.i t1, .i t1]) (xs := [.b false]) (ρ' := [.f a, .f b, .b up, .f t0, .i t1, .f t0, .i t1, .b false]) rfl (congrArg (fun r => [U.b r]) h1) rfl ?_
  refine T.hneed (us := [.b false]) rfl (rfl) ?_
  refine T.hbind (us := [.f t0, .f t0]) (xs := [.b true]) (ρ' := [.f a, .f b, .b up, .f t0, .i t1, .f t0, .i t1, .b false, .b true]) rfl (congrArg (fun r => [U.b r]) h2) rfl ?_
  refine T.hbind (us := [.b true]) (xs := [.b false]) (ρ' := [.f a, .f b, .b up, .f t0, .i t1, .f t0, .i t1, .b false, .b true, .b false]) rfl (rfl) rfl ?_
  refine T.hneed (us := [.b false]) rfl (rfl) ?_
  refine T.hbind (us := [.f a, .f b, .b up]) (xs := [.f t2, .i t3]) (ρ' := [.f a, .f b, .b up, .f t0, .i t1, .f t0, .i t1, .b false, .b true, .b false, .f t2, .i t3]) rfl (congrArg (fun r : Nat × Int => [U.f r.1, U.i r.2]) h3) rfl ?_
  refine T.hbind (us := [.f a, .f b, .b up]) (xs := [.f t2, .i t3]) (ρ' := [.f a, .f b, .b up, .f t0, .i t1, .f t0, .i t1, .b false, .b true, .b false, .f t2, .i t3, .f t2, .i t3]) rfl (congrArg (fun r : Nat × Int => [U.f r.1, U.i r.2]) h3) rfl ?_
  refine T.hbind (us := [.i t3, .i t3]) (xs := [.b false]) (ρ' := [.f a, .f b, .b up, .f t0, .i t1, .f t0, .i t1, .b false, .b true, .b false, .f t2, .i t3, .f t2, .i t3, .b false]) rfl (congrArg (fun r => [U.b r]) h4) rfl ?_
  refine T.hneed (us := [.b false]) rfl (rfl) ?_
  refine T.hbind (us := [.f t2, .f t2]) (xs := [.b true]) (ρ' := [.f a, .f b, .b up, .f t0, .i t1, .f t0, .i t1, .b false, .b true, .b false, .f t2, .i t3, .f t2, .i t3, .b false, .b true]) rfl (congrArg (fun r => [U.b r]) h5) rfl ?_
  refine T.hbind (us := [.b true]) (xs := [.b false]) (ρ' := [.f a, .f b, .b up, .f t0, .i t1, .f t0, .i t1, .b false, .b true, .b false, .f t2, .i t3, .f t2, .i t3, .b false, .b true, .b false]) rfl (rfl) rfl ?_
  refine T.hneed (us := [.b false]) rfl (rfl) ?_
  refine T.hbind (us := [.f a, .f b, .b up]) (xs := [.f t4, .i t5]) (ρ' := [.f a, .f b, .b up, .f t0, .i t1, .f t0, .i t1, .b false, .b true, .b false, .f t2, .i t3, .f t2, .i t3, .b false, .b true, .b false, .f t4, .i t5]) rfl (congrArg (fun r : Nat × Int => [U.f r.1, U.i r.2]) h6) rfl ?_
  refine T.hbind (us := [.f a, .f b, .b up]) (xs := [.f t4, .i t5]) (ρ' := [.f a, .f b, .b up, .f t0, .i t1, .f t0, .i t1, .b false, .b true, .b false, .f t2, .i t3, .f t2, .i t3, .b false, .b true, .b false, .f t4, .i t5, .f t4, .i t5]) rfl (congrArg (fun r : Nat × Int => [U.f r.1, U.i r.2]) h6) rfl ?_
  refine T.hbind (us := [.i t5, .i t5]) (xs := [.b false]) (ρ' := [.f a, .f b, .b up, .f t0, .i t1, .f t0, .i t1, .b false, .b true, .b false, .f t2, .i t3, .f t2, .i t3, .b false, .b true, .b false, .f t4, .i t5, .f t4, .i t5, .b false]) rfl (congrArg (fun r => [U.b r]) h7) rfl ?_
  refine T.hneed (us := [.b false]) rfl (rfl) ?_
  refine T.hbind (us := [.f t4, .f t4]) (xs := [.b true]) (ρ' := [.f a, .f b, .b up, .f t0, .i t1, .f t0, .i t1, .b false, .b true, .b false, .f t2, .i t3, .f t2, .i t3, .b false, .b true, .b false, .f t4, .i t5, .f t4, .i t5, .b false, .b true]) rfl (congrArg (fun r => [U.b r]) h8) rfl ?_
  refine T.hbind (us := [.b true]) (xs := [.b false]) (ρ' := [.f a, .f b, .b up, .f t0, .i t1, .f t0, .i t1, .b false, .b true, .b false, .f t2, .i t3, .f t2, .i t3, .b false, .b true, .b false, .f t4, .i t5, .f t4, .i t5, .b false, .b true, .b false]) rfl (rfl) rfl ?_
  refine T.hneed (us := [.b false]) rfl (rfl) ?_
  refine T.hbind (us := [.f a, .f b, .b up]) (xs := [.f t6, .i t7]) (ρ' := [.f a, .f b, .b up, .f t0, .i t1, .f t0, .i t1, .b false, .b true, .b false, .f t2, .i t3, .f t2, .i t3, .b false, .b true, .b false, .f t4, .i t5, .f t4, .i t5, .b false, .b true, .b false, .f t6, .i t7]) rfl (congrArg (fun r : Nat × Int => [U.f r.1, U.i r.2]) h9) rfl ?_
  refine T.hbind (us := [.f a, .f b, .b up]) (xs := [.f t6, .i t7]) (ρ' := [.f a, .f b, .b up, .f t0, .i t1, .f t0, .i t1, .b false, .b true, .b false, .f t2, .i t3, .f t2, .i t3, .b false, .b true, .b false, .f t4, .i t5, .f t4, .i t5, .b false, .b true, .b false, .f t6, .i t7, .f t6, .i t7]) rfl (congrArg (fun r : Nat × Int => [U.f r.1, U.i r.2]) h9) rfl ?_
  refine T.hbind (us := [.i t7, .i t7]) (xs := [.b false]) (ρ' := [.f a, .f b, .b up, .f t0, .i t1, .f t0, .i t1, .b false, .b true, .b false, .f t2, .i t3, .f t2, .i t3, .b false, .b true, .b false, .f t4, .i t5, .f t4, .i t5, .b false, .b true, .b false, .f t6, .i t7, .f t6, .i t7, .b false]) rfl (congrArg (fun r => [U.b r]) h10) rfl ?_
  refine T.hneed (us := [.b false]) rfl (rfl) ?_
  refine T.hbind (us := [.f t6, .f t6]) (xs := [.b true]) (ρ' := [.f a, .f b, .b up, .f t0, .i t1, .f t0, .i t1, .b false, .b true, .b false, .f t2, .i t3, .f t2, .i t3, .b false, .b true, .b false, .f t4, .i t5, .f t4, .i t5, .b false, .b true, .b false, .f t6, .i t7, .f t6, .i t7, .b false, .b true]) rfl (congrArg (fun r => [U.b r]) h11) rfl ?_
  refine T.hbind (us := [.b true]) (xs := [.b false]) (ρ' := [.f a, .f b, .b up, .f t0, .i t1, .f t0, .i t1, .b false, .b true, .b false, .f t2, .i t3, .f t2, .i t3, .b false, .b true, .b false, .f t4, .i t5, .f t4, .i t5, .b false, .b true, .b false, .f t6, .i t7, .f t6, .i t7, .b false, .b true, .b false]) rfl (rfl) rfl ?_
  refine T.hneed (us := [.b false]) rfl (rfl) ?_
  refine T.hbind (us := [.f a, .b up]) (xs := [.f t8, .i t9]) (ρ' := [.f a, .f b, .b up, .f t0, .i t1, .f t0, .i t1, .b false, .b true, .b false, .f t2, .i t3, .f t2, .i t3, .b false, .b true, .b false, .f t4, .i t5, .f t4, .i t5, .b false, .b true, .b false, .f t6, .i t7, .f t6, .i t7, .b false, .b true, .b false, .f t8, .i t9]) rfl (congrArg (fun r : Nat × Int => [U.f r.1, U.i r.2]) h12) rfl ?_
  refine T.hbind (us := [.f a, .b up]) (xs := [.f t8, .i t9]) (ρ' := [.f a, .f b, .b up, .f t0, .i t1, .f t0, .i t1, .b false, .b true, .b false, .f t2, .i t3, .f t2, .i t3, .b false, .b true, .b false, .f t4, .i t5, .f t4, .i t5, .b false, .b true, .b false, .f t6, .i t7, .f t6, .i t7, .b false, .b true, .b false, .f t8, .i t9, .f t8, .i t9]) rfl (congrArg (fun r : Nat × Int => [U.f r.1, U.i r.2]) h12) rfl ?_
  refine T.hbind (us := [.f a, .b up]) (xs := [.f t10, .i t11]) (ρ' := [.f a, .f b, .b up, .f t0, .i t1, .f t0, .i t1, .b false, .b true, .b false, .f t2, .i t3, .f t2, .i t3, .b false, .b true, .b false, .f t4, .i t5, .f t4, .i t5, .b false, .b true, .b false, .f t6, .i t7, .f t6, .i t7, .b false, .b true, .b false, .f t8, .i t9, .f t8, .i t9, .f t10, .i t11]) rfl (congrArg (fun r : Nat × Int => [U.f r.1, U.i r.2]) h13) rfl ?_
  refine T.hbind (us := [.f a, .b up]) (xs := [.f t10, .i t11]) (ρ' := [.f a, .f b, .b up, .f t0, .i t1, .f t0, .i t1, .b false, .b true, .b false, .f t2, .i t3, .f t2, .i t3, .b false, .b true, .b false, .f t4, .i t5, .f t4, .i t5, .b false, .b true, .b false, .f t6, .i t7, .f t6, .i t7, .b false, .b true, .b false, .f t8, .i t9, .f t8, .i t9, .f t10, .i t11, .f t10, .i t11]) rfl (congrArg (fun r : Nat × Int => [U.f r.1, U.i r.2]) h13) rfl ?_
  refine T.hbind (us := [.f a]) (xs := [.b t12]) (ρ' := [.f a, .f b, .b up, .f t0, .i t1, .f t0, .i t1, .b false, .b true, .b false, .f t2, .i t3, .f t2, .i t3, .b false, .b true, .b false, .f t4, .i t5, .f t4, .i t5, .b false, .b true, .b false, .f t6, .i t7, .f t6, .i t7, .b false, .b true, .b false, .f t8, .i t9, .f t8, .i t9, .f t10, .i t11, .f t10, .i t11, .b t12]) rfl (congrArg (fun r => [U.b r]) h14) rfl ?_
  refine T.hbind (us := [.f a]) (xs := [.b t13]) (ρ' := [.f a, .f b, .b up, .f t0, .i t1, .f t0, .i t1, .b false, .b true, .b false, .f t2, .i t3, .f t2, .i t3, .b false, .b true, .b false, .f t4, .i t5, .f t4, .i t5, .b false, .b true, .b false, .f t6, .i t7, .f t6, .i t7, .b false, .b true, .b false, .f t8, .i t9, .f t8, .i t9, .f t10, .i t11, .f t10, .i t11, .b t12, .b t13]) rfl (congrArg (fun r => [U.b r]) h15) rfl ?_
  refine T.hbind (us := [.b t12, .b t13]) (xs := [.b true]) (ρ' := [.f a, .f b, .b up, .f t0, .i t1, .f t0, .i t1, .b false, .b true, .b false, .f t2, .i t3, .f t2, .i t3, .b false, .b true, .b false, .f t4, .i t5, .f t4, .i t5, .b false, .b true, .b false, .f t6, .i t7, .f t6, .i t7, .b false, .b true, .b false, .f t8, .i t9, .f t8, .i t9, .f t10, .i t11, .f t10, .i t11, .b t12, .b t13, .b true]) rfl (congrArg (fun r => [U.b r]) h16) rfl ?_
  refine T.hneed (us := [.b true]) rfl (rfl) ?_
  refine T.hbind (us := [.i t9, .i t9]) (xs := [.b true]) (ρ' := [.f a, .f b, .b up, .f t0, .i t1, .f t0, .i t1, .b false, .b true, .b false, .f t2, .i t3, .f t2, .i t3, .b false, .b true, .b false, .f t4, .i t5, .f t4, .i t5, .b false, .b true, .b false, .f t6, .i t7, .f t6, .i t7, .b false, .b true, .b false, .f t8, .i t9, .f t8, .i t9, .f t10, .i t11, .f t10, .i t11, .b t12, .b t13, .b true, .b true]) rfl (congrArg (fun r => [U.b r]) h17) rfl ?_
  refine T.hneed (us := [.b true]) rfl (rfl) ?_
  refine T.hbind (us := [.f t8, .f t8]) (xs := [.b true]) (ρ' := [.f a, .f b, .b up, .f t0, .i t1, .f t0, .i t1, .b false, .b true, .b false, .f t2, .i t3, .f t2, .i t3, .b false, .b true, .b false, .f t4, .i t5, .f t4, .i t5, .b false, .b true, .b false, .f t6, .i t7, .f t6, .i t7, .b false, .b true, .b false, .f t8, .i t9, .f t8, .i t9, .f t10, .i t11, .f t10, .i t11, .b t12, .b t13, .b true, .b true, .b true]) rfl (congrArg (fun r => [U.b r]) h18) rfl ?_
  refine T.hneed (us := [.b true]) rfl (rfl) ?_
  refine T.hbind (us := [.i t11, .i t11]) (xs := [.b true]) (ρ' := [.f a, .f b, .b up, .f t0, .i t1, .f t0, .i t1, .b false, .b true, .b false, .f t2, .i t3, .f t2, .i t3, .b false, .b true, .b false, .f t4, .i t5, .f t4, .i t5, .b false, .b true, .b false, .f t6, .i t7, .f t6, .i t7, .b false, .b true, .b false, .f t8, .i t9, .f t8, .i t9, .f t10, .i t11, .f t10, .i t11, .b t12, .b t13, .b true, .b true, .b true, .b true]) rfl (congrArg (fun r => [U.b r]) h19) rfl ?_
  refine T.hneed (us := [.b true]) rfl (rfl) ?_
  refine T.hbind (us := [.f t10, .f t10]) (xs := [.b true]) (ρ' := [.f a, .f b, .b up, .f t0, .i t1, .f t0, .i t1, .b false, .b true, .b false, .f t2, .i t3, .f t2, .i t3, .b false, .b true, .b false, .f t4, .i t5, .f t4, .i t5, .b false, .b true, .b false, .f t6, .i t7, .f t6, .i t7, .b false, .b true, .b false, .f t8, .i t9, .f t8, .i t9, .f t10, .i t11, .f t10, .i t11, .b t12, .b t13, .b true, .b true, .b true, .b true, .b true]) rfl (congrArg (fun r => [U.b r]) h20) rfl ?_
  refine T.hneed (us := [.b true]) rfl (rfl) ?_
  exact T.hdone rfl

end Go.Proofs.Ytnbdjpnnagpldaa
