/- A reckoning of programs by symbols: directions, looks with any error. -/
import Derived.Test.YtikiegcncliocaaGreatGa
import Derived.Test.YtikiegcncliocaaGreatMn
import Derived.Test.YtikiegcncliocaaGreatCg
namespace Go.Proofs.YtikiegcncliocaaGreat
open Go Go.RowKit
set_option linter.unusedSimpArgs false
set_option linter.unusedVariables false

section
variable {P : Program} {cts : List (Nat × Ct)} {dr : Array Oper → SF → (SF → T) → T}
theorem CtOk.of_eval2P (hcts : AllOk P cts) (hdr : DrOk P dr) {f : Nat} {fn : Func} (hf : P.funcs[f]? = some fn) (hb : fn.body.isSome = true) (hn : (fn.name == "runtime.NumGoroutine") = false) (lh : List (Nat × LHint)) (fuel : Nat) {ct : Ct} (hct : ctB ct none = true) (hnew : ct.eff.new = none) (o : List Bool) (t : T) (ht : (evF P cts dr lh fuel fn ct.m ct.blks ct.args none).prune o = t)
    (hv0 : (ct.args.all fun a => varsIn ct.m a) = true) (hv1 : (ct.blks.all fun c => c.all fun a => varsIn ct.m a) = true)
    (H : ∀ us, us.length = ct.m → FactsL us ct.args → FactsB us ct.blks → NeedsAt (runB ct.eff.binds us) ct.eff.needs → t.holds (Leaf2 ct (runB ct.eff.binds us)) us) : CtOk P f ct :=
  CtOk.of_eval hcts hdr hf hb hn lh fuel hct rfl (fun us h1 h2 h3 h4 => T.prune_holds _ o (by rw [ht]; exact T.holds_mono (fun _ _ _ h => h.leaf hnew) t (H us h1 h2 h3 h4))) hv0 hv1
end
/-- An interval, wider by so much, kept within two numbers. -/
def widLo (a by' : Nat) (least : Nat) : Nat := if Dy.flt ((Ieee.double.sub a by').getD 0) least = true then least else (Ieee.double.sub a by').getD 0
def widHi (a by' : Nat) : Nat := if Dy.fgt ((Ieee.double.add a by').getD 0) 4607182418800017408 = true then 4607182418800017408 else (Ieee.double.add a by').getD 0
def widenF (a : Nat × Nat) (by' least : Nat) : Nat × Nat := ((Ieee.double.add (widLo a.1 by' least) 0).getD 0, (Ieee.double.add (widHi a.2 by') 0).getD 0)
theorem one_add0 : (Ieee.double.add 4607182418800017408 0).getD 0 = 4607182418800017408 := by decide +kernel
def nWid (us : List U) : Bool := okF (Ieee.double.sub (gF us 0) (gF us 2)) && okF (Ieee.double.add (gF us 1) (gF us 2)) && okF (Ieee.double.add (widLo (gF us 0) (gF us 2) (gF us 3)) 0) && okF (Ieee.double.add (widHi (gF us 1) (gF us 2)) 0)
def nHalf (us : List U) : Bool := decide (lookF (gF us 0) (gF us 1) (gF us 2) (gF us 3) (gF us 4) (gF us 5) (gF us 6) (gF us 7) (gF us 8) (gF us 9) (gF us 10) (gF us 11) = 0)
def nLook (us : List U) : Bool := nHalf us && (gA (gF us 12, gF us 13) && (Dy.ivR (gF us 12, gF us 13) && (!Dy.flt (gF us 12) 4584664420663164928 && (!Dy.fgt (gF us 13) 4607182418800017408 && (gC (gF us 4, gF us 5) && (gC (gF us 10, gF us 11) && ((halfG (gF us 0, gF us 1) (gF us 2, gF us 3) (gF us 4, gF us 5) (gF us 6, gF us 7) (gF us 8, gF us 9) (gF us 10, gF us 11)).2 != 0 || gC (halfG (gF us 0, gF us 1) (gF us 2, gF us 3) (gF us 4, gF us 5) (gF us 6, gF us 7) (gF us 8, gF us 9) (gF us 10, gF us 11)).1.1)))))))
attribute [local irreducible] halfM glossM halfG gA gC lookF dM g1M g2M
def xe0 : List (Nat × Ct) := z21
theorem xe0_ok : AllOk Tryz.prog xe0 := z21_ok
def ctDir : Ct := ⟨3, [], [vi .u32 0, vi .u32 1, vi .u32 2], { binds := [⟨fun us i => fRes (btwF (gF us 0) (gF us 1) (gI us 2)) i, 1, [(.l (.f 13830554455654793216)), (.l (.f 4607182418800017408)), (.v 0)]⟩, ⟨fun us i => fRes (btwF (gF us 0) (gF us 1) (gI us 2)) i, 1, [(.l (.f 13830554455654793216)), (.l (.f 4607182418800017408)), (.v 1)]⟩, ⟨fun us i => fRes (btwF (gF us 0) (gF us 1) (gI us 2)) i, 1, [(.l (.f 4580160821035794432)), (.l (.f 4607182418800017408)), (.v 2)]⟩], needs := [⟨nBtw, [(.l (.f 13830554455654793216)), (.l (.f 4607182418800017408)), (.v 0)]⟩, ⟨nBtw, [(.l (.f 13830554455654793216)), (.l (.f 4607182418800017408)), (.v 1)]⟩, ⟨nBtw, [(.l (.f 4580160821035794432)), (.l (.f 4607182418800017408)), (.v 2)]⟩], val := .agg [.fl (.v 3), .fl (.v 4), .fl (.v 5)], upd := [] }⟩
theorem ctDir_ok : CtOk Tryz.prog 12 ctDir := CtOk.flat xe0_ok (dr_ok xe0_ok) Tryz.func12 rfl (by decide) [] 200 ⟨[.agg [.fl (.v 3), .fl (.v 4), .fl (.v 5)]], [], 6, []⟩ (by kernel_rfl) rfl (by kernel_rfl) rfl (by kernel_rfl) (by kernel_rfl) (by kernel_rfl) (by kernel_rfl)

def xe1 : List (Nat × Ct) := (12, ctDir) :: xe0
theorem xe1_ok : AllOk Tryz.prog xe1 := ⟨ctDir_ok, xe0_ok⟩

def ctWiden : Ct := ⟨4, [], [vp 0 1, vf 2, vf 3], { binds := [⟨fun us i => ivU ((widenF (gF us 0, gF us 1) (gF us 2) (gF us 3))) i, 2, upto 0 4⟩], needs := [⟨nWid, [.v 0, .v 1, .v 2, .v 3]⟩], val := vp 4 5, upd := [] }⟩
set_option maxRecDepth 100000 in
set_option maxHeartbeats 8000000 in
theorem ctWiden_ok : CtOk Tryz.prog 13 ctWiden := by
  refine CtOk.of_eval2 xe1_ok (dr_ok xe1_ok) Tryz.func13 rfl (by decide) [] 200 (by kernel_rfl) rfl (.bind ⟨fun us _ => fB Ieee.double.sub us, 1, [(.v 0), (.v 2)]⟩ (.need ⟨fN Ieee.double.sub, [(.v 0), (.v 2)]⟩ (.bind ⟨fun us _ => fB Ieee.double.add us, 1, [(.v 1), (.v 2)]⟩ (.need ⟨fN Ieee.double.add, [(.v 1), (.v 2)]⟩ (.bind ⟨fun us _ => cB Dy.flt us, 1, [(.v 4), (.v 3)]⟩ (.ite (.v 6) (.bind ⟨fun us _ => cB Dy.fgt us, 1, [(.v 5), (.l (.f 4607182418800017408))]⟩ (.ite (.v 7) (.bind ⟨fun us _ => fB Ieee.double.add us, 1, [(.v 3), (.l (.f 0))]⟩ (.need ⟨fN Ieee.double.add, [(.v 3), (.l (.f 0))]⟩ (.need ⟨fN Ieee.double.add, [(.l (.f 4607182418800017408)), (.l (.f 0))]⟩ (.done .ret ⟨[.agg [.fl (.v 8), .fl (.l (.f 4607182418800017408))]], [], 9, []⟩)))) (.bind ⟨fun us _ => fB Ieee.double.add us, 1, [(.v 3), (.l (.f 0))]⟩ (.need ⟨fN Ieee.double.add, [(.v 3), (.l (.f 0))]⟩ (.bind ⟨fun us _ => fB Ieee.double.add us, 1, [(.v 5), (.l (.f 0))]⟩ (.need ⟨fN Ieee.double.add, [(.v 5), (.l (.f 0))]⟩ (.done .ret ⟨[.agg [.fl (.v 8), .fl (.v 9)]], [], 10, []⟩))))))) (.bind ⟨fun us _ => cB Dy.fgt us, 1, [(.v 5), (.l (.f 4607182418800017408))]⟩ (.ite (.v 7) (.bind ⟨fun us _ => fB Ieee.double.add us, 1, [(.v 4), (.l (.f 0))]⟩ (.need ⟨fN Ieee.double.add, [(.v 4), (.l (.f 0))]⟩ (.need ⟨fN Ieee.double.add, [(.l (.f 4607182418800017408)), (.l (.f 0))]⟩ (.done .ret ⟨[.agg [.fl (.v 8), .fl (.l (.f 4607182418800017408))]], [], 9, []⟩)))) (.bind ⟨fun us _ => fB Ieee.double.add us, 1, [(.v 4), (.l (.f 0))]⟩ (.need ⟨fN Ieee.double.add, [(.v 4), (.l (.f 0))]⟩ (.bind ⟨fun us _ => fB Ieee.double.add us, 1, [(.v 5), (.l (.f 0))]⟩ (.need ⟨fN Ieee.double.add, [(.v 5), (.l (.f 0))]⟩ (.done .ret ⟨[.agg [.fl (.v 8), .fl (.v 9)]], [], 10, []⟩))))))))))))) (by kernel_rfl) (by kernel_rfl) (by kernel_rfl) (fun us hl hF hB hN => ?_)
  match us, hl with
  | [u0, u1, u2, u3], _ =>
    simp [FactsB, FactsL, Facts, ctWiden] at hF hB
    simp [NeedsAt, runB, evs, E.ev, upto, resl, List.range, List.range.loop, ctWiden] at hN
    obtain ⟨⟨⟨a1, rfl, wa1⟩, ⟨a2, rfl, wa2⟩⟩, ⟨b, rfl, wb⟩, ⟨l, rfl, wl⟩⟩ := hF
    simp only [nWid, gF, Bool.and_eq_true] at hN
    obtain ⟨⟨⟨n1, n2⟩, n3⟩, n4⟩ := hN
    replace n1 : okF (Ieee.double.sub a1 b) = true := n1
    replace n2 : okF (Ieee.double.add a2 b) = true := n2
    replace n3 : okF (Ieee.double.add (widLo a1 b l) 0) = true := n3
    replace n4 : okF (Ieee.double.add (widHi a2 b) 0) = true := n4
    refine T.HH.h ?_
    obtain ⟨t0, e1⟩ : ∃ t0, ((Ieee.double.sub a1 b).getD 0) = t0 := ⟨_, rfl⟩
    refine T.hbind (us := [.f a1, .f b]) (xs := [.f t0]) (ρ' := [.f a1, .f a2, .f b, .f l, .f t0]) rfl (congrArg (fun r => [U.f r]) e1) rfl ?_
    refine T.hneed (us := [.f a1, .f b]) rfl (n1) ?_
    obtain ⟨t2, e3⟩ : ∃ t2, ((Ieee.double.add a2 b).getD 0) = t2 := ⟨_, rfl⟩
    refine T.hbind (us := [.f a2, .f b]) (xs := [.f t2]) (ρ' := [.f a1, .f a2, .f b, .f l, .f t0, .f t2]) rfl (congrArg (fun r => [U.f r]) e3) rfl ?_
    refine T.hneed (us := [.f a2, .f b]) rfl (n2) ?_
    obtain ⟨t4, e5⟩ : ∃ t4, (Dy.flt t0 l) = t4 := ⟨_, rfl⟩
    refine T.hbind (us := [.f t0, .f l]) (xs := [.b t4]) (ρ' := [.f a1, .f a2, .f b, .f l, .f t0, .f t2, .b t4]) rfl (congrArg (fun r => [U.b r]) e5) rfl ?_
    refine T.hite (x := t4) ?_ ?_ ?_
    · rfl
    · intro c7
      obtain ⟨t7, e8⟩ : ∃ t7, (Dy.fgt t2 4607182418800017408) = t7 := ⟨_, rfl⟩
      refine T.hbind (us := [.f t2, .f 4607182418800017408]) (xs := [.b t7]) (ρ' := [.f a1, .f a2, .f b, .f l, .f t0, .f t2, .b t4, .b t7]) rfl (congrArg (fun r => [U.b r]) e8) rfl ?_
      refine T.hite (x := t7) ?_ ?_ ?_
      · rfl
      · intro c10
        obtain ⟨t10, e11⟩ : ∃ t10, ((Ieee.double.add l 0).getD 0) = t10 := ⟨_, rfl⟩
        refine T.hbind (us := [.f l, .f 0]) (xs := [.f t10]) (ρ' := [.f a1, .f a2, .f b, .f l, .f t0, .f t2, .b t4, .b t7, .f t10]) rfl (congrArg (fun r => [U.f r]) e11) rfl ?_
        refine T.hneed (us := [.f l, .f 0]) rfl (by have h1 := n3; have h2 := n4; simp only [widLo, widHi, reduceIte, Bool.false_eq_true, e1, e3, e5, c7, e8, c10, e11] at h1 h2; first | exact h1 | exact h2) ?_
        refine T.hneed (us := [.f 4607182418800017408, .f 0]) rfl (by have h1 := n3; have h2 := n4; simp only [widLo, widHi, reduceIte, Bool.false_eq_true, e1, e3, e5, c7, e8, c10, e11] at h1 h2; first | exact h1 | exact h2) ?_
        refine T.hdone ?_
        have e00 : (widenF (a1, a2) (b) (l)) = (t10, 4607182418800017408) := by simp only [widenF, widLo, widHi, one_add0, e1, e3, e5, c7, e8, c10, e11, reduceIte, Bool.false_eq_true, Bool.true_eq_false, Bool.true_and, Bool.false_and, Bool.and_true, Bool.and_false, Bool.true_or, Bool.false_or, Bool.or_true, Bool.or_false, Bool.not_true, Bool.not_false, Dy.cm_bind, Dy.cm_pure, Dy.mNum, Dy.mAdd, Dy.mSub, Dy.mMul, Dy.mDiv, Dy.mSqr, Dy.mSqrt, Dy.mMax] <;> simp_all
        exact ⟨⟨(congrArg (fun r => some (ivU r 0)) e00.symm), (congrArg (fun r => some (ivU r 1)) e00.symm), trivial⟩, trivial, rfl⟩
      · intro c10
        obtain ⟨t12, e13⟩ : ∃ t12, ((Ieee.double.add l 0).getD 0) = t12 := ⟨_, rfl⟩
        refine T.hbind (us := [.f l, .f 0]) (xs := [.f t12]) (ρ' := [.f a1, .f a2, .f b, .f l, .f t0, .f t2, .b t4, .b t7, .f t12]) rfl (congrArg (fun r => [U.f r]) e13) rfl ?_
        refine T.hneed (us := [.f l, .f 0]) rfl (by have h1 := n3; have h2 := n4; simp only [widLo, widHi, reduceIte, Bool.false_eq_true, e1, e3, e5, c7, e8, c10, e13] at h1 h2; first | exact h1 | exact h2) ?_
        obtain ⟨t14, e15⟩ : ∃ t14, ((Ieee.double.add t2 0).getD 0) = t14 := ⟨_, rfl⟩
        refine T.hbind (us := [.f t2, .f 0]) (xs := [.f t14]) (ρ' := [.f a1, .f a2, .f b, .f l, .f t0, .f t2, .b t4, .b t7, .f t12, .f t14]) rfl (congrArg (fun r => [U.f r]) e15) rfl ?_
        refine T.hneed (us := [.f t2, .f 0]) rfl (by have h1 := n3; have h2 := n4; simp only [widLo, widHi, reduceIte, Bool.false_eq_true, e1, e3, e5, c7, e8, c10, e13, e15] at h1 h2; first | exact h1 | exact h2) ?_
        refine T.hdone ?_
        have e00 : (widenF (a1, a2) (b) (l)) = (t12, t14) := by simp only [widenF, widLo, widHi, one_add0, e1, e3, e5, c7, e8, c10, e13, e15, reduceIte, Bool.false_eq_true, Bool.true_eq_false, Bool.true_and, Bool.false_and, Bool.and_true, Bool.and_false, Bool.true_or, Bool.false_or, Bool.or_true, Bool.or_false, Bool.not_true, Bool.not_false, Dy.cm_bind, Dy.cm_pure, Dy.mNum, Dy.mAdd, Dy.mSub, Dy.mMul, Dy.mDiv, Dy.mSqr, Dy.mSqrt, Dy.mMax] <;> simp_all
        exact ⟨⟨(congrArg (fun r => some (ivU r 0)) e00.symm), (congrArg (fun r => some (ivU r 1)) e00.symm), trivial⟩, trivial, rfl⟩
    · intro c7
      obtain ⟨t16, e17⟩ : ∃ t16, (Dy.fgt t2 4607182418800017408) = t16 := ⟨_, rfl⟩
      refine T.hbind (us := [.f t2, .f 4607182418800017408]) (xs := [.b t16]) (ρ' := [.f a1, .f a2, .f b, .f l, .f t0, .f t2, .b t4, .b t16]) rfl (congrArg (fun r => [U.b r]) e17) rfl ?_
      refine T.hite (x := t16) ?_ ?_ ?_
      · rfl
      · intro c19
        obtain ⟨t19, e20⟩ : ∃ t19, ((Ieee.double.add t0 0).getD 0) = t19 := ⟨_, rfl⟩
        refine T.hbind (us := [.f t0, .f 0]) (xs := [.f t19]) (ρ' := [.f a1, .f a2, .f b, .f l, .f t0, .f t2, .b t4, .b t16, .f t19]) rfl (congrArg (fun r => [U.f r]) e20) rfl ?_
        refine T.hneed (us := [.f t0, .f 0]) rfl (by have h1 := n3; have h2 := n4; simp only [widLo, widHi, reduceIte, Bool.false_eq_true, e1, e3, e5, c7, e17, c19, e20] at h1 h2; first | exact h1 | exact h2) ?_
        refine T.hneed (us := [.f 4607182418800017408, .f 0]) rfl (by have h1 := n3; have h2 := n4; simp only [widLo, widHi, reduceIte, Bool.false_eq_true, e1, e3, e5, c7, e17, c19, e20] at h1 h2; first | exact h1 | exact h2) ?_
        refine T.hdone ?_
        have e00 : (widenF (a1, a2) (b) (l)) = (t19, 4607182418800017408) := by simp only [widenF, widLo, widHi, one_add0, e1, e3, e5, c7, e17, c19, e20, reduceIte, Bool.false_eq_true, Bool.true_eq_false, Bool.true_and, Bool.false_and, Bool.and_true, Bool.and_false, Bool.true_or, Bool.false_or, Bool.or_true, Bool.or_false, Bool.not_true, Bool.not_false, Dy.cm_bind, Dy.cm_pure, Dy.mNum, Dy.mAdd, Dy.mSub, Dy.mMul, Dy.mDiv, Dy.mSqr, Dy.mSqrt, Dy.mMax] <;> simp_all
        exact ⟨⟨(congrArg (fun r => some (ivU r 0)) e00.symm), (congrArg (fun r => some (ivU r 1)) e00.symm), trivial⟩, trivial, rfl⟩
      · intro c19
        obtain ⟨t21, e22⟩ : ∃ t21, ((Ieee.double.add t0 0).getD 0) = t21 := ⟨_, rfl⟩
        refine T.hbind (us := [.f t0, .f 0]) (xs := [.f t21]) (ρ' := [.f a1, .f a2, .f b, .f l, .f t0, .f t2, .b t4, .b t16, .f t21]) rfl (congrArg (fun r => [U.f r]) e22) rfl ?_
        refine T.hneed (us := [.f t0, .f 0]) rfl (by have h1 := n3; have h2 := n4; simp only [widLo, widHi, reduceIte, Bool.false_eq_true, e1, e3, e5, c7, e17, c19, e22] at h1 h2; first | exact h1 | exact h2) ?_
        obtain ⟨t23, e24⟩ : ∃ t23, ((Ieee.double.add t2 0).getD 0) = t23 := ⟨_, rfl⟩
        refine T.hbind (us := [.f t2, .f 0]) (xs := [.f t23]) (ρ' := [.f a1, .f a2, .f b, .f l, .f t0, .f t2, .b t4, .b t16, .f t21, .f t23]) rfl (congrArg (fun r => [U.f r]) e24) rfl ?_
        refine T.hneed (us := [.f t2, .f 0]) rfl (by have h1 := n3; have h2 := n4; simp only [widLo, widHi, reduceIte, Bool.false_eq_true, e1, e3, e5, c7, e17, c19, e22, e24] at h1 h2; first | exact h1 | exact h2) ?_
        refine T.hdone ?_
        have e00 : (widenF (a1, a2) (b) (l)) = (t21, t23) := by simp only [widenF, widLo, widHi, one_add0, e1, e3, e5, c7, e17, c19, e22, e24, reduceIte, Bool.false_eq_true, Bool.true_eq_false, Bool.true_and, Bool.false_and, Bool.and_true, Bool.and_false, Bool.true_or, Bool.false_or, Bool.or_true, Bool.or_false, Bool.not_true, Bool.not_false, Dy.cm_bind, Dy.cm_pure, Dy.mNum, Dy.mAdd, Dy.mSub, Dy.mMul, Dy.mDiv, Dy.mSqr, Dy.mSqrt, Dy.mMax] <;> simp_all
        exact ⟨⟨(congrArg (fun r => some (ivU r 0)) e00.symm), (congrArg (fun r => some (ivU r 1)) e00.symm), trivial⟩, trivial, rfl⟩

def xe2 : List (Nat × Ct) := (13, ctWiden) :: xe1
theorem xe2_ok : AllOk Tryz.prog xe2 := ⟨ctWiden_ok, xe1_ok⟩

def ctWide : Ct := ⟨7, [], [.agg [vf 0, vf 1, vf 2, vf 3, vf 4, vf 5], vf 6], { binds := [⟨fun us i => ivU ((widenF (gF us 0, gF us 1) (gF us 2) (gF us 3))) i, 2, [(.v 0), (.v 1), (.v 6), (.l (.f 13830554455654793216))]⟩, ⟨fun us i => ivU ((widenF (gF us 0, gF us 1) (gF us 2) (gF us 3))) i, 2, [(.v 2), (.v 3), (.v 6), (.l (.f 13830554455654793216))]⟩, ⟨fun us i => ivU ((widenF (gF us 0, gF us 1) (gF us 2) (gF us 3))) i, 2, [(.v 4), (.v 5), (.v 6), (.l (.f 0))]⟩], needs := [⟨nWid, [(.v 0), (.v 1), (.v 6), (.l (.f 13830554455654793216))]⟩, ⟨nWid, [(.v 2), (.v 3), (.v 6), (.l (.f 13830554455654793216))]⟩, ⟨nWid, [(.v 4), (.v 5), (.v 6), (.l (.f 0))]⟩], val := .agg [.fl (.v 7), .fl (.v 8), .fl (.v 9), .fl (.v 10), .fl (.v 11), .fl (.v 12)], upd := [] }⟩
theorem ctWide_ok : CtOk Tryz.prog 5 ctWide := CtOk.flat xe2_ok (dr_ok xe2_ok) Tryz.func5 rfl (by decide) [] 200 ⟨[.agg [.fl (.v 7), .fl (.v 8), .fl (.v 9), .fl (.v 10), .fl (.v 11), .fl (.v 12)]], [], 13, []⟩ (by kernel_rfl) rfl (by kernel_rfl) rfl (by kernel_rfl) (by kernel_rfl) (by kernel_rfl) (by kernel_rfl)

def xe3 : List (Nat × Ct) := (5, ctWide) :: xe2
theorem xe3_ok : AllOk Tryz.prog xe3 := ⟨ctWide_ok, xe2_ok⟩

def ctInner : Ct := ⟨12, [], [.agg [vf 0, vf 1, vf 2, vf 3, vf 4, vf 5], .agg [vi .u32 6, vi .u32 7, vi .u32 8, vi .u32 9, vi .u32 10, vi .u32 11]], { binds := [⟨fun us i => ivU (spanF (gF us 0) (gF us 1) (gI us 2) (gI us 3)) i, 2, [(.v 0), (.v 1), (.v 6), (.v 7)]⟩, ⟨fun us i => ivU (spanF (gF us 0) (gF us 1) (gI us 2) (gI us 3)) i, 2, [(.v 2), (.v 3), (.v 8), (.v 9)]⟩, ⟨fun us i => ivU (spanF (gF us 0) (gF us 1) (gI us 2) (gI us 3)) i, 2, [(.v 4), (.v 5), (.v 10), (.v 11)]⟩], needs := [⟨nSpan, [(.v 0), (.v 1), (.v 6), (.v 7)]⟩, ⟨nSpan, [(.v 2), (.v 3), (.v 8), (.v 9)]⟩, ⟨nSpan, [(.v 4), (.v 5), (.v 10), (.v 11)]⟩], val := .agg [.fl (.v 12), .fl (.v 13), .fl (.v 14), .fl (.v 15), .fl (.v 16), .fl (.v 17)], upd := [] }⟩
theorem ctInner_ok : CtOk Tryz.prog 8 ctInner := CtOk.flat xe3_ok (dr_ok xe3_ok) Tryz.func8 rfl (by decide) [] 200 ⟨[.agg [.fl (.v 12), .fl (.v 13), .fl (.v 14), .fl (.v 15), .fl (.v 16), .fl (.v 17)]], [], 18, []⟩ (by kernel_rfl) rfl (by kernel_rfl) rfl (by kernel_rfl) (by kernel_rfl) (by kernel_rfl) (by kernel_rfl)

def xe4 : List (Nat × Ct) := (8, ctInner) :: xe3
theorem xe4_ok : AllOk Tryz.prog xe4 := ⟨ctInner_ok, xe3_ok⟩

def ctTwo : Ct := ⟨6, [], [.agg [vi .u32 0, vi .u32 1, vi .u32 2, vi .u32 3, vi .u32 4, vi .u32 5]], { binds := [⟨fun us i => fRes (btwF (gF us 0) (gF us 1) (gI us 2)) i, 1, [(.l (.f 13830554455654793216)), (.l (.f 4607182418800017408)), (.v 0)]⟩, ⟨fun us i => fRes (btwF (gF us 0) (gF us 1) (gI us 2)) i, 1, [(.l (.f 13830554455654793216)), (.l (.f 4607182418800017408)), (.v 1)]⟩, ⟨fun us i => fRes (btwF (gF us 0) (gF us 1) (gI us 2)) i, 1, [(.l (.f 4580160821035794432)), (.l (.f 4607182418800017408)), (.v 2)]⟩, ⟨fun us i => vecU ((unitG (gF us 0) (gF us 1) (gF us 2))) i, 7, [(.v 6), (.v 7), (.v 8)]⟩, ⟨fun us i => fRes (btwF (gF us 0) (gF us 1) (gI us 2)) i, 1, [(.l (.f 13830554455654793216)), (.l (.f 4607182418800017408)), (.v 3)]⟩, ⟨fun us i => fRes (btwF (gF us 0) (gF us 1) (gI us 2)) i, 1, [(.l (.f 13830554455654793216)), (.l (.f 4607182418800017408)), (.v 4)]⟩, ⟨fun us i => fRes (btwF (gF us 0) (gF us 1) (gI us 2)) i, 1, [(.l (.f 4580160821035794432)), (.l (.f 4607182418800017408)), (.v 5)]⟩, ⟨fun us i => vecU ((unitG (gF us 0) (gF us 1) (gF us 2))) i, 7, [(.v 16), (.v 17), (.v 18)]⟩, ⟨fun us _ => jB (fun a b => a == b) us, 1, [(.v 15), (.l (.i 0))]⟩, ⟨fun us _ => jB (fun a b => a == b) us, 1, [(.v 25), (.l (.i 0))]⟩, ⟨fun us _ => cB Dy.fgt us, 1, [(.v 13), (.l (.f 0))]⟩, ⟨fun us _ => cB Dy.fgt us, 1, [(.v 23), (.l (.f 0))]⟩], needs := [⟨nBtw, [(.l (.f 13830554455654793216)), (.l (.f 4607182418800017408)), (.v 0)]⟩, ⟨nBtw, [(.l (.f 13830554455654793216)), (.l (.f 4607182418800017408)), (.v 1)]⟩, ⟨nBtw, [(.l (.f 4580160821035794432)), (.l (.f 4607182418800017408)), (.v 2)]⟩, ⟨nR3, [(.v 6), (.v 7), (.v 8)]⟩, ⟨nBtw, [(.l (.f 13830554455654793216)), (.l (.f 4607182418800017408)), (.v 3)]⟩, ⟨nBtw, [(.l (.f 13830554455654793216)), (.l (.f 4607182418800017408)), (.v 4)]⟩, ⟨nBtw, [(.l (.f 4580160821035794432)), (.l (.f 4607182418800017408)), (.v 5)]⟩, ⟨nR3, [(.v 16), (.v 17), (.v 18)]⟩, ⟨pT, [(.v 26)]⟩, ⟨pT, [(.v 27)]⟩, ⟨pT, [(.v 28)]⟩], val := .tup [.agg [.fl (.v 9), .fl (.v 10), .fl (.v 11), .fl (.v 12), .fl (.v 13), .fl (.v 14)], .agg [.fl (.v 19), .fl (.v 20), .fl (.v 21), .fl (.v 22), .fl (.v 23), .fl (.v 24)], .bo (.v 29)], upd := [] }⟩
theorem ctTwo_ok : CtOk Tryz.prog 4 ctTwo := CtOk.flatP xe4_ok (dr_ok xe4_ok) Tryz.func4 rfl (by decide) [] 200 [true, true, true] ⟨[.tup [.agg [.fl (.v 9), .fl (.v 10), .fl (.v 11), .fl (.v 12), .fl (.v 13), .fl (.v 14)], .agg [.fl (.v 19), .fl (.v 20), .fl (.v 21), .fl (.v 22), .fl (.v 23), .fl (.v 24)], .bo (.v 29)]], [], 30, []⟩ (by kernel_rfl) rfl (by kernel_rfl) rfl (by kernel_rfl) (by kernel_rfl) (by kernel_rfl) (by kernel_rfl)

def xe5 : List (Nat × Ct) := (4, ctTwo) :: xe4
theorem xe5_ok : AllOk Tryz.prog xe5 := ⟨ctTwo_ok, xe4_ok⟩

def xe6 : List (Nat × Ct) := (15, ctLook) :: xe5
theorem xe6_ok : AllOk Tryz.prog xe6 := ⟨ctLook_ok, xe5_ok⟩

def ctKept10 : Ct := ⟨2, [], [vp 0 1], { binds := [⟨fun us _ => gB Dy.dmax us, 1, [(.v 0), (.l (.f 0))]⟩, ⟨fun us _ => gB Dy.dmin us, 1, [(.v 2), (.l (.f 4607182418800017408))]⟩, ⟨fun us _ => gB Dy.dmax us, 1, [(.v 1), (.l (.f 0))]⟩, ⟨fun us _ => gB Dy.dmin us, 1, [(.v 4), (.l (.f 4607182418800017408))]⟩], needs := [⟨rN, [(.v 0), (.l (.f 0))]⟩, ⟨rN, [(.v 2), (.l (.f 4607182418800017408))]⟩, ⟨rN, [(.v 1), (.l (.f 0))]⟩, ⟨rN, [(.v 4), (.l (.f 4607182418800017408))]⟩], val := .agg [.fl (.v 3), .fl (.v 5)], upd := [] }⟩
theorem ctKept10_ok : CtOk Tryz.prog 37 ctKept10 := CtOk.flat xe6_ok (dr_ok xe6_ok) Tryz.func37 rfl (by decide) [] 200 ⟨[.agg [.fl (.v 3), .fl (.v 5)]], [], 6, []⟩ (by kernel_rfl) rfl (by kernel_rfl) rfl (by kernel_rfl) (by kernel_rfl) (by kernel_rfl) (by kernel_rfl)

def xe7 : List (Nat × Ct) := (37, ctKept10) :: xe6
theorem xe7_ok : AllOk Tryz.prog xe7 := ⟨ctKept10_ok, xe6_ok⟩

def ctHalf : Ct := ⟨12, [], [.agg [vf 0, vf 1, vf 2, vf 3, vf 4, vf 5], .agg [vf 6, vf 7, vf 8, vf 9, vf 10, vf 11]], { binds := [⟨fun us _ => .i (lookF (gF us 0) (gF us 1) (gF us 2) (gF us 3) (gF us 4) (gF us 5) (gF us 6) (gF us 7) (gF us 8) (gF us 9) (gF us 10) (gF us 11)), 1, [(.v 0), (.v 1), (.v 2), (.v 3), (.v 4), (.v 5), (.v 6), (.v 7), (.v 8), (.v 9), (.v 10), (.v 11)]⟩, ⟨fun us _ => jB (fun a b => a != b) us, 1, [(.v 12), (.l (.i 0))]⟩, ⟨calF2 Dy.cAdd, 3, [(.l (.i 0)), (.v 0), (.v 1), (.v 6), (.v 7)]⟩, ⟨calF2 Dy.cAdd, 3, [(.v 16), (.v 2), (.v 3), (.v 8), (.v 9)]⟩, ⟨calF2 Dy.cAdd, 3, [(.v 19), (.v 4), (.v 5), (.v 10), (.v 11)]⟩, ⟨calF1 Dy.cSqr, 3, [(.v 22), (.v 14), (.v 15)]⟩, ⟨calF1 Dy.cSqr, 3, [(.v 25), (.v 17), (.v 18)]⟩, ⟨calF2 Dy.cAdd, 3, [(.v 28), (.v 23), (.v 24), (.v 26), (.v 27)]⟩, ⟨calF1 Dy.cSqr, 3, [(.v 31), (.v 20), (.v 21)]⟩, ⟨calF2 Dy.cAdd, 3, [(.v 34), (.v 29), (.v 30), (.v 32), (.v 33)]⟩, ⟨calF1 Dy.cSqrt, 3, [(.v 37), (.v 35), (.v 36)]⟩, ⟨calF0 Dy.cNum, 3, [(.v 40), (.l (.f 4602678819172646912))]⟩, ⟨calF2 Dy.cMul, 3, [(.v 43), (.v 41), (.v 42), (.v 38), (.v 39)]⟩, ⟨fun us _ => gB Dy.dmax us, 1, [(.v 44), (.l (.f 0))]⟩, ⟨fun us _ => gB Dy.dmin us, 1, [(.v 47), (.l (.f 4607182418800017408))]⟩, ⟨fun us _ => gB Dy.dmax us, 1, [(.v 45), (.l (.f 0))]⟩, ⟨fun us _ => gB Dy.dmin us, 1, [(.v 49), (.l (.f 4607182418800017408))]⟩, ⟨calF2 Dy.cAdd, 3, [(.v 46), (.v 4), (.v 5), (.v 10), (.v 11)]⟩, ⟨calF2 Dy.cDiv, 3, [(.v 53), (.v 51), (.v 52), (.v 38), (.v 39)]⟩, ⟨fun us _ => gB Dy.dmax us, 1, [(.v 54), (.l (.f 0))]⟩, ⟨fun us _ => gB Dy.dmin us, 1, [(.v 57), (.l (.f 4607182418800017408))]⟩, ⟨fun us _ => gB Dy.dmax us, 1, [(.v 55), (.l (.f 0))]⟩, ⟨fun us _ => gB Dy.dmin us, 1, [(.v 59), (.l (.f 4607182418800017408))]⟩, ⟨fun us _ => jB (fun a b => a != b) us, 1, [(.v 56), (.l (.i 0))]⟩], needs := [⟨pF, [(.v 13)]⟩, ⟨rN, [(.v 44), (.l (.f 0))]⟩, ⟨rN, [(.v 47), (.l (.f 4607182418800017408))]⟩, ⟨rN, [(.v 45), (.l (.f 0))]⟩, ⟨rN, [(.v 49), (.l (.f 4607182418800017408))]⟩, ⟨rN, [(.v 54), (.l (.f 0))]⟩, ⟨rN, [(.v 57), (.l (.f 4607182418800017408))]⟩, ⟨rN, [(.v 55), (.l (.f 0))]⟩, ⟨rN, [(.v 59), (.l (.f 4607182418800017408))]⟩, ⟨pF, [(.v 61)]⟩], val := .tup [.agg [.fl (.v 58), .fl (.v 60)], .agg [.fl (.v 48), .fl (.v 50)], .it .i64 (.l (.i 0))], upd := [] }⟩
theorem ctHalf_ok : CtOk Tryz.prog 17 ctHalf := CtOk.flatP xe7_ok (dr_ok xe7_ok) Tryz.func17 rfl (by decide) [] 200 [false, false] ⟨[.tup [.agg [.fl (.v 58), .fl (.v 60)], .agg [.fl (.v 48), .fl (.v 50)], .it .i64 (.l (.i 0))]], [], 62, []⟩ (by kernel_rfl) rfl (by kernel_rfl) rfl (by kernel_rfl) (by kernel_rfl) (by kernel_rfl) (by kernel_rfl)

def xe8 : List (Nat × Ct) := (17, ctHalf) :: xe7
theorem xe8_ok : AllOk Tryz.prog xe8 := ⟨ctHalf_ok, xe7_ok⟩

def ctP10 : Ct := ⟨1, [], [vf 0], { binds := [⟨fun us _ => fB Ieee.double.add us, 1, [(.v 0), (.l (.f 0))]⟩, ⟨fun us _ => fB Ieee.double.add us, 1, [(.v 0), (.l (.f 0))]⟩], needs := [⟨fN Ieee.double.add, [(.v 0), (.l (.f 0))]⟩, ⟨fN Ieee.double.add, [(.v 0), (.l (.f 0))]⟩], val := .agg [.fl (.v 1), .fl (.v 2)], upd := [] }⟩
theorem ctP10_ok : CtOk Tryz.prog 26 ctP10 := CtOk.flat xe8_ok (dr_ok xe8_ok) Tryz.func26 rfl (by decide) [] 200 ⟨[.agg [.fl (.v 1), .fl (.v 2)]], [], 3, []⟩ (by kernel_rfl) rfl (by kernel_rfl) rfl (by kernel_rfl) (by kernel_rfl) (by kernel_rfl) (by kernel_rfl)

def xe9 : List (Nat × Ct) := (26, ctP10) :: xe8
theorem xe9_ok : AllOk Tryz.prog xe9 := ⟨ctP10_ok, xe8_ok⟩

def ctUp10 : Ct := ⟨0, [], [], { binds := [⟨fun us _ => fB Ieee.double.add us, 1, [(.l (.f 4607182418800017408)), (.l (.f 0))]⟩, ⟨fun us _ => fB Ieee.double.add us, 1, [(.l (.f 4607182418800017408)), (.l (.f 0))]⟩], needs := [⟨fN Ieee.double.add, [(.l (.f 4607182418800017408)), (.l (.f 0))]⟩, ⟨fN Ieee.double.add, [(.l (.f 4607182418800017408)), (.l (.f 0))]⟩], val := .agg [.fl (.l (.f 0)), .fl (.l (.f 0)), .fl (.l (.f 0)), .fl (.l (.f 0)), .fl (.v 0), .fl (.v 1)], upd := [] }⟩
theorem ctUp10_ok : CtOk Tryz.prog 25 ctUp10 := CtOk.flat xe9_ok (dr_ok xe9_ok) Tryz.func25 rfl (by decide) [] 200 ⟨[.agg [.fl (.l (.f 0)), .fl (.l (.f 0)), .fl (.l (.f 0)), .fl (.l (.f 0)), .fl (.v 0), .fl (.v 1)]], [], 2, []⟩ (by kernel_rfl) rfl (by kernel_rfl) rfl (by kernel_rfl) (by kernel_rfl) (by kernel_rfl) (by kernel_rfl)

def xe10 : List (Nat × Ct) := (25, ctUp10) :: xe9
theorem xe10_ok : AllOk Tryz.prog xe10 := ⟨ctUp10_ok, xe9_ok⟩

def ctNear10T : T := .bind ⟨fun us _ => cB (fun a b => Dy.fgt a b || Dy.feq a b) us, 1, [(.v 0), (.v 2)]⟩ (.ite (.v 4) (.bind ⟨fun us _ => cB (fun a b => Dy.flt a b || Dy.feq a b) us, 1, [(.v 1), (.v 3)]⟩ (.ite (.v 5) (.bind ⟨fun us _ => cB (fun a b => Dy.flt a b || Dy.feq a b) us, 1, [(.v 0), (.v 1)]⟩ (.done .ret ⟨[.bo (.v 6)], [], 7, []⟩)) (.done .ret ⟨[.bo (.l (.b false))], [], 6, []⟩))) (.done .ret ⟨[.bo (.l (.b false))], [], 5, []⟩))
def ctNear10 : Ct := ctT 4 [vp 0 1, vf 2, vf 3] ctNear10T (vb 4) 1
theorem ctNear10_ok : CtOk Tryz.prog 27 ctNear10 := ctT_ok xe10_ok (dr_ok xe10_ok) Tryz.func27 rfl (by decide) 200 4 [vp 0 1, vf 2, vf 3] ctNear10T (vb 4) 1 (by kernel_rfl) (by kernel_rfl) (by kernel_rfl)

def xe11 : List (Nat × Ct) := (27, ctNear10) :: xe10
theorem xe11_ok : AllOk Tryz.prog xe11 := ⟨ctNear10_ok, xe10_ok⟩

def ctHalfBad : Ct := ⟨4, [], [.agg [vf 0, vf 1, .fl (.l (.f 0)), .fl (.l (.f 0)), .fl (.l (.f 0)), .fl (.l (.f 0))], .agg [vf 2, vf 3, .fl (.l (.f 0)), .fl (.l (.f 0)), .fl (.l (.f 0)), .fl (.l (.f 0))]], { binds := [⟨fun us _ => .i (lookF (gF us 0) (gF us 1) (gF us 2) (gF us 3) (gF us 4) (gF us 5) (gF us 6) (gF us 7) (gF us 8) (gF us 9) (gF us 10) (gF us 11)), 1, [(.v 0), (.v 1), (.l (.f 0)), (.l (.f 0)), (.l (.f 0)), (.l (.f 0)), (.v 2), (.v 3), (.l (.f 0)), (.l (.f 0)), (.l (.f 0)), (.l (.f 0))]⟩, ⟨fun us _ => jB (fun a b => a != b) us, 1, [(.v 4), (.l (.i 0))]⟩, ⟨calF2 Dy.cAdd, 3, [(.l (.i 0)), (.v 0), (.v 1), (.v 2), (.v 3)]⟩, ⟨calF2 Dy.cAdd, 3, [(.v 8), (.l (.f 0)), (.l (.f 0)), (.l (.f 0)), (.l (.f 0))]⟩, ⟨calF2 Dy.cAdd, 3, [(.v 11), (.l (.f 0)), (.l (.f 0)), (.l (.f 0)), (.l (.f 0))]⟩, ⟨calF1 Dy.cSqr, 3, [(.v 14), (.v 6), (.v 7)]⟩, ⟨calF1 Dy.cSqr, 3, [(.v 17), (.v 9), (.v 10)]⟩, ⟨calF2 Dy.cAdd, 3, [(.v 20), (.v 15), (.v 16), (.v 18), (.v 19)]⟩, ⟨calF1 Dy.cSqr, 3, [(.v 23), (.v 12), (.v 13)]⟩, ⟨calF2 Dy.cAdd, 3, [(.v 26), (.v 21), (.v 22), (.v 24), (.v 25)]⟩, ⟨calF1 Dy.cSqrt, 3, [(.v 29), (.v 27), (.v 28)]⟩, ⟨calF0 Dy.cNum, 3, [(.v 32), (.l (.f 4602678819172646912))]⟩, ⟨calF2 Dy.cMul, 3, [(.v 35), (.v 33), (.v 34), (.v 30), (.v 31)]⟩, ⟨fun us _ => gB Dy.dmax us, 1, [(.v 36), (.l (.f 0))]⟩, ⟨fun us _ => gB Dy.dmin us, 1, [(.v 39), (.l (.f 4607182418800017408))]⟩, ⟨fun us _ => gB Dy.dmax us, 1, [(.v 37), (.l (.f 0))]⟩, ⟨fun us _ => gB Dy.dmin us, 1, [(.v 41), (.l (.f 4607182418800017408))]⟩, ⟨calF2 Dy.cAdd, 3, [(.v 38), (.l (.f 0)), (.l (.f 0)), (.l (.f 0)), (.l (.f 0))]⟩, ⟨calF2 Dy.cDiv, 3, [(.v 45), (.v 43), (.v 44), (.v 30), (.v 31)]⟩, ⟨fun us _ => gB Dy.dmax us, 1, [(.v 46), (.l (.f 0))]⟩, ⟨fun us _ => gB Dy.dmin us, 1, [(.v 49), (.l (.f 4607182418800017408))]⟩, ⟨fun us _ => gB Dy.dmax us, 1, [(.v 47), (.l (.f 0))]⟩, ⟨fun us _ => gB Dy.dmin us, 1, [(.v 51), (.l (.f 4607182418800017408))]⟩, ⟨fun us _ => jB (fun a b => a != b) us, 1, [(.v 48), (.l (.i 0))]⟩], needs := [⟨pF, [(.v 5)]⟩, ⟨rN, [(.v 36), (.l (.f 0))]⟩, ⟨rN, [(.v 39), (.l (.f 4607182418800017408))]⟩, ⟨rN, [(.v 37), (.l (.f 0))]⟩, ⟨rN, [(.v 41), (.l (.f 4607182418800017408))]⟩, ⟨rN, [(.v 46), (.l (.f 0))]⟩, ⟨rN, [(.v 49), (.l (.f 4607182418800017408))]⟩, ⟨rN, [(.v 47), (.l (.f 0))]⟩, ⟨rN, [(.v 51), (.l (.f 4607182418800017408))]⟩, ⟨pT, [(.v 53)]⟩], val := .tup [.agg [.fl (.l (.f 0)), .fl (.l (.f 0))], .agg [.fl (.l (.f 0)), .fl (.l (.f 0))], .it .i64 (.v 48)], upd := [] }⟩
theorem ctHalfBad_ok : CtOk Tryz.prog 17 ctHalfBad := CtOk.flatP xe11_ok (dr_ok xe11_ok) Tryz.func17 rfl (by decide) [] 200 [false, true] ⟨[.tup [.agg [.fl (.l (.f 0)), .fl (.l (.f 0))], .agg [.fl (.l (.f 0)), .fl (.l (.f 0))], .it .i64 (.v 48)]], [], 54, []⟩ (by kernel_rfl) rfl (by kernel_rfl) rfl (by kernel_rfl) (by kernel_rfl) (by kernel_rfl) (by kernel_rfl)

def xe12 : List (Nat × Ct) := (17, ctHalfBad) :: xe11
theorem xe12_ok : AllOk Tryz.prog xe12 := ⟨ctHalfBad_ok, xe11_ok⟩

def ctLookUpT : T := .bind ⟨fun us _ => .i (lookF (gF us 0) (gF us 1) (gF us 2) (gF us 3) (gF us 4) (gF us 5) (gF us 6) (gF us 7) (gF us 8) (gF us 9) (gF us 10) (gF us 11)), 1, [(.l (.f 0)), (.l (.f 0)), (.l (.f 0)), (.l (.f 0)), (.v 0), (.v 1), (.l (.f 0)), (.l (.f 0)), (.l (.f 0)), (.l (.f 0)), (.v 2), (.v 3)]⟩ (.bind ⟨fun us _ => jB (fun a b => a == b) us, 1, [(.v 6), (.l (.i 20))]⟩ (.ite (.v 7) (.done .ret ⟨[.tup [.agg [.fl (.l (.f 0)), .fl (.l (.f 0)), .fl (.l (.f 0)), .fl (.l (.f 0)), .fl (.l (.f 0)), .fl (.l (.f 0)), .fl (.l (.f 0)), .fl (.l (.f 0))], .it .i64 (.l (.i 20))]], [], 8, []⟩) (.bind ⟨fIv1 Dy.ivR, 1, [(.v 4), (.v 5)]⟩ (.bind ⟨fun us _ => nB us, 1, [(.v 8)]⟩ (.ite (.v 9) (.done .ret ⟨[.tup [.agg [.fl (.l (.f 0)), .fl (.l (.f 0)), .fl (.l (.f 0)), .fl (.l (.f 0)), .fl (.l (.f 0)), .fl (.l (.f 0)), .fl (.l (.f 0)), .fl (.l (.f 0))], .it .i64 (.l (.i 20))]], [], 10, []⟩) (.bind ⟨fun us _ => jB (fun a b => a != b) us, 1, [(.v 6), (.l (.i 0))]⟩ (.ite (.v 10) (.done .ret ⟨[.tup [.agg [.fl (.l (.f 0)), .fl (.l (.f 0)), .fl (.l (.f 0)), .fl (.l (.f 0)), .fl (.l (.f 0)), .fl (.l (.f 0)), .fl (.l (.f 0)), .fl (.l (.f 0))], .it .i64 (.l (.i 2))]], [], 11, []⟩) (.bind ⟨fun us _ => cB Dy.flt us, 1, [(.v 4), (.l (.f 4584664420663164928))]⟩ (.ite (.v 11) (.done .ret ⟨[.tup [.agg [.fl (.l (.f 0)), .fl (.l (.f 0)), .fl (.l (.f 0)), .fl (.l (.f 0)), .fl (.l (.f 0)), .fl (.l (.f 0)), .fl (.l (.f 0)), .fl (.l (.f 0))], .it .i64 (.l (.i 2))]], [], 12, []⟩) (.bind ⟨fun us _ => cB Dy.fgt us, 1, [(.v 5), (.l (.f 4607182418800017408))]⟩ (.ite (.v 12) (.done .ret ⟨[.tup [.agg [.fl (.l (.f 0)), .fl (.l (.f 0)), .fl (.l (.f 0)), .fl (.l (.f 0)), .fl (.l (.f 0)), .fl (.l (.f 0)), .fl (.l (.f 0)), .fl (.l (.f 0))], .it .i64 (.l (.i 2))]], [], 13, []⟩) (.bind ⟨fun us _ => .i (lookF (gF us 0) (gF us 1) (gF us 2) (gF us 3) (gF us 4) (gF us 5) (gF us 6) (gF us 7) (gF us 8) (gF us 9) (gF us 10) (gF us 11)), 1, [(.l (.f 0)), (.l (.f 0)), (.l (.f 0)), (.l (.f 0)), (.v 0), (.v 1), (.l (.f 0)), (.l (.f 0)), (.l (.f 0)), (.l (.f 0)), (.v 2), (.v 3)]⟩ (.bind ⟨fun us _ => jB (fun a b => a != b) us, 1, [(.v 13), (.l (.i 0))]⟩ (.bind ⟨calF2 Dy.cAdd, 3, [(.l (.i 0)), (.l (.f 0)), (.l (.f 0)), (.l (.f 0)), (.l (.f 0))]⟩ (.bind ⟨calF2 Dy.cAdd, 3, [(.v 17), (.l (.f 0)), (.l (.f 0)), (.l (.f 0)), (.l (.f 0))]⟩ (.bind ⟨calF2 Dy.cAdd, 3, [(.v 20), (.v 0), (.v 1), (.v 2), (.v 3)]⟩ (.bind ⟨calF1 Dy.cSqr, 3, [(.v 23), (.v 15), (.v 16)]⟩ (.bind ⟨calF1 Dy.cSqr, 3, [(.v 26), (.v 18), (.v 19)]⟩ (.bind ⟨calF2 Dy.cAdd, 3, [(.v 29), (.v 24), (.v 25), (.v 27), (.v 28)]⟩ (.bind ⟨calF1 Dy.cSqr, 3, [(.v 32), (.v 21), (.v 22)]⟩ (.bind ⟨calF2 Dy.cAdd, 3, [(.v 35), (.v 30), (.v 31), (.v 33), (.v 34)]⟩ (.bind ⟨calF1 Dy.cSqrt, 3, [(.v 38), (.v 36), (.v 37)]⟩ (.bind ⟨calF0 Dy.cNum, 3, [(.v 41), (.l (.f 4602678819172646912))]⟩ (.bind ⟨calF2 Dy.cMul, 3, [(.v 44), (.v 42), (.v 43), (.v 39), (.v 40)]⟩ (.bind ⟨fun us _ => gB Dy.dmax us, 1, [(.v 45), (.l (.f 0))]⟩ (.bind ⟨fun us _ => gB Dy.dmin us, 1, [(.v 48), (.l (.f 4607182418800017408))]⟩ (.bind ⟨fun us _ => gB Dy.dmax us, 1, [(.v 46), (.l (.f 0))]⟩ (.bind ⟨fun us _ => gB Dy.dmin us, 1, [(.v 50), (.l (.f 4607182418800017408))]⟩ (.bind ⟨calF2 Dy.cAdd, 3, [(.v 47), (.v 0), (.v 1), (.v 2), (.v 3)]⟩ (.bind ⟨calF2 Dy.cDiv, 3, [(.v 54), (.v 52), (.v 53), (.v 39), (.v 40)]⟩ (.bind ⟨fun us _ => gB Dy.dmax us, 1, [(.v 55), (.l (.f 0))]⟩ (.bind ⟨fun us _ => gB Dy.dmin us, 1, [(.v 58), (.l (.f 4607182418800017408))]⟩ (.bind ⟨fun us _ => gB Dy.dmax us, 1, [(.v 56), (.l (.f 0))]⟩ (.bind ⟨fun us _ => gB Dy.dmin us, 1, [(.v 60), (.l (.f 4607182418800017408))]⟩ (.bind ⟨fun us _ => jB (fun a b => a != b) us, 1, [(.v 57), (.l (.i 0))]⟩ (.need ⟨pF, [(.v 14)]⟩ (.need ⟨rN, [(.v 45), (.l (.f 0))]⟩ (.need ⟨rN, [(.v 48), (.l (.f 4607182418800017408))]⟩ (.need ⟨rN, [(.v 46), (.l (.f 0))]⟩ (.need ⟨rN, [(.v 50), (.l (.f 4607182418800017408))]⟩ (.need ⟨rN, [(.v 55), (.l (.f 0))]⟩ (.need ⟨rN, [(.v 58), (.l (.f 4607182418800017408))]⟩ (.need ⟨rN, [(.v 56), (.l (.f 0))]⟩ (.need ⟨rN, [(.v 60), (.l (.f 4607182418800017408))]⟩ (.need ⟨pF, [(.v 62)]⟩ (.bind ⟨fun us i => calR (Dy.told (dM (gF us 2, gF us 3) (gF us 0, gF us 1) 0)) i, 3, [(.v 4), (.v 5), (.v 59), (.v 61)]⟩ (.need ⟨nG1, [(.v 4), (.v 5), (.v 59), (.v 61)]⟩ (.bind ⟨fun us _ => jB (fun a b => a != b) us, 1, [(.v 65), (.l (.i 0))]⟩ (.ite (.v 66) (.done .ret ⟨[.tup [.agg [.fl (.l (.f 0)), .fl (.l (.f 0)), .fl (.l (.f 0)), .fl (.l (.f 0)), .fl (.l (.f 0)), .fl (.l (.f 0)), .fl (.l (.f 0)), .fl (.l (.f 0))], .it .i64 (.v 65)]], [], 67, []⟩) (.bind ⟨fun us i => calR (Dy.told (g2M (gF us 2, gF us 3) (gF us 4, gF us 5) (gF us 0, gF us 1) 0)) i, 3, [(.v 4), (.v 5), (.v 0), (.v 1), (.v 2), (.v 3)]⟩ (.need ⟨nG2, [(.v 4), (.v 5), (.v 0), (.v 1), (.v 2), (.v 3)]⟩ (.bind ⟨fun us _ => jB (fun a b => a != b) us, 1, [(.v 69), (.l (.i 0))]⟩ (.ite (.v 70) (.done .ret ⟨[.tup [.agg [.fl (.l (.f 0)), .fl (.l (.f 0)), .fl (.l (.f 0)), .fl (.l (.f 0)), .fl (.l (.f 0)), .fl (.l (.f 0)), .fl (.l (.f 0)), .fl (.l (.f 0))], .it .i64 (.v 69)]], [], 71, []⟩) (.bind ⟨fun us i => calR (Dy.told (g1M (gF us 2, gF us 3) (gF us 0, gF us 1) 0)) i, 3, [(.v 4), (.v 5), (.v 2), (.v 3)]⟩ (.need ⟨nG1, [(.v 4), (.v 5), (.v 2), (.v 3)]⟩ (.bind ⟨fun us _ => jB (fun a b => a != b) us, 1, [(.v 73), (.l (.i 0))]⟩ (.ite (.v 74) (.done .ret ⟨[.tup [.agg [.fl (.l (.f 0)), .fl (.l (.f 0)), .fl (.l (.f 0)), .fl (.l (.f 0)), .fl (.l (.f 0)), .fl (.l (.f 0)), .fl (.l (.f 0)), .fl (.l (.f 0))], .it .i64 (.v 73)]], [], 75, []⟩) (.bind ⟨calF0 Dy.cNum, 3, [(.l (.i 0)), (.l (.f 4616189618054758400))]⟩ (.bind ⟨calF2 Dy.cMul, 3, [(.v 77), (.v 63), (.v 64), (.v 67), (.v 68)]⟩ (.bind ⟨calF2 Dy.cMul, 3, [(.v 80), (.v 75), (.v 76), (.v 0), (.v 1)]⟩ (.bind ⟨calF2 Dy.cMul, 3, [(.v 83), (.v 81), (.v 82), (.v 2), (.v 3)]⟩ (.bind ⟨calF2 Dy.cDiv, 3, [(.v 86), (.v 78), (.v 79), (.v 84), (.v 85)]⟩ (.bind ⟨calF2 Dy.cMul, 3, [(.v 89), (.v 71), (.v 72), (.v 63), (.v 64)]⟩ (.bind ⟨calF2 Dy.cMul, 3, [(.v 92), (.v 75), (.v 76), (.v 2), (.v 3)]⟩ (.bind ⟨calF2 Dy.cDiv, 3, [(.v 95), (.v 90), (.v 91), (.v 93), (.v 94)]⟩ (.bind ⟨fun us _ => jB (fun a b => a != b) us, 1, [(.v 98), (.l (.i 0))]⟩ (.ite (.v 99) (.done .ret ⟨[.tup [.agg [.fl (.l (.f 0)), .fl (.l (.f 0)), .fl (.l (.f 0)), .fl (.l (.f 0)), .fl (.l (.f 0)), .fl (.l (.f 0)), .fl (.l (.f 0)), .fl (.l (.f 0))], .it .i64 (.v 98)]], [], 100, []⟩) (.done .ret ⟨[.tup [.agg [.fl (.v 59), .fl (.v 61), .fl (.v 49), .fl (.v 51), .fl (.v 87), .fl (.v 88), .fl (.v 96), .fl (.v 97)], .it .i64 (.l (.i 0))]], [], 100, []⟩))))))))))))))))))))))))))))))))))))))))))))))))))))))))))))))))))))
def ctLookUp : Ct := ctT 6 [.agg [.fl (.l (.f 0)), .fl (.l (.f 0)), .fl (.l (.f 0)), .fl (.l (.f 0)), vf 0, vf 1], .agg [.fl (.l (.f 0)), .fl (.l (.f 0)), .fl (.l (.f 0)), .fl (.l (.f 0)), vf 2, vf 3], vp 4 5] ctLookUpT (.tup [.agg [vf 6, vf 7, vf 8, vf 9, vf 10, vf 11, vf 12, vf 13], vi .i64 14]) 9
theorem ctLookUp_ok : CtOk Tryz.prog 7 ctLookUp := ctT_ok xe12_ok (dr_ok xe12_ok) Tryz.func7 rfl (by decide) 200 6 [.agg [.fl (.l (.f 0)), .fl (.l (.f 0)), .fl (.l (.f 0)), .fl (.l (.f 0)), vf 0, vf 1], .agg [.fl (.l (.f 0)), .fl (.l (.f 0)), .fl (.l (.f 0)), .fl (.l (.f 0)), vf 2, vf 3], vp 4 5] ctLookUpT (.tup [.agg [vf 6, vf 7, vf 8, vf 9, vf 10, vf 11, vf 12, vf 13], vi .i64 14]) 9 (by kernel_rfl) (by kernel_rfl) (by kernel_rfl)

def xe13 : List (Nat × Ct) := (7, ctLookUp) :: xe12
theorem xe13_ok : AllOk Tryz.prog xe13 := ⟨ctLookUp_ok, xe12_ok⟩

def ctAwake10 : Ct := ctTrue
theorem ctAwake10_ok : CtOk Tryz.prog 9 ctAwake10 := ctTrue_ok xe13_ok (dr_ok xe13_ok) Tryz.func9 rfl (by decide) 200 _ rfl (by kernel_rfl)

def xe14 : List (Nat × Ct) := (9, ctAwake10) :: xe13
theorem xe14_ok : AllOk Tryz.prog xe14 := ⟨ctAwake10_ok, xe13_ok⟩

def ctKeptI : Ct := ⟨2, [], [vp 0 1], { binds := [⟨fun us i => ivU (Dy.clip 0 4607182418800017408 (gF us 0, gF us 1)) i, 2, upto 0 2⟩], needs := [⟨nIv, [.v 0, .v 1]⟩], val := vp 2 3, upd := [] }⟩
set_option maxRecDepth 100000 in
set_option maxHeartbeats 8000000 in
theorem ctKeptI_ok : CtOk Tryz.prog 37 ctKeptI := by
  refine CtOk.of_eval2 xe14_ok (dr_ok xe14_ok) Tryz.func37 rfl (by decide) [] 200 (by kernel_rfl) rfl (.bind ⟨fun us _ => gB Dy.dmax us, 1, [(.v 0), (.l (.f 0))]⟩ (.need ⟨rN, [(.v 0), (.l (.f 0))]⟩ (.bind ⟨fun us _ => gB Dy.dmin us, 1, [(.v 2), (.l (.f 4607182418800017408))]⟩ (.need ⟨rN, [(.v 2), (.l (.f 4607182418800017408))]⟩ (.bind ⟨fun us _ => gB Dy.dmax us, 1, [(.v 1), (.l (.f 0))]⟩ (.need ⟨rN, [(.v 1), (.l (.f 0))]⟩ (.bind ⟨fun us _ => gB Dy.dmin us, 1, [(.v 4), (.l (.f 4607182418800017408))]⟩ (.need ⟨rN, [(.v 4), (.l (.f 4607182418800017408))]⟩ (.done .ret ⟨[.agg [.fl (.v 3), .fl (.v 5)]], [], 6, []⟩))))))))) (by kernel_rfl) (by kernel_rfl) (by kernel_rfl) (fun us hl hF hB hN => ?_)
  match us, hl with
  | [u0, u1], _ =>
    simp [FactsB, FactsL, Facts, ctKeptI] at hF hB
    simp [NeedsAt, runB, evs, E.ev, upto, resl, List.range, List.range.loop, ctKeptI] at hN
    obtain ⟨⟨a1, rfl, wa1⟩, ⟨a2, rfl, wa2⟩⟩ := hF
    simp [nIv, gF, U.F] at hN
    have r1 := Dy.ivR_of hN
    simp at r1
    refine T.HH.h ?_
    obtain ⟨t0, e1⟩ : ∃ t0, (Dy.dmax a1 0) = t0 := ⟨_, rfl⟩
    have W1 : Dy.W t0 := by rw [← e1]; exact Dy.dmax_W wa1 (show Dy.W 0 from by unfold Dy.W; decide)
    have R1 : Dy.right t0 = true := by rw [← e1]; exact Dy.dmax_right r1.1 (show Dy.right 0 = true from by decide +kernel)
    refine T.hbind (us := [.f a1, .f 0]) (xs := [.f t0]) (ρ' := [.f a1, .f a2, .f t0]) rfl (congrArg (fun r => [U.f r]) e1) rfl ?_
    refine T.hneed (us := [.f a1, .f 0]) rfl (show (Dy.right a1 && Dy.right 0) = true from by rw [r1.1, (show Dy.right 0 = true from by decide +kernel)]; rfl) ?_
    obtain ⟨t2, e3⟩ : ∃ t2, (Dy.dmin t0 4607182418800017408) = t2 := ⟨_, rfl⟩
    have W3 : Dy.W t2 := by rw [← e3]; exact Dy.dmin_W W1 (show Dy.W 4607182418800017408 from by unfold Dy.W; decide)
    have R3 : Dy.right t2 = true := by rw [← e3]; exact Dy.dmin_right R1 (show Dy.right 4607182418800017408 = true from by decide +kernel)
    refine T.hbind (us := [.f t0, .f 4607182418800017408]) (xs := [.f t2]) (ρ' := [.f a1, .f a2, .f t0, .f t2]) rfl (congrArg (fun r => [U.f r]) e3) rfl ?_
    refine T.hneed (us := [.f t0, .f 4607182418800017408]) rfl (show (Dy.right t0 && Dy.right 4607182418800017408) = true from by rw [R1, (show Dy.right 4607182418800017408 = true from by decide +kernel)]; rfl) ?_
    obtain ⟨t4, e5⟩ : ∃ t4, (Dy.dmax a2 0) = t4 := ⟨_, rfl⟩
    have W5 : Dy.W t4 := by rw [← e5]; exact Dy.dmax_W wa2 (show Dy.W 0 from by unfold Dy.W; decide)
    have R5 : Dy.right t4 = true := by rw [← e5]; exact Dy.dmax_right r1.2.1 (show Dy.right 0 = true from by decide +kernel)
    refine T.hbind (us := [.f a2, .f 0]) (xs := [.f t4]) (ρ' := [.f a1, .f a2, .f t0, .f t2, .f t4]) rfl (congrArg (fun r => [U.f r]) e5) rfl ?_
    refine T.hneed (us := [.f a2, .f 0]) rfl (show (Dy.right a2 && Dy.right 0) = true from by rw [r1.2.1, (show Dy.right 0 = true from by decide +kernel)]; rfl) ?_
    obtain ⟨t6, e7⟩ : ∃ t6, (Dy.dmin t4 4607182418800017408) = t6 := ⟨_, rfl⟩
    have W7 : Dy.W t6 := by rw [← e7]; exact Dy.dmin_W W5 (show Dy.W 4607182418800017408 from by unfold Dy.W; decide)
    have R7 : Dy.right t6 = true := by rw [← e7]; exact Dy.dmin_right R5 (show Dy.right 4607182418800017408 = true from by decide +kernel)
    refine T.hbind (us := [.f t4, .f 4607182418800017408]) (xs := [.f t6]) (ρ' := [.f a1, .f a2, .f t0, .f t2, .f t4, .f t6]) rfl (congrArg (fun r => [U.f r]) e7) rfl ?_
    refine T.hneed (us := [.f t4, .f 4607182418800017408]) rfl (show (Dy.right t4 && Dy.right 4607182418800017408) = true from by rw [R5, (show Dy.right 4607182418800017408 = true from by decide +kernel)]; rfl) ?_
    refine T.hdone ?_
    have e00 : Dy.clip 0 4607182418800017408 (a1, a2) = (t2, t6) := by simp only [Dy.clip, e1, e3, e5, e7, reduceIte, Bool.false_eq_true, Bool.true_eq_false, Bool.true_and, Bool.false_and, Bool.and_true, Bool.and_false, Bool.true_or, Bool.false_or, Bool.or_true, Bool.or_false, Bool.not_true, Bool.not_false, Dy.cm_bind, Dy.cm_pure, Dy.mNum, Dy.mAdd, Dy.mSub, Dy.mMul, Dy.mDiv, Dy.mSqr, Dy.mSqrt, Dy.mMax] <;> simp_all
    exact ⟨⟨(congrArg (fun r => some (ivU r 0)) e00.symm), (congrArg (fun r => some (ivU r 1)) e00.symm), trivial⟩, trivial, rfl⟩

def xe15 : List (Nat × Ct) := (37, ctKeptI) :: xe14
theorem xe15_ok : AllOk Tryz.prog xe15 := ⟨ctKeptI_ok, xe14_ok⟩

def ctHalfT : Ct := ⟨12, [], [.agg [vf 0, vf 1, vf 2, vf 3, vf 4, vf 5], .agg [vf 6, vf 7, vf 8, vf 9, vf 10, vf 11]], { binds := [⟨fun us i => pairU ((halfG (gF us 0, gF us 1) (gF us 2, gF us 3) (gF us 4, gF us 5) (gF us 6, gF us 7) (gF us 8, gF us 9) (gF us 10, gF us 11))) i, 5, upto 0 12⟩], needs := [⟨nHalf, [.v 0, .v 1, .v 2, .v 3, .v 4, .v 5, .v 6, .v 7, .v 8, .v 9, .v 10, .v 11]⟩], val := .tup [vp 12 13, vp 14 15, vi .i64 16], upd := [] }⟩
set_option maxRecDepth 100000 in
set_option maxHeartbeats 8000000 in
theorem ctHalfT_ok : CtOk Tryz.prog 17 ctHalfT := by
  refine CtOk.of_eval2P xe15_ok (dr_ok xe15_ok) Tryz.func17 rfl (by decide) [] 200 (by kernel_rfl) rfl [false] (.bind ⟨fun us _ => .i (lookF (gF us 0) (gF us 1) (gF us 2) (gF us 3) (gF us 4) (gF us 5) (gF us 6) (gF us 7) (gF us 8) (gF us 9) (gF us 10) (gF us 11)), 1, [(.v 0), (.v 1), (.v 2), (.v 3), (.v 4), (.v 5), (.v 6), (.v 7), (.v 8), (.v 9), (.v 10), (.v 11)]⟩ (.bind ⟨fun us _ => jB (fun a b => a != b) us, 1, [(.v 12), (.l (.i 0))]⟩ (.need ⟨pF, [(.v 13)]⟩ (.bind ⟨calF2 Dy.cAdd, 3, [(.l (.i 0)), (.v 0), (.v 1), (.v 6), (.v 7)]⟩ (.bind ⟨calF2 Dy.cAdd, 3, [(.v 16), (.v 2), (.v 3), (.v 8), (.v 9)]⟩ (.bind ⟨calF2 Dy.cAdd, 3, [(.v 19), (.v 4), (.v 5), (.v 10), (.v 11)]⟩ (.bind ⟨calF1 Dy.cSqr, 3, [(.v 22), (.v 14), (.v 15)]⟩ (.bind ⟨calF1 Dy.cSqr, 3, [(.v 25), (.v 17), (.v 18)]⟩ (.bind ⟨calF2 Dy.cAdd, 3, [(.v 28), (.v 23), (.v 24), (.v 26), (.v 27)]⟩ (.bind ⟨calF1 Dy.cSqr, 3, [(.v 31), (.v 20), (.v 21)]⟩ (.bind ⟨calF2 Dy.cAdd, 3, [(.v 34), (.v 29), (.v 30), (.v 32), (.v 33)]⟩ (.bind ⟨calF1 Dy.cSqrt, 3, [(.v 37), (.v 35), (.v 36)]⟩ (.bind ⟨calF0 Dy.cNum, 3, [(.v 40), (.l (.f 4602678819172646912))]⟩ (.bind ⟨calF2 Dy.cMul, 3, [(.v 43), (.v 41), (.v 42), (.v 38), (.v 39)]⟩ (.bind ⟨fun us i => ivU (Dy.clip 0 4607182418800017408 (gF us 0, gF us 1)) i, 2, [(.v 44), (.v 45)]⟩ (.need ⟨nIv, [(.v 44), (.v 45)]⟩ (.bind ⟨calF2 Dy.cAdd, 3, [(.v 46), (.v 4), (.v 5), (.v 10), (.v 11)]⟩ (.bind ⟨calF2 Dy.cDiv, 3, [(.v 51), (.v 49), (.v 50), (.v 38), (.v 39)]⟩ (.bind ⟨fun us i => ivU (Dy.clip 0 4607182418800017408 (gF us 0, gF us 1)) i, 2, [(.v 52), (.v 53)]⟩ (.need ⟨nIv, [(.v 52), (.v 53)]⟩ (.bind ⟨fun us _ => jB (fun a b => a != b) us, 1, [(.v 54), (.l (.i 0))]⟩ (.ite (.v 57) (.done .ret ⟨[.tup [.agg [.fl (.l (.f 0)), .fl (.l (.f 0))], .agg [.fl (.l (.f 0)), .fl (.l (.f 0))], .it .i64 (.v 54)]], [], 58, []⟩) (.done .ret ⟨[.tup [.agg [.fl (.v 55), .fl (.v 56)], .agg [.fl (.v 47), .fl (.v 48)], .it .i64 (.l (.i 0))]], [], 58, []⟩))))))))))))))))))))))) (by kernel_rfl) (by kernel_rfl) (by kernel_rfl) (fun us hl hF hB hN => ?_)
  match us, hl with
  | [u0, u1, u2, u3, u4, u5, u6, u7, u8, u9, u10, u11], _ =>
    simp [FactsB, FactsL, Facts, ctHalfT] at hF hB
    simp [NeedsAt, runB, evs, E.ev, upto, resl, List.range, List.range.loop, ctHalfT] at hN
    obtain ⟨⟨⟨a1, rfl, wa1⟩, ⟨a2, rfl, wa2⟩, ⟨b1, rfl, wb1⟩, ⟨b2, rfl, wb2⟩, ⟨m1, rfl, wm1⟩, ⟨m2, rfl, wm2⟩⟩, ⟨p1, rfl, wp1⟩, ⟨p2, rfl, wp2⟩, ⟨q1, rfl, wq1⟩, ⟨q2, rfl, wq2⟩, ⟨r1, rfl, wr1⟩, ⟨r2, rfl, wr2⟩⟩ := hF
    have hL : lookF a1 a2 b1 b2 m1 m2 p1 p2 q1 q2 r1 r2 = 0 := by have h := hN; simp only [nHalf, gF, U.F] at h; exact of_decide_eq_true h
    refine T.HH.h ?_
    obtain ⟨t0, e1⟩ : ∃ t0, ((lookF (a1) (a2) (b1) (b2) (m1) (m2) (p1) (p2) (q1) (q2) (r1) (r2))) = t0 := ⟨_, rfl⟩
    refine T.hbind (us := [.f a1, .f a2, .f b1, .f b2, .f m1, .f m2, .f p1, .f p2, .f q1, .f q2, .f r1, .f r2]) (xs := [.i t0]) (ρ' := [.f a1, .f a2, .f b1, .f b2, .f m1, .f m2, .f p1, .f p2, .f q1, .f q2, .f r1, .f r2, .i t0]) rfl (congrArg (fun r => [U.i r]) e1) rfl ?_
    obtain ⟨t2, e3⟩ : ∃ t2, (t0 != 0) = t2 := ⟨_, rfl⟩
    refine T.hbind (us := [.i t0, .i 0]) (xs := [.b t2]) (ρ' := [.f a1, .f a2, .f b1, .f b2, .f m1, .f m2, .f p1, .f p2, .f q1, .f q2, .f r1, .f r2, .i t0, .b t2]) rfl (congrArg (fun r => [U.b r]) e3) rfl ?_
    refine T.hneed (us := [.b t2]) rfl (show (!t2) = true from by rw [show t2 = false from e3.symm.trans (by rw [e1.symm.trans hL]; rfl)]; rfl) ?_
    obtain ⟨t4, t5, t6, e7⟩ : ∃ t4 t5 t6, (Dy.cAdd 0 (a1, a2) (p1, p2)) = ((t4, t5), t6) := Dy.ex3 _
    have g7 := Dy.good_add (a := (a1, a2)) (b := (p1, p2)) (err := 0)
    rw [e7] at g7
    refine T.hbind (us := [.i 0, .f a1, .f a2, .f p1, .f p2]) (xs := [.f t4, .f t5, .i t6]) (ρ' := [.f a1, .f a2, .f b1, .f b2, .f m1, .f m2, .f p1, .f p2, .f q1, .f q2, .f r1, .f r2, .i t0, .b t2, .f t4, .f t5, .i t6]) rfl (congrArg (fun r => [calR r 0, calR r 1, calR r 2]) e7) rfl ?_
    obtain ⟨t8, t9, t10, e11⟩ : ∃ t8 t9 t10, (Dy.cAdd t6 (b1, b2) (q1, q2)) = ((t8, t9), t10) := Dy.ex3 _
    have g11 := Dy.good_add (a := (b1, b2)) (b := (q1, q2)) (err := t6)
    rw [e11] at g11
    refine T.hbind (us := [.i t6, .f b1, .f b2, .f q1, .f q2]) (xs := [.f t8, .f t9, .i t10]) (ρ' := [.f a1, .f a2, .f b1, .f b2, .f m1, .f m2, .f p1, .f p2, .f q1, .f q2, .f r1, .f r2, .i t0, .b t2, .f t4, .f t5, .i t6, .f t8, .f t9, .i t10]) rfl (congrArg (fun r => [calR r 0, calR r 1, calR r 2]) e11) rfl ?_
    obtain ⟨t12, t13, t14, e15⟩ : ∃ t12 t13 t14, (Dy.cAdd t10 (m1, m2) (r1, r2)) = ((t12, t13), t14) := Dy.ex3 _
    have g15 := Dy.good_add (a := (m1, m2)) (b := (r1, r2)) (err := t10)
    rw [e15] at g15
    refine T.hbind (us := [.i t10, .f m1, .f m2, .f r1, .f r2]) (xs := [.f t12, .f t13, .i t14]) (ρ' := [.f a1, .f a2, .f b1, .f b2, .f m1, .f m2, .f p1, .f p2, .f q1, .f q2, .f r1, .f r2, .i t0, .b t2, .f t4, .f t5, .i t6, .f t8, .f t9, .i t10, .f t12, .f t13, .i t14]) rfl (congrArg (fun r => [calR r 0, calR r 1, calR r 2]) e15) rfl ?_
    obtain ⟨t16, t17, t18, e19⟩ : ∃ t16 t17 t18, (Dy.cSqr t14 (t4, t5)) = ((t16, t17), t18) := Dy.ex3 _
    have g19 := Dy.good_sqr (a := (t4, t5)) ⟨g7.1.1, g7.1.2⟩ (err := t14)
    rw [e19] at g19
    refine T.hbind (us := [.i t14, .f t4, .f t5]) (xs := [.f t16, .f t17, .i t18]) (ρ' := [.f a1, .f a2, .f b1, .f b2, .f m1, .f m2, .f p1, .f p2, .f q1, .f q2, .f r1, .f r2, .i t0, .b t2, .f t4, .f t5, .i t6, .f t8, .f t9, .i t10, .f t12, .f t13, .i t14, .f t16, .f t17, .i t18]) rfl (congrArg (fun r => [calR r 0, calR r 1, calR r 2]) e19) rfl ?_
    obtain ⟨t20, t21, t22, e23⟩ : ∃ t20 t21 t22, (Dy.cSqr t18 (t8, t9)) = ((t20, t21), t22) := Dy.ex3 _
    have g23 := Dy.good_sqr (a := (t8, t9)) ⟨g11.1.1, g11.1.2⟩ (err := t18)
    rw [e23] at g23
    refine T.hbind (us := [.i t18, .f t8, .f t9]) (xs := [.f t20, .f t21, .i t22]) (ρ' := [.f a1, .f a2, .f b1, .f b2, .f m1, .f m2, .f p1, .f p2, .f q1, .f q2, .f r1, .f r2, .i t0, .b t2, .f t4, .f t5, .i t6, .f t8, .f t9, .i t10, .f t12, .f t13, .i t14, .f t16, .f t17, .i t18, .f t20, .f t21, .i t22]) rfl (congrArg (fun r => [calR r 0, calR r 1, calR r 2]) e23) rfl ?_
    obtain ⟨t24, t25, t26, e27⟩ : ∃ t24 t25 t26, (Dy.cAdd t22 (t16, t17) (t20, t21)) = ((t24, t25), t26) := Dy.ex3 _
    have g27 := Dy.good_add (a := (t16, t17)) (b := (t20, t21)) (err := t22)
    rw [e27] at g27
    refine T.hbind (us := [.i t22, .f t16, .f t17, .f t20, .f t21]) (xs := [.f t24, .f t25, .i t26]) (ρ' := [.f a1, .f a2, .f b1, .f b2, .f m1, .f m2, .f p1, .f p2, .f q1, .f q2, .f r1, .f r2, .i t0, .b t2, .f t4, .f t5, .i t6, .f t8, .f t9, .i t10, .f t12, .f t13, .i t14, .f t16, .f t17, .i t18, .f t20, .f t21, .i t22, .f t24, .f t25, .i t26]) rfl (congrArg (fun r => [calR r 0, calR r 1, calR r 2]) e27) rfl ?_
    obtain ⟨t28, t29, t30, e31⟩ : ∃ t28 t29 t30, (Dy.cSqr t26 (t12, t13)) = ((t28, t29), t30) := Dy.ex3 _
    have g31 := Dy.good_sqr (a := (t12, t13)) ⟨g15.1.1, g15.1.2⟩ (err := t26)
    rw [e31] at g31
    refine T.hbind (us := [.i t26, .f t12, .f t13]) (xs := [.f t28, .f t29, .i t30]) (ρ' := [.f a1, .f a2, .f b1, .f b2, .f m1, .f m2, .f p1, .f p2, .f q1, .f q2, .f r1, .f r2, .i t0, .b t2, .f t4, .f t5, .i t6, .f t8, .f t9, .i t10, .f t12, .f t13, .i t14, .f t16, .f t17, .i t18, .f t20, .f t21, .i t22, .f t24, .f t25, .i t26, .f t28, .f t29, .i t30]) rfl (congrArg (fun r => [calR r 0, calR r 1, calR r 2]) e31) rfl ?_
    obtain ⟨t32, t33, t34, e35⟩ : ∃ t32 t33 t34, (Dy.cAdd t30 (t24, t25) (t28, t29)) = ((t32, t33), t34) := Dy.ex3 _
    have g35 := Dy.good_add (a := (t24, t25)) (b := (t28, t29)) (err := t30)
    rw [e35] at g35
    refine T.hbind (us := [.i t30, .f t24, .f t25, .f t28, .f t29]) (xs := [.f t32, .f t33, .i t34]) (ρ' := [.f a1, .f a2, .f b1, .f b2, .f m1, .f m2, .f p1, .f p2, .f q1, .f q2, .f r1, .f r2, .i t0, .b t2, .f t4, .f t5, .i t6, .f t8, .f t9, .i t10, .f t12, .f t13, .i t14, .f t16, .f t17, .i t18, .f t20, .f t21, .i t22, .f t24, .f t25, .i t26, .f t28, .f t29, .i t30, .f t32, .f t33, .i t34]) rfl (congrArg (fun r => [calR r 0, calR r 1, calR r 2]) e35) rfl ?_
    obtain ⟨t36, t37, t38, e39⟩ : ∃ t36 t37 t38, (Dy.cSqrt t34 (t32, t33)) = ((t36, t37), t38) := Dy.ex3 _
    have g39 := Dy.good_sqrt (a := (t32, t33)) ⟨g35.1.1, g35.1.2⟩ (err := t34)
    rw [e39] at g39
    refine T.hbind (us := [.i t34, .f t32, .f t33]) (xs := [.f t36, .f t37, .i t38]) (ρ' := [.f a1, .f a2, .f b1, .f b2, .f m1, .f m2, .f p1, .f p2, .f q1, .f q2, .f r1, .f r2, .i t0, .b t2, .f t4, .f t5, .i t6, .f t8, .f t9, .i t10, .f t12, .f t13, .i t14, .f t16, .f t17, .i t18, .f t20, .f t21, .i t22, .f t24, .f t25, .i t26, .f t28, .f t29, .i t30, .f t32, .f t33, .i t34, .f t36, .f t37, .i t38]) rfl (congrArg (fun r => [calR r 0, calR r 1, calR r 2]) e39) rfl ?_
    obtain ⟨t40, t41, t42, e43⟩ : ∃ t40 t41 t42, (Dy.cNum t38 4602678819172646912) = ((t40, t41), t42) := Dy.ex3 _
    have g43 := Dy.good_num (show Dy.W 4602678819172646912 from by unfold Dy.W; decide) (err := t38)
    rw [e43] at g43
    refine T.hbind (us := [.i t38, .f 4602678819172646912]) (xs := [.f t40, .f t41, .i t42]) (ρ' := [.f a1, .f a2, .f b1, .f b2, .f m1, .f m2, .f p1, .f p2, .f q1, .f q2, .f r1, .f r2, .i t0, .b t2, .f t4, .f t5, .i t6, .f t8, .f t9, .i t10, .f t12, .f t13, .i t14, .f t16, .f t17, .i t18, .f t20, .f t21, .i t22, .f t24, .f t25, .i t26, .f t28, .f t29, .i t30, .f t32, .f t33, .i t34, .f t36, .f t37, .i t38, .f t40, .f t41, .i t42]) rfl (congrArg (fun r => [calR r 0, calR r 1, calR r 2]) e43) rfl ?_
    obtain ⟨t44, t45, t46, e47⟩ : ∃ t44 t45 t46, (Dy.cMul t42 (t40, t41) (t36, t37)) = ((t44, t45), t46) := Dy.ex3 _
    have g47 := Dy.good_mul (a := (t40, t41)) (b := (t36, t37)) (err := t42)
    rw [e47] at g47
    refine T.hbind (us := [.i t42, .f t40, .f t41, .f t36, .f t37]) (xs := [.f t44, .f t45, .i t46]) (ρ' := [.f a1, .f a2, .f b1, .f b2, .f m1, .f m2, .f p1, .f p2, .f q1, .f q2, .f r1, .f r2, .i t0, .b t2, .f t4, .f t5, .i t6, .f t8, .f t9, .i t10, .f t12, .f t13, .i t14, .f t16, .f t17, .i t18, .f t20, .f t21, .i t22, .f t24, .f t25, .i t26, .f t28, .f t29, .i t30, .f t32, .f t33, .i t34, .f t36, .f t37, .i t38, .f t40, .f t41, .i t42, .f t44, .f t45, .i t46]) rfl (congrArg (fun r => [calR r 0, calR r 1, calR r 2]) e47) rfl ?_
    obtain ⟨t48, t49, e50⟩ : ∃ t48 t49, (Dy.clip 0 4607182418800017408 (t44, t45)) = (t48, t49) := Dy.ex2 _
    have k50 := clip_ends (a := (t44, t45)) (l := 0) (h := 4607182418800017408) ⟨g47.1.1, g47.1.2⟩ ((Dy.ivR_of g47.2).1) ((Dy.ivR_of g47.2).2.1) (show Dy.W 0 from by unfold Dy.W; decide) (show Dy.right 0 = true from by decide +kernel) (show Dy.W 4607182418800017408 from by unfold Dy.W; decide) (show Dy.right 4607182418800017408 = true from by decide +kernel)
    rw [e50] at k50
    refine T.hbind (us := [.f t44, .f t45]) (xs := [.f t48, .f t49]) (ρ' := [.f a1, .f a2, .f b1, .f b2, .f m1, .f m2, .f p1, .f p2, .f q1, .f q2, .f r1, .f r2, .i t0, .b t2, .f t4, .f t5, .i t6, .f t8, .f t9, .i t10, .f t12, .f t13, .i t14, .f t16, .f t17, .i t18, .f t20, .f t21, .i t22, .f t24, .f t25, .i t26, .f t28, .f t29, .i t30, .f t32, .f t33, .i t34, .f t36, .f t37, .i t38, .f t40, .f t41, .i t42, .f t44, .f t45, .i t46, .f t48, .f t49]) rfl (congrArg (fun r => [ivU r 0, ivU r 1]) e50) rfl ?_
    refine T.hneed (us := [.f t44, .f t45]) rfl (g47.2) ?_
    obtain ⟨t51, t52, t53, e54⟩ : ∃ t51 t52 t53, (Dy.cAdd t46 (m1, m2) (r1, r2)) = ((t51, t52), t53) := Dy.ex3 _
    have g54 := Dy.good_add (a := (m1, m2)) (b := (r1, r2)) (err := t46)
    rw [e54] at g54
    refine T.hbind (us := [.i t46, .f m1, .f m2, .f r1, .f r2]) (xs := [.f t51, .f t52, .i t53]) (ρ' := [.f a1, .f a2, .f b1, .f b2, .f m1, .f m2, .f p1, .f p2, .f q1, .f q2, .f r1, .f r2, .i t0, .b t2, .f t4, .f t5, .i t6, .f t8, .f t9, .i t10, .f t12, .f t13, .i t14, .f t16, .f t17, .i t18, .f t20, .f t21, .i t22, .f t24, .f t25, .i t26, .f t28, .f t29, .i t30, .f t32, .f t33, .i t34, .f t36, .f t37, .i t38, .f t40, .f t41, .i t42, .f t44, .f t45, .i t46, .f t48, .f t49, .f t51, .f t52, .i t53]) rfl (congrArg (fun r => [calR r 0, calR r 1, calR r 2]) e54) rfl ?_
    obtain ⟨t55, t56, t57, e58⟩ : ∃ t55 t56 t57, (Dy.cDiv t53 (t51, t52) (t36, t37)) = ((t55, t56), t57) := Dy.ex3 _
    have g58 := Dy.good_div (a := (t51, t52)) (b := (t36, t37)) ⟨g39.1.1, g39.1.2⟩ (err := t53)
    rw [e58] at g58
    refine T.hbind (us := [.i t53, .f t51, .f t52, .f t36, .f t37]) (xs := [.f t55, .f t56, .i t57]) (ρ' := [.f a1, .f a2, .f b1, .f b2, .f m1, .f m2, .f p1, .f p2, .f q1, .f q2, .f r1, .f r2, .i t0, .b t2, .f t4, .f t5, .i t6, .f t8, .f t9, .i t10, .f t12, .f t13, .i t14, .f t16, .f t17, .i t18, .f t20, .f t21, .i t22, .f t24, .f t25, .i t26, .f t28, .f t29, .i t30, .f t32, .f t33, .i t34, .f t36, .f t37, .i t38, .f t40, .f t41, .i t42, .f t44, .f t45, .i t46, .f t48, .f t49, .f t51, .f t52, .i t53, .f t55, .f t56, .i t57]) rfl (congrArg (fun r => [calR r 0, calR r 1, calR r 2]) e58) rfl ?_
    obtain ⟨t59, t60, e61⟩ : ∃ t59 t60, (Dy.clip 0 4607182418800017408 (t55, t56)) = (t59, t60) := Dy.ex2 _
    have k61 := clip_ends (a := (t55, t56)) (l := 0) (h := 4607182418800017408) ⟨g58.1.1, g58.1.2⟩ ((Dy.ivR_of g58.2).1) ((Dy.ivR_of g58.2).2.1) (show Dy.W 0 from by unfold Dy.W; decide) (show Dy.right 0 = true from by decide +kernel) (show Dy.W 4607182418800017408 from by unfold Dy.W; decide) (show Dy.right 4607182418800017408 = true from by decide +kernel)
    rw [e61] at k61
    refine T.hbind (us := [.f t55, .f t56]) (xs := [.f t59, .f t60]) (ρ' := [.f a1, .f a2, .f b1, .f b2, .f m1, .f m2, .f p1, .f p2, .f q1, .f q2, .f r1, .f r2, .i t0, .b t2, .f t4, .f t5, .i t6, .f t8, .f t9, .i t10, .f t12, .f t13, .i t14, .f t16, .f t17, .i t18, .f t20, .f t21, .i t22, .f t24, .f t25, .i t26, .f t28, .f t29, .i t30, .f t32, .f t33, .i t34, .f t36, .f t37, .i t38, .f t40, .f t41, .i t42, .f t44, .f t45, .i t46, .f t48, .f t49, .f t51, .f t52, .i t53, .f t55, .f t56, .i t57, .f t59, .f t60]) rfl (congrArg (fun r => [ivU r 0, ivU r 1]) e61) rfl ?_
    refine T.hneed (us := [.f t55, .f t56]) rfl (g58.2) ?_
    obtain ⟨t62, e63⟩ : ∃ t62, (t57 != 0) = t62 := ⟨_, rfl⟩
    refine T.hbind (us := [.i t57, .i 0]) (xs := [.b t62]) (ρ' := [.f a1, .f a2, .f b1, .f b2, .f m1, .f m2, .f p1, .f p2, .f q1, .f q2, .f r1, .f r2, .i t0, .b t2, .f t4, .f t5, .i t6, .f t8, .f t9, .i t10, .f t12, .f t13, .i t14, .f t16, .f t17, .i t18, .f t20, .f t21, .i t22, .f t24, .f t25, .i t26, .f t28, .f t29, .i t30, .f t32, .f t33, .i t34, .f t36, .f t37, .i t38, .f t40, .f t41, .i t42, .f t44, .f t45, .i t46, .f t48, .f t49, .f t51, .f t52, .i t53, .f t55, .f t56, .i t57, .f t59, .f t60, .b t62]) rfl (congrArg (fun r => [U.b r]) e63) rfl ?_
    refine T.hite (x := t62) ?_ ?_ ?_
    · rfl
    · intro c65
      refine T.hdone ?_
      have eM : halfM (a1, a2) (b1, b2) (m1, m2) (p1, p2) (q1, q2) (r1, r2) 0 = (((t59, t60), (t48, t49)), t57) := by
        unfold halfM
        refine (Dy.cs_add e7).trans ?_
        refine (Dy.cs_add e11).trans ?_
        refine (Dy.cs_add e15).trans ?_
        refine (Dy.cs_sqr e19).trans ?_
        refine (Dy.cs_sqr e23).trans ?_
        refine (Dy.cs_add e27).trans ?_
        refine (Dy.cs_sqr e31).trans ?_
        refine (Dy.cs_add e35).trans ?_
        refine (Dy.cs_sqrt e39).trans ?_
        refine (Dy.cs_num e43).trans ?_
        refine (Dy.cs_mul e47).trans ?_
        refine (Dy.cm_p e50).trans ?_
        refine (Dy.cs_add e54).trans ?_
        refine (Dy.cs_div e58).trans ?_
        first | exact congrArg (fun r => (r, t57)) e61 | (refine (Dy.cm_p e61).trans ?_; rfl) | (rw [Dy.cm_pure]; simp only [Dy.iHull, e1, e3, e63, c65, e61])
      have e00 : (halfG (a1, a2) (b1, b2) (m1, m2) (p1, p2) (q1, q2) (r1, r2)) = (((0, 0), (0, 0)), t57) := by simp only [halfG, told2, eM, e1, e3, e63, c65, reduceIte, Bool.false_eq_true, Bool.true_eq_false, Bool.true_and, Bool.false_and, Bool.and_true, Bool.and_false, Bool.true_or, Bool.false_or, Bool.or_true, Bool.or_false, Bool.not_true, Bool.not_false] <;> simp_all
      exact ⟨⟨⟨(congrArg (fun r => some (pairU r 0)) e00.symm), (congrArg (fun r => some (pairU r 1)) e00.symm), trivial⟩, ⟨(congrArg (fun r => some (pairU r 2)) e00.symm), (congrArg (fun r => some (pairU r 3)) e00.symm), trivial⟩, ⟨rfl, (congrArg (fun r => some (pairU r 4)) e00.symm)⟩, trivial⟩, trivial, rfl⟩
    · intro c65
      refine T.hdone ?_
      have eM : halfM (a1, a2) (b1, b2) (m1, m2) (p1, p2) (q1, q2) (r1, r2) 0 = (((t59, t60), (t48, t49)), t57) := by
        unfold halfM
        refine (Dy.cs_add e7).trans ?_
        refine (Dy.cs_add e11).trans ?_
        refine (Dy.cs_add e15).trans ?_
        refine (Dy.cs_sqr e19).trans ?_
        refine (Dy.cs_sqr e23).trans ?_
        refine (Dy.cs_add e27).trans ?_
        refine (Dy.cs_sqr e31).trans ?_
        refine (Dy.cs_add e35).trans ?_
        refine (Dy.cs_sqrt e39).trans ?_
        refine (Dy.cs_num e43).trans ?_
        refine (Dy.cs_mul e47).trans ?_
        refine (Dy.cm_p e50).trans ?_
        refine (Dy.cs_add e54).trans ?_
        refine (Dy.cs_div e58).trans ?_
        first | exact congrArg (fun r => (r, t57)) e61 | (refine (Dy.cm_p e61).trans ?_; rfl) | (rw [Dy.cm_pure]; simp only [Dy.iHull, e1, e3, e63, c65, e61])
      have e00 : (halfG (a1, a2) (b1, b2) (m1, m2) (p1, p2) (q1, q2) (r1, r2)) = (((t59, t60), (t48, t49)), 0) := by simp only [halfG, told2, eM, e1, e3, e63, c65, reduceIte, Bool.false_eq_true, Bool.true_eq_false, Bool.true_and, Bool.false_and, Bool.and_true, Bool.and_false, Bool.true_or, Bool.false_or, Bool.or_true, Bool.or_false, Bool.not_true, Bool.not_false] <;> simp_all
      exact ⟨⟨⟨(congrArg (fun r => some (pairU r 0)) e00.symm), (congrArg (fun r => some (pairU r 1)) e00.symm), trivial⟩, ⟨(congrArg (fun r => some (pairU r 2)) e00.symm), (congrArg (fun r => some (pairU r 3)) e00.symm), trivial⟩, ⟨rfl, (congrArg (fun r => some (pairU r 4)) e00.symm)⟩, trivial⟩, trivial, rfl⟩

def xe16 : List (Nat × Ct) := (17, ctHalfT) :: xe15
theorem xe16_ok : AllOk Tryz.prog xe16 := ⟨ctHalfT_ok, xe15_ok⟩

def ctLookT : Ct := ⟨14, [], [.agg [vf 0, vf 1, vf 2, vf 3, vf 4, vf 5], .agg [vf 6, vf 7, vf 8, vf 9, vf 10, vf 11], vp 12 13], { binds := [⟨fun us i => glossU ((gloG (gF us 0, gF us 1) (gF us 2, gF us 3) (gF us 4, gF us 5) (gF us 6, gF us 7) (gF us 8, gF us 9) (gF us 10, gF us 11) (gF us 12, gF us 13))) i, 9, upto 0 14⟩], needs := [⟨nLook, [.v 0, .v 1, .v 2, .v 3, .v 4, .v 5, .v 6, .v 7, .v 8, .v 9, .v 10, .v 11, .v 12, .v 13]⟩], val := .tup [.agg [vf 14, vf 15, vf 16, vf 17, vf 18, vf 19, vf 20, vf 21], vi .i64 22], upd := [] }⟩
set_option maxRecDepth 100000 in
set_option maxHeartbeats 8000000 in
theorem ctLookT_ok : CtOk Tryz.prog 7 ctLookT := by
  refine CtOk.of_eval2P xe16_ok (dr_ok xe16_ok) Tryz.func7 rfl (by decide) [] 200 (by kernel_rfl) rfl [false, false, false, false, false] (.bind ⟨fun us _ => .i (lookF (gF us 0) (gF us 1) (gF us 2) (gF us 3) (gF us 4) (gF us 5) (gF us 6) (gF us 7) (gF us 8) (gF us 9) (gF us 10) (gF us 11)), 1, [(.v 0), (.v 1), (.v 2), (.v 3), (.v 4), (.v 5), (.v 6), (.v 7), (.v 8), (.v 9), (.v 10), (.v 11)]⟩ (.bind ⟨fun us _ => jB (fun a b => a == b) us, 1, [(.v 14), (.l (.i 20))]⟩ (.need ⟨pF, [(.v 15)]⟩ (.bind ⟨fIv1 Dy.ivR, 1, [(.v 12), (.v 13)]⟩ (.bind ⟨fun us _ => nB us, 1, [(.v 16)]⟩ (.need ⟨pF, [(.v 17)]⟩ (.bind ⟨fun us _ => jB (fun a b => a != b) us, 1, [(.v 14), (.l (.i 0))]⟩ (.need ⟨pF, [(.v 18)]⟩ (.bind ⟨fun us _ => cB Dy.flt us, 1, [(.v 12), (.l (.f 4584664420663164928))]⟩ (.need ⟨pF, [(.v 19)]⟩ (.bind ⟨fun us _ => cB Dy.fgt us, 1, [(.v 13), (.l (.f 4607182418800017408))]⟩ (.need ⟨pF, [(.v 20)]⟩ (.bind ⟨fun us i => pairU ((halfG (gF us 0, gF us 1) (gF us 2, gF us 3) (gF us 4, gF us 5) (gF us 6, gF us 7) (gF us 8, gF us 9) (gF us 10, gF us 11))) i, 5, [(.v 0), (.v 1), (.v 2), (.v 3), (.v 4), (.v 5), (.v 6), (.v 7), (.v 8), (.v 9), (.v 10), (.v 11)]⟩ (.need ⟨nHalf, [(.v 0), (.v 1), (.v 2), (.v 3), (.v 4), (.v 5), (.v 6), (.v 7), (.v 8), (.v 9), (.v 10), (.v 11)]⟩ (.bind ⟨fun us _ => jB (fun a b => a != b) us, 1, [(.v 25), (.l (.i 0))]⟩ (.ite (.v 26) (.done .ret ⟨[.tup [.agg [.fl (.l (.f 0)), .fl (.l (.f 0)), .fl (.l (.f 0)), .fl (.l (.f 0)), .fl (.l (.f 0)), .fl (.l (.f 0)), .fl (.l (.f 0)), .fl (.l (.f 0))], .it .i64 (.v 25)]], [], 27, []⟩) (.bind ⟨fun us i => calR (Dy.told (dM (gF us 2, gF us 3) (gF us 0, gF us 1) 0)) i, 3, [(.v 12), (.v 13), (.v 21), (.v 22)]⟩ (.need ⟨nG1, [(.v 12), (.v 13), (.v 21), (.v 22)]⟩ (.bind ⟨fun us _ => jB (fun a b => a != b) us, 1, [(.v 29), (.l (.i 0))]⟩ (.ite (.v 30) (.done .ret ⟨[.tup [.agg [.fl (.l (.f 0)), .fl (.l (.f 0)), .fl (.l (.f 0)), .fl (.l (.f 0)), .fl (.l (.f 0)), .fl (.l (.f 0)), .fl (.l (.f 0)), .fl (.l (.f 0))], .it .i64 (.v 29)]], [], 31, []⟩) (.bind ⟨fun us i => calR (Dy.told (g2M (gF us 2, gF us 3) (gF us 4, gF us 5) (gF us 0, gF us 1) 0)) i, 3, [(.v 12), (.v 13), (.v 4), (.v 5), (.v 10), (.v 11)]⟩ (.need ⟨nG2, [(.v 12), (.v 13), (.v 4), (.v 5), (.v 10), (.v 11)]⟩ (.bind ⟨fun us _ => jB (fun a b => a != b) us, 1, [(.v 33), (.l (.i 0))]⟩ (.ite (.v 34) (.done .ret ⟨[.tup [.agg [.fl (.l (.f 0)), .fl (.l (.f 0)), .fl (.l (.f 0)), .fl (.l (.f 0)), .fl (.l (.f 0)), .fl (.l (.f 0)), .fl (.l (.f 0)), .fl (.l (.f 0))], .it .i64 (.v 33)]], [], 35, []⟩) (.bind ⟨fun us i => calR (Dy.told (g1M (gF us 2, gF us 3) (gF us 0, gF us 1) 0)) i, 3, [(.v 12), (.v 13), (.v 10), (.v 11)]⟩ (.need ⟨nG1, [(.v 12), (.v 13), (.v 10), (.v 11)]⟩ (.bind ⟨fun us _ => jB (fun a b => a != b) us, 1, [(.v 37), (.l (.i 0))]⟩ (.ite (.v 38) (.done .ret ⟨[.tup [.agg [.fl (.l (.f 0)), .fl (.l (.f 0)), .fl (.l (.f 0)), .fl (.l (.f 0)), .fl (.l (.f 0)), .fl (.l (.f 0)), .fl (.l (.f 0)), .fl (.l (.f 0))], .it .i64 (.v 37)]], [], 39, []⟩) (.bind ⟨calF0 Dy.cNum, 3, [(.l (.i 0)), (.l (.f 4616189618054758400))]⟩ (.bind ⟨calF2 Dy.cMul, 3, [(.v 41), (.v 27), (.v 28), (.v 31), (.v 32)]⟩ (.bind ⟨calF2 Dy.cMul, 3, [(.v 44), (.v 39), (.v 40), (.v 4), (.v 5)]⟩ (.bind ⟨calF2 Dy.cMul, 3, [(.v 47), (.v 45), (.v 46), (.v 10), (.v 11)]⟩ (.bind ⟨calF2 Dy.cDiv, 3, [(.v 50), (.v 42), (.v 43), (.v 48), (.v 49)]⟩ (.bind ⟨calF2 Dy.cMul, 3, [(.v 53), (.v 35), (.v 36), (.v 27), (.v 28)]⟩ (.bind ⟨calF2 Dy.cMul, 3, [(.v 56), (.v 39), (.v 40), (.v 10), (.v 11)]⟩ (.bind ⟨calF2 Dy.cDiv, 3, [(.v 59), (.v 54), (.v 55), (.v 57), (.v 58)]⟩ (.bind ⟨fun us _ => jB (fun a b => a != b) us, 1, [(.v 62), (.l (.i 0))]⟩ (.ite (.v 63) (.done .ret ⟨[.tup [.agg [.fl (.l (.f 0)), .fl (.l (.f 0)), .fl (.l (.f 0)), .fl (.l (.f 0)), .fl (.l (.f 0)), .fl (.l (.f 0)), .fl (.l (.f 0)), .fl (.l (.f 0))], .it .i64 (.v 62)]], [], 64, []⟩) (.done .ret ⟨[.tup [.agg [.fl (.v 21), .fl (.v 22), .fl (.v 23), .fl (.v 24), .fl (.v 51), .fl (.v 52), .fl (.v 60), .fl (.v 61)], .it .i64 (.l (.i 0))]], [], 64, []⟩))))))))))))))))))))))))))))))))))))))) (by kernel_rfl) (by kernel_rfl) (by kernel_rfl) (fun us hl hF hB hN => ?_)
  match us, hl with
  | [u0, u1, u2, u3, u4, u5, u6, u7, u8, u9, u10, u11, u12, u13], _ =>
    simp [FactsB, FactsL, Facts, ctLookT] at hF hB
    simp [NeedsAt, runB, evs, E.ev, upto, resl, List.range, List.range.loop, ctLookT] at hN
    obtain ⟨⟨⟨a1, rfl, wa1⟩, ⟨a2, rfl, wa2⟩, ⟨b1, rfl, wb1⟩, ⟨b2, rfl, wb2⟩, ⟨m1, rfl, wm1⟩, ⟨m2, rfl, wm2⟩⟩, ⟨⟨p1, rfl, wp1⟩, ⟨p2, rfl, wp2⟩, ⟨q1, rfl, wq1⟩, ⟨q2, rfl, wq2⟩, ⟨r1, rfl, wr1⟩, ⟨r2, rfl, wr2⟩⟩, ⟨y1, rfl, wy1⟩, ⟨y2, rfl, wy2⟩⟩ := hF
    have h0 : (decide (lookF a1 a2 b1 b2 m1 m2 p1 p2 q1 q2 r1 r2 = 0) && (gA (y1, y2) && (Dy.ivR (y1, y2) && (!Dy.flt y1 4584664420663164928 && (!Dy.fgt y2 4607182418800017408 && (gC (m1, m2) && (gC (r1, r2) && ((halfG (a1, a2) (b1, b2) (m1, m2) (p1, p2) (q1, q2) (r1, r2)).2 != 0 || gC (halfG (a1, a2) (b1, b2) (m1, m2) (p1, p2) (q1, q2) (r1, r2)).1.1)))))))) = true := hN
    rw [Bool.and_eq_true, Bool.and_eq_true, Bool.and_eq_true, Bool.and_eq_true, Bool.and_eq_true, Bool.and_eq_true, Bool.and_eq_true] at h0
    obtain ⟨hL, hA, hA1, hA2, hA3, hCc, hCf, hH⟩ := h0
    replace hL := of_decide_eq_true hL
    replace hA2 : Dy.flt y1 4584664420663164928 = false := by simpa using hA2
    replace hA3 : Dy.fgt y2 4607182418800017408 = false := by simpa using hA3
    refine T.HH.h ?_
    obtain ⟨t0, e1⟩ : ∃ t0, ((lookF (a1) (a2) (b1) (b2) (m1) (m2) (p1) (p2) (q1) (q2) (r1) (r2))) = t0 := ⟨_, rfl⟩
    refine T.hbind (us := [.f a1, .f a2, .f b1, .f b2, .f m1, .f m2, .f p1, .f p2, .f q1, .f q2, .f r1, .f r2]) (xs := [.i t0]) (ρ' := [.f a1, .f a2, .f b1, .f b2, .f m1, .f m2, .f p1, .f p2, .f q1, .f q2, .f r1, .f r2, .f y1, .f y2, .i t0]) rfl (congrArg (fun r => [U.i r]) e1) rfl ?_
    obtain ⟨t2, e3⟩ : ∃ t2, (t0 == 20) = t2 := ⟨_, rfl⟩
    refine T.hbind (us := [.i t0, .i 20]) (xs := [.b t2]) (ρ' := [.f a1, .f a2, .f b1, .f b2, .f m1, .f m2, .f p1, .f p2, .f q1, .f q2, .f r1, .f r2, .f y1, .f y2, .i t0, .b t2]) rfl (congrArg (fun r => [U.b r]) e3) rfl ?_
    refine T.hneed (us := [.b t2]) rfl (show (!t2) = true from by rw [show t2 = false from e3.symm.trans (by rw [e1.symm.trans hL]; rfl)]; rfl) ?_
    obtain ⟨t4, e5⟩ : ∃ t4, (Dy.ivR (y1, y2)) = t4 := ⟨_, rfl⟩
    refine T.hbind (us := [.f y1, .f y2]) (xs := [.b t4]) (ρ' := [.f a1, .f a2, .f b1, .f b2, .f m1, .f m2, .f p1, .f p2, .f q1, .f q2, .f r1, .f r2, .f y1, .f y2, .i t0, .b t2, .b t4]) rfl (congrArg (fun r => [U.b r]) e5) rfl ?_
    obtain ⟨t6, e7⟩ : ∃ t6, (!t4) = t6 := ⟨_, rfl⟩
    refine T.hbind (us := [.b t4]) (xs := [.b t6]) (ρ' := [.f a1, .f a2, .f b1, .f b2, .f m1, .f m2, .f p1, .f p2, .f q1, .f q2, .f r1, .f r2, .f y1, .f y2, .i t0, .b t2, .b t4, .b t6]) rfl (congrArg (fun r => [U.b r]) e7) rfl ?_
    refine T.hneed (us := [.b t6]) rfl (show (!t6) = true from by rw [show t6 = false from e7.symm.trans (by rw [e5.symm.trans hA1]; rfl)]; rfl) ?_
    obtain ⟨t8, e9⟩ : ∃ t8, (t0 != 0) = t8 := ⟨_, rfl⟩
    refine T.hbind (us := [.i t0, .i 0]) (xs := [.b t8]) (ρ' := [.f a1, .f a2, .f b1, .f b2, .f m1, .f m2, .f p1, .f p2, .f q1, .f q2, .f r1, .f r2, .f y1, .f y2, .i t0, .b t2, .b t4, .b t6, .b t8]) rfl (congrArg (fun r => [U.b r]) e9) rfl ?_
    refine T.hneed (us := [.b t8]) rfl (show (!t8) = true from by rw [show t8 = false from e9.symm.trans (by rw [e1.symm.trans hL]; rfl)]; rfl) ?_
    obtain ⟨t10, e11⟩ : ∃ t10, (Dy.flt y1 4584664420663164928) = t10 := ⟨_, rfl⟩
    refine T.hbind (us := [.f y1, .f 4584664420663164928]) (xs := [.b t10]) (ρ' := [.f a1, .f a2, .f b1, .f b2, .f m1, .f m2, .f p1, .f p2, .f q1, .f q2, .f r1, .f r2, .f y1, .f y2, .i t0, .b t2, .b t4, .b t6, .b t8, .b t10]) rfl (congrArg (fun r => [U.b r]) e11) rfl ?_
    refine T.hneed (us := [.b t10]) rfl (show (!t10) = true from by rw [show t10 = false from e11.symm.trans hA2]; rfl) ?_
    obtain ⟨t12, e13⟩ : ∃ t12, (Dy.fgt y2 4607182418800017408) = t12 := ⟨_, rfl⟩
    refine T.hbind (us := [.f y2, .f 4607182418800017408]) (xs := [.b t12]) (ρ' := [.f a1, .f a2, .f b1, .f b2, .f m1, .f m2, .f p1, .f p2, .f q1, .f q2, .f r1, .f r2, .f y1, .f y2, .i t0, .b t2, .b t4, .b t6, .b t8, .b t10, .b t12]) rfl (congrArg (fun r => [U.b r]) e13) rfl ?_
    refine T.hneed (us := [.b t12]) rfl (show (!t12) = true from by rw [show t12 = false from e13.symm.trans hA3]; rfl) ?_
    obtain ⟨t14, t15, t16, t17, t18, e19⟩ : ∃ t14 t15 t16 t17 t18, ((halfG (a1, a2) (b1, b2) (m1, m2) (p1, p2) (q1, q2) (r1, r2))) = (((t14, t15), (t16, t17)), t18) := Dy.ex5 _
    refine T.hbind (us := [.f a1, .f a2, .f b1, .f b2, .f m1, .f m2, .f p1, .f p2, .f q1, .f q2, .f r1, .f r2]) (xs := [.f t14, .f t15, .f t16, .f t17, .i t18]) (ρ' := [.f a1, .f a2, .f b1, .f b2, .f m1, .f m2, .f p1, .f p2, .f q1, .f q2, .f r1, .f r2, .f y1, .f y2, .i t0, .b t2, .b t4, .b t6, .b t8, .b t10, .b t12, .f t14, .f t15, .f t16, .f t17, .i t18]) rfl (congrArg (fun r => [pairU r 0, pairU r 1, pairU r 2, pairU r 3, pairU r 4]) e19) rfl ?_
    refine T.hneed (us := [.f a1, .f a2, .f b1, .f b2, .f m1, .f m2, .f p1, .f p2, .f q1, .f q2, .f r1, .f r2]) rfl (decide_eq_true hL) ?_
    obtain ⟨t20, e21⟩ : ∃ t20, (t18 != 0) = t20 := ⟨_, rfl⟩
    refine T.hbind (us := [.i t18, .i 0]) (xs := [.b t20]) (ρ' := [.f a1, .f a2, .f b1, .f b2, .f m1, .f m2, .f p1, .f p2, .f q1, .f q2, .f r1, .f r2, .f y1, .f y2, .i t0, .b t2, .b t4, .b t6, .b t8, .b t10, .b t12, .f t14, .f t15, .f t16, .f t17, .i t18, .b t20]) rfl (congrArg (fun r => [U.b r]) e21) rfl ?_
    refine T.hite (x := t20) ?_ ?_ ?_
    · rfl
    · intro c23
      refine T.hdone ?_
      have e00 : (gloG (a1, a2) (b1, b2) (m1, m2) (p1, p2) (q1, q2) (r1, r2) (y1, y2)) = (((0, 0), (0, 0), (0, 0), (0, 0)), t18) := by simp only [gloG, glo1, glo2, glo3, glo4, told2, Z4, e1, e3, e5, e7, e9, e11, e13, e19, e21, c23, reduceIte, Bool.false_eq_true, Bool.true_eq_false, Bool.true_and, Bool.false_and, Bool.and_true, Bool.and_false, Bool.true_or, Bool.false_or, Bool.or_true, Bool.or_false, Bool.not_true, Bool.not_false, Dy.cm_bind, Dy.cm_pure, Dy.mNum, Dy.mAdd, Dy.mSub, Dy.mMul, Dy.mDiv, Dy.mSqr, Dy.mSqrt, Dy.mMax] <;> simp_all
      exact ⟨⟨⟨(congrArg (fun r => some (glossU r 0)) e00.symm), (congrArg (fun r => some (glossU r 1)) e00.symm), (congrArg (fun r => some (glossU r 2)) e00.symm), (congrArg (fun r => some (glossU r 3)) e00.symm), (congrArg (fun r => some (glossU r 4)) e00.symm), (congrArg (fun r => some (glossU r 5)) e00.symm), (congrArg (fun r => some (glossU r 6)) e00.symm), (congrArg (fun r => some (glossU r 7)) e00.symm), trivial⟩, ⟨rfl, (congrArg (fun r => some (glossU r 8)) e00.symm)⟩, trivial⟩, trivial, rfl⟩
    · intro c23
      obtain ⟨t23, t24, t25, e26⟩ : ∃ t23 t24 t25, (Dy.told (dM (t14, t15) (y1, y2) 0)) = ((t23, t24), t25) := Dy.ex3 _
      refine T.hbind (us := [.f y1, .f y2, .f t14, .f t15]) (xs := [.f t23, .f t24, .i t25]) (ρ' := [.f a1, .f a2, .f b1, .f b2, .f m1, .f m2, .f p1, .f p2, .f q1, .f q2, .f r1, .f r2, .f y1, .f y2, .i t0, .b t2, .b t4, .b t6, .b t8, .b t10, .b t12, .f t14, .f t15, .f t16, .f t17, .i t18, .b t20, .f t23, .f t24, .i t25]) rfl (congrArg (fun r => [calR r 0, calR r 1, calR r 2]) e26) rfl ?_
      refine T.hneed (us := [.f y1, .f y2, .f t14, .f t15]) rfl (by have h := hH; simp only [e1, e3, e5, e7, e9, e11, e13, e19, e21, c23, e26, Bool.false_or] at h; show (gA (y1, y2) && gC (t14, t15)) = true; rw [hA, h]; rfl) ?_
      obtain ⟨t27, e28⟩ : ∃ t27, (t25 != 0) = t27 := ⟨_, rfl⟩
      refine T.hbind (us := [.i t25, .i 0]) (xs := [.b t27]) (ρ' := [.f a1, .f a2, .f b1, .f b2, .f m1, .f m2, .f p1, .f p2, .f q1, .f q2, .f r1, .f r2, .f y1, .f y2, .i t0, .b t2, .b t4, .b t6, .b t8, .b t10, .b t12, .f t14, .f t15, .f t16, .f t17, .i t18, .b t20, .f t23, .f t24, .i t25, .b t27]) rfl (congrArg (fun r => [U.b r]) e28) rfl ?_
      refine T.hite (x := t27) ?_ ?_ ?_
      · rfl
      · intro c30
        refine T.hdone ?_
        have e00 : (gloG (a1, a2) (b1, b2) (m1, m2) (p1, p2) (q1, q2) (r1, r2) (y1, y2)) = (((0, 0), (0, 0), (0, 0), (0, 0)), t25) := by simp only [gloG, glo1, glo2, glo3, glo4, told2, Z4, e1, e3, e5, e7, e9, e11, e13, e19, e21, c23, e26, e28, c30, reduceIte, Bool.false_eq_true, Bool.true_eq_false, Bool.true_and, Bool.false_and, Bool.and_true, Bool.and_false, Bool.true_or, Bool.false_or, Bool.or_true, Bool.or_false, Bool.not_true, Bool.not_false, Dy.cm_bind, Dy.cm_pure, Dy.mNum, Dy.mAdd, Dy.mSub, Dy.mMul, Dy.mDiv, Dy.mSqr, Dy.mSqrt, Dy.mMax] <;> simp_all
        exact ⟨⟨⟨(congrArg (fun r => some (glossU r 0)) e00.symm), (congrArg (fun r => some (glossU r 1)) e00.symm), (congrArg (fun r => some (glossU r 2)) e00.symm), (congrArg (fun r => some (glossU r 3)) e00.symm), (congrArg (fun r => some (glossU r 4)) e00.symm), (congrArg (fun r => some (glossU r 5)) e00.symm), (congrArg (fun r => some (glossU r 6)) e00.symm), (congrArg (fun r => some (glossU r 7)) e00.symm), trivial⟩, ⟨rfl, (congrArg (fun r => some (glossU r 8)) e00.symm)⟩, trivial⟩, trivial, rfl⟩
      · intro c30
        obtain ⟨t30, t31, t32, e33⟩ : ∃ t30 t31 t32, (Dy.told (g2M (m1, m2) (r1, r2) (y1, y2) 0)) = ((t30, t31), t32) := Dy.ex3 _
        refine T.hbind (us := [.f y1, .f y2, .f m1, .f m2, .f r1, .f r2]) (xs := [.f t30, .f t31, .i t32]) (ρ' := [.f a1, .f a2, .f b1, .f b2, .f m1, .f m2, .f p1, .f p2, .f q1, .f q2, .f r1, .f r2, .f y1, .f y2, .i t0, .b t2, .b t4, .b t6, .b t8, .b t10, .b t12, .f t14, .f t15, .f t16, .f t17, .i t18, .b t20, .f t23, .f t24, .i t25, .b t27, .f t30, .f t31, .i t32]) rfl (congrArg (fun r => [calR r 0, calR r 1, calR r 2]) e33) rfl ?_
        refine T.hneed (us := [.f y1, .f y2, .f m1, .f m2, .f r1, .f r2]) rfl (by show (gA (y1, y2) && gC (m1, m2) && gC (r1, r2)) = true; rw [hA, hCc, hCf]; rfl) ?_
        obtain ⟨t34, e35⟩ : ∃ t34, (t32 != 0) = t34 := ⟨_, rfl⟩
        refine T.hbind (us := [.i t32, .i 0]) (xs := [.b t34]) (ρ' := [.f a1, .f a2, .f b1, .f b2, .f m1, .f m2, .f p1, .f p2, .f q1, .f q2, .f r1, .f r2, .f y1, .f y2, .i t0, .b t2, .b t4, .b t6, .b t8, .b t10, .b t12, .f t14, .f t15, .f t16, .f t17, .i t18, .b t20, .f t23, .f t24, .i t25, .b t27, .f t30, .f t31, .i t32, .b t34]) rfl (congrArg (fun r => [U.b r]) e35) rfl ?_
        refine T.hite (x := t34) ?_ ?_ ?_
        · rfl
        · intro c37
          refine T.hdone ?_
          have e00 : (gloG (a1, a2) (b1, b2) (m1, m2) (p1, p2) (q1, q2) (r1, r2) (y1, y2)) = (((0, 0), (0, 0), (0, 0), (0, 0)), t32) := by simp only [gloG, glo1, glo2, glo3, glo4, told2, Z4, e1, e3, e5, e7, e9, e11, e13, e19, e21, c23, e26, e28, c30, e33, e35, c37, reduceIte, Bool.false_eq_true, Bool.true_eq_false, Bool.true_and, Bool.false_and, Bool.and_true, Bool.and_false, Bool.true_or, Bool.false_or, Bool.or_true, Bool.or_false, Bool.not_true, Bool.not_false, Dy.cm_bind, Dy.cm_pure, Dy.mNum, Dy.mAdd, Dy.mSub, Dy.mMul, Dy.mDiv, Dy.mSqr, Dy.mSqrt, Dy.mMax] <;> simp_all
          exact ⟨⟨⟨(congrArg (fun r => some (glossU r 0)) e00.symm), (congrArg (fun r => some (glossU r 1)) e00.symm), (congrArg (fun r => some (glossU r 2)) e00.symm), (congrArg (fun r => some (glossU r 3)) e00.symm), (congrArg (fun r => some (glossU r 4)) e00.symm), (congrArg (fun r => some (glossU r 5)) e00.symm), (congrArg (fun r => some (glossU r 6)) e00.symm), (congrArg (fun r => some (glossU r 7)) e00.symm), trivial⟩, ⟨rfl, (congrArg (fun r => some (glossU r 8)) e00.symm)⟩, trivial⟩, trivial, rfl⟩
        · intro c37
          obtain ⟨t37, t38, t39, e40⟩ : ∃ t37 t38 t39, (Dy.told (g1M (r1, r2) (y1, y2) 0)) = ((t37, t38), t39) := Dy.ex3 _
          refine T.hbind (us := [.f y1, .f y2, .f r1, .f r2]) (xs := [.f t37, .f t38, .i t39]) (ρ' := [.f a1, .f a2, .f b1, .f b2, .f m1, .f m2, .f p1, .f p2, .f q1, .f q2, .f r1, .f r2, .f y1, .f y2, .i t0, .b t2, .b t4, .b t6, .b t8, .b t10, .b t12, .f t14, .f t15, .f t16, .f t17, .i t18, .b t20, .f t23, .f t24, .i t25, .b t27, .f t30, .f t31, .i t32, .b t34, .f t37, .f t38, .i t39]) rfl (congrArg (fun r => [calR r 0, calR r 1, calR r 2]) e40) rfl ?_
          refine T.hneed (us := [.f y1, .f y2, .f r1, .f r2]) rfl (by show (gA (y1, y2) && gC (r1, r2)) = true; rw [hA, hCf]; rfl) ?_
          obtain ⟨t41, e42⟩ : ∃ t41, (t39 != 0) = t41 := ⟨_, rfl⟩
          refine T.hbind (us := [.i t39, .i 0]) (xs := [.b t41]) (ρ' := [.f a1, .f a2, .f b1, .f b2, .f m1, .f m2, .f p1, .f p2, .f q1, .f q2, .f r1, .f r2, .f y1, .f y2, .i t0, .b t2, .b t4, .b t6, .b t8, .b t10, .b t12, .f t14, .f t15, .f t16, .f t17, .i t18, .b t20, .f t23, .f t24, .i t25, .b t27, .f t30, .f t31, .i t32, .b t34, .f t37, .f t38, .i t39, .b t41]) rfl (congrArg (fun r => [U.b r]) e42) rfl ?_
          refine T.hite (x := t41) ?_ ?_ ?_
          · rfl
          · intro c44
            refine T.hdone ?_
            have e00 : (gloG (a1, a2) (b1, b2) (m1, m2) (p1, p2) (q1, q2) (r1, r2) (y1, y2)) = (((0, 0), (0, 0), (0, 0), (0, 0)), t39) := by simp only [gloG, glo1, glo2, glo3, glo4, told2, Z4, e1, e3, e5, e7, e9, e11, e13, e19, e21, c23, e26, e28, c30, e33, e35, c37, e40, e42, c44, reduceIte, Bool.false_eq_true, Bool.true_eq_false, Bool.true_and, Bool.false_and, Bool.and_true, Bool.and_false, Bool.true_or, Bool.false_or, Bool.or_true, Bool.or_false, Bool.not_true, Bool.not_false, Dy.cm_bind, Dy.cm_pure, Dy.mNum, Dy.mAdd, Dy.mSub, Dy.mMul, Dy.mDiv, Dy.mSqr, Dy.mSqrt, Dy.mMax] <;> simp_all
            exact ⟨⟨⟨(congrArg (fun r => some (glossU r 0)) e00.symm), (congrArg (fun r => some (glossU r 1)) e00.symm), (congrArg (fun r => some (glossU r 2)) e00.symm), (congrArg (fun r => some (glossU r 3)) e00.symm), (congrArg (fun r => some (glossU r 4)) e00.symm), (congrArg (fun r => some (glossU r 5)) e00.symm), (congrArg (fun r => some (glossU r 6)) e00.symm), (congrArg (fun r => some (glossU r 7)) e00.symm), trivial⟩, ⟨rfl, (congrArg (fun r => some (glossU r 8)) e00.symm)⟩, trivial⟩, trivial, rfl⟩
          · intro c44
            obtain ⟨t44, t45, t46, e47⟩ : ∃ t44 t45 t46, (Dy.cNum 0 4616189618054758400) = ((t44, t45), t46) := Dy.ex3 _
            have g47 := Dy.good_num (show Dy.W 4616189618054758400 from by unfold Dy.W; decide) (err := 0)
            rw [e47] at g47
            refine T.hbind (us := [.i 0, .f 4616189618054758400]) (xs := [.f t44, .f t45, .i t46]) (ρ' := [.f a1, .f a2, .f b1, .f b2, .f m1, .f m2, .f p1, .f p2, .f q1, .f q2, .f r1, .f r2, .f y1, .f y2, .i t0, .b t2, .b t4, .b t6, .b t8, .b t10, .b t12, .f t14, .f t15, .f t16, .f t17, .i t18, .b t20, .f t23, .f t24, .i t25, .b t27, .f t30, .f t31, .i t32, .b t34, .f t37, .f t38, .i t39, .b t41, .f t44, .f t45, .i t46]) rfl (congrArg (fun r => [calR r 0, calR r 1, calR r 2]) e47) rfl ?_
            obtain ⟨t48, t49, t50, e51⟩ : ∃ t48 t49 t50, (Dy.cMul t46 (t23, t24) (t30, t31)) = ((t48, t49), t50) := Dy.ex3 _
            have g51 := Dy.good_mul (a := (t23, t24)) (b := (t30, t31)) (err := t46)
            rw [e51] at g51
            refine T.hbind (us := [.i t46, .f t23, .f t24, .f t30, .f t31]) (xs := [.f t48, .f t49, .i t50]) (ρ' := [.f a1, .f a2, .f b1, .f b2, .f m1, .f m2, .f p1, .f p2, .f q1, .f q2, .f r1, .f r2, .f y1, .f y2, .i t0, .b t2, .b t4, .b t6, .b t8, .b t10, .b t12, .f t14, .f t15, .f t16, .f t17, .i t18, .b t20, .f t23, .f t24, .i t25, .b t27, .f t30, .f t31, .i t32, .b t34, .f t37, .f t38, .i t39, .b t41, .f t44, .f t45, .i t46, .f t48, .f t49, .i t50]) rfl (congrArg (fun r => [calR r 0, calR r 1, calR r 2]) e51) rfl ?_
            obtain ⟨t52, t53, t54, e55⟩ : ∃ t52 t53 t54, (Dy.cMul t50 (t44, t45) (m1, m2)) = ((t52, t53), t54) := Dy.ex3 _
            have g55 := Dy.good_mul (a := (t44, t45)) (b := (m1, m2)) (err := t50)
            rw [e55] at g55
            refine T.hbind (us := [.i t50, .f t44, .f t45, .f m1, .f m2]) (xs := [.f t52, .f t53, .i t54]) (ρ' := [.f a1, .f a2, .f b1, .f b2, .f m1, .f m2, .f p1, .f p2, .f q1, .f q2, .f r1, .f r2, .f y1, .f y2, .i t0, .b t2, .b t4, .b t6, .b t8, .b t10, .b t12, .f t14, .f t15, .f t16, .f t17, .i t18, .b t20, .f t23, .f t24, .i t25, .b t27, .f t30, .f t31, .i t32, .b t34, .f t37, .f t38, .i t39, .b t41, .f t44, .f t45, .i t46, .f t48, .f t49, .i t50, .f t52, .f t53, .i t54]) rfl (congrArg (fun r => [calR r 0, calR r 1, calR r 2]) e55) rfl ?_
            obtain ⟨t56, t57, t58, e59⟩ : ∃ t56 t57 t58, (Dy.cMul t54 (t52, t53) (r1, r2)) = ((t56, t57), t58) := Dy.ex3 _
            have g59 := Dy.good_mul (a := (t52, t53)) (b := (r1, r2)) (err := t54)
            rw [e59] at g59
            refine T.hbind (us := [.i t54, .f t52, .f t53, .f r1, .f r2]) (xs := [.f t56, .f t57, .i t58]) (ρ' := [.f a1, .f a2, .f b1, .f b2, .f m1, .f m2, .f p1, .f p2, .f q1, .f q2, .f r1, .f r2, .f y1, .f y2, .i t0, .b t2, .b t4, .b t6, .b t8, .b t10, .b t12, .f t14, .f t15, .f t16, .f t17, .i t18, .b t20, .f t23, .f t24, .i t25, .b t27, .f t30, .f t31, .i t32, .b t34, .f t37, .f t38, .i t39, .b t41, .f t44, .f t45, .i t46, .f t48, .f t49, .i t50, .f t52, .f t53, .i t54, .f t56, .f t57, .i t58]) rfl (congrArg (fun r => [calR r 0, calR r 1, calR r 2]) e59) rfl ?_
            obtain ⟨t60, t61, t62, e63⟩ : ∃ t60 t61 t62, (Dy.cDiv t58 (t48, t49) (t56, t57)) = ((t60, t61), t62) := Dy.ex3 _
            have g63 := Dy.good_div (a := (t48, t49)) (b := (t56, t57)) ⟨g59.1.1, g59.1.2⟩ (err := t58)
            rw [e63] at g63
            refine T.hbind (us := [.i t58, .f t48, .f t49, .f t56, .f t57]) (xs := [.f t60, .f t61, .i t62]) (ρ' := [.f a1, .f a2, .f b1, .f b2, .f m1, .f m2, .f p1, .f p2, .f q1, .f q2, .f r1, .f r2, .f y1, .f y2, .i t0, .b t2, .b t4, .b t6, .b t8, .b t10, .b t12, .f t14, .f t15, .f t16, .f t17, .i t18, .b t20, .f t23, .f t24, .i t25, .b t27, .f t30, .f t31, .i t32, .b t34, .f t37, .f t38, .i t39, .b t41, .f t44, .f t45, .i t46, .f t48, .f t49, .i t50, .f t52, .f t53, .i t54, .f t56, .f t57, .i t58, .f t60, .f t61, .i t62]) rfl (congrArg (fun r => [calR r 0, calR r 1, calR r 2]) e63) rfl ?_
            obtain ⟨t64, t65, t66, e67⟩ : ∃ t64 t65 t66, (Dy.cMul t62 (t37, t38) (t23, t24)) = ((t64, t65), t66) := Dy.ex3 _
            have g67 := Dy.good_mul (a := (t37, t38)) (b := (t23, t24)) (err := t62)
            rw [e67] at g67
            refine T.hbind (us := [.i t62, .f t37, .f t38, .f t23, .f t24]) (xs := [.f t64, .f t65, .i t66]) (ρ' := [.f a1, .f a2, .f b1, .f b2, .f m1, .f m2, .f p1, .f p2, .f q1, .f q2, .f r1, .f r2, .f y1, .f y2, .i t0, .b t2, .b t4, .b t6, .b t8, .b t10, .b t12, .f t14, .f t15, .f t16, .f t17, .i t18, .b t20, .f t23, .f t24, .i t25, .b t27, .f t30, .f t31, .i t32, .b t34, .f t37, .f t38, .i t39, .b t41, .f t44, .f t45, .i t46, .f t48, .f t49, .i t50, .f t52, .f t53, .i t54, .f t56, .f t57, .i t58, .f t60, .f t61, .i t62, .f t64, .f t65, .i t66]) rfl (congrArg (fun r => [calR r 0, calR r 1, calR r 2]) e67) rfl ?_
            obtain ⟨t68, t69, t70, e71⟩ : ∃ t68 t69 t70, (Dy.cMul t66 (t44, t45) (r1, r2)) = ((t68, t69), t70) := Dy.ex3 _
            have g71 := Dy.good_mul (a := (t44, t45)) (b := (r1, r2)) (err := t66)
            rw [e71] at g71
            refine T.hbind (us := [.i t66, .f t44, .f t45, .f r1, .f r2]) (xs := [.f t68, .f t69, .i t70]) (ρ' := [.f a1, .f a2, .f b1, .f b2, .f m1, .f m2, .f p1, .f p2, .f q1, .f q2, .f r1, .f r2, .f y1, .f y2, .i t0, .b t2, .b t4, .b t6, .b t8, .b t10, .b t12, .f t14, .f t15, .f t16, .f t17, .i t18, .b t20, .f t23, .f t24, .i t25, .b t27, .f t30, .f t31, .i t32, .b t34, .f t37, .f t38, .i t39, .b t41, .f t44, .f t45, .i t46, .f t48, .f t49, .i t50, .f t52, .f t53, .i t54, .f t56, .f t57, .i t58, .f t60, .f t61, .i t62, .f t64, .f t65, .i t66, .f t68, .f t69, .i t70]) rfl (congrArg (fun r => [calR r 0, calR r 1, calR r 2]) e71) rfl ?_
            obtain ⟨t72, t73, t74, e75⟩ : ∃ t72 t73 t74, (Dy.cDiv t70 (t64, t65) (t68, t69)) = ((t72, t73), t74) := Dy.ex3 _
            have g75 := Dy.good_div (a := (t64, t65)) (b := (t68, t69)) ⟨g71.1.1, g71.1.2⟩ (err := t70)
            rw [e75] at g75
            refine T.hbind (us := [.i t70, .f t64, .f t65, .f t68, .f t69]) (xs := [.f t72, .f t73, .i t74]) (ρ' := [.f a1, .f a2, .f b1, .f b2, .f m1, .f m2, .f p1, .f p2, .f q1, .f q2, .f r1, .f r2, .f y1, .f y2, .i t0, .b t2, .b t4, .b t6, .b t8, .b t10, .b t12, .f t14, .f t15, .f t16, .f t17, .i t18, .b t20, .f t23, .f t24, .i t25, .b t27, .f t30, .f t31, .i t32, .b t34, .f t37, .f t38, .i t39, .b t41, .f t44, .f t45, .i t46, .f t48, .f t49, .i t50, .f t52, .f t53, .i t54, .f t56, .f t57, .i t58, .f t60, .f t61, .i t62, .f t64, .f t65, .i t66, .f t68, .f t69, .i t70, .f t72, .f t73, .i t74]) rfl (congrArg (fun r => [calR r 0, calR r 1, calR r 2]) e75) rfl ?_
            obtain ⟨t76, e77⟩ : ∃ t76, (t74 != 0) = t76 := ⟨_, rfl⟩
            refine T.hbind (us := [.i t74, .i 0]) (xs := [.b t76]) (ρ' := [.f a1, .f a2, .f b1, .f b2, .f m1, .f m2, .f p1, .f p2, .f q1, .f q2, .f r1, .f r2, .f y1, .f y2, .i t0, .b t2, .b t4, .b t6, .b t8, .b t10, .b t12, .f t14, .f t15, .f t16, .f t17, .i t18, .b t20, .f t23, .f t24, .i t25, .b t27, .f t30, .f t31, .i t32, .b t34, .f t37, .f t38, .i t39, .b t41, .f t44, .f t45, .i t46, .f t48, .f t49, .i t50, .f t52, .f t53, .i t54, .f t56, .f t57, .i t58, .f t60, .f t61, .i t62, .f t64, .f t65, .i t66, .f t68, .f t69, .i t70, .f t72, .f t73, .i t74, .b t76]) rfl (congrArg (fun r => [U.b r]) e77) rfl ?_
            refine T.hite (x := t76) ?_ ?_ ?_
            · rfl
            · intro c79
              refine T.hdone ?_
              have eM : glossM (t23, t24) (t30, t31) (t37, t38) (m1, m2) (r1, r2) 0 = (((t60, t61), (t72, t73)), t74) := by
                unfold glossM
                refine (Dy.cs_num e47).trans ?_
                refine (Dy.cs_mul e51).trans ?_
                refine (Dy.cs_mul e55).trans ?_
                refine (Dy.cs_mul e59).trans ?_
                refine (Dy.cs_div e63).trans ?_
                refine (Dy.cs_mul e67).trans ?_
                refine (Dy.cs_mul e71).trans ?_
                first | exact e75 | (refine (Dy.cs_div e75).trans ?_; rfl) | (refine (Dy.cs_div e75).trans ?_; rw [Dy.cm_pure]; simp only [e1, e3, e5, e7, e9, e11, e13, e19, e21, c23, e26, e28, c30, e33, e35, c37, e40, e42, c44, e77, c79])
              have e00 : (gloG (a1, a2) (b1, b2) (m1, m2) (p1, p2) (q1, q2) (r1, r2) (y1, y2)) = (((0, 0), (0, 0), (0, 0), (0, 0)), t74) := by simp only [gloG, glo1, glo2, glo3, glo4, told2, Z4, eM, e1, e3, e5, e7, e9, e11, e13, e19, e21, c23, e26, e28, c30, e33, e35, c37, e40, e42, c44, e77, c79, reduceIte, Bool.false_eq_true, Bool.true_eq_false, Bool.true_and, Bool.false_and, Bool.and_true, Bool.and_false, Bool.true_or, Bool.false_or, Bool.or_true, Bool.or_false, Bool.not_true, Bool.not_false] <;> simp_all
              exact ⟨⟨⟨(congrArg (fun r => some (glossU r 0)) e00.symm), (congrArg (fun r => some (glossU r 1)) e00.symm), (congrArg (fun r => some (glossU r 2)) e00.symm), (congrArg (fun r => some (glossU r 3)) e00.symm), (congrArg (fun r => some (glossU r 4)) e00.symm), (congrArg (fun r => some (glossU r 5)) e00.symm), (congrArg (fun r => some (glossU r 6)) e00.symm), (congrArg (fun r => some (glossU r 7)) e00.symm), trivial⟩, ⟨rfl, (congrArg (fun r => some (glossU r 8)) e00.symm)⟩, trivial⟩, trivial, rfl⟩
            · intro c79
              refine T.hdone ?_
              have eM : glossM (t23, t24) (t30, t31) (t37, t38) (m1, m2) (r1, r2) 0 = (((t60, t61), (t72, t73)), t74) := by
                unfold glossM
                refine (Dy.cs_num e47).trans ?_
                refine (Dy.cs_mul e51).trans ?_
                refine (Dy.cs_mul e55).trans ?_
                refine (Dy.cs_mul e59).trans ?_
                refine (Dy.cs_div e63).trans ?_
                refine (Dy.cs_mul e67).trans ?_
                refine (Dy.cs_mul e71).trans ?_
                first | exact e75 | (refine (Dy.cs_div e75).trans ?_; rfl) | (refine (Dy.cs_div e75).trans ?_; rw [Dy.cm_pure]; simp only [e1, e3, e5, e7, e9, e11, e13, e19, e21, c23, e26, e28, c30, e33, e35, c37, e40, e42, c44, e77, c79])
              have e00 : (gloG (a1, a2) (b1, b2) (m1, m2) (p1, p2) (q1, q2) (r1, r2) (y1, y2)) = (((t14, t15), (t16, t17), (t60, t61), (t72, t73)), 0) := by simp only [gloG, glo1, glo2, glo3, glo4, told2, Z4, eM, e1, e3, e5, e7, e9, e11, e13, e19, e21, c23, e26, e28, c30, e33, e35, c37, e40, e42, c44, e77, c79, reduceIte, Bool.false_eq_true, Bool.true_eq_false, Bool.true_and, Bool.false_and, Bool.and_true, Bool.and_false, Bool.true_or, Bool.false_or, Bool.or_true, Bool.or_false, Bool.not_true, Bool.not_false] <;> simp_all
              exact ⟨⟨⟨(congrArg (fun r => some (glossU r 0)) e00.symm), (congrArg (fun r => some (glossU r 1)) e00.symm), (congrArg (fun r => some (glossU r 2)) e00.symm), (congrArg (fun r => some (glossU r 3)) e00.symm), (congrArg (fun r => some (glossU r 4)) e00.symm), (congrArg (fun r => some (glossU r 5)) e00.symm), (congrArg (fun r => some (glossU r 6)) e00.symm), (congrArg (fun r => some (glossU r 7)) e00.symm), trivial⟩, ⟨rfl, (congrArg (fun r => some (glossU r 8)) e00.symm)⟩, trivial⟩, trivial, rfl⟩

def xe17 : List (Nat × Ct) := (7, ctLookT) :: xe16
theorem xe17_ok : AllOk Tryz.prog xe17 := ⟨ctLookT_ok, xe16_ok⟩

end Go.Proofs.YtikiegcncliocaaGreat
