/- A reckoning of programs by symbols: package camera; the examples of burnishlaw26. -/
import Derived.Test.YtpnjfinkhafglaaCt
import Derived.Test.YtpnjfinkhafglaaYw
namespace Go.Proofs.Ytpnjfinkhafglaa
open Go Go.RowKit
set_option linter.unusedSimpArgs false
set_option linter.unusedVariables false

/-- The reckoning's beginning: no contracts. -/
def cam0 : List (Nat × Ct) := []
theorem cam0_ok : AllOk Try.prog cam0 := trivial
def lookU (r : (Nat × Nat) × (Bool × Int)) (i : Nat) : U := match i with
  | 0 => .f r.1.1
  | 1 => .f r.1.2
  | 2 => .b r.2.1
  | _ => .i r.2.2
def hitsU (r : Int × Int) (i : Nat) : U := match i with
  | 0 => .i r.1
  | _ => .i r.2
theorem at_den {us : List U} {m k j : Nat} {f : Nat → U} (hl : us.length = m) (hj : j < k) : (E.v (m + j)).ev (us ++ (List.range k).map f) = some (f j) := by
  show (us ++ (List.range k).map f)[m + j]? = _
  rw [List.getElem?_append_right (by omega), hl, show m + j - m = j by omega, List.getElem?_map]; simp [hj]
theorem W_hX (s i j : Int) : Dy.W (lookA s i j).1.1 ∧ Dy.W (lookA s i j).1.2 := by
  unfold lookA; split
  · exact ⟨Dy.hX_W _ _, Dy.hZ_W _ _⟩
  · exact ⟨Dy.W_zero, Dy.W_zero⟩
theorem W_pt (s i j : Int) : Dy.W (pointF s i j).1.1 ∧ Dy.W (pointF s i j).1.2 := by
  unfold pointF; split
  · exact ⟨W_part _ _, W_part _ _⟩
  · exact ⟨Dy.W_zero, Dy.W_zero⟩
theorem pt_den {us : List U} {r : (Nat × Nat) × Int} {f : Nat → U} (h : ∀ i, f i = calR r i) (hw : Dy.W r.1.1 ∧ Dy.W r.1.2) (hl : us.length = 3) : den (fun _ => none) (us ++ (List.range 3).map f) (.tup [vf 3, vf 4, vi .i64 5]) = some (.tuple #[.float .f64 r.1.1, .float .f64 r.1.2, .int .i64 r.2]) := by
  have e0 := (at_den (j := 0) (k := 3) (f := f) hl (by decide)).trans (by rw [h]; rfl : _ = some (U.f r.1.1))
  have e1 := (at_den (j := 1) (k := 3) (f := f) hl (by decide)).trans (by rw [h]; rfl : _ = some (U.f r.1.2))
  have e2 := (at_den (j := 2) (k := 3) (f := f) hl (by decide)).trans (by rw [h]; rfl : _ = some (U.i r.2))
  unfold den
  rw [denL_cons.2 ⟨_, _, fl_den e0 hw.1, denL_cons.2 ⟨_, _, fl_den e1 hw.2, denL_cons.2 ⟨_, [], it_den e2, rfl, rfl⟩, rfl⟩, rfl⟩]
theorem look_den {us : List U} {r : (Nat × Nat) × (Bool × Int)} {f : Nat → U} (h : ∀ i, f i = lookU r i) (hw : Dy.W r.1.1 ∧ Dy.W r.1.2) (hl : us.length = 3) : den (fun _ => none) (us ++ (List.range 4).map f) (.tup [.agg [vf 3, .fl (.l (.f 0)), vf 4], vb 5, vi .i64 6]) = some (.tuple #[fv r.1.1 0 r.1.2, .bool r.2.1, .int .i64 r.2.2]) := by
  have e0 := (at_den (j := 0) (k := 4) (f := f) hl (by decide)).trans (by rw [h]; rfl : _ = some (U.f r.1.1))
  have e1 := (at_den (j := 1) (k := 4) (f := f) hl (by decide)).trans (by rw [h]; rfl : _ = some (U.f r.1.2))
  have e2 := (at_den (j := 2) (k := 4) (f := f) hl (by decide)).trans (by rw [h]; rfl : _ = some (U.b r.2.1))
  have e3 := (at_den (j := 3) (k := 4) (f := f) hl (by decide)).trans (by rw [h]; rfl : _ = some (U.i r.2.2))
  have k : den (fun _ => none) (us ++ (List.range 4).map f) (.agg [vf 3, .fl (.l (.f 0)), vf 4]) = some (fv r.1.1 0 r.1.2) := by
    unfold den
    rw [denL_cons.2 ⟨_, _, fl_den e0 hw.1, denL_cons.2 ⟨_, _, fl_den (e := .l (.f 0)) (n := 0) rfl (by decide), denL_cons.2 ⟨_, [], fl_den e1 hw.2, rfl, rfl⟩, rfl⟩, rfl⟩]
  unfold den
  rw [denL_cons.2 ⟨_, _, k, denL_cons.2 ⟨_, _, bo_den e2, denL_cons.2 ⟨_, [], it_den e3, rfl, rfl⟩, rfl⟩, rfl⟩]
theorem hits_den {us : List U} {r : Int × Int} {f : Nat → U} (h : ∀ i, f i = hitsU r i) (hl : us.length = 1) : den (fun _ => none) (us ++ (List.range 2).map f) (.tup [vi .i64 1, vi .i64 2]) = some (.tuple #[.int .i64 r.1, .int .i64 r.2]) := by
  have e0 := (at_den (j := 0) (k := 2) (f := f) hl (by decide)).trans (by rw [h]; rfl : _ = some (U.i r.1))
  have e1 := (at_den (j := 1) (k := 2) (f := f) hl (by decide)).trans (by rw [h]; rfl : _ = some (U.i r.2))
  unfold den
  rw [denL_cons.2 ⟨_, _, it_den e0, denL_cons.2 ⟨_, [], it_den e1, rfl, rfl⟩, rfl⟩]
def cq0 : List (Nat × Ct) := cam0
theorem cq0_ok : AllOk Try.prog cq0 := cam0_ok
def ctSame01 : Ct := ctP 2 [vf 0, vf 1] (fun us _ => .b (decide (gF us 0 = gF us 1))) 1 (vb 2) []
theorem ctSame01_ok : CtOk Try.prog 21 ctSame01 := by
  refine ctP_ok (en Try.func21 rfl (by decide)) rfl rfl (fun us w vs hl hv hn => ?_) rfl
  match us, hl with
  | [u0, u1], _ =>
    obtain ⟨x0, y0, hx0, hy0, rfl⟩ := denL_cons.1 hv
    obtain ⟨a0, e0, w0, rfl⟩ := den_fl hx0
    obtain ⟨x1, y1, hx1, hy1, rfl⟩ := denL_cons.1 hy0
    obtain ⟨a1, e1, w1, rfl⟩ := den_fl hx1
    rw [denL_nil.1 hy1]
    simp [E.ev] at e0 e1
    subst e0 e1
    exact ⟨.bool (decide (a0 = a1)), rfl, (same_any a0 a1 w).mono fun e w2 ⟨h1, h2⟩ => ⟨by rw [h1]; congr 2; rw [Bool.eq_iff_iff]; simp; omega, by subst h2; exact Below.refl _ _⟩⟩

def cq1 : List (Nat × Ct) := (21, ctSame01) :: cq0
theorem cq1_ok : AllOk Try.prog cq1 := ⟨ctSame01_ok, cq0_ok⟩

def ctPointC : Ct := ctP 3 [vi .i64 0, vi .i64 1, vi .i64 2] (fun us i => calR (pointF (gI us 0) (gI us 1) (gI us 2)) i) 3 (.tup [vf 3, vf 4, vi .i64 5]) []
theorem ctPointC_ok : CtOk Try.prog 7 ctPointC := by
  refine ctP_ok (en Try.func7 rfl (by decide)) rfl rfl (fun us w vs hl hv hn => ?_) rfl
  match us, hl with
  | [u0, u1, u2], _ =>
    obtain ⟨x0, y0, hx0, hy0, rfl⟩ := denL_cons.1 hv
    obtain ⟨a0, e0, rfl⟩ := den_it hx0
    obtain ⟨x1, y1, hx1, hy1, rfl⟩ := denL_cons.1 hy0
    obtain ⟨a1, e1, rfl⟩ := den_it hx1
    obtain ⟨x2, y2, hx2, hy2, rfl⟩ := denL_cons.1 hy1
    obtain ⟨a2, e2, rfl⟩ := den_it hx2
    rw [denL_nil.1 hy2]
    simp [E.ev] at e0 e1 e2
    subst e0 e1 e2
    exact ⟨.tuple #[.float .f64 (pointF a0 a1 a2).1.1, .float .f64 (pointF a0 a1 a2).1.2, .int .i64 (pointF a0 a1 a2).2], pt_den (fun i => rfl) (W_pt a0 a1 a2) rfl, point_all a0 a1 a2 w⟩

def cq2 : List (Nat × Ct) := (7, ctPointC) :: cq1
theorem cq2_ok : AllOk Try.prog cq2 := ⟨ctPointC_ok, cq1_ok⟩

def ctLookC : Ct := ctP 3 [vi .i64 0, vi .i64 1, vi .i64 2] (fun us i => lookU (lookA (gI us 0) (gI us 1) (gI us 2)) i) 4 (.tup [.agg [vf 3, .fl (.l (.f 0)), vf 4], vb 5, vi .i64 6]) []
theorem ctLookC_ok : CtOk Try.prog 8 ctLookC := by
  refine ctP_ok (en Try.func8 rfl (by decide)) rfl rfl (fun us w vs hl hv hn => ?_) rfl
  match us, hl with
  | [u0, u1, u2], _ =>
    obtain ⟨x0, y0, hx0, hy0, rfl⟩ := denL_cons.1 hv
    obtain ⟨a0, e0, rfl⟩ := den_it hx0
    obtain ⟨x1, y1, hx1, hy1, rfl⟩ := denL_cons.1 hy0
    obtain ⟨a1, e1, rfl⟩ := den_it hx1
    obtain ⟨x2, y2, hx2, hy2, rfl⟩ := denL_cons.1 hy1
    obtain ⟨a2, e2, rfl⟩ := den_it hx2
    rw [denL_nil.1 hy2]
    simp [E.ev] at e0 e1 e2
    subst e0 e1 e2
    exact ⟨.tuple #[fv (lookA a0 a1 a2).1.1 0 (lookA a0 a1 a2).1.2, .bool (lookA a0 a1 a2).2.1, .int .i64 (lookA a0 a1 a2).2.2], look_den (fun i => rfl) (W_hX a0 a1 a2) rfl, look_all a0 a1 a2 w⟩

def cq3 : List (Nat × Ct) := (8, ctLookC) :: cq2
theorem cq3_ok : AllOk Try.prog cq3 := ⟨ctLookC_ok, cq2_ok⟩

def ctHitsC : Ct := ctP 1 [vi .i64 0] (fun us i => hitsU (hitsF (gI us 0)) i) 2 (.tup [vi .i64 1, vi .i64 2]) []
theorem ctHitsC_ok : CtOk Try.prog 13 ctHitsC := by
  refine ctP_ok (en Try.func13 rfl (by decide)) rfl rfl (fun us w vs hl hv hn => ?_) rfl
  match us, hl with
  | [u0], _ =>
    obtain ⟨x0, y0, hx0, hy0, rfl⟩ := denL_cons.1 hv
    obtain ⟨a0, e0, rfl⟩ := den_it hx0
    rw [denL_nil.1 hy0]
    simp [E.ev] at e0
    subst e0
    exact ⟨.tuple #[.int .i64 (hitsF a0).1, .int .i64 (hitsF a0).2], hits_den (fun i => rfl) rfl, hits_all a0 w⟩

def cq4 : List (Nat × Ct) := (13, ctHitsC) :: cq3
theorem cq4_ok : AllOk Try.prog cq4 := ⟨ctHitsC_ok, cq3_ok⟩

def ctHits26T : T := .bind ⟨fun us i => hitsU (hitsF (gI us 0)) i, 2, [(.v 0)]⟩ (.bind ⟨fun us _ => jB (fun a b => a == b) us, 1, [(.v 3), (.l (.i 0))]⟩ (.ite (.v 4) (.bind ⟨fun us _ => jB (fun a b => a == b) us, 1, [(.v 2), (.v 1)]⟩ (.done .ret ⟨[.bo (.v 5)], [], 6, []⟩)) (.done .ret ⟨[.bo (.l (.b false))], [], 5, []⟩)))
def ctHits26 : Ct := ctT 2 [vi .i64 0, vi .i64 1] ctHits26T (vb 2) 1
theorem ctHits26_ok : CtOk Try.prog 22 ctHits26 := ctT_ok cq4_ok (dr_ok cq4_ok) Try.func22 rfl (by decide) 200 2 [vi .i64 0, vi .i64 1] ctHits26T (vb 2) 1 (by kernel_rfl) (by kernel_rfl) (by kernel_rfl)

def cq5 : List (Nat × Ct) := (22, ctHits26) :: cq4
theorem cq5_ok : AllOk Try.prog cq5 := ⟨ctHits26_ok, cq4_ok⟩

def ctAwake26 : Ct := ctTrue
theorem ctAwake26_ok : CtOk Try.prog 11 ctAwake26 := ctTrue_ok cq5_ok (dr_ok cq5_ok) Try.func11 rfl (by decide) 200 _ rfl (by kernel_rfl)

def cq6 : List (Nat × Ct) := (11, ctAwake26) :: cq5
theorem cq6_ok : AllOk Try.prog cq6 := ⟨ctAwake26_ok, cq5_ok⟩

end Go.Proofs.Ytpnjfinkhafglaa
