/- A reckoning of programs by symbols: contracts of camera and burnishref26; the examples. -/
import Derived.Test.YtakdeeknfcifpaaCy
namespace Go.Proofs.Ytakdeeknfcifpaa
open Go Go.RowKit
set_option linter.unusedSimpArgs false
set_option linter.unusedVariables false

def cz0 : List (Nat × Ct) := cx1
theorem cz0_ok : AllOk Try.prog cz0 := cx1_ok
def ctPointC : Ct := ctP 3 [vi .i64 0, vi .i64 1, vi .i64 2] (fun us i => calR (pointF (gI us 0) (gI us 1) (gI us 2)) i) 3 (.tup [vf 3, vf 4, vi .i64 5]) []
theorem ctPointC_ok : CtOk Try.prog 11 ctPointC := by
  refine ctP_ok (en Try.func11 rfl (by decide)) rfl rfl (fun us w vs hl hv hn => ?_) rfl
  match us, hl with
  | [u0, u1, u2], _ =>
    obtain ⟨x0, y0, hx0, hy0, rfl⟩ := denL_cons.1 hv
    obtain ⟨a0, e0, rfl⟩ := den_it hx0
    obtain ⟨x1, y1, hx1, hy1, rfl⟩ := denL_cons.1 hy0
    obtain ⟨a1, e1, rfl⟩ := den_it hx1
    obtain ⟨x2, y2, hx2, hy2, rfl⟩ := denL_cons.1 hy1
    obtain ⟨a2, e2, rfl⟩ := den_it hx2
    rw [denL_nil.1 hy2]
    simp [E.ev] at e0 e1 e2
    subst e0 e1 e2
    exact ⟨.tuple #[.float .f64 (pointF a0 a1 a2).1.1, .float .f64 (pointF a0 a1 a2).1.2, .int .i64 (pointF a0 a1 a2).2], pt_den (fun i => rfl) (W_pt a0 a1 a2) rfl, point_all a0 a1 a2 w⟩

def cz1 : List (Nat × Ct) := (11, ctPointC) :: cz0
theorem cz1_ok : AllOk Try.prog cz1 := ⟨ctPointC_ok, cz0_ok⟩

def ctLookR : Ct := ctP 3 [vi .i64 0, vi .i64 1, vi .i64 2] (fun us i => lookU (lookA (gI us 0) (gI us 1) (gI us 2)) i) 4 (.tup [.agg [vf 3, .fl (.l (.f 0)), vf 4], vb 5, vi .i64 6]) []
theorem ctLookR_ok : CtOk Try.prog 14 ctLookR := by
  refine ctP_ok (en Try.func14 rfl (by decide)) rfl rfl (fun us w vs hl hv hn => ?_) rfl
  match us, hl with
  | [u0, u1, u2], _ =>
    obtain ⟨x0, y0, hx0, hy0, rfl⟩ := denL_cons.1 hv
    obtain ⟨a0, e0, rfl⟩ := den_it hx0
    obtain ⟨x1, y1, hx1, hy1, rfl⟩ := denL_cons.1 hy0
    obtain ⟨a1, e1, rfl⟩ := den_it hx1
    obtain ⟨x2, y2, hx2, hy2, rfl⟩ := denL_cons.1 hy1
    obtain ⟨a2, e2, rfl⟩ := den_it hx2
    rw [denL_nil.1 hy2]
    simp [E.ev] at e0 e1 e2
    subst e0 e1 e2
    exact ⟨.tuple #[fv (lookA a0 a1 a2).1.1 0 (lookA a0 a1 a2).1.2, .bool (lookA a0 a1 a2).2.1, .int .i64 (lookA a0 a1 a2).2.2], look_den (fun i => rfl) (W_hX a0 a1 a2) rfl, rlook_all a0 a1 a2 w⟩

def cz2 : List (Nat × Ct) := (14, ctLookR) :: cz1
theorem cz2_ok : AllOk Try.prog cz2 := ⟨ctLookR_ok, cz1_ok⟩

def ctLookC : Ct := ctP 3 [vi .i64 0, vi .i64 1, vi .i64 2] (fun us i => lookU (lookA (gI us 0) (gI us 1) (gI us 2)) i) 4 (.tup [.agg [vf 3, .fl (.l (.f 0)), vf 4], vb 5, vi .i64 6]) []
theorem ctLookC_ok : CtOk Try.prog 13 ctLookC := by
  refine ctP_ok (en Try.func13 rfl (by decide)) rfl rfl (fun us w vs hl hv hn => ?_) rfl
  match us, hl with
  | [u0, u1, u2], _ =>
    obtain ⟨x0, y0, hx0, hy0, rfl⟩ := denL_cons.1 hv
    obtain ⟨a0, e0, rfl⟩ := den_it hx0
    obtain ⟨x1, y1, hx1, hy1, rfl⟩ := denL_cons.1 hy0
    obtain ⟨a1, e1, rfl⟩ := den_it hx1
    obtain ⟨x2, y2, hx2, hy2, rfl⟩ := denL_cons.1 hy1
    obtain ⟨a2, e2, rfl⟩ := den_it hx2
    rw [denL_nil.1 hy2]
    simp [E.ev] at e0 e1 e2
    subst e0 e1 e2
    exact ⟨.tuple #[fv (lookA a0 a1 a2).1.1 0 (lookA a0 a1 a2).1.2, .bool (lookA a0 a1 a2).2.1, .int .i64 (lookA a0 a1 a2).2.2], look_den (fun i => rfl) (W_hX a0 a1 a2) rfl, look_all a0 a1 a2 w⟩

def cz3 : List (Nat × Ct) := (13, ctLookC) :: cz2
theorem cz3_ok : AllOk Try.prog cz3 := ⟨ctLookC_ok, cz2_ok⟩

def ctHitsR : Ct := ctP 1 [vi .i64 0] (fun us i => hitsU (hitsF (gI us 0)) i) 2 (.tup [vi .i64 1, vi .i64 2]) []
theorem ctHitsR_ok : CtOk Try.prog 17 ctHitsR := by
  refine ctP_ok (en Try.func17 rfl (by decide)) rfl rfl (fun us w vs hl hv hn => ?_) rfl
  match us, hl with
  | [u0], _ =>
    obtain ⟨x0, y0, hx0, hy0, rfl⟩ := denL_cons.1 hv
    obtain ⟨a0, e0, rfl⟩ := den_it hx0
    rw [denL_nil.1 hy0]
    simp [E.ev] at e0
    subst e0
    exact ⟨.tuple #[.int .i64 (hitsF a0).1, .int .i64 (hitsF a0).2], hits_den (fun i => rfl) rfl, rhits_all a0 w⟩

def cz4 : List (Nat × Ct) := (17, ctHitsR) :: cz3
theorem cz4_ok : AllOk Try.prog cz4 := ⟨ctHitsR_ok, cz3_ok⟩

def ctHitsC : Ct := ctP 1 [vi .i64 0] (fun us i => hitsU (hitsF (gI us 0)) i) 2 (.tup [vi .i64 1, vi .i64 2]) []
theorem ctHitsC_ok : CtOk Try.prog 16 ctHitsC := by
  refine ctP_ok (en Try.func16 rfl (by decide)) rfl rfl (fun us w vs hl hv hn => ?_) rfl
  match us, hl with
  | [u0], _ =>
    obtain ⟨x0, y0, hx0, hy0, rfl⟩ := denL_cons.1 hv
    obtain ⟨a0, e0, rfl⟩ := den_it hx0
    rw [denL_nil.1 hy0]
    simp [E.ev] at e0
    subst e0
    exact ⟨.tuple #[.int .i64 (hitsF a0).1, .int .i64 (hitsF a0).2], hits_den (fun i => rfl) rfl, hits_all a0 w⟩

def cz5 : List (Nat × Ct) := (16, ctHitsC) :: cz4
theorem cz5_ok : AllOk Try.prog cz5 := ⟨ctHitsC_ok, cz4_ok⟩

def ctHits26T : T := .bind ⟨fun us i => hitsU (hitsF (gI us 0)) i, 2, [(.v 0)]⟩ (.bind ⟨fun us _ => jB (fun a b => a == b) us, 1, [(.v 3), (.l (.i 0))]⟩ (.ite (.v 4) (.bind ⟨fun us _ => jB (fun a b => a == b) us, 1, [(.v 2), (.v 1)]⟩ (.done .ret ⟨[.bo (.v 5)], [], 6, []⟩)) (.done .ret ⟨[.bo (.l (.b false))], [], 5, []⟩)))
def ctHits26 : Ct := ctT 2 [vi .i64 0, vi .i64 1] ctHits26T (vb 2) 1
theorem ctHits26_ok : CtOk Try.prog 43 ctHits26 := ctT_ok cz5_ok (dr_ok cz5_ok) Try.func43 rfl (by decide) 200 2 [vi .i64 0, vi .i64 1] ctHits26T (vb 2) 1 (by kernel_rfl) (by kernel_rfl) (by kernel_rfl)

def cz6 : List (Nat × Ct) := (43, ctHits26) :: cz5
theorem cz6_ok : AllOk Try.prog cz6 := ⟨ctHits26_ok, cz5_ok⟩

def ctAwake26 : Ct := ctTrue
theorem ctAwake26_ok : CtOk Try.prog 18 ctAwake26 := ctTrue_ok cz6_ok (dr_ok cz6_ok) Try.func18 rfl (by decide) 200 _ rfl (by kernel_rfl)

def cz7 : List (Nat × Ct) := (18, ctAwake26) :: cz6
theorem cz7_ok : AllOk Try.prog cz7 := ⟨ctAwake26_ok, cz6_ok⟩

end Go.Proofs.Ytakdeeknfcifpaa
