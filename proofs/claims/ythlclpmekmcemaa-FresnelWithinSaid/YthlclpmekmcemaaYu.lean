/- The law FresnelWithin: walk and plain law joined. -/
import Derived.Test.YthlclpmekmcemaaYt
namespace Go.Proofs.Ythlclpmekmcemaa
open Go Go.RowKit

theorem pair3' (r : (Nat × Nat) × Int) : r = ((r.1.1, r.1.2), r.2) := rfl
theorem spanL {l h : Int} {a b u v : Nat} (ha : a = Dy.enc l) (hb : b = Dy.enc h) (hl : -Dy.B10 ≤ l) (hlh : l ≤ h) (hh : h ≤ Dy.B10) (hu : u < 4294967296) (hv : v < 4294967296) :
    nSpan [.f a, .f b, .i (u : Int), .i (v : Int)] = true ∧ ∃ p, Dy.Rk p ∧ Dy.Wi p (l, h) ∧ spanF a b u v = (Dy.enc p.1, Dy.enc p.2) := by
  subst ha hb; exact span_F hl hlh hh hu hv
theorem wiB_ok {l h : Int} {a b : Nat} {p : Int × Int} (ha : a = Dy.enc l) (hb : b = Dy.enc h) (ol : Dy.ok l) (oh : Dy.ok h) (hp : Dy.Rk p) (w : Dy.Wi p (l, h)) : wiB a b (Dy.enc p.1, Dy.enc p.2) = true := by
  subst ha hb
  unfold wiB
  rw [Dy.flt_enc hp.lo ol, Dy.fgt_enc hp.hi oh, decide_eq_false (by have := w.lo; dsimp only at this; omega), decide_eq_false (by have := w.hi; dsimp only at this; omega)]; rfl
theorem inW_of {a a' : Nat × Nat} (h : Dy.Wn a a') : inW a' a = true := by
  obtain ⟨p, p', rfl, rfl, hp, hp', w⟩ := h
  show ((Dy.flt (Dy.enc p.1) (Dy.enc p'.1) || Dy.feq (Dy.enc p.1) (Dy.enc p'.1)) && (Dy.flt (Dy.enc p'.2) (Dy.enc p.2) || Dy.feq (Dy.enc p'.2) (Dy.enc p.2))) = true
  rw [Dy.fle_enc hp.lo hp'.lo, Dy.fle_enc hp'.hi hp.hi, decide_eq_true w.lo, decide_eq_true w.hi]; rfl
theorem wn_mk {p p' : Int × Int} (hp : Dy.Rk p) (hp' : Dy.Rk p') (w : Dy.Wi p' p) : Dy.Wn (Dy.enc p.1, Dy.enc p.2) (Dy.enc p'.1, Dy.enc p'.2) := ⟨p, p', rfl, rfl, hp, hp', w⟩
theorem wi_trans {p q r : Int × Int} (h : Dy.Wi p q) (k : Dy.Wi q r) : Dy.Wi p r := ⟨by have := h.lo; have := k.lo; omega, by have := h.hi; have := k.hi; omega⟩

/-- What is reflected of lesser intervals. -/
theorem diel_mf {p q p' q' : Int × Int} (hp : Dy.Rk p) (hq : Dy.Rk q) (hp' : Dy.Rk p') (hq' : Dy.Rk q') (wp : Dy.Wi p (0, 4607182418800017408)) (wq : Dy.Wi q (4607463893776728064, 4616189618054758400)) (w : Dy.Wi p' p) (u : Dy.Wi q' q)
    (h0 : (dielG (Dy.enc p.1, Dy.enc p.2) (Dy.enc q.1, Dy.enc q.2)).2 = 0) :
    (dielG (Dy.enc p'.1, Dy.enc p'.2) (Dy.enc q'.1, Dy.enc q'.2)).2 = 0 ∧ Dy.Wn (dielG (Dy.enc p.1, Dy.enc p.2) (Dy.enc q.1, Dy.enc q.2)).1 (dielG (Dy.enc p'.1, Dy.enc p'.2) (Dy.enc q'.1, Dy.enc q'.2)).1 := by
  have gen : ∀ {p q : Int × Int}, Dy.Rk p → Dy.Rk q → Dy.Wi p (0, 4607182418800017408) → Dy.Wi q (4607463893776728064, 4616189618054758400) → dielG (Dy.enc p.1, Dy.enc p.2) (Dy.enc q.1, Dy.enc q.2) = Dy.told (dielM (Dy.enc p.1, Dy.enc p.2) (Dy.enc q.1, Dy.enc q.2) 0) := by
    intro p q hp hq wp wq
    unfold dielG
    rw [if_pos (by rw [show Dy.ivR (Dy.enc p.1, Dy.enc p.2) = true from hp.E_R, show Dy.ivR (Dy.enc q.1, Dy.enc q.2) = true from hq.E_R]; rfl), if_pos (show wiB 0 4607182418800017408 (Dy.enc p.1, Dy.enc p.2) = true from wiB_ok (l := 0) (h := 4607182418800017408) rfl (by decide) Dy.ok_zero (Dy.ok_B (by decide) (by decide)) hp wp), if_pos (show wiB 4607463893776728064 4616189618054758400 (Dy.enc q.1, Dy.enc q.2) = true from wiB_ok (l := 4607463893776728064) (h := 4616189618054758400) (by decide) (by decide) (Dy.ok_B (by decide) (by decide)) (Dy.ok_B (by decide) (by decide)) hq wq)]
  rw [gen hp hq wp wq] at h0 ⊢
  rw [gen hp' hq' (wi_trans w wp) (wi_trans u wq)]
  exact (dielM_mf (wn_mk hp hp' w) (wn_mk hq hq' u)).told h0
theorem cond_mf {p q r p' q' r' : Int × Int} (hp : Dy.Rk p) (hq : Dy.Rk q) (hr : Dy.Rk r) (hp' : Dy.Rk p') (hq' : Dy.Rk q') (hr' : Dy.Rk r') (wp : Dy.Wi p (0, 4607182418800017408)) (wq : Dy.Wi q (4589168020290535424, 4625196817309499392)) (wr : Dy.Wi r (4589168020290535424, 4625196817309499392)) (w : Dy.Wi p' p) (u : Dy.Wi q' q) (v : Dy.Wi r' r)
    (h0 : (condG (Dy.enc p.1, Dy.enc p.2) (Dy.enc q.1, Dy.enc q.2) (Dy.enc r.1, Dy.enc r.2)).2 = 0) :
    (condG (Dy.enc p'.1, Dy.enc p'.2) (Dy.enc q'.1, Dy.enc q'.2) (Dy.enc r'.1, Dy.enc r'.2)).2 = 0 ∧ Dy.Wn (condG (Dy.enc p.1, Dy.enc p.2) (Dy.enc q.1, Dy.enc q.2) (Dy.enc r.1, Dy.enc r.2)).1 (condG (Dy.enc p'.1, Dy.enc p'.2) (Dy.enc q'.1, Dy.enc q'.2) (Dy.enc r'.1, Dy.enc r'.2)).1 := by
  have gen : ∀ {p q r : Int × Int}, Dy.Rk p → Dy.Rk q → Dy.Rk r → Dy.Wi p (0, 4607182418800017408) → Dy.Wi q (4589168020290535424, 4625196817309499392) → Dy.Wi r (4589168020290535424, 4625196817309499392) → condG (Dy.enc p.1, Dy.enc p.2) (Dy.enc q.1, Dy.enc q.2) (Dy.enc r.1, Dy.enc r.2) = Dy.told (condM (Dy.enc p.1, Dy.enc p.2) (Dy.enc q.1, Dy.enc q.2) (Dy.enc r.1, Dy.enc r.2) 0) := by
    intro p q r hp hq hr wp wq wr
    unfold condG
    rw [if_pos (by rw [show Dy.ivR (Dy.enc p.1, Dy.enc p.2) = true from hp.E_R, show Dy.ivR (Dy.enc q.1, Dy.enc q.2) = true from hq.E_R, show Dy.ivR (Dy.enc r.1, Dy.enc r.2) = true from hr.E_R]; rfl), if_pos (show wiB 0 4607182418800017408 (Dy.enc p.1, Dy.enc p.2) = true from wiB_ok (l := 0) (h := 4607182418800017408) rfl (by decide) Dy.ok_zero (Dy.ok_B (by decide) (by decide)) hp wp),
      if_pos (by rw [show wiB 4589168020290535424 4625196817309499392 (Dy.enc q.1, Dy.enc q.2) = true from wiB_ok (l := 4589168020290535424) (h := 4625196817309499392) (by decide) (by decide) (Dy.ok_B (by decide) (by decide)) (Dy.ok_B (by decide) (by decide)) hq wq, show wiB 4589168020290535424 4625196817309499392 (Dy.enc r.1, Dy.enc r.2) = true from wiB_ok (l := 4589168020290535424) (h := 4625196817309499392) (by decide) (by decide) (Dy.ok_B (by decide) (by decide)) (Dy.ok_B (by decide) (by decide)) hr wr]; rfl)]
  rw [gen hp hq hr wp wq wr] at h0 ⊢
  rw [gen hp' hq' hr' (wi_trans w wp) (wi_trans u wq) (wi_trans v wr)]
  exact (condM_mf (wn_mk hp hp' w) (wn_mk hq hq' u) (wn_mk hr hr' v)).told h0

set_option maxHeartbeats 4000000 in
theorem fwithin_any (u0 u1 u2 u3 u4 u5 u6 u7 v0 v1 v2 v3 v4 v5 v6 v7 : Nat) (w : World) (k0 : u0 < 4294967296) (k1 : u1 < 4294967296) (k2 : u2 < 4294967296) (k3 : u3 < 4294967296) (k4 : u4 < 4294967296) (k5 : u5 < 4294967296) (k6 : u6 < 4294967296) (k7 : u7 < 4294967296)
    (l0 : v0 < 4294967296) (l1 : v1 < 4294967296) (l2 : v2 < 4294967296) (l3 : v3 < 4294967296) (l4 : v4 < 4294967296) (l5 : v5 < 4294967296) (l6 : v6 < 4294967296) (l7 : v7 < 4294967296) :
    Calls Try.prog 6 #[.agg #[.int .u32 u0, .int .u32 u1, .int .u32 u2, .int .u32 u3, .int .u32 u4, .int .u32 u5, .int .u32 u6, .int .u32 u7], .agg #[.int .u32 v0, .int .u32 v1, .int .u32 v2, .int .u32 v3, .int .u32 v4, .int .u32 v5, .int .u32 v6, .int .u32 v7]] w fun e w' => e = .returned (.bool true) ∧ Below w.heap.size w w' := by
  obtain ⟨n0, p, hp, wp, ep⟩ := spanL (l := 0) (h := 4607182418800017408) (a := 0) (b := 4607182418800017408) rfl (by decide) (by decide) (by decide) (by decide) k0 k1
  obtain ⟨n1, q, hq, wq, eq⟩ := spanL (l := 4607463893776728064) (h := 4616189618054758400) (a := 4607463893776728064) (b := 4616189618054758400) (by decide) (by decide) (by decide) (by decide) (by decide) k2 k3
  obtain ⟨n2, r, hr, wr, er⟩ := spanL (l := 4589168020290535424) (h := 4625196817309499392) (a := 4589168020290535424) (b := 4625196817309499392) (by decide) (by decide) (by decide) (by decide) (by decide) k4 k5
  obtain ⟨n3, s, hs, ws, es⟩ := spanL (l := 4589168020290535424) (h := 4625196817309499392) (a := 4589168020290535424) (b := 4625196817309499392) (by decide) (by decide) (by decide) (by decide) (by decide) k6 k7
  have inner : ∀ {p : Int × Int} {l h : Int} {x y : Nat}, Dy.Rk p → Dy.Wi p (l, h) → -Dy.B10 ≤ l → h ≤ Dy.B10 → x < 4294967296 → y < 4294967296 → nSpan [.f (Dy.enc p.1), .f (Dy.enc p.2), .i (x : Int), .i (y : Int)] = true ∧ ∃ p', Dy.Rk p' ∧ Dy.Wi p' p ∧ spanF (Dy.enc p.1) (Dy.enc p.2) x y = (Dy.enc p'.1, Dy.enc p'.2) := by
    intro p l h x y hp wp b1 b2 hx hy
    have := wp.lo; have := wp.hi
    exact spanL rfl rfl (by dsimp only at *; omega) hp.le (by dsimp only at *; omega) hx hy
  obtain ⟨m0, p', hp', wp', ep'⟩ := inner hp wp (by decide) (by decide) l0 l1
  obtain ⟨m1, q', hq', wq', eq'⟩ := inner hq wq (by decide) (by decide) l2 l3
  obtain ⟨m2, r', hr', wr', er'⟩ := inner hr wr (by decide) (by decide) l4 l5
  obtain ⟨m3, s', hs', ws', es'⟩ := inner hs ws (by decide) (by decide) l6 l7
  have D := diel_mf hp hq hp' hq' wp wq wp' wq'
  have C := cond_mf hp hr hs hp' hr' hs' wp wr ws wp' wr' ws'
  by_cases hd : (dielG (Dy.enc p.1, Dy.enc p.2) (Dy.enc q.1, Dy.enc q.2)).2 = 0 <;> by_cases hc : (condG (Dy.enc p.1, Dy.enc p.2) (Dy.enc r.1, Dy.enc r.2) (Dy.enc s.1, Dy.enc s.2)).2 = 0
  · obtain ⟨d1, d2⟩ := D hd
    obtain ⟨c1, c2⟩ := C hc
    exact fwithin_oo u0 u1 u2 u3 u4 u5 u6 u7 v0 v1 v2 v3 v4 v5 v6 v7 w ep n0 eq n1 er n2 es n3 (pair3' _) ep' m0 eq' m1 (pair3' _) (beq_iff_eq.2 hd) (bne_eq_false_iff_eq.2 d1) (inW_of d2) (pair3' _) er' m2 es' m3 (pair3' _) (bne_eq_false_iff_eq.2 hc) (beq_iff_eq.2 c1) (inW_of c2)
  · obtain ⟨d1, d2⟩ := D hd
    exact fwithin_oe u0 u1 u2 u3 u4 u5 u6 u7 v0 v1 v2 v3 v4 v5 v6 v7 w ep n0 eq n1 er n2 es n3 (pair3' _) ep' m0 eq' m1 (pair3' _) (beq_iff_eq.2 hd) (bne_eq_false_iff_eq.2 d1) (inW_of d2) (pair3' _) er' m2 es' m3 (pair3' _) (bne_iff_ne.2 hc)
  · obtain ⟨c1, c2⟩ := C hc
    exact fwithin_eo u0 u1 u2 u3 u4 u5 u6 u7 v0 v1 v2 v3 v4 v5 v6 v7 w ep n0 eq n1 er n2 es n3 (pair3' _) ep' m0 eq' m1 (pair3' _) (beq_eq_false_iff_ne.2 hd) (pair3' _) er' m2 es' m3 (pair3' _) (bne_eq_false_iff_eq.2 hc) (beq_iff_eq.2 c1) (inW_of c2)
  · exact fwithin_ee u0 u1 u2 u3 u4 u5 u6 u7 v0 v1 v2 v3 v4 v5 v6 v7 w ep n0 eq n1 er n2 es n3 (pair3' _) ep' m0 eq' m1 (pair3' _) (beq_eq_false_iff_ne.2 hd) (pair3' _) er' m2 es' m3 (pair3' _) (bne_iff_ne.2 hc)
end Go.Proofs.Ythlclpmekmcemaa
