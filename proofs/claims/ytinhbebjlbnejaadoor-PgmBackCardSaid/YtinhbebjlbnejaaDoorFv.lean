/- Walks: burnishlaw28.PgmBack. -/
import Derived.Test.YtinhbebjlbnejaaDoorFu
namespace Go.Proofs.YtinhbebjlbnejaaDoor
open Go Go.RowKit
open Go.Lib (hid)
set_option linter.unusedSimpArgs false
set_option linter.unusedVariables false

theorem parse_some' {ao : Option Addr} {n c n' : Nat} {x y : Int} {p : Pg.Pic} {l : List UInt8} {w : World} (hn : l.length = n) (hl : n ≤ c) (hbig : n ≤ 140737488355328) (hb : Byt w ao l) (hp : Pg.parse l = some p) (hx : (p.w : Int) = x) (hy : (p.h : Int) = y) (hg : p.grey.length = n') :
    Calls Tryd.prog 12 #[.slice ao n c] w fun e w' => ∃ ao' c', e = .returned (.tuple #[.agg #[.int .i64 x, .int .i64 y, .slice ao' n' c'], .int .i64 0]) ∧
      (n' ≤ c' ∧ Byt w' ao' p.grey) ∧ Below w.heap.size w w' := by
  subst hg
  obtain ⟨W, H, g⟩ := p
  exact parse_some hn.symm hl hbig hb hp hx hy
theorem bytes_yes' {W H : Nat} {ao : Option Addr} {n c : Nat} {g : List UInt8} {w : World} (hr : (Pg.Pic.mk W H g).right = true) (hn : g.length = n) (hb : Byt w ao g) (ht : Tab w) :
    Calls Tryd.prog 10 #[.agg #[.int .i64 (W : Int), .int .i64 (H : Int), .slice ao n c]] w fun e w' => ∃ ao' n' c', e = .returned (.tuple #[.slice ao' n' c', .int .i64 0]) ∧
      ((Pg.bytes ⟨W, H, g⟩).length = n' ∧ n' ≤ c' ∧ n' ≤ 70000 ∧ 0 < n' ∧ Byt w' ao' (Pg.bytes ⟨W, H, g⟩)) ∧ Below w.heap.size w w' := by
  subst hn
  refine (bytes_yes W H ao c g w (right_nat' hr) hb ht).mono ?_
  rintro e w' ⟨v, rfl, hown, hb'⟩
  obtain ⟨ao', c', rfl, hc, hy⟩ := hown.byt
  have h0 : 0 < (Pg.bytes ⟨W, H, g⟩).length := by unfold Pg.bytes Pg.head; simp
  exact ⟨ao', _, c', rfl, ⟨rfl, hc, (bytes_le _ hr).1, h0, hy⟩, hb'⟩
theorem plain_yes' {W H : Nat} {ao : Option Addr} {n c : Nat} {g : List UInt8} {w : World} (hr : (Pg.Pic.mk W H g).right = true) (hn : g.length = n) (hc : n ≤ c) (hb : Byt w ao g) (ht : Tab w) :
    Calls Tryd.prog 11 #[.agg #[.int .i64 (W : Int), .int .i64 (H : Int), .slice ao n c]] w fun e w' => ∃ S, e = .returned (.tuple #[.string S, .int .i64 0]) ∧ S = ⟨(Pg.plain ⟨W, H, g⟩).toArray⟩ ∧ Below w.heap.size w w' := by
  subst hn
  refine (plain_yes W H ao c g w (right_nat' hr) hc hb ht).mono ?_
  rintro e w' ⟨rfl, hb'⟩
  exact ⟨_, rfl, rfl, hb'⟩
theorem same_yes {W H : Int} {ao ao' : Option Addr} {n c c' : Nat} {l : List UInt8} {w : World} (hn : l.length = n) (hb : Byt w ao l) (hb' : Byt w ao' l) :
    Calls Tryd.prog 13 #[.agg #[.int .i64 W, .int .i64 H, .slice ao n c], .agg #[.int .i64 W, .int .i64 H, .slice ao' n c']] w fun e w' => e = .returned (.bool true) ∧ Below w.heap.size w w' := by
  refine (same_any W H W H ao ao' n n c c' l l w hn hn hb hb').mono ?_
  rintro e w' ⟨rfl, h⟩
  exact ⟨by simp, h⟩
theorem Byt.below' {w w' : World} {ao : Option Addr} {l : List UInt8} (h : Byt w ao l) (hb : Below w.heap.size w w') : Byt w' ao l := h.below hb
theorem PicN.lt {b x y ao n c l A} (h : PicN b x y ao n c l A) : b < A.heap.size := (Array.getElem?_eq_some_iff.1 h.blk).1

set_option maxRecDepth 100000 in
set_option maxHeartbeats 8000000 in
theorem back_any (a b : UInt8) (ao bo : Option Addr) (n c m d : Nat) (g l : List UInt8) (w : World) (hn : g.length = n) (hbig : n ≤ 9223372036854775807) (hb : Byt w ao g) (hm : l.length = m) (hd : m ≤ d) (hl : Byt w bo l) (ht : Tab w) :
    Calls Tryd.prog 3 #[.int .u8 (a.toNat : Int), .int .u8 (b.toNat : Int), .slice ao n c, .slice bo m d] w fun e w' => e = .returned (.bool true) ∧ Below w.heap.size w w' := by
  have HA := hid (fun (X : World) (h : Below w.heap.size w X) => awake_any X (ht.below ht.lt h))
  by_cases h3 : 3000 < m
  · have U := hid (Below.refl w.heap.size w)
    clear hn hb hm hl ht hd
    go_enter Tryd.func3, Tryd.ntmps3
    go_wp2_with (go_at_call 8; refine (HA.out _ U.out).mono ?_; rintro e w1 ⟨rfl, hb⟩)
    go_ret
    exact ⟨rfl, hb⟩
  have HM := hid (made_any a b ao n c g w hn hbig hb)
  have hR := Pg.madeP_right a b g
  unfold Pg.madeP at hR
  have hN := Pg.made_len g (Pg.sideN a * Pg.sideN b)
  generalize Pg.made g (Pg.sideN a * Pg.sideN b) = gm at *
  generalize Pg.sideN a * Pg.sideN b = N at *
  generalize Pg.sideN a = W at *
  generalize Pg.sideN b = H at *
  replace hR := hid hR
  replace hN := hid hN
  replace hl := hid hl
  replace hm := hid hm
  replace ht := hid ht
  clear hn hb
  go_enter Tryd.func3, Tryd.ntmps3
  go_wp2_with fail
  refine HM.out.mono ?_
  rintro e w1 ⟨v, rfl, hown, hb⟩
  obtain ⟨ao1, c1, rfl, hc1, hy1⟩ := own_byt hown hN.out.symm
  rw [hN.out] at hc1 ⊢
  have P := hid (picN_new (w := w1) (x := (W : Int)) (y := (H : Int)) hN.out hc1 hy1)
  have U := hid (hb.trans ((alloc_b w1 (.cells #[.int .i64 (W : Int), .int .i64 (H : Int), .slice ao1 N c1] 25)).mono hb.size))
  clear hown hy1 hb HM
  have kP0 := P.out.k0
  have kP1 := P.out.k1
  have kP2 := P.out.k2
  go_wp2_with fail
  refine (bytes_yes' hR.out hN.out P.out.byt (ht.out.below ht.out.lt U.out)).mono ?_
  rintro e w2 ⟨ao2, n2, c2, rfl, ⟨hn2, hc2, hq2, _, hy2⟩, hb⟩
  clear kP0 kP1 kP2
  have Y := hid hy2
  clear hy2
  have hB := hid (hb)
  replace U := hid (U.out.trans (hB.out.mono U.out.size))
  replace P := hid (P.out.below hB.out)
  clear hB
  clear hb
  have hp2 := hid (Pg.parse_bytes hR.out)
  generalize Pg.bytes ⟨W, H, gm⟩ = L0 at *
  replace hn2 := hid hn2
  have kP0 := P.out.k0
  have kP1 := P.out.k1
  have kP2 := P.out.k2
  go_wp2_with fail
  refine (plain_yes' hR.out hN.out P.out.le P.out.byt (ht.out.below ht.out.lt U.out)).mono ?_
  rintro e w3 ⟨S0, rfl, hS0, hb⟩
  clear kP0 kP1 kP2
  have hB := hid (hb)
  replace U := hid (U.out.trans (hB.out.mono U.out.size))
  replace P := hid (P.out.below hB.out)
  replace Y := hid (Y.out.below hB.out)
  clear hB
  clear hb
  have hp5 := hid (Pg.parse_plain hR.out)
  have hlt0 := (bytes_le _ hR.out).2
  generalize Pg.plain ⟨W, H, gm⟩ = Lt0 at *
  replace hS0 := hid hS0
  replace hlt0 := hid hlt0
  go_wp2_with fail
  refine (parse_some' hn2.out hc2 (by omega) Y.out hp2.out rfl rfl hN.out).mono ?_
  rintro e w4 ⟨ao4, c4, rfl, ⟨hc4, hy4⟩, hb⟩
  clear Y
  have Q := hid (picN_new (w := w4) (x := (W : Int)) (y := (H : Int)) hN.out hc4 hy4)
  have hB := hid (hb)
  replace U := hid (U.out.trans (hB.out.mono U.out.size))
  replace P := hid (P.out.below hB.out)
  clear hB
  have pq := P.out.lt
  have u1 := U.out.size
  have hB := hid (alloc_b w4 (.cells #[.int .i64 (W : Int), .int .i64 (H : Int), .slice ao4 N c4] 25))
  replace U := hid (U.out.trans (hB.out.mono U.out.size))
  replace P := hid (P.out.below hB.out)
  clear hB
  clear hb
  obtain ⟨n5, c5, w5, hcv, hn5, hc5, hy5, hb5⟩ := str_bytes (w4.alloc (.cells #[.int .i64 (W : Int), .int .i64 (H : Int), .slice ao4 N c4] 25)) S0 Lt0 hS0.out
  simp only [World.size_alloc] at hcv hy5
  have hB := hid (hb5)
  replace U := hid (U.out.trans (hB.out.mono U.out.size))
  replace P := hid (P.out.below hB.out)
  replace Q := hid (Q.out.below hB.out)
  clear hB
  clear hb5
  replace hn5 := hid hn5
  replace hy5 := hid hy5
  have hx0 : n5 ≤ 300000 := by rw [← hn5.out]; exact hlt0.out
  go_wp2_with fail
  refine (parse_some' hn5.out hc5 (by omega) hy5.out hp5.out rfl rfl hN.out).mono ?_
  rintro e w6 ⟨ao6, c6, rfl, ⟨hc6, hy6⟩, hb⟩
  have R := hid (picN_new (w := w6) (x := (W : Int)) (y := (H : Int)) hN.out hc6 hy6)
  have hB := hid (hb)
  replace U := hid (U.out.trans (hB.out.mono U.out.size))
  replace P := hid (P.out.below hB.out)
  replace Q := hid (Q.out.below hB.out)
  clear hB
  have qr := Q.out.lt
  have hB := hid (alloc_b w6 (.cells #[.int .i64 (W : Int), .int .i64 (H : Int), .slice ao6 N c6] 25))
  replace U := hid (U.out.trans (hB.out.mono U.out.size))
  replace P := hid (P.out.below hB.out)
  replace Q := hid (Q.out.below hB.out)
  clear hB
  clear hb
  have kP0 := P.out.k0
  have kP1 := P.out.k1
  have kP2 := P.out.k2
  have kQ0 := Q.out.k0
  have kQ1 := Q.out.k1
  have kQ2 := Q.out.k2
  have kR0 := R.out.k0
  have kR1 := R.out.k1
  have kR2 := R.out.k2
  go_wp2_with fail
  refine (same_yes hN.out P.out.byt Q.out.byt).mono ?_
  rintro e w7 ⟨rfl, hb⟩
  clear kP0 kP1 kP2 kQ0 kQ1 kQ2 kR0 kR1 kR2
  have hB := hid (hb)
  replace U := hid (U.out.trans (hB.out.mono U.out.size))
  replace P := hid (P.out.below hB.out)
  replace Q := hid (Q.out.below hB.out)
  replace R := hid (R.out.below hB.out)
  clear hB
  clear hb
  have kP0 := P.out.k0
  have kP1 := P.out.k1
  have kP2 := P.out.k2
  have kR0 := R.out.k0
  have kR1 := R.out.k1
  have kR2 := R.out.k2
  go_wp2_with fail
  refine (same_yes hN.out P.out.byt R.out.byt).mono ?_
  rintro e w8 ⟨rfl, hb⟩
  clear kP0 kP1 kP2 kR0 kR1 kR2
  have hB := hid (hb)
  replace U := hid (U.out.trans (hB.out.mono U.out.size))
  replace P := hid (P.out.below hB.out)
  replace Q := hid (Q.out.below hB.out)
  replace R := hid (R.out.below hB.out)
  clear hB
  clear hb
  have hl8 := hid (hl.out.below' U.out)
  cases hpl : Pg.parse l with
  | none =>
    replace hpl := hid hpl
    clear P Q R
    go_wp2_with fail
    refine (parse_nil hm.out.symm hd (by omega) hl8.out hpl.out).mono ?_
    rintro e w9 ⟨rfl, hb⟩
    replace U := hid (U.out.trans ((aft hb (alloc_b w9 (.cells #[.int .i64 0, .int .i64 0, .slice none 0 0] 25))).mono U.out.size))
    clear hb
    go_wp2_with (go_at_call 8; refine (HA.out _ U.out).mono ?_; rintro e w10 ⟨rfl, hb⟩)
    go_ret
    exact ⟨rfl, U.out.trans (hb.mono U.out.size)⟩
  | some p2 =>
  have hR2 := Pg.parse_right hpl
  replace hpl := hid hpl
  obtain ⟨W2, H2, g2⟩ := p2
  obtain ⟨N2, hN2⟩ : ∃ N, g2.length = N := ⟨_, rfl⟩
  replace hN2 := hid hN2
  replace hR2 := hid hR2
  go_wp2_with fail
  refine (parse_some' hm.out hd (by omega) hl8.out hpl.out rfl rfl hN2.out).mono ?_
  rintro e w9 ⟨ao9, c9, rfl, ⟨hc9, hy9⟩, hb⟩
  have P2 := hid (picN_new (w := w9) (x := (W2 : Int)) (y := (H2 : Int)) hN2.out hc9 hy9)
  have hB := hid (hb)
  replace U := hid (U.out.trans (hB.out.mono U.out.size))
  replace Q := hid (Q.out.below hB.out)
  replace R := hid (R.out.below hB.out)
  clear hB
  have rp := R.out.lt
  have u0 := U.out.size
  have hB := hid (alloc_b w9 (.cells #[.int .i64 (W2 : Int), .int .i64 (H2 : Int), .slice ao9 N2 c9] 25))
  replace U := hid (U.out.trans (hB.out.mono U.out.size))
  replace Q := hid (Q.out.below hB.out)
  replace R := hid (R.out.below hB.out)
  clear hB
  clear hb P hl8 hy9
  have kP20 := P2.out.k0
  have kP21 := P2.out.k1
  have kP22 := P2.out.k2
  go_wp2_with fail
  refine (bytes_yes' hR2.out hN2.out P2.out.byt (ht.out.below ht.out.lt U.out)).mono ?_
  rintro e w12 ⟨ao12, n12, c12, rfl, ⟨hn12, hc12, hq12, _, hy12⟩, hb⟩
  clear kP20 kP21 kP22
  have Y := hid hy12
  clear hy12
  have hB := hid (hb)
  replace U := hid (U.out.trans (hB.out.mono U.out.size))
  replace P2 := hid (P2.out.below hB.out)
  replace Q := hid (Q.out.below hB.out)
  replace R := hid (R.out.below hB.out)
  clear hB
  clear hb
  have hp12 := hid (Pg.parse_bytes hR2.out)
  generalize Pg.bytes ⟨W2, H2, g2⟩ = L10 at *
  replace hn12 := hid hn12
  have kP20 := P2.out.k0
  have kP21 := P2.out.k1
  have kP22 := P2.out.k2
  go_wp2_with fail
  refine (plain_yes' hR2.out hN2.out P2.out.le P2.out.byt (ht.out.below ht.out.lt U.out)).mono ?_
  rintro e w13 ⟨S10, rfl, hS10, hb⟩
  clear kP20 kP21 kP22
  have hB := hid (hb)
  replace U := hid (U.out.trans (hB.out.mono U.out.size))
  replace P2 := hid (P2.out.below hB.out)
  replace Y := hid (Y.out.below hB.out)
  replace Q := hid (Q.out.below hB.out)
  replace R := hid (R.out.below hB.out)
  clear hB
  clear hb
  have hp15 := hid (Pg.parse_plain hR2.out)
  have hlt10 := (bytes_le _ hR2.out).2
  generalize Pg.plain ⟨W2, H2, g2⟩ = Lt10 at *
  replace hS10 := hid hS10
  replace hlt10 := hid hlt10
  go_wp2_with fail
  refine (parse_some' hn12.out hc12 (by omega) Y.out hp12.out rfl rfl hN2.out).mono ?_
  rintro e w14 ⟨ao14, c14, rfl, ⟨hc14, hy14⟩, hb⟩
  clear Y
  replace hy14 := hid hy14
  have hB := hid (hb)
  replace U := hid (U.out.trans (hB.out.mono U.out.size))
  replace P2 := hid (P2.out.below hB.out)
  replace Q := hid (Q.out.below hB.out)
  replace R := hid (R.out.below hB.out)
  clear hB
  clear hb
  have kQ0 := Q.out.k0
  have kQ1 := Q.out.k1
  have kQ2 := Q.out.k2
  have kQf0 := Q.out.f 0
  have kQf1 := Q.out.f 1
  have kQf2 := Q.out.f 2
  have hq := hid Q.out.blk
  obtain ⟨n15, c15, w15, hcv, hn15, hc15, hy15, hb15⟩ := str_bytes (set3 w14 w4.heap.size (.int .i64 (W2 : Int)) (.int .i64 (H2 : Int)) (.slice ao14 N2 c14)) S10 Lt10 hS10.out
  simp only [World.size_setCell] at hcv hy15
  replace P2 := hid (P2.out.set (x' := (W2 : Int)) (y' := (H2 : Int)) (p' := ao14) (m' := N2) (d' := c14) hq.out (by omega))
  replace R := hid (R.out.set (x' := (W2 : Int)) (y' := (H2 : Int)) (p' := ao14) (m' := N2) (d' := c14) hq.out (by omega))
  replace Q := hid (Q.out.put (x' := (W2 : Int)) (y' := (H2 : Int)) hN2.out hc14 hy14.out)
  replace U := hid (set3_below (b := w4.heap.size) (x := .int .i64 (W2 : Int)) (y := .int .i64 (H2 : Int)) (z := .slice ao14 N2 c14) U.out (by have := U.out; omega))
  have hB := hid (hb15)
  replace U := hid (U.out.trans (hB.out.mono U.out.size))
  replace P2 := hid (P2.out.below hB.out)
  replace Q := hid (Q.out.below hB.out)
  replace R := hid (R.out.below hB.out)
  clear hB
  clear hb15
  replace hn15 := hid hn15
  replace hy15 := hid hy15
  have hx10 : n15 ≤ 300000 := by rw [← hn15.out]; exact hlt10.out
  go_wp2_with fail
  refine (parse_some' hn15.out hc15 (by omega) hy15.out hp15.out rfl rfl hN2.out).mono ?_
  rintro e w16 ⟨ao16, c16, rfl, ⟨hc16, hy16⟩, hb⟩
  clear kQ0 kQ1 kQ2 kQf0 kQf1 kQf2
  replace hy16 := hid hy16
  have hB := hid (hb)
  replace U := hid (U.out.trans (hB.out.mono U.out.size))
  replace P2 := hid (P2.out.below hB.out)
  replace Q := hid (Q.out.below hB.out)
  replace R := hid (R.out.below hB.out)
  clear hB
  clear hb
  have kR0 := R.out.k0
  have kR1 := R.out.k1
  have kR2 := R.out.k2
  have kRf0 := R.out.f 0
  have kRf1 := R.out.f 1
  have kRf2 := R.out.f 2
  have hq2 := hid R.out.blk
  replace P2 := hid (P2.out.set (x' := (W2 : Int)) (y' := (H2 : Int)) (p' := ao16) (m' := N2) (d' := c16) hq2.out (by omega))
  replace Q := hid (Q.out.set (x' := (W2 : Int)) (y' := (H2 : Int)) (p' := ao16) (m' := N2) (d' := c16) hq2.out (by omega))
  replace R := hid (R.out.put (x' := (W2 : Int)) (y' := (H2 : Int)) hN2.out hc16 hy16.out)
  replace U := hid (set3_below (b := w6.heap.size) (x := .int .i64 (W2 : Int)) (y := .int .i64 (H2 : Int)) (z := .slice ao16 N2 c16) U.out (by omega))
  unfold set3 at P2 Q R U
  go_upto_region 17 with fail
  obtain ⟨X, hX⟩ : ∃ X, X = set3 w16 w6.heap.size (.int .i64 (W2 : Int)) (.int .i64 (H2 : Int)) (.slice ao16 N2 c16) := ⟨_, rfl⟩
  unfold set3 at hX
  rw [← hX] at P2 Q R U ⊢
  clear hX
  clear kR0 kR1 kR2 kRf0 kRf1 kRf2
  have kP20 := P2.out.k0
  have kP21 := P2.out.k1
  have kP22 := P2.out.k2
  have kQ0 := Q.out.k0
  have kQ1 := Q.out.k1
  have kQ2 := Q.out.k2
  go_wp2_with fail
  refine (same_yes hN2.out P2.out.byt Q.out.byt).mono ?_
  rintro e w17 ⟨rfl, hb⟩
  clear kP20 kP21 kP22 kQ0 kQ1 kQ2
  have hB := hid (hb)
  replace U := hid (U.out.trans (hB.out.mono U.out.size))
  replace P2 := hid (P2.out.below hB.out)
  replace Q := hid (Q.out.below hB.out)
  replace R := hid (R.out.below hB.out)
  clear hB
  clear hb
  have kP20 := P2.out.k0
  have kP21 := P2.out.k1
  have kP22 := P2.out.k2
  have kR0 := R.out.k0
  have kR1 := R.out.k1
  have kR2 := R.out.k2
  go_wp2_with fail
  refine (same_yes hN2.out P2.out.byt R.out.byt).mono ?_
  rintro e w18 ⟨rfl, hb⟩
  clear kP20 kP21 kP22 kR0 kR1 kR2
  have hB := hid (hb)
  replace U := hid (U.out.trans (hB.out.mono U.out.size))
  replace P2 := hid (P2.out.below hB.out)
  replace Q := hid (Q.out.below hB.out)
  replace R := hid (R.out.below hB.out)
  clear hB
  clear hb
  go_wp2_with (go_at_call 8; refine (HA.out _ U.out).mono ?_; rintro e w20 ⟨rfl, hb⟩)
  go_ret
  exact ⟨rfl, U.out.trans (hb.mono U.out.size)⟩
end Go.Proofs.YtinhbebjlbnejaaDoor
