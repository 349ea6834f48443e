/- A reckoning of programs by symbols: micro's look. -/
import Derived.Test.YtikiegcncliocaaGreatMm
namespace Go.Proofs.YtikiegcncliocaaGreat
open Go Go.RowKit

/-- May two directions be? -/
def lookF (a0 a1 a2 a3 a4 a5 a6 a7 a8 a9 a10 a11 : Nat) : Int := if (Dy.ivR (a0, a1) && (Dy.ivR (a2, a3) && (Dy.ivR (a4, a5) && (Dy.ivR (a6, a7) && (Dy.ivR (a8, a9) && (Dy.ivR (a10, a11) && true)))))) = true then (if (((Dy.fgt a0 13830554455654793216 || Dy.feq a0 13830554455654793216) && (Dy.flt a1 4607182418800017408 || Dy.feq a1 4607182418800017408)) && (((Dy.fgt a2 13830554455654793216 || Dy.feq a2 13830554455654793216) && (Dy.flt a3 4607182418800017408 || Dy.feq a3 4607182418800017408)) && (((Dy.fgt a4 0 || Dy.feq a4 0) && (Dy.flt a5 4607182418800017408 || Dy.feq a5 4607182418800017408)) && (((Dy.fgt a6 13830554455654793216 || Dy.feq a6 13830554455654793216) && (Dy.flt a7 4607182418800017408 || Dy.feq a7 4607182418800017408)) && (((Dy.fgt a8 13830554455654793216 || Dy.feq a8 13830554455654793216) && (Dy.flt a9 4607182418800017408 || Dy.feq a9 4607182418800017408)) && (((Dy.fgt a10 0 || Dy.feq a10 0) && (Dy.flt a11 4607182418800017408 || Dy.feq a11 4607182418800017408)) && true)))))) = true then 0 else 2) else 20
def ctLook : Ct := ⟨12, [[vf 0, vf 1, vf 2, vf 3, vf 4, vf 5, vf 6, vf 7, vf 8, vf 9, vf 10, vf 11]], [.slc 0 0 2 2], { binds := [⟨fun us _ => .i (lookF (gF us 0) (gF us 1) (gF us 2) (gF us 3) (gF us 4) (gF us 5) (gF us 6) (gF us 7) (gF us 8) (gF us 9) (gF us 10) (gF us 11)), 1, upto 0 12⟩], needs := [], val := vi .i64 12, upd := [] }⟩
set_option maxRecDepth 100000 in
theorem ctLook_ok : CtOk Tryz.prog 15 ctLook := by
  refine CtOk.mk' (en Tryz.func15 rfl (by decide)) fun β ρ w vs inj bd dom hB hv hm hb hnd => ?_
  obtain ⟨x, y, hx, hy, rfl⟩ := denL_cons.1 (show denL β ρ [.slc 0 0 2 2] = some vs from hv)
  rw [denL_nil.1 hy]
  obtain ⟨n, hn, rfl⟩ := den_slc hx
  obtain ⟨n', us, hn', hus, hcell⟩ := hB 0 _ rfl
  rw [hn] at hn'; simp at hn'; subst hn'
  obtain ⟨x0, y0, hx0, hy0, rfl⟩ := denL_cons.1 (show denL β ρ [vf 0, vf 1, vf 2, vf 3, vf 4, vf 5, vf 6, vf 7, vf 8, vf 9, vf 10, vf 11] = some us from hus)
  obtain ⟨x1, y1, hx1, hy1, rfl⟩ := denL_cons.1 hy0
  obtain ⟨x2, y2, hx2, hy2, rfl⟩ := denL_cons.1 hy1
  obtain ⟨x3, y3, hx3, hy3, rfl⟩ := denL_cons.1 hy2
  obtain ⟨x4, y4, hx4, hy4, rfl⟩ := denL_cons.1 hy3
  obtain ⟨x5, y5, hx5, hy5, rfl⟩ := denL_cons.1 hy4
  obtain ⟨x6, y6, hx6, hy6, rfl⟩ := denL_cons.1 hy5
  obtain ⟨x7, y7, hx7, hy7, rfl⟩ := denL_cons.1 hy6
  obtain ⟨x8, y8, hx8, hy8, rfl⟩ := denL_cons.1 hy7
  obtain ⟨x9, y9, hx9, hy9, rfl⟩ := denL_cons.1 hy8
  obtain ⟨x10, y10, hx10, hy10, rfl⟩ := denL_cons.1 hy9
  obtain ⟨x11, y11, hx11, hy11, rfl⟩ := denL_cons.1 hy10
  rw [denL_nil.1 hy11] at hcell
  obtain ⟨a0, e0, w0, rfl⟩ := den_fl hx0
  obtain ⟨c0, _⟩ := hcell 0 _ rfl
  obtain ⟨a1, e1, w1, rfl⟩ := den_fl hx1
  obtain ⟨c1, _⟩ := hcell 1 _ rfl
  obtain ⟨a2, e2, w2, rfl⟩ := den_fl hx2
  obtain ⟨c2, _⟩ := hcell 2 _ rfl
  obtain ⟨a3, e3, w3, rfl⟩ := den_fl hx3
  obtain ⟨c3, _⟩ := hcell 3 _ rfl
  obtain ⟨a4, e4, w4, rfl⟩ := den_fl hx4
  obtain ⟨c4, _⟩ := hcell 4 _ rfl
  obtain ⟨a5, e5, w5, rfl⟩ := den_fl hx5
  obtain ⟨c5, _⟩ := hcell 5 _ rfl
  obtain ⟨a6, e6, w6, rfl⟩ := den_fl hx6
  obtain ⟨c6, _⟩ := hcell 6 _ rfl
  obtain ⟨a7, e7, w7, rfl⟩ := den_fl hx7
  obtain ⟨c7, _⟩ := hcell 7 _ rfl
  obtain ⟨a8, e8, w8, rfl⟩ := den_fl hx8
  obtain ⟨c8, _⟩ := hcell 8 _ rfl
  obtain ⟨a9, e9, w9, rfl⟩ := den_fl hx9
  obtain ⟨c9, _⟩ := hcell 9 _ rfl
  obtain ⟨a10, e10, w10, rfl⟩ := den_fl hx10
  obtain ⟨c10, _⟩ := hcell 10 _ rfl
  obtain ⟨a11, e11, w11, rfl⟩ := den_fl hx11
  obtain ⟨c11, _⟩ := hcell 11 _ rfl
  have hf : ∀ j, Dy.W (([a0, a1, a2, a3, a4, a5, a6, a7, a8, a9, a10, a11] : List Nat).getD j 0) := fun j => match j with
    | 0 => w0
    | 1 => w1
    | 2 => w2
    | 3 => w3
    | 4 => w4
    | 5 => w5
    | 6 => w6
    | 7 => w7
    | 8 => w8
    | 9 => w9
    | 10 => w10
    | 11 => w11
    | _ + 12 => by show (0 : Nat) < _; decide
  have hc : ∀ j, j < 12 → w.cell? ⟨n, j, none⟩ = some (.float .f64 (([a0, a1, a2, a3, a4, a5, a6, a7, a8, a9, a10, a11] : List Nat).getD j 0)) := fun j h => match j, h with
    | 0, _ => c0
    | 1, _ => c1
    | 2, _ => c2
    | 3, _ => c3
    | 4, _ => c4
    | 5, _ => c5
    | 6, _ => c6
    | 7, _ => c7
    | 8, _ => c8
    | 9, _ => c9
    | 10, _ => c10
    | 11, _ => c11
    | k + 12, h => absurd h (by omega)
  obtain ⟨⟨zs, h1, h2⟩, _⟩ := hb
  have he : evs ρ (upto 0 12) = some [.f a0, .f a1, .f a2, .f a3, .f a4, .f a5, .f a6, .f a7, .f a8, .f a9, .f a10, .f a11] := by
    simp only [upto, evs, e0, e1, e2, e3, e4, e5, e6, e7, e8, e9, e10, e11]
  rw [show evs ρ _ = _ from he] at h1
  simp only [Option.some.injEq] at h1
  subst h1
  have k2 := h2 0 (by decide)
  refine (look_any w n _ hf (bd 0 n hn) hc).mono ?_
  rintro e w' ⟨rfl, hbel⟩
  refine ⟨β, .int .i64 (lookF a0 a1 a2 a3 a4 a5 a6 a7 a8 a9 a10 a11), ⟨hbel.os, hbel.tape, hbel.output, hbel.size, fun m h _ => hbel.block m h, fun _ _ h => (by cases h), rfl⟩, ?_, ?_⟩
  · show den β ρ (.it .i64 (.v 12)) = _
    have k3 : (E.v 12).ev ρ = some (.i (lookF a0 a1 a2 a3 a4 a5 a6 a7 a8 a9 a10 a11)) := k2
    rw [den, k3]
  · rfl
end Go.Proofs.YtikiegcncliocaaGreat
