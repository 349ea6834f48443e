/- Walks: math.Sqrt; burnishlaw01: turned, and the five calls of DirSides. -/
import Derived.Test.YtfjomcbbgnaaiaaKg
import Derived.Test.YtfjomcbbgnaaiaaDh
import Derived.RegionTactic
namespace Go.Proofs.Ytfjomcbbgnaaiaa
open Go.RowKit

theorem run_sqrt_some {x r : Nat} (w : World) (h : Ieee.double.sqrt x = some r) : (callFunc 75 #[.float .f64 x]).run Try.prog w = .ok (.value (.float .f64 r)) w := by
  rw [run_callFunc_extern Try.func75 (by kernel_rfl) (by kernel_rfl) (by kernel_rfl) (e := Extern.MathSqrt.sqrt) (by kernel_rfl)]
  have h' : FloatKind.f64.format.sqrt x = some r := h
  have e : Extern.MathSqrt.sqrt #[.float .f64 x] = (match FloatKind.f64.format.sqrt x with | some r => pure (Value.float .f64 r) | none => do pure (Value.float .f64 (← choose (.nanBits .f64 x x)))) := rfl
  rw [e, h']
  simp
theorem run_sqrt_none {x : Nat} (w : World) (h : Ieee.double.sqrt x = none) : ∃ r, (callFunc 75 #[.float .f64 x]).run Try.prog w = .ok (.value (.float .f64 r)) w.drew := by
  rw [run_callFunc_extern Try.func75 (by kernel_rfl) (by kernel_rfl) (by kernel_rfl) (e := Extern.MathSqrt.sqrt) (by kernel_rfl)]
  have h' : FloatKind.f64.format.sqrt x = none := h
  have e : Extern.MathSqrt.sqrt #[.float .f64 x] = (match FloatKind.f64.format.sqrt x with | some r => pure (Value.float .f64 r) | none => do pure (Value.float .f64 (← choose (.nanBits .f64 x x)))) := rfl
  rw [e, h']
  have hf : (Question.nanBits FloatKind.f64 x x).forced = false := rfl
  exact ⟨_, by simp [hf]; rfl⟩

theorem sqrt_some (x r : Nat) (w : World) (h : Ieee.double.sqrt x = some r) :
    Calls Try.prog 31 #[.float .f64 x] w fun e w' => e = .returned (.float .f64 r) ∧ w = w' := by
  have hs := fun w => run_sqrt_some w h
  clear h
  go_enter Try.func31, Try.ntmps31
  go_wp2
  go_ret
  exact ⟨rfl, rfl⟩
def Drawn (w : World) (e : Ending) (w' : World) : Prop := ∃ r : Nat, e = .returned (.float .f64 r) ∧ w.drew = w'
theorem sqrt_none (x : Nat) (w : World) (h : Ieee.double.sqrt x = none) :
    Calls Try.prog 31 #[.float .f64 x] w (Drawn w) := by
  obtain ⟨r, hs⟩ := run_sqrt_none w h
  clear h
  go_enter Try.func31, Try.ntmps31
  go_wp2
  go_ret
  exact ⟨_, rfl, rfl⟩

theorem turned_any (x : Nat) (w : World) (hx : Dy.W x) (r : Dy.right x = true) :
    Calls Try.prog 37 #[.float .f64 x] w fun e w' => e = .returned (.float .f64 (Dy.minus x)) ∧ w = w' := by
  by_cases h0 : x = 0
  · subst h0
    have e1 : Dy.minus 0 = 0 := rfl
    have hz : Dy.feq 0 0 = true := eq7
    rw [e1]
    clear e1 r hx
    go_enter Try.func37, Try.ntmps37
    go_wp2
    go_ret
    exact ⟨rfl, rfl⟩
  · have hz : Dy.feq x 0 = false := by rw [Dy.feq_right hx r]; exact decide_eq_false h0
    rw [Dy.minus_flip hx r h0]
    clear h0 r hx
    go_enter Try.func37, Try.ntmps37
    go_wp2
    go_ret
    exact ⟨rfl, rfl⟩

theorem side1 (a b : Nat) (up : Bool) (p q : Addr) (w : World) (ha : Dy.W a) (hb : Dy.W b) (hp : w.cell? p = some (.float .f64 a)) (hq : w.cell? q = some (.float .f64 b)) :
    Calls Try.prog 32 #[.bool up, .pointer (some p), .pointer (some q)] w fun e w' => e = .returned (.tuple #[.float .f64 (Dy.dAdd a b up).1, .int .i64 (Dy.dAdd a b up).2]) ∧ Below w.heap.size w w' := by
  have H := hid (fun w => add_any a b up w ha hb)
  generalize Dy.dAdd a b up = r at *
  go_enter Try.func32, Try.ntmps32
  go_wp2_with fail
  refine (H.out _).mono ?_
  rintro e w1 ⟨rfl, h1⟩
  go_wp2
  go_ret2
  exact ⟨rfl, h1⟩
theorem side2 (a b : Nat) (up : Bool) (p q : Addr) (w : World) (ha : Dy.W a) (hb : Dy.W b) (hp : w.cell? p = some (.float .f64 a)) (hq : w.cell? q = some (.float .f64 b)) :
    Calls Try.prog 33 #[.bool up, .pointer (some p), .pointer (some q)] w fun e w' => e = .returned (.tuple #[.float .f64 (Dy.dSub a b up).1, .int .i64 (Dy.dSub a b up).2]) ∧ Below w.heap.size w w' := by
  have H := hid (fun w => sub_any a b up w ha hb)
  generalize Dy.dSub a b up = r at *
  go_enter Try.func33, Try.ntmps33
  go_wp2_with fail
  refine (H.out _).mono ?_
  rintro e w1 ⟨rfl, h1⟩
  go_wp2
  go_ret2
  exact ⟨rfl, h1⟩
theorem side3 (a b : Nat) (up : Bool) (p q : Addr) (w : World) (ha : Dy.W a) (hb : Dy.W b) (hp : w.cell? p = some (.float .f64 a)) (hq : w.cell? q = some (.float .f64 b)) :
    Calls Try.prog 34 #[.bool up, .pointer (some p), .pointer (some q)] w fun e w' => e = .returned (.tuple #[.float .f64 (Dy.dMul a b up).1, .int .i64 (Dy.dMul a b up).2]) ∧ Below w.heap.size w w' := by
  have H := hid (fun w => mul_any a b up w ha hb)
  generalize Dy.dMul a b up = r at *
  go_enter Try.func34, Try.ntmps34
  go_wp2_with fail
  refine (H.out _).mono ?_
  rintro e w1 ⟨rfl, h1⟩
  go_wp2
  go_ret2
  exact ⟨rfl, h1⟩
theorem side4 (a b : Nat) (up : Bool) (p q : Addr) (w : World) (ha : Dy.W a) (hb : Dy.W b) (hp : w.cell? p = some (.float .f64 a)) (hq : w.cell? q = some (.float .f64 b)) :
    Calls Try.prog 35 #[.bool up, .pointer (some p), .pointer (some q)] w fun e w' => e = .returned (.tuple #[.float .f64 (Dy.dDiv a b up).1, .int .i64 (Dy.dDiv a b up).2]) ∧ Below w.heap.size w w' := by
  have H := hid (fun w => div_any a b up w ha hb)
  generalize Dy.dDiv a b up = r at *
  go_enter Try.func35, Try.ntmps35
  go_wp2_with fail
  refine (H.out _).mono ?_
  rintro e w1 ⟨rfl, h1⟩
  go_wp2
  go_ret2
  exact ⟨rfl, h1⟩
theorem side5 (a : Nat) (up : Bool) (p : Addr) (w : World) (ha : Dy.W a) (hp : w.cell? p = some (.float .f64 a)) :
    Calls Try.prog 36 #[.bool up, .pointer (some p)] w fun e w' => e = .returned (.tuple #[.float .f64 (Dy.dSqrt a up).1, .int .i64 (Dy.dSqrt a up).2]) ∧ Below w.heap.size w w' := by
  have H := hid (fun w => sqrt_any a up w ha)
  generalize Dy.dSqrt a up = r at *
  go_enter Try.func36, Try.ntmps36
  go_wp2_with fail
  refine (H.out _).mono ?_
  rintro e w1 ⟨rfl, h1⟩
  go_wp2
  go_ret2
  exact ⟨rfl, h1⟩
end Go.Proofs.Ytfjomcbbgnaaiaa
