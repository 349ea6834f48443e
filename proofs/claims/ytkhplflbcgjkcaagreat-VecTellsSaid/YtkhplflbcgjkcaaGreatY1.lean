/- A reckoning of programs by symbols: values of known shape whose numbers are variables; what each operation makes of them. Definitions. A reckoning of programs by symbols: what an operation makes of symbols is what it does. A reckoning of programs by symbols: what an operation makes of symbols is what it does: structs, rows, places. A reckoning of programs by symbols: calls by contracts. -/
import Derived.Test.YtkhplflbcgjkcaaGreatKj
import Derived.Laws.StructEq
import Derived.ChangeKeysEq
import Derived.Deep.MidRow
import Derived.Great.BuildSlice
namespace Go.Proofs.YtkhplflbcgjkcaaGreat
open Go Go.RowKit
inductive U where
 | f (n : Nat)
 | i (n : Int)
 | b (x : Bool)
 | any (f : Nat → Value)
 | no
instance : Inhabited U := ⟨.no⟩
def U.F : U → Nat
 | .f n => n
 | _ => 0
def U.I : U → Int
 | .i n => n
 | _ => 0
def U.B : U → Bool
 | .b x => x
 | _ => false
inductive E where
 | v (n : Nat)
 | l (u : U)
def E.ev (ρ : List U) : E → Option U
 | .v n => ρ[n]?
 | .l u => some u
def evs (ρ : List U) : List E → Option (List U)
 | [] => some []
 | e :: l => match e.ev ρ, evs ρ l with
  | some u, some us => some (u :: us)
  | _, _ => none
inductive AV where
 | fl (e : E)
 | it (k : IntKind) (e : E)
 | bo (e : E)
 | ptr (b o : Nat)
 | pnil
 | slc (b o len cap : Nat)
 | snil
 | fn (f : Nat) (first capt : List AV)
 | fnil
 | agg (l : List AV)
 | tup (l : List AV)
 | und
 | str (s : ByteArray)
 | val (e : E) (t : Nat)
instance : Inhabited AV := ⟨.und⟩
def W64 : Nat := 18446744073709551616
mutual
def den (β : Nat → Option Nat) (ρ : List U) : AV → Option Value
 | .fl e => match e.ev ρ with
  | some (.f n) => if n < W64 then some (.float .f64 n) else none
  | _ => none
 | .it k e => match e.ev ρ with
  | some (.i n) => some (.int k n)
  | _ => none
 | .bo e => match e.ev ρ with
  | some (.b x) => some (.bool x)
  | _ => none
 | .ptr b o => match β b with
  | some n => some (.pointer (some ⟨n, o, none⟩))
  | none => none
 | .pnil => some (.pointer none)
 | .slc b o len cap => match β b with
  | some n => some (.slice (some ⟨n, o, none⟩) len cap)
  | none => none
 | .snil => some (.slice none 0 0)
 | .fn f a c => match denL β ρ a, denL β ρ c with
  | some x, some y => some (.func (.func f) x.toArray y.toArray)
  | _, _ => none
 | .fnil => some .nilFunc
 | .agg l => match denL β ρ l with
  | some x => some (.agg x.toArray)
  | none => none
 | .tup l => match denL β ρ l with
  | some x => some (.tuple x.toArray)
  | none => none
 | .und => some undef
 | .str s => some (.string s)
 | .val e t => match e.ev ρ with
  | some (.any f) => some (f t)
  | _ => none
def denL (β : Nat → Option Nat) (ρ : List U) : List AV → Option (List Value)
 | [] => some []
 | a :: l => match den β ρ a, denL β ρ l with
  | some x, some y => some (x :: y)
  | _, _ => none
end
def AV.scalar : AV → Bool
 | .agg _ | .tup _ | .und | .val _ _ => false
 | _ => true
def AV.cells : AV → List AV
 | .agg l => l
 | v => [v]
def constS : Value → Option AV
 | .float .f64 n => if n < W64 then some (.fl (.l (.f n))) else none
 | .int k n => some (.it k (.l (.i n)))
 | .bool x => some (.bo (.l (.b x)))
 | .pointer none => some .pnil
 | .slice none 0 0 => some .snil
 | .func (.func f) a c => if a.size == 0 && c.size == 0 then some (.fn f [] []) else none
 | .nilFunc => some .fnil
 | .string s => some (.str s)
 | _ => none
def constL : List Value → Option (List AV)
 | [] => some []
 | v :: l => match constS v, constL l with
  | some x, some y => some (x :: y)
  | _, _ => none
def constAV : Value → Option AV
 | .agg cs => (constL cs.toList).map .agg
 | v => constS v
def AV.isVal : AV → Bool
 | .val _ _ => true
 | _ => false
def opd (tm : List AV) : Operand → Option AV
 | .tmp t => match tm[t]? with
  | some (.val _ _) => none
  | x => x
 | .const v => constAV v
 | .func f => some (.fn f [] [])
 | .global _ => none
def opds (tm : List AV) : List Operand → Option (List AV)
 | [] => some []
 | o :: l => match opd tm o, opds tm l with
  | some x, some y => some (x :: y)
  | _, _ => none
structure Bind where
 f : List U → Nat → U
 m : Nat
 args : List E
structure Need where
 p : List U → Bool
 args : List E
structure Eff where
 binds : List Bind := []
 needs : List Need := []
 val : AV := .und
 upd : List (Nat × List AV) := []
 new : Option (List AV) := none
structure Ct where
 m : Nat
 blks : List (List AV)
 args : List AV
 eff : Eff
abbrev Heap := List (Option (List AV))
section
variable (P : Program)
def tAgg (t : TypeId) : Option Bool := match P.underlying t with
 | some (.struct _) => some true
 | some (.array _ _) => some true
 | some _ => some false
 | none => none
def tSize (t : TypeId) : Option Nat := match P.info? t with
 | some i => some i.size
 | none => none
def tZero (t : TypeId) : Option AV := match P.info? t with
 | some i => match i.zero with
  | some z => constAV z
  | none => none
 | none => none
def partAV (t : TypeId) (cs : List AV) (off : Nat) : Option AV := match tAgg P t with
 | some true => match tSize P t with
  | some n => if off + n ≤ cs.length then some (.agg ((cs.drop off).take n)) else none
  | none => none
 | some false => cs[off]?
 | none => none
def fieldOf (t : TypeId) (f : Nat) : Option Field := match P.underlying t with
 | some (.struct fs) => fs[f]?
 | _ => none
def splice (c : List AV) (o : Nat) (xs : List AV) : List AV := c.take o ++ xs ++ c.drop (o + xs.length)
def litU : E → Option U
 | .l u => some u
 | .v _ => none
def litsU : List E → Option (List U)
 | [] => some []
 | e :: l => match litU e, litsU l with
  | some u, some us => some (u :: us)
  | _, _ => none
def app (nv : Nat) (f : List U → U) (args : List E) : E × List Bind := match litsU args with
 | some us => (.l (f us), [])
 | none => (.v nv, [⟨fun us _ => f us, 1, args⟩])
def evLoad (tm : List AV) (h : Heap) (t : TypeId) (a : Operand) : Option Eff := match opd tm a with
 | some (.ptr b o) => match h[b]? with
  | some (some c) => match partAV P t c o with
   | some v => some { val := v }
   | none => none
  | _ => none
 | _ => none
def evStore (tm : List AV) (h : Heap) (t : TypeId) (a x : Operand) : Option Eff := match opd tm a, opd tm x with
 | some (.ptr b o), some v => match h[b]?, tSize P t with
  | some (some c), some n => if v.cells.length = n ∧ o + n ≤ c.length ∧ v.cells.all AV.scalar = true then some { upd := [(b, splice c o v.cells)] } else none
  | _, _ => none
 | _, _ => none
def okF (o : Option Nat) : Bool := match o with
 | some r => decide (r < W64)
 | none => false
def fB (g : Nat → Nat → Option Nat) (us : List U) : U := .f ((g (us.getD 0 default).F (us.getD 1 default).F).getD 0)
def fN (g : Nat → Nat → Option Nat) (us : List U) : Bool := okF (g (us.getD 0 default).F (us.getD 1 default).F)
def cB (g : Nat → Nat → Bool) (us : List U) : U := .b (g (us.getD 0 default).F (us.getD 1 default).F)
def iB (g : Int → Int → Int) (us : List U) : U := .i (g (us.getD 0 default).I (us.getD 1 default).I)
def jB (g : Int → Int → Bool) (us : List U) : U := .b (g (us.getD 0 default).I (us.getD 1 default).I)
def bB (g : Bool → Bool → Bool) (us : List U) : U := .b (g (us.getD 0 default).B (us.getD 1 default).B)
def iN (us : List U) : Bool := decide ((us.getD 1 default).I ≠ 0)
def floatFn : BinOp → Option (Nat → Nat → Option Nat)
 | .add => some Ieee.double.add
 | .sub => some Ieee.double.sub
 | .mul => some Ieee.double.mul
 | .quo => some Ieee.double.div
 | _ => none
def floatRel : BinOp → Option (Nat → Nat → Bool)
 | .eql => some Dy.feq
 | .neq => some Dy.fne
 | .lss => some Dy.flt
 | .leq => some fun a b => Dy.flt a b || Dy.feq a b
 | .gtr => some Dy.fgt
 | .geq => some fun a b => Dy.fgt a b || Dy.feq a b
 | _ => none
def intFn (k : IntKind) : BinOp → Option (Int → Int → Int)
 | .add => some fun a b => k.wrap (a + b)
 | .sub => some fun a b => k.wrap (a - b)
 | .mul => some fun a b => k.wrap (a * b)
 | .and => some fun a b => k.wrap ((BitVec.ofInt k.bits a &&& BitVec.ofInt k.bits b).toNat : Nat)
 | .or => some fun a b => k.wrap ((BitVec.ofInt k.bits a ||| BitVec.ofInt k.bits b).toNat : Nat)
 | .xor => some fun a b => k.wrap ((BitVec.ofInt k.bits a ^^^ BitVec.ofInt k.bits b).toNat : Nat)
 | .andNot => some fun a b => k.wrap ((BitVec.ofInt k.bits a &&& ~~~(BitVec.ofInt k.bits b)).toNat : Nat)
 | _ => none
def shFn (k : IntKind) : BinOp → Option (Int → Int → Int)
 | .shl => some fun x y => k.wrap (x * 2 ^ (min y.toNat k.bits))
 | .shr => some fun x y => x.fdiv (2 ^ (min y.toNat k.bits))
 | _ => none
def sN (us : List U) : Bool := decide (0 ≤ (us.getD 1 default).I)
def intDv (k : IntKind) : BinOp → Option (Int → Int → Int)
 | .quo => some fun a b => k.wrap (a.tdiv b)
 | .rem => some fun a b => a.tmod b
 | _ => none
def intRel : BinOp → Option (Int → Int → Bool)
 | .eql => some fun a b => a == b
 | .neq => some fun a b => a != b
 | .lss => some fun a b => decide (a < b)
 | .leq => some fun a b => decide (a ≤ b)
 | .gtr => some fun a b => decide (a > b)
 | .geq => some fun a b => decide (a ≥ b)
 | _ => none
def isBoolT (t : TypeId) : Bool := match P.underlying t with
 | some .bool => true
 | _ => false
def isPtrT (t : TypeId) : Bool := match P.underlying t with
 | some (.pointer _) => true
 | _ => false
inductive Kd where
 | f
 | i
 | b
def eqK : Kd → U → U → Bool
 | .f, x, y => Dy.feq x.F y.F
 | .i, x, y => x.I == y.I
 | .b, x, y => x.B == y.B
def eqN : List Kd → List U → Bool
 | [], _ => true
 | k :: ks, x :: y :: us => eqK k x y && eqN ks us
 | _, _ => false
def eqB (ks : List Kd) (us : List U) : U := .b (eqN ks us)
def neB (ks : List Kd) (us : List U) : U := .b (!eqN ks us)
def flat2 : List (Kd × E × E) → List E
 | [] => []
 | (_, x, y) :: l => x :: y :: flat2 l
def eqFs (r : TypeId → AV → AV → Option (List (Kd × E × E))) (xs ys : List AV) : List Field → Option (List (Kd × E × E))
 | [] => some []
 | f :: fs => if f.name ≠ "_" then match partAV P f.type xs f.offset, partAV P f.type ys f.offset with
   | some a, some b => match r f.type a b, eqFs r xs ys fs with
    | some l, some m => some (l ++ m)
    | _, _ => none
   | _, _ => none
  else eqFs r xs ys fs
def eqIs (r : AV → AV → Option (List (Kd × E × E))) (e : TypeId) (n : Nat) (xs ys : List AV) : List Nat → Option (List (Kd × E × E))
 | [] => some []
 | i :: is => match partAV P e xs (i * n), partAV P e ys (i * n) with
   | some a, some b => match r a b, eqIs r e n xs ys is with
    | some l, some m => some (l ++ m)
    | _, _ => none
   | _, _ => none
def eqE : Nat → TypeId → AV → AV → Option (List (Kd × E × E))
 | 0, _, _, _ => none
 | d + 1, t, a, b => match P.underlying t, a, b with
  | some .bool, .bo x, .bo y => some [(.b, x, y)]
  | some (.int _), .it k x, .it k' y => if k = k' then some [(.i, x, y)] else none
  | some (.float _), .fl x, .fl y => some [(.f, x, y)]
  | some (.struct fs), .agg xs, .agg ys => if P.stoodInHeld t = false then eqFs P (eqE d) xs ys fs.toList else none
  | some (.array n e), .agg xs, .agg ys => match tSize P e with
   | some s => eqIs P (eqE d e) e s xs ys (List.range n)
   | none => none
  | _, _, _ => none
def evBin (nv : Nat) (op : BinOp) (t : TypeId) : AV → AV → Option Eff
 | .fl a, .fl b => match floatFn op with
  | some g => some { binds := (app nv (fB g) [a, b]).2, needs := [⟨fN g, [a, b]⟩], val := .fl (app nv (fB g) [a, b]).1 }
  | none => match floatRel op with
   | some g => some { binds := (app nv (cB g) [a, b]).2, val := .bo (app nv (cB g) [a, b]).1 }
   | none => none
 | .it k a, .it k' b => match shFn k op with
  | some g => some { binds := (app nv (iB g) [a, b]).2, needs := [⟨sN, [a, b]⟩], val := .it k (app nv (iB g) [a, b]).1 }
  | none => if k = k' then match intFn k op with
  | some g => some { binds := (app nv (iB g) [a, b]).2, val := .it k (app nv (iB g) [a, b]).1 }
  | none => match intDv k op with
   | some g => some { binds := (app nv (iB g) [a, b]).2, needs := [⟨iN, [a, b]⟩], val := .it k (app nv (iB g) [a, b]).1 }
   | none => match intRel op with
    | some g => some { binds := (app nv (jB g) [a, b]).2, val := .bo (app nv (jB g) [a, b]).1 }
    | none => none
  else none
 | .agg xs, .agg ys => if P.eqGuardType P.depth t = false then match eqE P 10000 t (.agg xs) (.agg ys) with
  | some l => match op with
   | .eql => some { binds := (app nv (eqB (l.map (·.1))) (flat2 l)).2, val := .bo (app nv (eqB (l.map (·.1))) (flat2 l)).1 }
   | .neq => some { binds := (app nv (neB (l.map (·.1))) (flat2 l)).2, val := .bo (app nv (neB (l.map (·.1))) (flat2 l)).1 }
   | _ => none
  | none => none
  else none
 | .bo a, .bo b => if isBoolT P t = true then match op with
  | .eql => some { binds := (app nv (bB fun x y => x == y) [a, b]).2, val := .bo (app nv (bB fun x y => x == y) [a, b]).1 }
  | .neq => some { binds := (app nv (bB fun x y => !(x == y)) [a, b]).2, val := .bo (app nv (bB fun x y => !(x == y)) [a, b]).1 }
  | _ => none
  else none
 | .ptr _ _, .pnil => if isPtrT P t = true then match op with
  | .eql => some { val := .bo (.l (.b false)) }
  | .neq => some { val := .bo (.l (.b true)) }
  | _ => none
  else none
 | .pnil, .pnil => if isPtrT P t = true then match op with
  | .eql => some { val := .bo (.l (.b true)) }
  | .neq => some { val := .bo (.l (.b false)) }
  | _ => none
  else none
 | _, _ => none
def nB (us : List U) : U := .b (!(us.getD 0 default).B)
def mF (us : List U) : U := .f (Op.negFloat .f64 (us.getD 0 default).F)
def mN (us : List U) : Bool := decide (Op.negFloat .f64 (us.getD 0 default).F < W64)
def mI (k : IntKind) (us : List U) : U := .i (k.wrap (0 - (us.getD 0 default).I))
def evUn (nv : Nat) : UnOp → AV → Option Eff
 | .not, .bo a => some { binds := (app nv nB [a]).2, val := .bo (app nv nB [a]).1 }
 | .neg, .fl a => some { binds := (app nv mF [a]).2, needs := [⟨mN, [a]⟩], val := .fl (app nv mF [a]).1 }
 | .neg, .it k a => some { binds := (app nv (mI k) [a]).2, val := .it k (app nv (mI k) [a]).1 }
 | _, _ => none
def wI (k : IntKind) (us : List U) : U := .i (k.wrap (us.getD 0 default).I)
def nF (us : List U) : U := .f (FloatKind.f64.nearest (us.getD 0 default).I)
def nN (us : List U) : Bool := decide (FloatKind.f64.nearest (us.getD 0 default).I < W64)
def evConv (nv : Nat) (src dst : TypeId) : AV → Option Eff
 | .it _ a => match P.underlying src, P.underlying dst with
  | some (.int _), some (.int k) => some { binds := (app nv (wI k) [a]).2, val := .it k (app nv (wI k) [a]).1 }
  | some (.int _), some (.float .f64) => some { binds := (app nv nF [a]).2, needs := [⟨nN, [a]⟩], val := .fl (app nv nF [a]).1 }
  | _, _ => none
 | .fl a => match P.underlying src, P.underlying dst with
  | some (.float .f64), some (.float .f64) => some { val := .fl a }
  | _, _ => none
 | _ => none
def parts (tm : List AV) : List (Nat × Operand) → Option (List (Nat × AV))
 | [] => some []
 | (i, o) :: l => match opd tm o, parts tm l with
  | some x, some y => some ((i, x) :: y)
  | _, _ => none
def fillAV (place : Nat → Option (Nat × Nat)) (cs : List AV) : List (Nat × AV) → Option (List AV)
 | [] => some cs
 | (i, v) :: l => match place i with
  | some (off, size) => if v.cells.length = size ∧ off + size ≤ cs.length ∧ v.isVal = false then fillAV place (splice cs off v.cells) l else none
  | none => none
def places (fs : List Field) : Option (List (Nat × Nat)) := match fs with
 | [] => some []
 | f :: l => match tSize P f.type, places l with
  | some n, some y => some ((f.offset, n) :: y)
  | _, _ => none
def evBuild (tm : List AV) (t : TypeId) (ps : List (Nat × Operand)) : Option Eff := match parts tm ps, tZero P t with
 | some xs, some z => match P.underlying t with
  | some (.struct fs) => match places P fs.toList with
   | some pl => match fillAV (fun i => pl[i]?) z.cells xs with
    | some cs => some { val := .agg cs }
    | none => none
   | none => none
  | some (.array _ e) => match tSize P e with
   | some n => match fillAV (fun i => some (i * n, n)) z.cells xs with
    | some cs => some { val := .agg cs }
    | none => none
   | none => none
  | _ => none
 | _, _ => none
def zeros (z : List AV) (n : Nat) : List AV := (List.range n).map fun i => z.getD (i % z.length) .und
def evSlice (tm : List AV) (nb : Nat) (t : TypeId) (len : Nat) (ps : List (Nat × Operand)) : Option Eff := match P.underlying t with
 | some (.slice e) => match parts tm ps, tSize P e, tZero P e with
  | some xs, some n, some z => if z.cells.length = n ∧ 0 < n ∧ 0 < len ∧ len * n ≤ 16777216 then match fillAV (fun i => some (i * n, n)) (zeros z.cells (len * n)) xs with
   | some cs => if cs.all AV.scalar = true then some { val := .slc nb 0 len len, new := some cs } else none
   | none => none
   else none
  | _, _, _ => none
 | _ => none
def evIxA (tm : List AV) (t : TypeId) (x i : Operand) : Option Eff := match opd tm x, opd tm i with
 | some (.ptr b o), some (.it _ (.l (.i n))) => match P.underlying t with
  | some (.array len e) => match tSize P e with
   | some s => if 0 ≤ n ∧ n < len then some { val := .ptr b (o + n.toNat * s) } else none
   | none => none
  | _ => none
 | some (.slc b o len _), some (.it _ (.l (.i n))) => match P.underlying t with
  | some (.slice e) => match tSize P e with
   | some s => if 0 ≤ n ∧ n < len then some { val := .ptr b (o + n.toNat * s) } else none
   | none => none
  | _ => none
 | _, _ => none
def evIx (tm : List AV) (t : TypeId) (x i : Operand) : Option Eff := match opd tm x, opd tm i with
 | some (.agg cs), some (.it _ (.l (.i n))) => match P.underlying t with
  | some (.array len e) => match tSize P e with
   | some s => if 0 ≤ n ∧ n < len then match partAV P e cs (n.toNat * s) with
    | some v => some { val := v }
    | none => none
    else none
   | none => none
  | _ => none
 | _, _ => none
mutual
def sub (s : List E) (μ : List Nat) : AV → Option AV
 | .fl e => match subE s e with
  | some e => some (.fl e)
  | none => none
 | .it k e => match subE s e with
  | some e => some (.it k e)
  | none => none
 | .bo e => match subE s e with
  | some e => some (.bo e)
  | none => none
 | .ptr b o => match μ[b]? with
  | some n => some (.ptr n o)
  | none => none
 | .pnil => some .pnil
 | .slc b o len cap => match μ[b]? with
  | some n => some (.slc n o len cap)
  | none => none
 | .snil => some .snil
 | .fn f a c => match subL s μ a, subL s μ c with
  | some x, some y => some (.fn f x y)
  | _, _ => none
 | .fnil => some .fnil
 | .agg l => match subL s μ l with
  | some x => some (.agg x)
  | none => none
 | .tup l => match subL s μ l with
  | some x => some (.tup x)
  | none => none
 | .und => some .und
 | .str x => some (.str x)
 | .val e t => match subE s e with
  | some e => some (.val e t)
  | none => none
def subL (s : List E) (μ : List Nat) : List AV → Option (List AV)
 | [] => some []
 | a :: l => match sub s μ a, subL s μ l with
  | some x, some y => some (x :: y)
  | _, _ => none
def subE (s : List E) : E → Option E
 | .v n => s[n]?
 | .l u => some (.l u)
end
structure Met where
 s : List (Nat × E)
 μ : List (Nat × Nat)
mutual
def meet (p v : AV) (m : Met) : Option Met := match p, v with
 | .fl (.v n), .fl e => some { m with s := m.s ++ [(n, e)] }
 | .it k (.v n), .it k' e => if k = k' then some { m with s := m.s ++ [(n, e)] } else none
 | .bo (.v n), .bo e => some { m with s := m.s ++ [(n, e)] }
 | .fl (.l _), .fl _ => some m
 | .it _ (.l _), .it _ _ => some m
 | .bo (.l _), .bo _ => some m
 | .ptr b o, .ptr b' o' => if o = o' then some { m with μ := m.μ ++ [(b, b')] } else none
 | .slc b o _ _, .slc b' o' _ _ => if o = o' then some { m with μ := m.μ ++ [(b, b')] } else none
 | .fn f a c, .fn f' a' c' => if f = f' then match meetL a a' m with
  | some m => meetL c c' m
  | none => none
  else none
 | .agg l, .agg l' => meetL l l' m
 | .tup l, .tup l' => meetL l l' m
 | .pnil, .pnil => some m
 | .snil, .snil => some m
 | .fnil, .fnil => some m
 | _, _ => none
def meetL (p v : List AV) (m : Met) : Option Met := match p, v with
 | [], [] => some m
 | a :: p, b :: v => match meet a b m with
  | some m => meetL p v m
  | none => none
 | _, _ => none
end
def look (l : List (Nat × Nat)) (k : Nat) : Option Nat := match l with
 | [] => none
 | (a, b) :: l => if a = k then some b else look l k
def meetB (h : Heap) : List (List AV) → Nat → Met → Option Met
 | [], _, m => some m
 | c :: cs, k, m => match look m.μ k with
  | some n => match h[n]? with
   | some (some d) => match meetL c d m with
    | some m => meetB h cs (k + 1) m
    | none => none
   | _ => none
  | none => none
def mu (l : List (Nat × Nat)) : Nat → Nat → Option (List Nat)
 | 0, _ => some []
 | n + 1, k => match look l k, mu l n (k + 1) with
  | some x, some y => some (x :: y)
  | _, _ => none
def lookE (l : List (Nat × E)) (k : Nat) : Option E := match l with
 | [] => none
 | (a, b) :: l => if Nat.beq a k = true then some b else lookE l k
def muE (l : List (Nat × E)) : Nat → Nat → Option (List E)
 | 0, _ => some []
 | n + 1, k => match lookE l k, muE l n (k + 1) with
  | some x, some y => some (x :: y)
  | _, _ => none
def U.same : U → U → Bool
 | .f x, .f y => Nat.beq x y
 | .i x, .i y => decide (x = y)
 | .b x, .b y => x == y
 | _, _ => false
def E.same : E → E → Bool
 | .v x, .v y => Nat.beq x y
 | .l x, .l y => x.same y
 | _, _ => false
mutual
def AV.same : AV → AV → Bool
 | .fl a, .fl b => a.same b
 | .it k a, .it k' b => decide (k = k') && a.same b
 | .bo a, .bo b => a.same b
 | .ptr a b, .ptr c d => Nat.beq a c && Nat.beq b d
 | .pnil, .pnil => true
 | .slc a b c d, .slc a' b' c' d' => Nat.beq a a' && Nat.beq b b' && Nat.beq c c' && Nat.beq d d'
 | .snil, .snil => true
 | .fn f a c, .fn f' a' c' => Nat.beq f f' && sameL a a' && sameL c c'
 | .fnil, .fnil => true
 | .agg l, .agg l' => sameL l l'
 | .tup l, .tup l' => sameL l l'
 | .und, .und => true
 | .val a t, .val b t' => a.same b && Nat.beq t t'
 | _, _ => false
def sameL : List AV → List AV → Bool
 | [], [] => true
 | a :: l, b :: m => a.same b && sameL l m
 | _, _ => false
end
def subEs (s : List E) : List E → Option (List E)
 | [] => some []
 | e :: l => match subE s e, subEs s l with
  | some x, some y => some (x :: y)
  | _, _ => none
def news (nv : Nat) : Nat → List E
 | 0 => []
 | m + 1 => .v nv :: news (nv + 1) m
def subBinds (nv : Nat) : List Bind → List E → Option (List Bind × List E)
 | [], s => some ([], s)
 | b :: l, s => match subEs s b.args with
  | some a => match subBinds (nv + b.m) l (s ++ news nv b.m) with
   | some (bs, s') => some ({ b with args := a } :: bs, s')
   | none => none
  | none => none
def subNeeds (s : List E) : List Need → Option (List Need)
 | [] => some []
 | n :: l => match subEs s n.args, subNeeds s l with
  | some a, some y => some ({ n with args := a } :: y)
  | _, _ => none
def subUpd (s : List E) (μ : List Nat) : List (Nat × List AV) → Option (List (Nat × List AV))
 | [] => some []
 | (k, c) :: l => match μ[k]?, subL s μ c, subUpd s μ l with
  | some n, some d, some y => some ((n, d) :: y)
  | _, _, _ => none
def heldB (h : Heap) (s : List E) (μ : List Nat) : List (List AV) → Nat → Bool
 | [], _ => true
 | c :: cs, k => (match μ[k]? with
  | some n => match h[n]?, subL s μ c with
   | some (some d), some c' => sameL c' d
   | _, _ => false
  | none => false) && heldB h s μ cs (k + 1)
def nodupB : List Nat → Bool
 | [] => true
 | n :: l => !l.contains n && nodupB l
def useCt (h : Heap) (nv nb : Nat) (ct : Ct) (args : List AV) : Option Eff :=
 match meetL ct.args args ⟨[], []⟩ with
 | none => none
 | some m => match meetB h ct.blks 0 m with
  | none => none
  | some m => match mu m.μ ct.blks.length 0 with
   | none => none
   | some μ => match muE m.s ct.m 0 with
   | none => none
   | some s0 => match subL s0 μ ct.args with
    | none => none
    | some args' => if sameL args' args = true ∧ s0.length = ct.m ∧ heldB h s0 μ ct.blks 0 = true ∧ nodupB μ = true ∧ (μ.all fun n => decide (n < nb)) = true then
     match subBinds nv ct.eff.binds s0 with
     | none => none
     | some (bs, s) => match subNeeds s ct.eff.needs, sub s (μ ++ [nb]) ct.eff.val, subUpd s (μ ++ [nb]) ct.eff.upd, (match ct.eff.new with | none => some none | some c => (subL s (μ ++ [nb]) c).map some) with
      | some ns, some v, some up, some nw => some { binds := bs, needs := ns, val := v, upd := up, new := nw }
      | _, _, _, _ => none
     else none
def useCts (h : Heap) (nv nb f : Nat) (args : List AV) : List (Nat × Ct) → Option Eff
 | [] => none
 | (g, ct) :: l => if Nat.beq f g = true then match useCt h nv nb ct args with
  | some e => some e
  | none => useCts h nv nb f args l
  else useCts h nv nb f args l
def rN (us : List U) : Bool := Dy.right (us.getD 0 default).F && Dy.right (us.getD 1 default).F
def gB (g : Nat → Nat → Nat) (us : List U) : U := .f (g (us.getD 0 default).F (us.getD 1 default).F)
def rN3 (us : List U) : Bool := Dy.right (us.getD 0 default).F && Dy.right (us.getD 1 default).F && Dy.right (us.getD 2 default).F
def gB3 (g : Nat → Nat → Nat) (us : List U) : U := .f (g (g (us.getD 0 default).F (us.getD 1 default).F) (us.getD 2 default).F)
def iMn (a b : Int) : Int := if b < a then b else a
def iMx (a b : Int) : Int := if a < b then b else a
def lenT (ts : Array TypeId) : Bool := match ts.toList with
 | [t] => match P.underlying t with
  | some (.slice _) => true
  | _ => false
 | _ => false
def evCall (cts : List (Nat × Ct)) (tm : List AV) (h : Heap) (nv nb : Nat) (c : Call) : Option Eff := match c.callee with
 | .builtin .len => if lenT P c.argTypes = true then match opds tm c.args.toList with
  | some [.slc _ _ len _] => some { val := .it .i64 (.l (.i len)) }
  | some [.snil] => some { val := .it .i64 (.l (.i 0)) }
  | _ => none
  else none
 | .builtin .min => match opds tm c.args.toList with
  | some [.fl a, .fl b] => some { binds := (app nv (gB Dy.dmin) [a, b]).2, needs := [⟨rN, [a, b]⟩], val := .fl (app nv (gB Dy.dmin) [a, b]).1 }
  | some [.it k a, .it _ b] => some { binds := (app nv (iB iMn) [a, b]).2, val := .it k (app nv (iB iMn) [a, b]).1 }
  | _ => none
 | .builtin .max => match opds tm c.args.toList with
  | some [.fl a, .fl b] => some { binds := (app nv (gB Dy.dmax) [a, b]).2, needs := [⟨rN, [a, b]⟩], val := .fl (app nv (gB Dy.dmax) [a, b]).1 }
  | some [.it k a, .it _ b] => some { binds := (app nv (iB iMx) [a, b]).2, val := .it k (app nv (iB iMx) [a, b]).1 }
  | some [.fl a, .fl b, .fl d] => some { binds := (app nv (gB3 Dy.dmax) [a, b, d]).2, needs := [⟨rN3, [a, b, d]⟩], val := .fl (app nv (gB3 Dy.dmax) [a, b, d]).1 }
  | _ => none
 | .value f => match opd tm f, opds tm c.args.toList with
  | some (.fn g a k), some xs => useCts h nv nb g (a ++ xs ++ k) cts
  | _, _ => none
 | _ => none
def evOp (cts : List (Nat × Ct)) (tm : List AV) (h : Heap) (nv nb : Nat) (o : Oper) : Option Eff := match o.op with
 | .move x | .assign x => match opd tm x with
  | some v => some { val := v }
  | none => none
 | .pick c a b => match opd tm c with
  | some (.bo (.l (.b x))) => match opd tm (if x then a else b) with
   | some v => some { val := v }
   | none => none
  | _ => none
 | .alloc t => match tZero P t with
  | some z => if z.cells.all AV.scalar = true then some { val := .ptr nb 0, new := some z.cells } else none
  | none => none
 | .box _ x => match opd tm x with
  | some v => if v.cells.all AV.scalar = true then some { val := .ptr nb 0, new := some v.cells } else none
  | none => none
 | .build t ps => evBuild P tm t ps.toList
 | .buildSlice t len ps => evSlice P tm nb t len ps.toList
 | .load t a => evLoad P tm h t a
 | .store t a x => evStore P tm h t a x
 | .nilCheck x => match opd tm x with
  | some (.ptr b o) => some { val := .ptr b o }
  | some (.fn f a c) => some { val := .fn f a c }
  | _ => none
 | .binOp op t x y _ => match opd tm x, opd tm y with
  | some a, some b => evBin P nv op t a b
  | _, _ => none
 | .unOp op _ x => match opd tm x with
  | some a => evUn nv op a
  | none => none
 | .convert s d x => match opd tm x with
  | some a => evConv P nv s d a
  | none => none
 | .makeFunc (.func f) a c => match opds tm a.toList, opds tm c.toList with
  | some x, some y => some { val := .fn f x y }
  | _, _ => none
 | .fieldAddr t x f => match opd tm x, fieldOf P t f with
  | some (.ptr b o), some fd => match tSize P fd.type with
   | some n => if 0 < n then some { val := .ptr b (o + fd.offset) } else none
   | none => none
  | _, _ => none
 | .field t x f => match opd tm x, fieldOf P t f with
  | some (.agg cs), some fd => match partAV P fd.type cs fd.offset with
   | some v => some { val := v }
   | none => none
  | _, _ => none
 | .indexAddr t x i => evIxA P tm t x i
 | .index t x i => evIx P tm t x i
 | .extract x i => match opd tm x with
  | some (.tup vs) => match vs[i]? with
   | some v => some { val := v }
   | none => none
  | _ => none
 | .slice t x none none none => match opd tm x with
  | some (.ptr b o) => match P.underlying t with
   | some (.array len e) => match tSize P e with
    | some _ => some { val := .slc b o len len }
    | none => none
   | _ => none
  | _ => none
 | .call c => evCall P cts tm h nv nb c
 | _ => none
end
end Go.Proofs.YtkhplflbcgjkcaaGreat
namespace Go.Proofs.YtkhplflbcgjkcaaGreat
open Go Go.RowKit
abbrev Blocks := Nat → Option Nat
structure More (β β' : Blocks) (ρ ρ' : List U) : Prop where
 b : ∀ (k n : Nat), β k = some n → β' k = some n
 r : ∀ (k : Nat) (u : U), ρ[k]? = some u → ρ'[k]? = some u
theorem More.refl (β : Blocks) (ρ : List U) : More β β ρ ρ := ⟨fun _ _ h => h, fun _ _ h => h⟩
theorem More.trans {β β' β'' : Blocks} {ρ ρ' ρ'' : List U} (h : More β β' ρ ρ') (k : More β' β'' ρ' ρ'') : More β β'' ρ ρ'' := ⟨fun _ _ x => k.b _ _ (h.b _ _ x), fun _ _ x => k.r _ _ (h.r _ _ x)⟩
section
variable {β β' : Blocks} {ρ ρ' : List U}
theorem E.ev_more (M : More β β' ρ ρ') {e : E} {u : U} (h : e.ev ρ = some u) : e.ev ρ' = some u := by
 cases e with
 | v n => exact M.r _ _ h
 | l u => exact h
theorem evs_more (M : More β β' ρ ρ') : ∀ {l : List E} {us : List U}, evs ρ l = some us → evs ρ' l = some us
 | [], _, h => h
 | e :: l, us, h => by
  unfold evs at h ⊢
  cases h1 : e.ev ρ with
  | none => simp [h1] at h
  | some u =>
   cases h2 : evs ρ l with
   | none => simp [h1, h2] at h
   | some vs => rw [E.ev_more M h1, evs_more M h2]; simpa [h1, h2] using h
mutual
theorem den_more (M : More β β' ρ ρ') : ∀ (a : AV) {v : Value}, den β ρ a = some v → den β' ρ' a = some v
 | .fl e, v, h => by
  unfold den at h ⊢
  cases h1 : e.ev ρ with
  | none => simp [h1] at h
  | some u => rw [E.ev_more M h1]; simpa [h1] using h
 | .it k e, v, h => by
  unfold den at h ⊢
  cases h1 : e.ev ρ with
  | none => simp [h1] at h
  | some u => rw [E.ev_more M h1]; simpa [h1] using h
 | .bo e, v, h => by
  unfold den at h ⊢
  cases h1 : e.ev ρ with
  | none => simp [h1] at h
  | some u => rw [E.ev_more M h1]; simpa [h1] using h
 | .ptr b o, v, h => by
  unfold den at h ⊢
  cases h1 : β b with
  | none => simp [h1] at h
  | some n => rw [M.b _ _ h1]; simpa [h1] using h
 | .pnil, v, h => h
 | .slc b o len cap, v, h => by
  unfold den at h ⊢
  cases h1 : β b with
  | none => simp [h1] at h
  | some n => rw [M.b _ _ h1]; simpa [h1] using h
 | .snil, v, h => h
 | .fn f a c, v, h => by
  unfold den at h ⊢
  cases h1 : denL β ρ a with
  | none => simp [h1] at h
  | some x =>
   cases h2 : denL β ρ c with
   | none => simp [h1, h2] at h
   | some y => rw [denL_more M a h1, denL_more M c h2]; simpa [h1, h2] using h
 | .fnil, v, h => h
 | .agg l, v, h => by
  unfold den at h ⊢
  cases h1 : denL β ρ l with
  | none => simp [h1] at h
  | some x => rw [denL_more M l h1]; simpa [h1] using h
 | .tup l, v, h => by
  unfold den at h ⊢
  cases h1 : denL β ρ l with
  | none => simp [h1] at h
  | some x => rw [denL_more M l h1]; simpa [h1] using h
 | .und, v, h => h
 | .str s, v, h => h
 | .val e t, v, h => by
  unfold den at h ⊢
  cases h1 : e.ev ρ with
  | none => simp [h1] at h
  | some u => rw [E.ev_more M h1]; simpa [h1] using h
theorem denL_more (M : More β β' ρ ρ') : ∀ (l : List AV) {vs : List Value}, denL β ρ l = some vs → denL β' ρ' l = some vs
 | [], vs, h => h
 | a :: l, vs, h => by
  unfold denL at h ⊢
  cases h1 : den β ρ a with
  | none => simp [h1] at h
  | some x =>
   cases h2 : denL β ρ l with
   | none => simp [h1, h2] at h
   | some y => rw [den_more M a h1, denL_more M l h2]; simpa [h1, h2] using h
end
theorem denL_cons {a : AV} {l : List AV} {vs : List Value} : denL β ρ (a :: l) = some vs ↔ ∃ x y, den β ρ a = some x ∧ denL β ρ l = some y ∧ vs = x :: y := by
 rw [denL]
 cases den β ρ a <;> cases denL β ρ l <;> simp [eq_comm]
theorem denL_nil {vs : List Value} : denL β ρ [] = some vs ↔ vs = [] := by rw [denL]; simp [eq_comm]
theorem denL_len : ∀ {l : List AV} {vs : List Value}, denL β ρ l = some vs → vs.length = l.length
 | [], vs, h => by rw [denL_nil.1 h]; rfl
 | a :: l, vs, h => by
  obtain ⟨x, y, _, h2, rfl⟩ := denL_cons.1 h
  simp [denL_len h2]
theorem denL_get : ∀ {l : List AV} {vs : List Value} {i : Nat} {a : AV}, denL β ρ l = some vs → l[i]? = some a → ∃ x, den β ρ a = some x ∧ vs[i]? = some x
 | b :: l, vs, 0, a, h, hi => by
  obtain ⟨x, y, h1, _, rfl⟩ := denL_cons.1 h
  simp at hi; subst hi
  exact ⟨x, h1, rfl⟩
 | b :: l, vs, i + 1, a, h, hi => by
  obtain ⟨x, y, _, h2, rfl⟩ := denL_cons.1 h
  simpa using denL_get h2 (by simpa using hi)
theorem denL_append : ∀ {l m : List AV} {vs ws : List Value}, denL β ρ l = some vs → denL β ρ m = some ws → denL β ρ (l ++ m) = some (vs ++ ws)
 | [], m, vs, ws, h, k => by rw [denL_nil.1 h]; exact k
 | a :: l, m, vs, ws, h, k => by
  obtain ⟨x, y, h1, h2, rfl⟩ := denL_cons.1 h
  exact denL_cons.2 ⟨x, y ++ ws, h1, denL_append h2 k, rfl⟩
theorem denL_take : ∀ {l : List AV} {vs : List Value} (n : Nat), denL β ρ l = some vs → denL β ρ (l.take n) = some (vs.take n)
 | _, vs, 0, _ => by simp [denL]
 | [], vs, n + 1, h => by rw [denL_nil.1 h]; rfl
 | a :: l, vs, n + 1, h => by
  obtain ⟨x, y, h1, h2, rfl⟩ := denL_cons.1 h
  exact denL_cons.2 ⟨x, y.take n, h1, denL_take n h2, rfl⟩
theorem denL_drop : ∀ {l : List AV} {vs : List Value} (n : Nat), denL β ρ l = some vs → denL β ρ (l.drop n) = some (vs.drop n)
 | _, vs, 0, h => h
 | [], vs, n + 1, h => by rw [denL_nil.1 h]; rfl
 | a :: l, vs, n + 1, h => by
  obtain ⟨x, y, h1, h2, rfl⟩ := denL_cons.1 h
  exact denL_drop n h2
theorem den_one {a : AV} {v : Value} (h : den β ρ a = some v) (hs : a.scalar = true) : v.oneCell' = true := by
 cases a <;> simp [AV.scalar] at hs <;> unfold den at h <;> (repeat' split at h) <;> simp at h <;> subst h <;> rfl
theorem den_cells {a : AV} {v : Value} (h : den β ρ a = some v) (hn : a.isVal = false := by rfl) : denL β ρ a.cells = some v.cells.toList := by
 cases a with
 | agg l =>
  unfold den at h
  cases h1 : denL β ρ l with
  | none => simp [h1] at h
  | some x => simp [h1] at h; subst h; simpa [AV.cells, Value.cells] using h1
 | tup l =>
  have h' := h
  unfold den at h
  cases h1 : denL β ρ l with
  | none => simp [h1] at h
  | some x => simp [h1] at h; subst h; exact denL_cons.2 ⟨_, [], h', rfl, rfl⟩
 | und =>
  have h' := h
  unfold den at h
  simp at h; subst h
  exact denL_cons.2 ⟨_, [], h', rfl, rfl⟩
 | val e t => simp [AV.isVal] at hn
 | _ =>
  have h1 := den_one h rfl
  have h2 : v.cells.toList = [v] := by cases v <;> first | rfl | (simp [Value.oneCell'] at h1)
  rw [h2]
  exact denL_cons.2 ⟨v, [], h, rfl, rfl⟩
theorem denL_one : ∀ {l : List AV} {vs : List Value}, denL β ρ l = some vs → l.all AV.scalar = true → ∀ v ∈ vs, v.oneCell' = true
 | [], vs, h, _, v, hv => by rw [denL_nil.1 h] at hv; cases hv
 | a :: l, vs, h, hs, v, hv => by
  obtain ⟨x, y, h1, h2, rfl⟩ := denL_cons.1 h
  simp only [List.all_cons, Bool.and_eq_true] at hs
  rcases List.mem_cons.1 hv with rfl | hv
  ·exact den_one h1 hs.1
  ·exact denL_one h2 hs.2 v hv
theorem constS_den {v : Value} {a : AV} (h : constS v = some a) : den β ρ a = some v := by
 unfold constS at h
 split at h
 ·split at h
  ·rename_i n hn; simp at h; subst h; simp [den, E.ev, hn]
  ·simp at h
 all_goals first
  | (simp at h; subst h; simp [den, E.ev]; done)
  | (rename_i f a c
     split at h
     ·rename_i hn
      simp at h; subst h
      simp only [Bool.and_eq_true, beq_iff_eq] at hn
      have h1 : a = #[] := Array.size_eq_zero_iff.1 hn.1
      have h2 : c = #[] := Array.size_eq_zero_iff.1 hn.2
      subst h1 h2
      simp [den, denL]
     ·simp at h)
  | (simp at h)
theorem constL_den : ∀ {l : List Value} {xs : List AV}, constL l = some xs → denL β ρ xs = some l
 | [], xs, h => by unfold constL at h; simp at h; subst h; rfl
 | v :: l, xs, h => by
  unfold constL at h
  cases h1 : constS v with
  | none => simp [h1] at h
  | some x =>
   cases h2 : constL l with
   | none => simp [h1, h2] at h
   | some y => simp [h1, h2] at h; subst h; exact denL_cons.2 ⟨v, l, constS_den h1, constL_den h2, rfl⟩
theorem constAV_den {v : Value} {a : AV} (h : constAV v = some a) : den β ρ a = some v := by
 unfold constAV at h
 split at h
 ·rename_i cs
  cases h1 : constL cs.toList with
  | none => simp [h1] at h
  | some x => simp [h1] at h; subst h; unfold den; rw [constL_den h1]
 ·exact constS_den h
theorem constS_val {v : Value} {a : AV} (h : constS v = some a) : a.isVal = false := by
 unfold constS at h
 split at h
 ·split at h
  ·simp at h; subst h; rfl
  ·simp at h
 all_goals first
  | (simp at h; subst h; rfl)
  | (split at h; · simp at h; subst h; rfl
     ·simp at h)
  | simp at h
theorem constAV_val {v : Value} {a : AV} (h : constAV v = some a) : a.isVal = false := by
 unfold constAV at h
 split at h
 ·rename_i cs
  cases h1 : constL cs.toList with
  | none => simp [h1] at h
  | some x => simp [h1] at h; subst h; rfl
 ·exact constS_val h
theorem opd_tmp {tm : List AV} {t : Nat} {v : AV} (h : opd tm (.tmp t) = some v) : tm[t]? = some v ∧ v.isVal = false := by
 unfold opd at h
 dsimp only at h
 split at h
 ·simp at h
 ·rename_i hne
  refine ⟨h, ?_⟩
  cases v with
  | val e k => exact absurd h (fun h => hne _ _ h)
  | _ => rfl
theorem opd_val {tm : List AV} {o : Operand} {v : AV} (h : opd tm o = some v) : v.isVal = false := by
 cases o with
 | tmp t => exact (opd_tmp h).2
 | const c => exact constAV_val h
 | global g => simp [opd] at h
 | func f => simp [opd] at h; subst h; rfl
def Ops (β : Blocks) (ρ : List U) (tm : List AV) (a : Act) (l : List Operand) : Prop := ∀ t, Operand.tmp t ∈ l → ∀ v, tm[t]? = some v → den β ρ v = some (a.tmps.getD t undef)
theorem opd_den {tm : List AV} {a : Act} {l : List Operand} (hT : Ops β ρ tm a l) {x : Operand} (hx : x ∈ l) {v : AV} (h : opd tm x = some v) : den β ρ v = some (a.eval x) := by
 cases x with
 | tmp t => exact hT t hx v (opd_tmp h).1
 | const c => exact constAV_den h
 | global g => simp [opd] at h
 | func f => simp [opd] at h; subst h; simp [den, denL, Act.eval]
theorem opds_den {tm : List AV} {a : Act} {l : List Operand} (hT : Ops β ρ tm a l) : ∀ {xs : List Operand} {vs : List AV}, (∀ x ∈ xs, x ∈ l) → opds tm xs = some vs → denL β ρ vs = some (xs.map a.eval)
 | [], vs, _, h => by unfold opds at h; simp at h; subst h; rfl
 | x :: xs, vs, hx, h => by
  unfold opds at h
  cases h1 : opd tm x with
  | none => simp [h1] at h
  | some y =>
   cases h2 : opds tm xs with
   | none => simp [h1, h2] at h
   | some z =>
    simp [h1, h2] at h; subst h
    exact denL_cons.2 ⟨_, _, opd_den hT (hx x (by simp)) h1, opds_den hT (fun y hy => hx y (by simp [hy])) h2, rfl⟩
def CellsAt (n : Nat) (vs : List Value) (w : World) : Prop := ∀ j v, vs[j]? = some v → w.cell? ⟨n, j, none⟩ = some v ∧ w.frozen? ⟨n, j, none⟩ = false
structure Rel (β : Blocks) (ρ : List U) (h : Heap) (w : World) : Prop where
 cells : ∀ k c, h[k]? = some (some c) → ∃ n vs, β k = some n ∧ denL β ρ c = some vs ∧ CellsAt n vs w
 inj : ∀ k l n, β k = some n → β l = some n → k = l
 bd : ∀ k n, β k = some n → n < w.heap.size
def extB (β : Blocks) (nb n : Nat) : Blocks := fun k => if k = nb then some n else β k
def NewAs (β β' : Blocks) (ρ : List U) (nb : Nat) (w w' : World) : Option (List AV) → Prop
 | none => β' = β
 | some c => ∃ n vs, w.heap.size ≤ n ∧ n < w'.heap.size ∧ β' = extB β nb n ∧ denL β' ρ c = some vs ∧ CellsAt n vs w'
structure Post (β β' : Blocks) (ρ : List U) (nb : Nat) (e : Eff) (w w' : World) : Prop where
 os : w'.os = w.os
 tape : w'.tape = w.tape
 output : w'.output = w.output
 size : w.heap.size ≤ w'.heap.size
 old : ∀ n, n < w.heap.size → (∀ k c, (k, c) ∈ e.upd → β k ≠ some n) → w'.heap[n]? = w.heap[n]?
 upd : ∀ k c, (k, c) ∈ e.upd → ∃ n vs, β k = some n ∧ denL β' ρ c = some vs ∧ CellsAt n vs w'
 new : NewAs β β' ρ nb w w' e.new
theorem Post.same {nb : Nat} {e : Eff} {w : World} (h1 : e.upd = []) (h2 : e.new = none) : Post β β ρ nb e w w :=
 ⟨rfl, rfl, rfl, Nat.le_refl _, fun _ _ _ => rfl, fun k c h => (by rw [h1] at h; cases h), by rw [h2]; rfl⟩
def BindsAt (ρ : List U) (nv : Nat) : List Bind → Prop
 | [] => True
 | b :: l => (∃ us, evs ρ b.args = some us ∧ ∀ i, i < b.m → ρ[nv + i]? = some (b.f us i)) ∧ BindsAt ρ (nv + b.m) l
def NeedsAt (ρ : List U) (l : List Need) : Prop := ∀ n ∈ l, ∃ us, evs ρ n.args = some us ∧ n.p us = true
def Does (P : Program) (o : Oper) (a : Act) (w : World) (β : Blocks) (ρ : List U) (nb : Nat) (e : Eff) : Prop :=
 ∀ (K : Act → World → Prop) (Q : Exit → Act → World → Prop), (∀ β' w' v, Post β β' ρ nb e w w' → den β' ρ e.val = some v → K (a.put o.dst v) w') → o.wp P a w K Q
theorem Does.value {P : Program} {o : Oper} {a : Act} {w : World} {nb : Nat} {e : Eff} {v : Value} (hr : (execOp a.eval o).run P w = .ok (.value v) w) (hv : den β ρ e.val = some v) (h1 : e.upd = []) (h2 : e.new = none) : Does P o a w β ρ nb e := by
 intro K Q hK
 unfold Oper.wp
 rw [hr]
 exact hK β w v (Post.same h1 h2) hv
theorem litU_ev {e : E} {u : U} (h : litU e = some u) : e.ev ρ = some u := by
 cases e with
 | v n => simp [litU] at h
 | l x => simpa [litU, E.ev] using h
theorem litsU_evs : ∀ {l : List E} {us : List U}, litsU l = some us → evs ρ l = some us
 | [], us, h => h
 | e :: l, us, h => by
  unfold litsU at h
  unfold evs
  cases h1 : litU e with
  | none => simp [h1] at h
  | some u =>
   cases h2 : litsU l with
   | none => simp [h1, h2] at h
   | some x => rw [litU_ev h1, litsU_evs h2]; simpa [h1, h2] using h
theorem app_ev {nv : Nat} {f : List U → U} {args : List E} {us : List U} (he : evs ρ args = some us) (hb : BindsAt ρ nv (app nv f args).2) : (app nv f args).1.ev ρ = some (f us) := by
 unfold app at hb ⊢
 cases h : litsU args with
 | some vs =>
  have := litsU_evs (ρ := ρ) h
  rw [he] at this
  simp at this; subst this
  simp [E.ev]
 | none =>
  rw [h] at hb
  obtain ⟨⟨vs, h1, h2⟩, _⟩ := hb
  rw [he] at h1
  simp at h1; subst h1
  simpa [E.ev] using h2 0 (Nat.lt_succ_self _)
theorem den_fl {e : E} {v : Value} (h : den β ρ (.fl e) = some v) : ∃ n, e.ev ρ = some (.f n) ∧ n < W64 ∧ v = .float .f64 n := by
 unfold den at h
 split at h
 ·rename_i n hn
  split at h
  ·rename_i hw; simp at h; exact ⟨n, hn, hw, h.symm⟩
  ·simp at h
 ·simp at h
theorem den_it {k : IntKind} {e : E} {v : Value} (h : den β ρ (.it k e) = some v) : ∃ n, e.ev ρ = some (.i n) ∧ v = .int k n := by
 unfold den at h
 split at h
 ·rename_i n hn; simp at h; exact ⟨n, hn, h.symm⟩
 ·simp at h
theorem den_bo {e : E} {v : Value} (h : den β ρ (.bo e) = some v) : ∃ x, e.ev ρ = some (.b x) ∧ v = .bool x := by
 unfold den at h
 split at h
 ·rename_i n hn; simp at h; exact ⟨n, hn, h.symm⟩
 ·simp at h
theorem den_ptr {b o : Nat} {v : Value} (h : den β ρ (.ptr b o) = some v) : ∃ n, β b = some n ∧ v = .pointer (some ⟨n, o, none⟩) := by
 unfold den at h
 split at h
 ·rename_i n hn; simp at h; exact ⟨n, hn, h.symm⟩
 ·simp at h
theorem den_slc {b o l c : Nat} {v : Value} (h : den β ρ (.slc b o l c) = some v) : ∃ n, β b = some n ∧ v = .slice (some ⟨n, o, none⟩) l c := by
 unfold den at h
 split at h
 ·rename_i n hn; simp at h; exact ⟨n, hn, h.symm⟩
 ·simp at h
theorem den_agg {l : List AV} {v : Value} (h : den β ρ (.agg l) = some v) : ∃ x, denL β ρ l = some x ∧ v = .agg x.toArray := by
 unfold den at h
 split at h
 ·rename_i n hn; simp at h; exact ⟨n, hn, h.symm⟩
 ·simp at h
theorem den_tup {l : List AV} {v : Value} (h : den β ρ (.tup l) = some v) : ∃ x, denL β ρ l = some x ∧ v = .tuple x.toArray := by
 unfold den at h
 split at h
 ·rename_i n hn; simp at h; exact ⟨n, hn, h.symm⟩
 ·simp at h
theorem den_fn {f : Nat} {a c : List AV} {v : Value} (h : den β ρ (.fn f a c) = some v) : ∃ x y, denL β ρ a = some x ∧ denL β ρ c = some y ∧ v = .func (.func f) x.toArray y.toArray := by
 unfold den at h
 split at h
 ·rename_i x y h1 h2; simp at h; exact ⟨x, y, h1, h2, h.symm⟩
 ·simp at h
theorem fl_den {e : E} {n : Nat} (h : e.ev ρ = some (.f n)) (hw : n < W64) : den β ρ (.fl e) = some (.float .f64 n) := by
 unfold den; rw [h]; simp [hw]
theorem it_den {k : IntKind} {e : E} {n : Int} (h : e.ev ρ = some (.i n)) : den β ρ (.it k e) = some (.int k n) := by
 unfold den; rw [h]
theorem bo_den {e : E} {x : Bool} (h : e.ev ρ = some (.b x)) : den β ρ (.bo e) = some (.bool x) := by
 unfold den; rw [h]
theorem evs1 {a : E} {u : U} (h : a.ev ρ = some u) : evs ρ [a] = some [u] := by simp [evs, h]
theorem evs3 {a b c : E} {u v x : U} (h : a.ev ρ = some u) (k : b.ev ρ = some v) (l : c.ev ρ = some x) : evs ρ [a, b, c] = some [u, v, x] := by simp [evs, h, k, l]
theorem evs2 {a b : E} {u v : U} (h : a.ev ρ = some u) (k : b.ev ρ = some v) : evs ρ [a, b] = some [u, v] := by simp [evs, h, k]
theorem need1 {ns : List Need} {p : List U → Bool} {args : List E} {us : List U} (hn : NeedsAt ρ ns) (h : ⟨p, args⟩ ∈ ns) (he : evs ρ args = some us) : p us = true := by
 obtain ⟨vs, h1, h2⟩ := hn _ h
 rw [he] at h1
 simp at h1; subst h1
 exact h2
theorem okF_of {o : Option Nat} (h : okF o = true) : ∃ r, o = some r ∧ r < W64 := by
 unfold okF at h
 split at h
 ·rename_i r; exact ⟨r, rfl, by simpa using h⟩
 ·simp at h
variable {P : Program}
theorem run_size {t : TypeId} {n : Nat} (h : tSize P t = some n) (w : World) : (sizeOf t).run P w = .ok n w := by
 unfold tSize at h
 split at h
 ·rename_i i hi; simp at h; subst h; simp [sizeOf, typeInfo, hi]
 ·simp at h
theorem size_info {t : TypeId} {n : Nat} (h : tSize P t = some n) : (P.info? t).map (·.size) = some n := by
 unfold tSize at h
 split at h
 ·rename_i i hi; simp at h; subst h; rw [hi]; rfl
 ·simp at h
theorem run_zero {t : TypeId} {z : AV} (h : tZero P t = some z) (w : World) : ∃ v, (zeroValue t).run P w = .ok v w ∧ ∀ β ρ, den β ρ z = some v := by
 unfold tZero at h
 split at h
 ·rename_i i hi
  split at h
  ·rename_i v hv; exact ⟨v, by simp [zeroValue, typeInfo, hi, hv], fun β ρ => constAV_den h⟩
  ·simp at h
 ·simp at h
theorem agg_desc {t : TypeId} (h : tAgg P t = some true) : ∃ d, P.underlying t = some d ∧ d.isRow = true := by
 unfold tAgg at h
 split at h
 ·rename_i f hf; exact ⟨_, hf, rfl⟩
 ·rename_i n e hf; exact ⟨_, hf, rfl⟩
 ·simp at h
 ·simp at h
theorem run_agg {t : TypeId} {b : Bool} (h : tAgg P t = some b) (w : World) : (isAgg t).run P w = .ok b w := by
 unfold tAgg at h
 unfold isAgg
 split at h
 ·rename_i f hf; simp at h; subst h; rw [Sem.run_bind, run_underlying hf w]; rfl
 ·rename_i n e hf; simp at h; subst h; rw [Sem.run_bind, run_underlying hf w]; rfl
 ·rename_i d h1 h2 hd
  simp at h; subst h; rw [Sem.run_bind, run_underlying hd w]
  cases d <;> first | rfl | (exact absurd rfl (h1 _)) | (exact absurd rfl (h2 _ _))
 ·simp at h
theorem run_part {t : TypeId} {cs : List AV} {off : Nat} {v : AV} (h : partAV P t cs off = some v) {xs : List Value} (hx : denL β ρ cs = some xs) (w : World) : ∃ u, (part t xs.toArray off).run P w = .ok u w ∧ den β ρ v = some u := by
 unfold partAV at h
 split at h
 ·rename_i ha
  split at h
  ·rename_i n hn
   split at h
   ·simp at h; subst h
    refine ⟨.agg ((xs.drop off).take n).toArray, ?_, ?_⟩
    ·simp only [part, Sem.run_bind, run_agg ha, Result.andThen_ok, if_true, run_size hn, Sem.run_pure]
     congr 2
     apply Array.ext'
     simp
    ·unfold den; rw [denL_take n (denL_drop off hx)]
   ·simp at h
  ·simp at h
 ·rename_i ha
  obtain ⟨u, h1, h2⟩ := denL_get hx h
  refine ⟨u, ?_, h1⟩
  simp [part, run_agg ha, h2]
 ·simp at h
end
section
variable {β : Blocks} {ρ : List U} {P : Program} {tm : List AV} {h : Heap} {a : Act} {w : World} {nb nv : Nat} {o : Oper} {e : Eff}
theorem ok_load {t : TypeId} {x : Operand} (ho : o.op = .load t x) (he : evLoad P tm h t x = some e) (hT : Ops β ρ tm a [x]) (hR : Rel β ρ h w) : Does P o a w β ρ nb e := by
 unfold evLoad at he
 split at he
 ·rename_i b off hx
  split at he
  ·rename_i c hc
   split at he
   ·rename_i v hv
    simp at he; subst he
    obtain ⟨n, h1, h2⟩ := den_ptr (opd_den hT (by simp) hx)
    obtain ⟨m, vs, h3, h4, h5⟩ := hR.cells b c hc
    rw [h1] at h3; simp at h3; subst h3
    have hx' : a.eval x = .pointer (some ⟨n, off, none⟩) := h2
    unfold partAV at hv
    split at hv
    ·rename_i ha
     split at hv
     ·rename_i k hk
      split at hv
      ·rename_i hle
       simp at hv; subst hv
       obtain ⟨d, hd1, hd2⟩ := agg_desc ha
       have hl := denL_len h4
       have hrun := run_loadAt_mid (P := P) w n off t ((vs.drop off).take k) d (fun j u hj => by
        have : vs[off + j]? = some u := by
         rw [List.getElem?_take] at hj
         split at hj
         ·rwa [List.getElem?_drop] at hj
         ·simp at hj
        exact (h5 _ _ this).1) hd1 hd2 (by rw [size_info hk]; congr 1; simp; omega)
       refine Does.value (v := .agg ((vs.drop off).take k).toArray) ?_ ?_ rfl rfl
       ·unfold execOp; rw [ho]; simp only [hx', Sem.run_bind, hrun, Result.andThen_ok, Sem.run_pure]
       ·unfold den; rw [denL_take k (denL_drop off h4)]
      ·simp at hv
     ·simp at hv
    ·rename_i ha
     obtain ⟨u, h6, h7⟩ := denL_get h4 hv
     refine Does.value (v := u) ?_ h6 rfl rfl
     unfold execOp; rw [ho]
     simp [hx', Instr.loadAt, Instr.sureAddr, loadVar, run_agg ha, (h5 _ _ h7).1]
    ·simp at hv
   ·simp at he
  ·simp at he
 ·simp at he
theorem splice_get {c : List Value} {o : Nat} {xs : List Value} (h : o + xs.length ≤ c.length) (j : Nat) : (c.take o ++ xs ++ c.drop (o + xs.length))[j]? = if o ≤ j ∧ j < o + xs.length then xs[j - o]? else c[j]? := by
 have e1 : (c.take o).length = o := by simp; omega
 have e2 : (c.take o ++ xs).length = o + xs.length := by simp; omega
 rcases Nat.lt_or_ge j (o + xs.length) with h1 | h1
 ·rw [List.getElem?_append_left (by omega)]
  rcases Nat.lt_or_ge j o with h2 | h2
  ·rw [List.getElem?_append_left (by omega), if_neg (by omega), List.getElem?_take_of_lt h2]
  ·rw [List.getElem?_append_right (by omega), if_pos ⟨h2, h1⟩, e1]
 ·rw [List.getElem?_append_right (by omega), if_neg (by omega), e2, List.getElem?_drop]
  congr 1; omega
theorem denL_splice {c xs : List AV} {vs ys : List Value} {off : Nat} (hc : denL β ρ c = some vs) (hx : denL β ρ xs = some ys) : denL β ρ (splice c off xs) = some (vs.take off ++ ys ++ vs.drop (off + ys.length)) := by
 unfold splice
 rw [← denL_len hx]
 exact denL_append (denL_append (denL_take off hc) hx) (denL_drop _ hc)
theorem heap_setCells (n : Nat) : ∀ (vs : List Value) (o : Nat) (w : World) (k : Nat), k ≠ n → (w.setCells n o vs).heap[k]? = w.heap[k]?
 | [], _, _, _, _ => rfl
 | v :: r, o, w, k, hk => by rw [World.setCells, heap_setCells n r (o + 1) _ k hk, Below.heap_setCell _ _ _ _ (by simpa using hk)]
theorem size_setCells (n : Nat) : ∀ (vs : List Value) (o : Nat) (w : World), (w.setCells n o vs).heap.size = w.heap.size
 | [], _, _ => rfl
 | v :: r, o, w => by rw [World.setCells, size_setCells n r (o + 1)]; simp [World.setCell]
theorem world_setCells (n : Nat) : ∀ (vs : List Value) (o : Nat) (w : World), (w.setCells n o vs).os = w.os ∧ (w.setCells n o vs).tape = w.tape ∧ (w.setCells n o vs).output = w.output
 | [], _, _ => ⟨rfl, rfl, rfl⟩
 | v :: r, o, w => by
  rw [World.setCells]
  obtain ⟨h1, h2, h3⟩ := world_setCells n r (o + 1) (w.setCell ⟨n, o, none⟩ v)
  exact ⟨h1, h2, h3⟩
theorem ok_store {t : TypeId} {x y : Operand} (ho : o.op = .store t x y) (he : evStore P tm h t x y = some e) (hT : Ops β ρ tm a [x, y]) (hR : Rel β ρ h w) : Does P o a w β ρ nb e := by
 unfold evStore at he
 split at he
 ·rename_i b off v hx hy
  split at he
  ·rename_i c n hc hn
   split at he
   ·rename_i hcond
    obtain ⟨c1, c2, c3⟩ := hcond
    simp at he; subst he
    obtain ⟨m, h1, h2⟩ := den_ptr (opd_den hT (by simp) hx)
    obtain ⟨m', vs, h3, h4, h5⟩ := hR.cells b c hc
    rw [h1] at h3; simp at h3; subst h3
    have hv := opd_den hT (by simp) hy
    have hcs := den_cells hv (opd_val hy)
    have hlen := denL_len hcs
    have hvl := denL_len h4
    have hone := denL_one hcs c3
    have ht : w.there m off (a.eval y).cells.size := fun j hj => by
     have hj' : off + j < vs.length := by simp at hlen; omega
     obtain ⟨h6, h7⟩ := h5 (off + j) _ (List.getElem?_eq_getElem hj')
     exact ⟨by rw [h6]; rfl, h7⟩
    have hrun := run_storeVar_mid (P := P) w m off t (a.eval y).cells ht (by rw [size_info hn]; simp at hlen; congr 1; omega) (Array.all_eq_true_iff_forall_mem.2 (fun u hu => hone u (by simpa using hu)))
    have hst : (storeVar t ⟨m, off, none⟩ (a.eval y)).run P w = .ok () (w.setCells m off (a.eval y).cells.toList) := by
     have : storeVar t ⟨m, off, none⟩ (a.eval y) = storeVar t ⟨m, off, none⟩ (.agg (a.eval y).cells) := by unfold storeVar; rfl
     rw [this]; exact hrun
    intro K Q hK
    unfold Oper.wp execOp
    rw [ho]
    simp only [h2, Instr.storeAt, Instr.sureAddr, Sem.run_bind, Sem.run_pure, Result.andThen_ok, hst]
    have hsp := denL_splice (off := off) h4 hcs
    refine hK β _ undef ⟨(world_setCells _ _ _ _).1, (world_setCells _ _ _ _).2.1, (world_setCells _ _ _ _).2.2, by rw [size_setCells]; exact Nat.le_refl _, fun k _ hk2 => heap_setCells _ _ _ _ _ (fun e => hk2 b (splice c off v.cells) (by simp) (by rw [e]; exact h1)), fun k d hkd => ?_, rfl⟩ rfl
    simp at hkd
    obtain ⟨rfl, rfl⟩ := hkd
    refine ⟨m, _, h1, hsp, fun j u hj => ?_⟩
    have hle : off + (a.eval y).cells.toList.length ≤ vs.length := by omega
    rw [splice_get hle] at hj
    split at hj
    ·rename_i hin
     refine ⟨?_, ?_⟩
     ·have := World.cell?_setCells_in m (a.eval y).cells.toList off w (fun i hi => (ht i (by simpa using hi)).1) (j - off) (by omega)
      rw [show off + (j - off) = j by omega] at this
      rw [this, ← hj, List.getElem?_eq_getElem]
     ·rw [World.frozen?_setCells]
      have hj' : j < vs.length := by omega
      exact (h5 j _ (List.getElem?_eq_getElem hj')).2
    ·rename_i hout
     obtain ⟨h6, h7⟩ := h5 j u hj
     refine ⟨?_, by rw [World.frozen?_setCells]; exact h7⟩
     rw [World.cell?_setCells_out m _ off w _ (fun _ _ => by dsimp only; omega)]
     exact h6
   ·simp at he
  ·simp at he
 ·simp at he
theorem cellsAt_new (w : World) (cs : List Value) (t : TypeId) : CellsAt w.heap.size cs (w.alloc (.cells cs.toArray t)) := fun j v hj => by
 have hb : (w.alloc (.cells cs.toArray t)).heap[w.heap.size]? = some (.cells cs.toArray t) := by
  show (w.heap.push _)[w.heap.size]? = _
  simp
 refine ⟨?_, ?_⟩
 ·unfold World.cell?; dsimp only; rw [hb]; simpa using hj
 ·unfold World.frozen?; dsimp only; rw [hb]; simp
theorem Does.alloc {cs : List AV} {xs : List Value} {t : TypeId} (v : Value) (hr : (execOp a.eval o).run P w = .ok (.value v) (w.alloc (.cells xs.toArray t))) (hx : denL β ρ cs = some xs) (hnb : β nb = none)
  (h1 : e.upd = []) (h2 : e.new = some cs) (hv : den (extB β nb w.heap.size) ρ e.val = some v) : Does P o a w β ρ nb e := by
 intro K Q hK
 unfold Oper.wp
 rw [hr]
 have M : More β (extB β nb w.heap.size) ρ ρ := ⟨fun k n hk => by unfold extB; split; rename_i hq; subst hq; rw [hnb] at hk; cases hk; exact hk, fun _ _ h => h⟩
 refine hK (extB β nb w.heap.size) _ v ⟨rfl, rfl, rfl, by simp, fun n hn _ => Below.heap_alloc _ _ _ hn, fun k c hk => (by rw [h1] at hk; cases hk), ?_⟩ hv
 rw [h2]
 exact ⟨w.heap.size, xs, Nat.le_refl _, by simp, rfl, denL_more M _ hx, cellsAt_new w xs t⟩
theorem extB_same (β : Blocks) (nb n : Nat) : extB β nb n nb = some n := if_pos rfl
theorem tZero_val {t : TypeId} {z : AV} (h : tZero P t = some z) : z.isVal = false := by
 unfold tZero at h
 split at h
 ·split at h
  ·exact constAV_val h
  ·simp at h
 ·simp at h
theorem ok_alloc {t : TypeId} (ho : o.op = .alloc t) {z : AV} (hz : tZero P t = some z) (he : e = { val := .ptr nb 0, new := some z.cells }) (hnb : β nb = none) : Does P o a w β ρ nb e := by
 subst he
 obtain ⟨v, h1, h2⟩ := run_zero hz w
 refine Does.alloc (xs := v.cells.toList) (t := t) (cs := z.cells) (.pointer (some ⟨w.heap.size, 0, none⟩)) ?_ (den_cells (h2 β ρ) (tZero_val hz)) hnb rfl rfl ?_
 ·unfold execOp; rw [ho]
  simp [Instr.alloc, h1, newVar, newRow]
 ·unfold den; rw [extB_same]
theorem ok_box {t : TypeId} {x : Operand} (ho : o.op = .box t x) {v : AV} (hx : opd tm x = some v) (he : e = { val := .ptr nb 0, new := some v.cells }) (hT : Ops β ρ tm a [x]) (hnb : β nb = none) : Does P o a w β ρ nb e := by
 subst he
 refine Does.alloc (xs := (a.eval x).cells.toList) (t := t) (cs := v.cells) (.pointer (some ⟨w.heap.size, 0, none⟩)) ?_ (den_cells (opd_den hT (by simp) hx) (opd_val hx)) hnb rfl rfl ?_
 ·unfold execOp; rw [ho]
  simp [Instr.box, newVar, newRow]
 ·unfold den; rw [extB_same]
theorem run_bin {op : BinOp} {t : TypeId} {x y : Operand} {yt : TypeId} (ho : o.op = .binOp op t x y yt) {v : Value} (hg : (eqGuard op t x y (a.eval x) (a.eval y)).run P w = .ok () w) (hr : (binOp op t (a.eval x) (a.eval y)).run P w = .ok v w) :
  (execOp a.eval o).run P w = .ok (.value v) w := by
 unfold execOp; rw [ho]
 simp [hg, hr]
theorem guard_ok {op : BinOp} {t : TypeId} {x y : Operand} {u v : Value} (h : u.oneCell' = true) (k : u ≠ .nilIface) : (eqGuard op t x y u v).run P w = .ok () w := by
 cases u <;> first
  | (exact absurd rfl k)
  | (simp [Value.oneCell'] at h; done)
  | (cases op <;> rfl)
theorem float_fn {op : BinOp} {g : Nat → Nat → Option Nat} (hg : floatFn op = some g) {x y r : Nat} (hr : g x y = some r) (t : TypeId) : (binOp op t (.float .f64 x) (.float .f64 y)).run P w = .ok (.float .f64 r) w := by
 cases op <;> simp [floatFn] at hg <;> subst hg <;> simp [binOp, Op.floatArith, FloatKind.format, hr]
theorem float_rel {op : BinOp} {g : Nat → Nat → Bool} (hg : floatRel op = some g) (x y : Nat) (t : TypeId) : (binOp op t (.float .f64 x) (.float .f64 y)).run P w = .ok (.bool (g x y)) w := by
 cases op <;> simp [floatRel] at hg <;> subst hg <;> simp [binOp, Op.floatCmp, FloatKind.format, Dy.feq, Dy.fne, Dy.flt, Dy.fgt]
theorem int_fn {k : IntKind} {op : BinOp} {g : Int → Int → Int} (hg : intFn k op = some g) (x y : Int) (t : TypeId) : (binOp op t (.int k x) (.int k y)).run P w = .ok (.int k (g x y)) w := by
 cases op <;> simp [intFn] at hg <;> subst hg <;> simp [binOp, Op.intArith, Op.intBits]
theorem sh_fn {k k' : IntKind} {op : BinOp} {g : Int → Int → Int} (hg : shFn k op = some g) (x y : Int) (hy : 0 ≤ y) (t : TypeId) : (binOp op t (.int k x) (.int k' y)).run P w = .ok (.int k (g x y)) w := by
 have h : ¬ y < 0 := by omega
 cases op <;> simp [shFn] at hg <;> subst hg <;> simp [binOp, Op.shift, h]
theorem int_dv {k : IntKind} {op : BinOp} {g : Int → Int → Int} (hg : intDv k op = some g) (x y : Int) (hy : y ≠ 0) (t : TypeId) : (binOp op t (.int k x) (.int k y)).run P w = .ok (.int k (g x y)) w := by
 cases op <;> simp [intDv] at hg <;> subst hg <;> simp [binOp, Op.intDiv, hy]
theorem int_rel {k : IntKind} {op : BinOp} {g : Int → Int → Bool} (hg : intRel op = some g) (x y : Int) (t : TypeId) : (binOp op t (.int k x) (.int k y)).run P w = .ok (.bool (g x y)) w := by
 cases op <;> simp [intRel] at hg <;> subst hg <;> simp [binOp, Op.intCmp]
theorem isBool_run {t : TypeId} (h : isBoolT P t = true) : P.underlying t = some .bool := by
 unfold isBoolT at h; split at h
 ·assumption
 ·simp at h
theorem isPtr_run {t : TypeId} (h : isPtrT P t = true) : ∃ e, P.underlying t = some (.pointer e) := by
 unfold isPtrT at h; split at h
 ·rename_i e he; exact ⟨e, he⟩
 ·simp at h
theorem bool_equalIn {t : TypeId} (h : isBoolT P t = true) (x y : Bool) (d : Nat) : (Op.equalIn (d + 1) t (.bool x) (.bool y)).run P w = .ok (x == y) w := by
 have hu := isBool_run h
 simp [Op.equalIn, run_underlying hu w]
theorem bool_equal {t : TypeId} (h : isBoolT P t = true) (x y : Bool) : (Op.equal t (.bool x) (.bool y)).run P w = .ok (x == y) w := bool_equalIn h x y 9999
theorem ptr_equalIn {t : TypeId} (h : isPtrT P t = true) (x : Addr) (d : Nat) : (Op.equalIn (d + 1) t (.pointer (some x)) (.pointer none)).run P w = .ok false w ∧ (Op.equalIn (d + 1) t (.pointer none) (.pointer none)).run P w = .ok true w := by
 obtain ⟨e, hu⟩ := isPtr_run h
 exact ⟨by simp [Op.equalIn, run_underlying hu w], by simp [Op.equalIn, run_underlying hu w]⟩
theorem ptr_equal {t : TypeId} (h : isPtrT P t = true) (x : Addr) : (Op.equal t (.pointer (some x)) (.pointer none)).run P w = .ok false w ∧ (Op.equal t (.pointer none) (.pointer none)).run P w = .ok true w := ptr_equalIn h x 9999
theorem evs_app {ρ : List U} : ∀ {l m : List E} {us vs : List U}, evs ρ l = some us → evs ρ m = some vs → evs ρ (l ++ m) = some (us ++ vs)
 | [], m, us, vs, h, k => by unfold evs at h; simp at h; subst h; exact k
 | e :: l, m, us, vs, h, k => by
  unfold evs at h
  split at h
  ·rename_i x xs h1 h2; simp at h; subst h
   show evs ρ (e :: (l ++ m)) = _
   unfold evs
   rw [h1, evs_app h2 k]; rfl
  ·simp at h
theorem flat2_app : ∀ (l m : List (Kd × E × E)), flat2 (l ++ m) = flat2 l ++ flat2 m
 | [], _ => rfl
 | (_, _, _) :: l, m => by show _ :: _ :: flat2 (l ++ m) = _; rw [flat2_app l m]; rfl
theorem eqN_app : ∀ (l : List (Kd × E × E)) {m : List Kd} {us vs : List U}, evs ρ (flat2 l) = some us → eqN (l.map (·.1) ++ m) (us ++ vs) = (eqN (l.map (·.1)) us && eqN m vs)
 | [], m, us, vs, h => by unfold flat2 evs at h; simp at h; subst h; simp [eqN]
 | (k, x, y) :: l, m, us, vs, h => by
  have h' : evs ρ (x :: y :: flat2 l) = some us := h
  unfold evs at h'
  split at h'
  ·rename_i u us1 h1 h2
   simp at h'; subst h'
   unfold evs at h2
   split at h2
   ·rename_i v us2 h3 h4
    simp at h2; subst h2
    show (eqK k u v && eqN (l.map (·.1) ++ m) (us2 ++ vs)) = ((eqK k u v && eqN (l.map (·.1)) us2) && eqN m vs)
    rw [eqN_app l h4, Bool.and_assoc]
   ·simp at h2
  ·simp at h'
theorem eqFs_ok {d : Nat} {r : TypeId → AV → AV → Option (List (Kd × E × E))} (hr : ∀ (t : TypeId) (a b : AV) (l : List (Kd × E × E)) (u v : Value), r t a b = some l → den β ρ a = some u → den β ρ b = some v → ∀ w, ∃ us, evs ρ (flat2 l) = some us ∧ (Op.equalIn d t u v).run P w = .ok (eqN (l.map (·.1)) us) w)
  {xs ys : List AV} {us vs : List Value} (hx : denL β ρ xs = some us) (hy : denL β ρ ys = some vs) : ∀ {fs : List Field} {l : List (Kd × E × E)}, eqFs P r xs ys fs = some l → ∀ w, ∃ ns, evs ρ (flat2 l) = some ns ∧ (Op.eqFields d us.toArray vs.toArray fs).run P w = .ok (eqN (l.map (·.1)) ns) w
 | [], l, h, w => by unfold eqFs at h; simp at h; subst h; exact ⟨[], rfl, rfl⟩
 | f :: fs, l, h, w => by
  unfold eqFs at h
  split at h
  ·rename_i hn
   split at h
   ·rename_i a b ha hb
    split at h
    ·rename_i l1 l2 h1 h2
     simp at h; subst h
     obtain ⟨u, u1, u2⟩ := run_part ha hx w
     obtain ⟨v, v1, v2⟩ := run_part hb hy w
     obtain ⟨n1, e1, e2⟩ := hr f.type a b l1 u v h1 u2 v2 w
     obtain ⟨n2, g1, g2⟩ := eqFs_ok hr hx hy h2 w
     refine ⟨n1 ++ n2, by rw [flat2_app]; exact evs_app e1 g1, ?_⟩
     rw [List.map_append, eqN_app l1 e1]
     unfold Op.eqFields
     rw [if_pos hn]
     simp only [Sem.run_bind, u1, v1, e2, Result.andThen_ok]
     cases eqN (l1.map (·.1)) n1
     ·simp
     ·simp [g2]
    ·simp at h
   ·simp at h
  ·rename_i hn
   obtain ⟨n2, g1, g2⟩ := eqFs_ok hr hx hy h w
   refine ⟨n2, g1, ?_⟩
   unfold Op.eqFields
   rw [if_neg hn]
   exact g2
theorem eqIs_ok {d : Nat} {e : TypeId} {r : AV → AV → Option (List (Kd × E × E))} (hr : ∀ (a b : AV) (l : List (Kd × E × E)) (u v : Value), r a b = some l → den β ρ a = some u → den β ρ b = some v → ∀ w, ∃ us, evs ρ (flat2 l) = some us ∧ (Op.equalIn d e u v).run P w = .ok (eqN (l.map (·.1)) us) w)
  {n : Nat} {xs ys : List AV} {us vs : List Value} (hx : denL β ρ xs = some us) (hy : denL β ρ ys = some vs) : ∀ {is : List Nat} {l : List (Kd × E × E)}, eqIs P r e n xs ys is = some l → ∀ w, ∃ ns, evs ρ (flat2 l) = some ns ∧ (Op.eqItems d e n us.toArray vs.toArray is).run P w = .ok (eqN (l.map (·.1)) ns) w
 | [], l, h, w => by unfold eqIs at h; simp at h; subst h; exact ⟨[], rfl, rfl⟩
 | i :: is, l, h, w => by
  unfold eqIs at h
  split at h
  ·rename_i a b ha hb
   split at h
   ·rename_i l1 l2 h1 h2
    simp at h; subst h
    obtain ⟨u, u1, u2⟩ := run_part ha hx w
    obtain ⟨v, v1, v2⟩ := run_part hb hy w
    obtain ⟨n1, e1, e2⟩ := hr a b l1 u v h1 u2 v2 w
    obtain ⟨n2, g1, g2⟩ := eqIs_ok hr hx hy h2 w
    refine ⟨n1 ++ n2, by rw [flat2_app]; exact evs_app e1 g1, ?_⟩
    rw [List.map_append, eqN_app l1 e1]
    unfold Op.eqItems
    simp only [Sem.run_bind, u1, v1, e2, Result.andThen_ok]
    cases eqN (l1.map (·.1)) n1
    ·simp
    ·simp [g2]
   ·simp at h
  ·simp at h
theorem eqE_ok : ∀ {d : Nat} {t : TypeId} {a b : AV} {l : List (Kd × E × E)} {u v : Value}, eqE P d t a b = some l → den β ρ a = some u → den β ρ b = some v → ∀ w, ∃ us, evs ρ (flat2 l) = some us ∧ (Op.equalIn d t u v).run P w = .ok (eqN (l.map (·.1)) us) w
 | 0, _, _, _, _, _, _, h, _, _, _ => by simp [eqE] at h
 | d + 1, t, a, b, l, u, v, h, ha, hb, w => by
  unfold eqE at h
  split at h
  ·rename_i x y hu
   simp at h; subst h
   obtain ⟨m, em, rfl⟩ := den_bo ha
   obtain ⟨n, en, rfl⟩ := den_bo hb
   exact ⟨_, evs2 em en, by rw [run_equalIn_bool' w d t m n hu]; simp [eqN, eqK, U.B]⟩
  ·rename_i k0 k x k' y hu
   split at h
   ·rename_i hk
    subst hk
    simp at h; subst h
    obtain ⟨m, em, rfl⟩ := den_it ha
    obtain ⟨n, en, rfl⟩ := den_it hb
    exact ⟨_, evs2 em en, by rw [run_equalIn_int w d t k k0 m n hu]; simp [eqN, eqK, U.I]⟩
   ·simp at h
  ·rename_i k0 x y hu
   simp at h; subst h
   obtain ⟨m, em, _, rfl⟩ := den_fl ha
   obtain ⟨n, en, _, rfl⟩ := den_fl hb
   refine ⟨_, evs2 em en, ?_⟩
   unfold Op.equalIn
   simp only [Sem.run_bind, run_underlying hu, Result.andThen_ok]
   simp [eqN, eqK, U.F, Op.floatEq, Dy.feq, FloatKind.format]
  ·rename_i fs xs ys hu
   split at h
   ·rename_i hst
    obtain ⟨xs', h1, rfl⟩ := den_agg ha
    obtain ⟨ys', h2, rfl⟩ := den_agg hb
    have hf : P.fieldsOf t = fs := by unfold Program.fieldsOf; rw [hu]
    obtain ⟨ns, e1, e2⟩ := eqFs_ok (d := d) (fun t a b l u v hr h3 h4 w => eqE_ok hr h3 h4 w) h1 h2 h w
    exact ⟨ns, e1, by rw [run_equalIn_struct w d t _ _ (by rw [hf]; exact hu) hst, hf]; exact e2⟩
   ·simp at h
  ·rename_i n e xs ys hu
   split at h
   ·rename_i s hs
    obtain ⟨xs', h1, rfl⟩ := den_agg ha
    obtain ⟨ys', h2, rfl⟩ := den_agg hb
    have hsz := size_info hs
    cases hi : P.info? e with
    | none => rw [hi] at hsz; simp at hsz
    | some ti =>
     have hce : P.cellsOf e = s := by unfold Program.cellsOf; rw [hi] at hsz ⊢; simpa using hsz
     obtain ⟨ns, e1, e2⟩ := eqIs_ok (d := d) (e := e) (fun a b l u v hr h3 h4 w => eqE_ok hr h3 h4 w) h1 h2 h w
     exact ⟨ns, e1, by rw [run_equalIn_array w d _ _ hu hi, hce]; exact e2⟩
   ·simp at h
  ·simp at h
theorem ok_bin {op : BinOp} {t : TypeId} {x y : Operand} {yt : TypeId} (ho : o.op = .binOp op t x y yt) {u v : AV} (hx : opd tm x = some u) (hy : opd tm y = some v) (he : evBin P nv op t u v = some e) (hT : Ops β ρ tm a [x, y]) (hb : BindsAt ρ nv e.binds) (hn : NeedsAt ρ e.needs) : Does P o a w β ρ nb e := by
 have dx := opd_den hT (by simp) hx
 have dy := opd_den hT (by simp) hy
 unfold evBin at he
 split at he
 ·rename_i p q
  obtain ⟨m, em, wm, vm⟩ := den_fl dx
  obtain ⟨n, en, wn, vn⟩ := den_fl dy
  have e2 := evs2 em en
  split at he
  ·rename_i g hg
   simp at he; subst he
   obtain ⟨r, hr, hw⟩ := okF_of (need1 hn (List.mem_singleton.2 rfl) e2)
   refine Does.value (v := .float .f64 r) (run_bin ho (by rw [vm, vn]; exact guard_ok rfl (by simp)) (by rw [vm, vn]; exact float_fn hg hr t)) ?_ rfl rfl
   refine fl_den ?_ hw
   have e3 := app_ev e2 hb
   rw [e3]
   simp [fB, U.F] at hr ⊢
   rw [hr]; rfl
  ·split at he
   ·rename_i g hg
    simp at he; subst he
    refine Does.value (v := .bool (g m n)) (run_bin ho (by rw [vm, vn]; exact guard_ok rfl (by simp)) (by rw [vm, vn]; exact float_rel hg m n t)) ?_ rfl rfl
    exact bo_den (app_ev e2 hb)
   ·simp at he
 ·rename_i k p k' q
  split at he
  ·rename_i g hg
   obtain ⟨m, em, vm⟩ := den_it dx
   obtain ⟨n, en, vn⟩ := den_it dy
   have e2 := evs2 em en
   have hgd : (eqGuard op t x y (a.eval x) (a.eval y)).run P w = .ok () w := by rw [vm, vn]; exact guard_ok rfl (by simp)
   simp at he; subst he
   have hz := of_decide_eq_true (need1 hn (List.mem_singleton.2 rfl) e2)
   refine Does.value (v := .int k (g m n)) (run_bin ho hgd (by rw [vm, vn]; exact sh_fn hg m n hz t)) ?_ rfl rfl
   exact it_den (app_ev e2 hb)
  split at he
  ·rename_i hk
   subst hk
   obtain ⟨m, em, vm⟩ := den_it dx
   obtain ⟨n, en, vn⟩ := den_it dy
   have e2 := evs2 em en
   have hgd : (eqGuard op t x y (a.eval x) (a.eval y)).run P w = .ok () w := by rw [vm, vn]; exact guard_ok rfl (by simp)
   split at he
   ·rename_i g hg
    simp at he; subst he
    refine Does.value (v := .int k (g m n)) (run_bin ho hgd (by rw [vm, vn]; exact int_fn hg m n t)) ?_ rfl rfl
    exact it_den (app_ev e2 hb)
   ·split at he
    ·rename_i g hg
     simp at he; subst he
     have hz := of_decide_eq_true (need1 hn (List.mem_singleton.2 rfl) e2)
     refine Does.value (v := .int k (g m n)) (run_bin ho hgd (by rw [vm, vn]; exact int_dv hg m n hz t)) ?_ rfl rfl
     exact it_den (app_ev e2 hb)
    ·split at he
     ·rename_i g hg
      simp at he; subst he
      refine Does.value (v := .bool (g m n)) (run_bin ho hgd (by rw [vm, vn]; exact int_rel hg m n t)) ?_ rfl rfl
      exact bo_den (app_ev e2 hb)
     ·simp at he
  ·simp at he
 ·rename_i xs ys
  split at he
  ·rename_i hgt
   split at he
   ·rename_i l hl
    obtain ⟨us, h1, h2⟩ := eqE_ok hl dx dy w
    obtain ⟨xs', _, vm⟩ := den_agg dx
    obtain ⟨ys', _, vn⟩ := den_agg dy
    have hgd : (eqGuard op t x y (a.eval x) (a.eval y)).run P w = .ok () w := by rw [vm, vn]; exact run_eqGuard_agg w op t x y _ _ hgt
    rw [vm, vn] at h2
    split at he
    ·simp at he; subst he
     refine Does.value (v := .bool (eqN (l.map (·.1)) us)) (run_bin ho hgd (by rw [vm, vn, run_eql_struct, h2]; rfl)) ?_ rfl rfl
     exact bo_den (app_ev h1 hb)
    ·simp at he; subst he
     refine Does.value (v := .bool (!eqN (l.map (·.1)) us)) (run_bin ho hgd (by rw [vm, vn, run_neq_struct, h2]; rfl)) ?_ rfl rfl
     exact bo_den (app_ev h1 hb)
    ·simp at he
   ·simp at he
  ·simp at he
 ·rename_i p q
  split at he
  ·rename_i ht
   obtain ⟨m, em, vm⟩ := den_bo dx
   obtain ⟨n, en, vn⟩ := den_bo dy
   have e2 := evs2 em en
   have hgd : (eqGuard op t x y (a.eval x) (a.eval y)).run P w = .ok () w := by rw [vm, vn]; exact guard_ok rfl (by simp)
   split at he
   ·simp at he; subst he
    refine Does.value (v := .bool (m == n)) (run_bin ho hgd (by rw [vm, vn]; simp [binOp, bool_equal ht])) ?_ rfl rfl
    exact bo_den (app_ev e2 hb)
   ·simp at he; subst he
    refine Does.value (v := .bool (!(m == n))) (run_bin ho hgd (by rw [vm, vn]; simp [binOp, bool_equal ht])) ?_ rfl rfl
    exact bo_den (app_ev e2 hb)
   ·simp at he
  ·simp at he
 ·rename_i b1 o1
  split at he
  ·rename_i ht
   obtain ⟨m, em, vm⟩ := den_ptr dx
   have vn : a.eval y = .pointer none := by unfold den at dy; simpa using dy.symm
   have hgd : (eqGuard op t x y (a.eval x) (a.eval y)).run P w = .ok () w := by rw [vm, vn]; exact guard_ok rfl (by simp)
   split at he
   ·simp at he; subst he
    exact Does.value (v := .bool false) (run_bin ho hgd (by rw [vm, vn]; simp [binOp, (ptr_equal ht _).1])) rfl rfl rfl
   ·simp at he; subst he
    exact Does.value (v := .bool true) (run_bin ho hgd (by rw [vm, vn]; simp [binOp, (ptr_equal ht _).1])) rfl rfl rfl
   ·simp at he
  ·simp at he
 ·split at he
  ·rename_i ht
   have vm : a.eval x = .pointer none := by unfold den at dx; simpa using dx.symm
   have vn : a.eval y = .pointer none := by unfold den at dy; simpa using dy.symm
   have hgd : (eqGuard op t x y (a.eval x) (a.eval y)).run P w = .ok () w := by rw [vm, vn]; exact guard_ok rfl (by simp)
   split at he
   ·simp at he; subst he
    exact Does.value (v := .bool true) (run_bin ho hgd (by rw [vm, vn]; simp [binOp, (ptr_equal ht ⟨0, 0, none⟩).2])) rfl rfl rfl
   ·simp at he; subst he
    exact Does.value (v := .bool false) (run_bin ho hgd (by rw [vm, vn]; simp [binOp, (ptr_equal ht ⟨0, 0, none⟩).2])) rfl rfl rfl
   ·simp at he
  ·simp at he
 ·simp at he
theorem ok_un {op : UnOp} {t : TypeId} {x : Operand} (ho : o.op = .unOp op t x) {u : AV} (hx : opd tm x = some u) (he : evUn nv op u = some e) (hT : Ops β ρ tm a [x]) (hb : BindsAt ρ nv e.binds) (hn : NeedsAt ρ e.needs) : Does P o a w β ρ nb e := by
 have dx := opd_den hT (by simp) hx
 unfold evUn at he
 split at he
 ·simp at he; subst he
  obtain ⟨m, em, vm⟩ := den_bo dx
  refine Does.value (v := .bool (!m)) (by unfold execOp; rw [ho]; simp [vm, Op.unary]) ?_ rfl rfl
  exact bo_den (app_ev (evs1 em) hb)
 ·simp at he; subst he
  obtain ⟨m, em, wm, vm⟩ := den_fl dx
  refine Does.value (v := .float .f64 (Op.negFloat .f64 m)) (by unfold execOp; rw [ho]; simp [vm, Op.unary]) ?_ rfl rfl
  exact fl_den (app_ev (evs1 em) hb) (of_decide_eq_true (need1 hn (List.mem_singleton.2 rfl) (evs1 em)))
 ·rename_i k p
  simp at he; subst he
  obtain ⟨m, em, vm⟩ := den_it dx
  refine Does.value (v := .int k (k.wrap (0 - m))) (by unfold execOp; rw [ho]; simp [vm, Op.unary, Op.intArith]) ?_ rfl rfl
  exact it_den (app_ev (evs1 em) hb)
 ·simp at he
theorem ok_conv {s d : TypeId} {x : Operand} (ho : o.op = .convert s d x) {u : AV} (hx : opd tm x = some u) (he : evConv P nv s d u = some e) (hT : Ops β ρ tm a [x]) (hb : BindsAt ρ nv e.binds) (hn : NeedsAt ρ e.needs) : Does P o a w β ρ nb e := by
 have dx := opd_den hT (by simp) hx
 unfold evConv at he
 split at he
 ·obtain ⟨m, em, vm⟩ := den_it dx
  split at he
  ·rename_i k0 k h1 h2
   simp at he; subst he
   refine Does.value (v := .int k (k.wrap m)) (by unfold execOp; rw [ho]; simp [vm, convert, run_underlying h1 w, run_underlying h2 w, Conv.intToInt]) ?_ rfl rfl
   exact it_den (app_ev (evs1 em) hb)
  ·rename_i k0 h1 h2
   simp at he; subst he
   refine Does.value (v := .float .f64 (FloatKind.f64.nearest m)) (by unfold execOp; rw [ho]; simp [vm, convert, run_underlying h1 w, run_underlying h2 w, Conv.intToFloat]) ?_ rfl rfl
   exact fl_den (app_ev (evs1 em) hb) (of_decide_eq_true (need1 hn (List.mem_singleton.2 rfl) (evs1 em)))
  ·simp at he
 ·obtain ⟨m, em, wm, vm⟩ := den_fl dx
  split at he
  ·rename_i h1 h2
   simp at he; subst he
   exact Does.value (v := .float .f64 m) (by unfold execOp; rw [ho]; simp [vm, convert, run_underlying h1 w, run_underlying h2 w, Conv.floatToFloat]) (fl_den em wm) rfl rfl
  ·simp at he
 ·simp at he
end
end Go.Proofs.YtkhplflbcgjkcaaGreat
namespace Go.Proofs.YtkhplflbcgjkcaaGreat
open Go Go.RowKit
theorem take_set (l : List Value) (k : Nat) (x : Value) (h : k < l.length) : (l.set k x).take (k + 1) = l.take k ++ [x] := by
 refine List.ext_getElem? fun j => ?_
 rcases Nat.lt_trichotomy j k with h1 | h1 | h1
 ·rw [List.getElem?_take_of_lt (by omega), List.getElem?_set_ne (by omega), List.getElem?_append_left (by simp; omega), List.getElem?_take_of_lt h1]
 ·subst h1
  rw [List.getElem?_take_of_lt (by omega), List.getElem?_set_self h, List.getElem?_append_right (by simp; omega)]
  have : (l.take j).length = j := by simp; omega
  rw [this, Nat.sub_self]; rfl
 ·rw [List.getElem?_eq_none (by simp; omega), List.getElem?_eq_none (by simp; omega)]
theorem drop_set (l : List Value) (k m : Nat) (x : Value) (h : k < m) : (l.set k x).drop m = l.drop m := by
 refine List.ext_getElem? fun j => ?_
 rw [List.getElem?_drop, List.getElem?_drop, List.getElem?_set_ne (by omega)]
theorem set_run (off : Nat) : ∀ (l : List Value) (i : Nat) (c : Array Value), off + i + l.length ≤ c.size →
  ((l.zipIdx i).foldl (fun cs (x : Value × Nat) => cs.setIfInBounds (off + x.2) x.1) c).toList = c.toList.take (off + i) ++ l ++ c.toList.drop (off + i + l.length)
 | [], i, c, _ => by simp
 | x :: l, i, c, h => by
  simp only [List.length_cons] at h
  rw [List.zipIdx_cons, List.foldl_cons, set_run off l (i + 1) _ (by simp; omega)]
  simp only [Array.toList_setIfInBounds]
  rw [show off + (i + 1) = off + i + 1 by omega, take_set _ _ _ (by simp; omega), drop_set _ _ _ _ (by omega), show off + i + 1 + l.length = off + i + (l.length + 1) by omega]
  simp [List.append_assoc]
section
variable {β : Blocks} {ρ : List U} {P : Program} {tm : List AV} {h : Heap} {a : Act} {w : World} {nb nv : Nat} {o : Oper} {e : Eff}
theorem parts_den {l : List Operand} (hT : Ops β ρ tm a l) : ∀ {ps : List (Nat × Operand)} {xs : List (Nat × AV)}, (∀ p ∈ ps, p.2 ∈ l) → parts tm ps = some xs →
  xs.map (·.1) = ps.map (·.1) ∧ denL β ρ (xs.map (·.2)) = some (ps.map fun p => a.eval p.2)
 | [], xs, _, h => by unfold parts at h; simp at h; subst h; exact ⟨rfl, rfl⟩
 | (i, x) :: ps, xs, hx, h => by
  unfold parts at h
  cases h1 : opd tm x with
  | none => simp [h1] at h
  | some y =>
   cases h2 : parts tm ps with
   | none => simp [h1, h2] at h
   | some z =>
    simp [h1, h2] at h; subst h
    obtain ⟨h3, h4⟩ := parts_den hT (fun p hp => hx p (by simp [hp])) h2
    exact ⟨by simp [h3], denL_cons.2 ⟨_, _, opd_den hT (hx (i, x) (by simp)) h1, h4, rfl⟩⟩
theorem fill_den {place : Nat → Option (Nat × Nat)} : ∀ {xs : List (Nat × AV)} {ys : List (Nat × Value)} {cs ds : List AV} {vs : Array Value}, xs.map (·.1) = ys.map (·.1) → denL β ρ (xs.map (·.2)) = some (ys.map (·.2)) →
  denL β ρ cs = some vs.toList → fillAV place cs xs = some ds → ∃ us, Instr.fill place vs ys = some us ∧ denL β ρ ds = some us.toList
 | [], [], cs, ds, vs, _, _, hc, hf => by unfold fillAV at hf; simp at hf; subst hf; exact ⟨vs, rfl, hc⟩
 | [], _ :: _, _, _, _, h1, _, _, _ => by simp at h1
 | _ :: _, [], _, _, _, h1, _, _, _ => by simp at h1
 | (i, x) :: xs, (j, y) :: ys, cs, ds, vs, h1, h2, hc, hf => by
  simp only [List.map_cons, List.cons.injEq] at h1
  obtain ⟨rfl, h1⟩ := h1
  obtain ⟨u, us, hx, hxs, he⟩ := denL_cons.1 h2
  simp only [List.map_cons, List.cons.injEq] at he
  obtain ⟨rfl, rfl⟩ := he
  unfold fillAV at hf
  split at hf
  ·rename_i off size hp
   split at hf
   ·rename_i hcond
    have hcell := den_cells hx hcond.2.2
    have hl1 := denL_len hcell
    have hl2 := denL_len hc
    simp at hl1 hl2
    have hle : off + 0 + y.cells.toList.length ≤ vs.size := by simp; omega
    have hs := set_run off y.cells.toList 0 vs hle
    have hd : denL β ρ (splice cs off x.cells) = some ((y.cells.toList.zipIdx 0).foldl (fun cs (x : Value × Nat) => cs.setIfInBounds (off + x.2) x.1) vs).toList := by
     rw [hs]
     simpa using denL_splice (off := off) hc hcell
    obtain ⟨us, h3, h4⟩ := fill_den h1 hxs hd hf
    refine ⟨us, ?_, h4⟩
    unfold Instr.fill
    rw [hp]
    dsimp only
    rw [if_neg (by simp; omega)]
    rw [← h3]
    congr 1
    rw [← Array.foldl_toList]
    simp
   ·simp at hf
  ·simp at hf
theorem places_eq : ∀ {fs : List Field} {pl : List (Nat × Nat)}, places P fs = some pl → fs.mapM (fun f => (P.info? f.type).map fun i => (f.offset, i.size)) = some pl
 | [], pl, h => by unfold places at h; simp at h; subst h; rfl
 | f :: fs, pl, h => by
  unfold places at h
  cases h1 : tSize P f.type with
  | none => simp [h1] at h
  | some n =>
   cases h2 : places P fs with
   | none => simp [h1, h2] at h
   | some y =>
    simp [h1, h2] at h; subst h
    have h3 := size_info h1
    cases hi : P.info? f.type with
    | none => simp [hi] at h3
    | some i =>
     simp [hi] at h3
     simp [List.mapM_cons, hi, h3, places_eq h2]
theorem ok_build {t : TypeId} {ps : Array (Nat × Operand)} (ho : o.op = .build t ps) (he : evBuild P tm t ps.toList = some e) (hT : Ops β ρ tm a (ps.toList.map (·.2))) : Does P o a w β ρ nb e := by
 unfold evBuild at he
 split at he
 ·rename_i xs z hx hz
  obtain ⟨h1, h2⟩ := parts_den (a := a) hT (fun p hp => List.mem_map.2 ⟨p, hp, rfl⟩) hx
  have hz' := hz
  unfold tZero at hz
  split at hz
  ·rename_i it hit
   split at hz
   ·rename_i zv hzv
    have hzd : denL β ρ z.cells = some zv.cells.toList := den_cells (constAV_den hz) (constAV_val hz)
    have k1 : xs.map (·.1) = (ps.toList.map fun (i, x) => (i, a.eval x)).map (·.1) := by rw [h1]; simp
    have k2 : denL β ρ (xs.map (·.2)) = some ((ps.toList.map fun (i, x) => (i, a.eval x)).map (·.2)) := by rw [h2]; simp
    have fin : ∀ {cs : List AV} {us : Array Value}, P.built t (ps.map fun (i, x) => (i, a.eval x)).toList = some us → denL β ρ cs = some us.toList → Does P o a w β ρ nb { val := .agg cs } := by
     intro cs us hb hd
     refine Does.value (v := .agg us) ?_ ?_ rfl rfl
     ·unfold execOp; rw [ho]
      simp only [Sem.run_bind, run_build w t _ us hb, Result.andThen_ok, Sem.run_pure]
     ·unfold den; rw [hd]
    split at he
    ·rename_i fs hu
     split at he
     ·rename_i pl hpl
      split at he
      ·rename_i cs hcs
       simp at he; subst he
       obtain ⟨us, h3, h4⟩ := fill_den k1 k2 hzd hcs
       refine fin ?_ h4
       unfold Program.built
       rw [hit, hu]
       simp only [hzv, places_eq hpl, Array.toList_map]
       have : (fun (x : Nat) => pl.toArray[x]?) = fun (i : Nat) => pl[i]? := by funext x; simp
       rw [this]; exact h3
      ·simp at he
     ·simp at he
    ·rename_i n el hu
     split at he
     ·rename_i k hk
      split at he
      ·rename_i cs hcs
       simp at he; subst he
       obtain ⟨us, h3, h4⟩ := fill_den k1 k2 hzd hcs
       refine fin ?_ h4
       have h5 := size_info hk
       cases hi : P.info? el with
       | none => simp [hi] at h5
       | some ie =>
        simp [hi] at h5
        unfold Program.built
        rw [hit, hu]
        simp only [hzv, hi, Array.toList_map, h5]
        exact h3
      ·simp at he
     ·simp at he
    ·simp at he
   ·simp at hz
  ·simp at hz
 ·simp at he
theorem denL_map {l : List Nat} {f : Nat → AV} {g : Nat → Value} (h : ∀ i ∈ l, den β ρ (f i) = some (g i)) : denL β ρ (l.map f) = some (l.map g) := by
 induction l with
 | nil => rfl
 | cons x l ih => exact denL_cons.2 ⟨_, _, h x (by simp), ih (fun i hi => h i (by simp [hi])), rfl⟩
theorem ok_slice {t : TypeId} {len : Nat} {ps : Array (Nat × Operand)} (ho : o.op = .buildSlice t len ps) (he : evSlice P tm nb t len ps.toList = some e) (hT : Ops β ρ tm a (ps.toList.map (·.2))) (hnb : β nb = none) : Does P o a w β ρ nb e := by
 unfold evSlice at he
 split at he
 ·rename_i el hu
  split at he
  ·rename_i xs n z hx hn hz
   split at he
   ·rename_i hcond
    obtain ⟨c1, c2, c3, c4⟩ := hcond
    split at he
    ·rename_i cs hcs
     split at he
     ·simp at he; subst he
      obtain ⟨h1, h2⟩ := parts_den (a := a) hT (fun p hp => List.mem_map.2 ⟨p, hp, rfl⟩) hx
      have k1 : xs.map (·.1) = (ps.toList.map fun (i, x) => (i, a.eval x)).map (·.1) := by rw [h1]; simp
      have k2 : denL β ρ (xs.map (·.2)) = some ((ps.toList.map fun (i, x) => (i, a.eval x)).map (·.2)) := by rw [h2]; simp
      unfold tZero at hz
      split at hz
      ·rename_i ie hie
       split at hz
       ·rename_i zv hzv
        have hzd : denL β ρ z.cells = some zv.cells.toList := den_cells (constAV_den hz) (constAV_val hz)
        have hlz := denL_len hzd
        simp at hlz
        have hsz : ie.size = n := by have := size_info hn; simpa [hie] using this
        have hrow : denL β ρ (zeros z.cells (len * n)) = some ((Array.range (len * ie.size)).map (zv.cells[· % zv.cells.size]!)).toList := by
         rw [Array.toList_map, Array.toList_range, hsz]
         unfold zeros
         refine denL_map (fun i _ => ?_)
         have hlt : i % z.cells.length < z.cells.length := Nat.mod_lt _ (by omega)
         obtain ⟨u, h5, h6⟩ := denL_get hzd (List.getElem?_eq_getElem hlt)
         rw [List.getD_eq_getElem?_getD, List.getElem?_eq_getElem hlt, Option.getD_some, h5, hlz]
         congr 1
         rw [getElem!_def, ← Array.getElem?_toList, h6]
        obtain ⟨us, h3, h4⟩ := fill_den k1 k2 hrow hcs
        have hbig : ¬ len * ie.size > 2 ^ 24 := by rw [hsz]; omega
        have hpos : ¬ len * ie.size = 0 := by rw [hsz]; have := Nat.mul_pos c3 c2; omega
        have hrun := run_buildSlice (P := P) w t el len (ps.map fun (i, x) => (i, a.eval x)) us ie zv hu hie hzv hbig hpos (by rw [Array.toList_map]; rw [hsz] at h3 ⊢; exact h3)
        refine Does.alloc (xs := us.toList) (t := el) (cs := cs) (.slice (some ⟨w.heap.size, 0, none⟩) len len) ?_ h4 hnb rfl rfl ?_
        ·unfold execOp; rw [ho]
         simp only [Sem.run_bind, hrun, Result.andThen_ok, Sem.run_pure, Array.toArray_toList]
        ·unfold den; rw [extB_same]
       ·simp at hz
      ·simp at hz
     ·simp at he
    ·simp at he
   ·simp at he
  ·simp at he
 ·simp at he
theorem add_at (n o i : Nat) : (⟨n, o, none⟩ : Addr).add i = ⟨n, o + i, none⟩ := Addr.add_mid n o i
theorem ok_indexAddr {t : TypeId} {x i : Operand} (ho : o.op = .indexAddr t x i) (he : evIxA P tm t x i = some e) (hT : Ops β ρ tm a [x, i]) : Does P o a w β ρ nb e := by
 unfold evIxA at he
 split at he
 ·rename_i b off k n hx hi
  obtain ⟨m, h1, h2⟩ := den_ptr (opd_den hT (by simp) hx)
  obtain ⟨n', h3, h4⟩ := den_it (opd_den hT (by simp) hi)
  simp [E.ev] at h3; subst h3
  split at he
  ·rename_i len el hu
   split at he
   ·rename_i s hs
    split at he
    ·rename_i hc
     simp at he; subst he
     refine Does.value (v := .pointer (some ⟨m, off + n.toNat * s, none⟩)) ?_ (by unfold den; rw [h1]) rfl rfl
     unfold execOp; rw [ho]
     simp [Instr.indexAt, h2, h4, asIntOf, run_underlying hu w, Instr.sureAddr, run_size hs, hc, add_at]
    ·simp at he
   ·simp at he
  ·simp at he
 ·rename_i b off len cap k n hx hi
  obtain ⟨m, h1, h2⟩ := den_slc (opd_den hT (by simp) hx)
  obtain ⟨n', h3, h4⟩ := den_it (opd_den hT (by simp) hi)
  simp [E.ev] at h3; subst h3
  split at he
  ·rename_i el hu
   split at he
   ·rename_i s hs
    split at he
    ·rename_i hc
     simp at he; subst he
     refine Does.value (v := .pointer (some ⟨m, off + n.toNat * s, none⟩)) ?_ (by unfold den; rw [h1]) rfl rfl
     unfold execOp; rw [ho]
     simp [Instr.indexAt, h2, h4, asIntOf, run_underlying hu w, run_size hs, hc, add_at]
    ·simp at he
   ·simp at he
  ·simp at he
 ·simp at he
theorem ok_index {t : TypeId} {x i : Operand} (ho : o.op = .index t x i) (he : evIx P tm t x i = some e) (hT : Ops β ρ tm a [x, i]) : Does P o a w β ρ nb e := by
 unfold evIx at he
 split at he
 ·rename_i cs k n hx hi
  obtain ⟨xs, h1, h2⟩ := den_agg (opd_den hT (by simp) hx)
  obtain ⟨n', h3, h4⟩ := den_it (opd_den hT (by simp) hi)
  simp [E.ev] at h3; subst h3
  split at he
  ·rename_i len el hu
   split at he
   ·rename_i s hs
    split at he
    ·rename_i hc
     split at he
     ·rename_i v hv
      simp at he; subst he
      obtain ⟨u, h5, h6⟩ := run_part hv h1 w
      refine Does.value (v := u) ?_ h6 rfl rfl
      unfold execOp; rw [ho]
      simp [Instr.index, h2, h4, asIntOf, run_underlying hu w, run_size hs, hc, h5]
     ·simp at he
    ·simp at he
   ·simp at he
  ·simp at he
 ·simp at he
theorem field_of {t : TypeId} {f : Nat} {fd : Field} (hf : fieldOf P t f = some fd) : ∃ fs, P.underlying t = some (.struct fs) ∧ fs[f]? = some fd := by
 unfold fieldOf at hf
 split at hf
 ·rename_i fs hu; exact ⟨fs, hu, hf⟩
 ·simp at hf
theorem ok_fieldAddr {t : TypeId} {x : Operand} {f : Nat} (ho : o.op = .fieldAddr t x f) {b off : Nat} (hx : opd tm x = some (.ptr b off)) {fd : Field} (hf : fieldOf P t f = some fd) {n : Nat} (hn : tSize P fd.type = some n) (hpos : 0 < n)
  (he : e = { val := .ptr b (off + fd.offset) }) (hT : Ops β ρ tm a [x]) : Does P o a w β ρ nb e := by
 subst he
 obtain ⟨m, h1, h2⟩ := den_ptr (opd_den hT (by simp) hx)
 obtain ⟨fs, hu, hfs⟩ := field_of hf
 refine Does.value (v := .pointer (some ⟨m, off + fd.offset, none⟩)) ?_ (by unfold den; rw [h1]) rfl rfl
 unfold execOp; rw [ho]
 have hne : n ≠ 0 := by omega
 simp [Instr.fieldAt, h2, run_underlying hu w, hfs, Instr.sureAddr, fieldPlace, run_size hn, hne, add_at]
theorem ok_field {t : TypeId} {x : Operand} {f : Nat} (ho : o.op = .field t x f) {cs : List AV} (hx : opd tm x = some (.agg cs)) {fd : Field} (hf : fieldOf P t f = some fd) {v : AV} (hv : partAV P fd.type cs fd.offset = some v)
  (he : e = { val := v }) (hT : Ops β ρ tm a [x]) : Does P o a w β ρ nb e := by
 subst he
 obtain ⟨xs, h1, h2⟩ := den_agg (opd_den hT (by simp) hx)
 obtain ⟨fs, hu, hfs⟩ := field_of hf
 obtain ⟨u, h5, h6⟩ := run_part hv h1 w
 refine Does.value (v := u) ?_ h6 rfl rfl
 unfold execOp; rw [ho]
 simp [Instr.field, h2, run_underlying hu w, hfs, asAgg, h5]
end
end Go.Proofs.YtkhplflbcgjkcaaGreat
namespace Go.Proofs.YtkhplflbcgjkcaaGreat
open Go Go.RowKit
theorem U.same_eq {x y : U} (h : x.same y = true) : x = y := by
 cases x <;> cases y <;> simp [U.same] at h <;> first | (rw [h]; done) | rfl
theorem E.same_eq {x y : E} (h : x.same y = true) : x = y := by
 cases x <;> cases y <;> simp [E.same] at h
 ·rw [h]
 ·rw [U.same_eq h]
mutual
theorem AV.same_eq : ∀ (a b : AV), a.same b = true → a = b
 | .fl a, b, h => by cases b <;> simp [AV.same] at h; rw [E.same_eq h]
 | .it k a, b, h => by cases b <;> simp [AV.same] at h; rw [h.1, E.same_eq h.2]
 | .bo a, b, h => by cases b <;> simp [AV.same] at h; rw [E.same_eq h]
 | .ptr x y, b, h => by cases b <;> simp [AV.same] at h; rw [h.1, h.2]
 | .pnil, b, h => by cases b <;> simp [AV.same] at h; rfl
 | .slc x y z t, b, h => by cases b <;> simp [AV.same] at h; rw [h.1.1.1, h.1.1.2, h.1.2, h.2]
 | .snil, b, h => by cases b <;> simp [AV.same] at h; rfl
 | .fn f x y, b, h => by
  cases b with
  | fn f' x' y' => simp [AV.same] at h; rw [h.1.1, sameL_eq x x' h.1.2, sameL_eq y y' h.2]
  | _ => simp [AV.same] at h
 | .fnil, b, h => by cases b <;> simp [AV.same] at h; rfl
 | .agg l, b, h => by
  cases b with
  | agg l' => simp [AV.same] at h; rw [sameL_eq l l' h]
  | _ => simp [AV.same] at h
 | .tup l, b, h => by
  cases b with
  | tup l' => simp [AV.same] at h; rw [sameL_eq l l' h]
  | _ => simp [AV.same] at h
 | .und, b, h => by cases b <;> simp [AV.same] at h; rfl
 | .str s, b, h => by cases b <;> simp [AV.same] at h
 | .val e t, b, h => by cases b <;> simp [AV.same] at h; rw [E.same_eq h.1, h.2]
theorem sameL_eq : ∀ (a b : List AV), sameL a b = true → a = b
 | [], b, h => by cases b <;> simp [sameL] at h; rfl
 | x :: a, b, h => by
  cases b with
  | nil => simp [sameL] at h
  | cons y b => simp [sameL] at h; rw [AV.same_eq x y h.1, sameL_eq a b h.2]
end
structure Corr (βc : Blocks) (ρc : List U) (β : Blocks) (ρ : List U) (s : List E) (μ : List Nat) : Prop where
 e : ∀ (n : Nat) (x : E), s[n]? = some x → ρc[n]? = some ((x.ev ρ).getD .no)
 b : ∀ (n k : Nat), μ[n]? = some k → βc n = β k
section
variable {βc β : Blocks} {ρc ρ : List U} {s : List E} {μ : List Nat}
theorem subE_fl (C : Corr βc ρc β ρ s μ) {x y : E} (h : subE s x = some y) : den βc ρc (.fl x) = den β ρ (.fl y) := by
 cases x with
 | v n =>
  have h1 := C.e n y (by simpa [subE] using h)
  unfold den
  rw [show (E.v n).ev ρc = ρc[n]? from rfl, h1]
  cases y.ev ρ <;> rfl
 | l u => simp [subE] at h; subst h; rfl
theorem subE_it (C : Corr βc ρc β ρ s μ) {x y : E} (k : IntKind) (h : subE s x = some y) : den βc ρc (.it k x) = den β ρ (.it k y) := by
 cases x with
 | v n =>
  have h1 := C.e n y (by simpa [subE] using h)
  unfold den
  rw [show (E.v n).ev ρc = ρc[n]? from rfl, h1]
  cases y.ev ρ <;> rfl
 | l u => simp [subE] at h; subst h; rfl
theorem subE_bo (C : Corr βc ρc β ρ s μ) {x y : E} (h : subE s x = some y) : den βc ρc (.bo x) = den β ρ (.bo y) := by
 cases x with
 | v n =>
  have h1 := C.e n y (by simpa [subE] using h)
  unfold den
  rw [show (E.v n).ev ρc = ρc[n]? from rfl, h1]
  cases y.ev ρ <;> rfl
 | l u => simp [subE] at h; subst h; rfl
theorem subE_val (C : Corr βc ρc β ρ s μ) {x y : E} (t : Nat) (h : subE s x = some y) : den βc ρc (.val x t) = den β ρ (.val y t) := by
 cases x with
 | v n =>
  have h1 := C.e n y (by simpa [subE] using h)
  unfold den
  rw [show (E.v n).ev ρc = ρc[n]? from rfl, h1]
  cases y.ev ρ <;> rfl
 | l u => simp [subE] at h; subst h; rfl
mutual
theorem sub_den (C : Corr βc ρc β ρ s μ) : ∀ (p : AV) {q : AV}, sub s μ p = some q → den βc ρc p = den β ρ q
 | .fl x, q, h => by
  unfold sub at h
  split at h
  ·rename_i y hy; simp at h; subst h; exact subE_fl C hy
  ·simp at h
 | .it k x, q, h => by
  unfold sub at h
  split at h
  ·rename_i y hy; simp at h; subst h; exact subE_it C k hy
  ·simp at h
 | .bo x, q, h => by
  unfold sub at h
  split at h
  ·rename_i y hy; simp at h; subst h; exact subE_bo C hy
  ·simp at h
 | .ptr b o, q, h => by
  unfold sub at h
  split at h
  ·rename_i k hk; simp at h; subst h; unfold den; rw [C.b _ _ hk]
  ·simp at h
 | .pnil, q, h => by unfold sub at h; simp at h; subst h; rfl
 | .slc b o x y, q, h => by
  unfold sub at h
  split at h
  ·rename_i k hk; simp at h; subst h; unfold den; rw [C.b _ _ hk]
  ·simp at h
 | .snil, q, h => by unfold sub at h; simp at h; subst h; rfl
 | .fn f a c, q, h => by
  unfold sub at h
  split at h
  ·rename_i x y hx hy; simp at h; subst h; unfold den; rw [subL_den C a hx, subL_den C c hy]
  ·simp at h
 | .fnil, q, h => by unfold sub at h; simp at h; subst h; rfl
 | .agg l, q, h => by
  unfold sub at h
  split at h
  ·rename_i x hx; simp at h; subst h; unfold den; rw [subL_den C l hx]
  ·simp at h
 | .tup l, q, h => by
  unfold sub at h
  split at h
  ·rename_i x hx; simp at h; subst h; unfold den; rw [subL_den C l hx]
  ·simp at h
 | .und, q, h => by unfold sub at h; simp at h; subst h; rfl
 | .str x, q, h => by unfold sub at h; simp at h; subst h; rfl
 | .val x t, q, h => by
  unfold sub at h
  split at h
  ·rename_i y hy; simp at h; subst h; exact subE_val C t hy
  ·simp at h
theorem subL_den (C : Corr βc ρc β ρ s μ) : ∀ (p : List AV) {q : List AV}, subL s μ p = some q → denL βc ρc p = denL β ρ q
 | [], q, h => by unfold subL at h; simp at h; subst h; rfl
 | a :: l, q, h => by
  unfold subL at h
  split at h
  ·rename_i x y hx hy
   simp at h; subst h
   rw [denL, denL, sub_den C a hx, subL_den C l hy]
  ·simp at h
end
theorem subEs_ev (C : Corr βc ρc β ρ s μ) : ∀ {l a : List E} {us : List U}, subEs s l = some a → evs ρ a = some us → evs ρc l = some us
 | [], a, us, h, k => by unfold subEs at h; simp at h; subst h; exact k
 | x :: l, a, us, h, k => by
  unfold subEs at h
  split at h
  ·rename_i y z hy hz
   simp at h; subst h
   unfold evs at k ⊢
   cases h1 : y.ev ρ with
   | none => simp [h1] at k
   | some u =>
    cases h2 : evs ρ z with
    | none => simp [h1, h2] at k
    | some vs =>
     have h3 : x.ev ρc = some u := by
      cases x with
      | v n =>
       have h4 := C.e n y (by simpa [subE] using hy)
       rw [h1] at h4
       exact h4
      | l u' => simp [subE] at hy; subst hy; exact h1
     rw [h3, subEs_ev C hz h2]
     simpa [h1, h2] using k
  ·simp at h
end
theorem news_len (nv : Nat) : ∀ m, (news nv m).length = m
 | 0 => rfl
 | m + 1 => by rw [news, List.length_cons, news_len]
theorem news_get : ∀ (m nv i : Nat), i < m → (news nv m)[i]? = some (.v (nv + i))
 | m + 1, nv, 0, _ => rfl
 | m + 1, nv, i + 1, h => by
  rw [news, List.getElem?_cons_succ, news_get m (nv + 1) i (by omega)]
  rw [show nv + 1 + i = nv + (i + 1) by omega]
def rhoC (ρ : List U) (s : List E) : List U := s.map fun x => (x.ev ρ).getD .no
theorem rhoC_get {ρ : List U} {s : List E} {n : Nat} {x : E} (h : s[n]? = some x) : (rhoC ρ s)[n]? = some ((x.ev ρ).getD .no) := by
 unfold rhoC; rw [List.getElem?_map, h]; rfl
theorem subBinds_pre : ∀ {l : List Bind} {nv : Nat} {s s' : List E} {bs : List Bind}, subBinds nv l s = some (bs, s') → ∃ t, s' = s ++ t
 | [], nv, s, s', bs, h => by unfold subBinds at h; simp at h; exact ⟨[], by simp [h.2]⟩
 | b :: l, nv, s, s', bs, h => by
  unfold subBinds at h
  split at h
  ·split at h
   ·rename_i bs1 s1 h1
    simp at h
    obtain ⟨t, ht⟩ := subBinds_pre h1
    exact ⟨news nv b.m ++ t, by rw [← h.2, ht, List.append_assoc]⟩
   ·simp at h
  ·simp at h
theorem subBinds_at {βc β : Blocks} {ρ : List U} {μ : List Nat} (full : List E) : ∀ {l : List Bind} {nv : Nat} {s s' : List E} {bs : List Bind}, subBinds nv l s = some (bs, s') → (∃ t, full = s' ++ t) → Corr βc (rhoC ρ full) β ρ full μ →
  BindsAt ρ nv bs → BindsAt (rhoC ρ full) s.length l
 | [], nv, s, s', bs, _, _, _, _ => trivial
 | b :: l, nv, s, s', bs, h, hp, C, hb => by
  unfold subBinds at h
  split at h
  ·rename_i a ha
   split at h
   ·rename_i bs1 s1 h1
    simp at h
    obtain ⟨rfl, rfl⟩ := h
    obtain ⟨⟨us, h2, h3⟩, hb2⟩ := hb
    obtain ⟨t1, ht1⟩ := subBinds_pre h1
    obtain ⟨t, ht⟩ := hp
    have hfull : full = s ++ (news nv b.m ++ (t1 ++ t)) := by rw [ht, ht1]; simp [List.append_assoc]
    have Cs : Corr βc (rhoC ρ full) β ρ s μ := ⟨fun n x hx => C.e n x (by rw [hfull, List.getElem?_append_left (by have := (List.getElem?_eq_some_iff.1 hx).1; omega)]; exact hx), C.b⟩
    refine ⟨⟨us, subEs_ev Cs ha h2, fun i hi => ?_⟩, ?_⟩
    ·have hg : full[s.length + i]? = some (.v (nv + i)) := by
      rw [hfull, List.getElem?_append_right (by omega), List.getElem?_append_left (by rw [news_len]; omega), show s.length + i - s.length = i by omega]
      exact news_get _ _ _ hi
     rw [rhoC_get hg]
     have h4 := h3 i hi
     rw [show (E.v (nv + i)).ev ρ = ρ[nv + i]? from rfl, h4]; rfl
    ·have := subBinds_at full h1 ⟨t, ht⟩ C hb2
     rw [List.length_append, news_len] at this
     exact this
   ·simp at h
  ·simp at h
theorem subNeeds_at {βc β : Blocks} {ρc ρ : List U} {s : List E} {μ : List Nat} (C : Corr βc ρc β ρ s μ) : ∀ {l ns : List Need}, subNeeds s l = some ns → NeedsAt ρ ns → NeedsAt ρc l
 | [], ns, _, _ => fun n hn => by cases hn
 | x :: l, ns, h, hn => by
  unfold subNeeds at h
  split at h
  ·rename_i a y ha hy
   simp at h; subst h
   intro n hmem
   rcases List.mem_cons.1 hmem with rfl | hmem
   ·obtain ⟨us, h1, h2⟩ := hn _ (List.mem_cons_self)
    exact ⟨us, subEs_ev C ha h1, h2⟩
   ·exact subNeeds_at C hy (fun m hm => hn m (List.mem_cons_of_mem _ hm)) n hmem
  ·simp at h
theorem subUpd_in {s : List E} {μ : List Nat} : ∀ {l l' : List (Nat × List AV)}, subUpd s μ l = some l' → ∀ k c, (k, c) ∈ l' → ∃ k0 c0, (k0, c0) ∈ l ∧ μ[k0]? = some k ∧ subL s μ c0 = some c
 | [], l', h, k, c, hm => by unfold subUpd at h; simp at h; subst h; cases hm
 | (k1, c1) :: l, l', h, k, c, hm => by
  unfold subUpd at h
  split at h
  ·rename_i n d y h1 h2 h3
   simp at h; subst h
   rcases List.mem_cons.1 hm with e | hm
   ·simp at e; obtain ⟨rfl, rfl⟩ := e; exact ⟨k1, c1, by simp, h1, h2⟩
   ·obtain ⟨k0, c0, h4, h5, h6⟩ := subUpd_in h3 k c hm
    exact ⟨k0, c0, by simp [h4], h5, h6⟩
  ·simp at h
theorem subUpd_out {s : List E} {μ : List Nat} : ∀ {l l' : List (Nat × List AV)}, subUpd s μ l = some l' → ∀ k0 c0, (k0, c0) ∈ l → ∃ k c, (k, c) ∈ l' ∧ μ[k0]? = some k ∧ subL s μ c0 = some c
 | [], l', h, k, c, hm => by cases hm
 | (k1, c1) :: l, l', h, k, c, hm => by
  unfold subUpd at h
  split at h
  ·rename_i n d y h1 h2 h3
   simp at h; subst h
   rcases List.mem_cons.1 hm with e | hm
   ·simp at e; obtain ⟨rfl, rfl⟩ := e; exact ⟨n, d, by simp, h1, h2⟩
   ·obtain ⟨k0, c0, h4, h5, h6⟩ := subUpd_out h3 k c hm
    exact ⟨k0, c0, by simp [h4], h5, h6⟩
  ·simp at h
def Goes (P : Program) (f : Nat) (args : Array Value) (w : World) (Q : Ending → World → Prop) : Prop :=
 ((callFunc f args).run P w = .ok (.enter f args) w ∧ Calls P f args w Q) ∨ ∃ v, (callFunc f args).run P w = .ok (.value v) w ∧ Q (.returned v) w
theorem Goes.mono {P : Program} {f : Nat} {args : Array Value} {w : World} {Q Q' : Ending → World → Prop} (h : Goes P f args w Q) (k : ∀ e w', Q e w' → Q' e w') : Goes P f args w Q' := by
 rcases h with ⟨h1, h2⟩ | ⟨v, h1, h2⟩
 ·exact .inl ⟨h1, h2.mono k⟩
 ·exact .inr ⟨v, h1, k _ _ h2⟩
structure CtOk (P : Program) (f : Nat) (ct : Ct) : Prop where
 call : ∀ (β : Blocks) (ρ : List U) (w : World) (vs : List Value), (∀ k l n, β k = some n → β l = some n → k = l) → (∀ k n, β k = some n → n < w.heap.size) → (∀ k, ct.blks.length ≤ k → β k = none) →
  (∀ k c, ct.blks[k]? = some c → ∃ n us, β k = some n ∧ denL β ρ c = some us ∧ CellsAt n us w) → denL β ρ ct.args = some vs → ct.m ≤ ρ.length → BindsAt ρ ct.m ct.eff.binds → NeedsAt ρ ct.eff.needs →
  Goes P f vs.toArray w fun e w' => ∃ β' v, Post β β' ρ ct.blks.length ct.eff w w' ∧ den β' ρ ct.eff.val = some v ∧ e = .returned v
theorem CtOk.mk' {P : Program} {f : Nat} {ct : Ct} (enters : ∀ args w, (callFunc f args).run P w = .ok (.enter f args) w)
 (call : ∀ (β : Blocks) (ρ : List U) (w : World) (vs : List Value), (∀ k l n, β k = some n → β l = some n → k = l) → (∀ k n, β k = some n → n < w.heap.size) → (∀ k, ct.blks.length ≤ k → β k = none) →
  (∀ k c, ct.blks[k]? = some c → ∃ n us, β k = some n ∧ denL β ρ c = some us ∧ CellsAt n us w) → denL β ρ ct.args = some vs → ct.m ≤ ρ.length → BindsAt ρ ct.m ct.eff.binds → NeedsAt ρ ct.eff.needs →
  Calls P f vs.toArray w fun e w' => ∃ β' v, Post β β' ρ ct.blks.length ct.eff w w' ∧ den β' ρ ct.eff.val = some v ∧ e = .returned v) : CtOk P f ct :=
 ⟨fun β ρ w vs a b c d e f g h => .inl ⟨enters _ _, call β ρ w vs a b c d e f g h⟩⟩
def AllOk (P : Program) : List (Nat × Ct) → Prop
 | [] => True
 | (f, ct) :: l => CtOk P f ct ∧ AllOk P l
theorem AllOk.append {P : Program} : ∀ {l m : List (Nat × Ct)}, AllOk P l → AllOk P m → AllOk P (l ++ m)
 | [], _, _, h => h
 | _ :: _, _, h, k => ⟨h.1, AllOk.append h.2 k⟩
theorem mu_len : ∀ {l : List (Nat × Nat)} {n k : Nat} {μ : List Nat}, mu l n k = some μ → μ.length = n
 | l, 0, k, μ, h => by unfold mu at h; simp at h; subst h; rfl
 | l, n + 1, k, μ, h => by
  unfold mu at h
  split at h
  ·rename_i x y hx hy; simp at h; subst h; simp [mu_len hy]
  ·simp at h
theorem nodup_get : ∀ {l : List Nat} {i j x : Nat}, nodupB l = true → l[i]? = some x → l[j]? = some x → i = j
 | [], i, j, x, _, h, _ => by simp at h
 | a :: l, 0, 0, x, _, _, _ => rfl
 | a :: l, 0, j + 1, x, hn, h, k => by
  simp [nodupB] at hn
  simp at h k; subst h
  exact absurd (List.mem_of_getElem? k) hn.1
 | a :: l, i + 1, 0, x, hn, h, k => by
  simp [nodupB] at hn
  simp at h k; subst k
  exact absurd (List.mem_of_getElem? h) hn.1
 | a :: l, i + 1, j + 1, x, hn, h, k => by
  simp [nodupB] at hn
  exact congrArg (· + 1) (nodup_get (l := l) (by simpa using hn.2) (by simpa using h) (by simpa using k))
theorem held_get {h : Heap} {s : List E} {μ : List Nat} : ∀ {cs : List (List AV)} {k i : Nat} {c : List AV}, heldB h s μ cs k = true → cs[i]? = some c → ∃ n d c', μ[k + i]? = some n ∧ h[n]? = some (some d) ∧ subL s μ c = some c' ∧ c' = d
 | [], k, i, c, _, hc => by simp at hc
 | c0 :: cs, k, 0, c, hb, hc => by
  simp at hc; subst hc
  simp only [heldB, Bool.and_eq_true] at hb
  obtain ⟨hb, _⟩ := hb
  split at hb
  ·rename_i n hn
   split at hb
   ·rename_i d c' hd hc'
    exact ⟨n, d, c', hn, hd, hc', sameL_eq _ _ hb⟩
   ·simp at hb
  ·simp at hb
 | c0 :: cs, k, i + 1, c, hb, hc => by
  simp only [heldB, Bool.and_eq_true] at hb
  have := held_get (i := i) hb.2 (by simpa using hc)
  rwa [show k + 1 + i = k + (i + 1) by omega] at this
section
variable {P : Program} {h : Heap} {nv nb f : Nat} {ct : Ct} {args : List AV} {e : Eff} {β : Blocks} {ρ : List U} {w : World}
theorem useCt_ok (hct : CtOk P f ct) (he : useCt h nv nb ct args = some e) {vs : List Value} (hv : denL β ρ args = some vs) (hR : Rel β ρ h w) (hnb : β nb = none) (hb : BindsAt ρ nv e.binds) (hn : NeedsAt ρ e.needs) :
  Goes P f vs.toArray w fun en w' => ∃ β' v, Post β β' ρ nb e w w' ∧ den β' ρ e.val = some v ∧ en = .returned v := by
 unfold useCt at he
 split at he
 ·simp at he
 ·split at he
  ·simp at he
  ·rename_i m hm
   split at he
   ·simp at he
   ·rename_i μ hμ
    split at he
    ·simp at he
    rename_i s0 hs0
    split at he
    ·simp at he
    ·rename_i args' hargs
     split at he
     ·rename_i hcond
      obtain ⟨c1, c2, c3, c4, c5⟩ := hcond
      split at he
      ·simp at he
      ·rename_i bs s hs
       split at he
       ·rename_i ns v up nw h1 h2 h3 h4
        simp at he; subst he
        dsimp only at hb hn ⊢
        have e1 := sameL_eq _ _ c1
        subst e1
        obtain ⟨t, ht⟩ := subBinds_pre hs
        have hlen := mu_len hμ
        let βc : Blocks := fun k => match μ[k]? with
         | some n => β n
         | none => none
        have C0 : Corr βc (rhoC ρ s) β ρ s μ := ⟨fun n x hx => rhoC_get hx, fun n k hk => by show (match μ[n]? with | some n => β n | none => none) = _; rw [hk]⟩
        have C1 : Corr βc (rhoC ρ s) β ρ s0 μ := ⟨fun n x hx => rhoC_get (by rw [ht, List.getElem?_append_left (by have := (List.getElem?_eq_some_iff.1 hx).1; omega)]; exact hx), C0.b⟩
        have hbc : ∀ k n, βc k = some n → ∃ x, μ[k]? = some x ∧ β x = some n := by
         intro k n hk
         have hk' : (match μ[k]? with | some n => β n | none => none) = some n := hk
         split at hk'
         ·rename_i x hx; exact ⟨x, hx, hk'⟩
         ·simp at hk'
        have hout : ∀ k, ct.blks.length ≤ k → βc k = none := by
         intro k hk
         show (match μ[k]? with | some n => β n | none => none) = _
         rw [List.getElem?_eq_none (by omega)]
        have hcall := hct.call βc (rhoC ρ s) w vs
         (fun k l n hk hl => by
          obtain ⟨x, hx, bx⟩ := hbc k n hk
          obtain ⟨y, hy, by'⟩ := hbc l n hl
          have := hR.inj x y n bx by'
          subst this
          exact nodup_get c4 hx hy)
         (fun k n hk => by obtain ⟨x, _, bx⟩ := hbc k n hk; exact hR.bd x n bx)
         hout
         (fun k c hc => by
          obtain ⟨n, d, c', g1, g2, g3, g4⟩ := held_get c3 hc
          subst g4
          rw [Nat.zero_add] at g1
          obtain ⟨n', us, g5, g6, g7⟩ := hR.cells n c' g2
          exact ⟨n', us, by rw [C0.b _ _ g1]; exact g5, by rw [subL_den C1 c g3]; exact g6, g7⟩)
         (by rw [subL_den C1 ct.args hargs]; exact hv)
         (by unfold rhoC; rw [List.length_map, ht, List.length_append]; omega)
         (by have := subBinds_at (βc := βc) (β := β) (μ := μ) s hs ⟨[], by simp⟩ C0 hb; rwa [c2] at this)
         (subNeeds_at C0 h1 hn)
        refine hcall.mono fun en w' ⟨βc', v', post, hv', he'⟩ => ?_
        have hall : ∀ (n k : Nat), μ[n]? = some k → k < nb := fun n k hk => by
         have := List.all_eq_true.1 c5 k (List.mem_of_getElem? hk); simpa using this
        -- blocks behind the call
        have key : ∃ β', NewAs β β' ρ nb w w' nw ∧ Corr βc' (rhoC ρ s) β' ρ s (μ ++ [nb]) ∧ (∀ (n k : Nat), μ[n]? = some k → β' k = β k) := by
         have hnew := post.new
         cases hnw : ct.eff.new with
         | none =>
          rw [hnw] at hnew h4
          simp at h4; subst h4
          have hβ : βc' = βc := hnew
          refine ⟨β, rfl, ⟨C0.e, fun n k hk => ?_⟩, fun _ _ _ => rfl⟩
          rw [hβ]
          rcases Nat.lt_or_ge n μ.length with hlt | hge
          ·rw [List.getElem?_append_left hlt] at hk; exact C0.b _ _ hk
          ·rw [List.getElem?_append_right hge] at hk
           have : n - μ.length = 0 := by
            rcases Nat.eq_zero_or_pos (n - μ.length) with h0 | h0
            ·exact h0
            ·rw [List.getElem?_eq_none (by simp; omega)] at hk; simp at hk
           rw [this] at hk; simp at hk; subst hk
           rw [hout n (by omega), hnb]
         | some c0 =>
          rw [hnw] at hnew h4
          dsimp only at h4
          cases hc : subL s (μ ++ [nb]) c0 with
          | none => rw [hc] at h4; simp at h4
          | some c =>
           rw [hc] at h4
           simp at h4; subst h4
           obtain ⟨n, us, g1, g2, g3, g4, g5⟩ := hnew
           have CC : Corr βc' (rhoC ρ s) (extB β nb n) ρ s (μ ++ [nb]) := by
            refine ⟨C0.e, fun i k hk => ?_⟩
            rw [g3]
            rcases Nat.lt_or_ge i μ.length with hlt | hge
            ·rw [List.getElem?_append_left hlt] at hk
             have := hall i k hk
             unfold extB
             rw [if_neg (by omega), if_neg (by omega)]
             exact C0.b _ _ hk
            ·rw [List.getElem?_append_right hge] at hk
             have : i - μ.length = 0 := by
              rcases Nat.eq_zero_or_pos (i - μ.length) with h0 | h0
              ·exact h0
              ·rw [List.getElem?_eq_none (by simp; omega)] at hk; simp at hk
             rw [this] at hk; simp at hk; subst hk
             unfold extB
             rw [if_pos (by omega), if_pos rfl]
           refine ⟨extB β nb n, ⟨n, us, g1, g2, rfl, by rw [← subL_den CC c0 hc]; exact g4, g5⟩, CC, fun i k hk => ?_⟩
           have := hall i k hk
           unfold extB; rw [if_neg (by omega)]
        obtain ⟨β', k1, k2, k3⟩ := key
        refine ⟨β', v', ⟨post.os, post.tape, post.output, post.size, fun n hlt hno => ?_, fun k c hk => ?_, k1⟩, by rw [← sub_den k2 _ h2]; exact hv', he'⟩
        ·refine post.old n hlt fun k0 c0 hk0 hβ => ?_
         obtain ⟨k, c, g1, g2, g3⟩ := subUpd_out h3 k0 c0 hk0
         obtain ⟨x, hx, bx⟩ := hbc k0 n hβ
         have : k = x := by
          have hlt := (List.getElem?_eq_some_iff.1 hx).1
          rw [List.getElem?_append_left hlt, hx] at g2
          simpa using g2.symm
         subst this
         exact hno _ _ g1 bx
        ·obtain ⟨k0, c0, g1, g2, g3⟩ := subUpd_in h3 k c hk
         obtain ⟨n, us, g4, g5, g6⟩ := post.upd k0 c0 g1
         obtain ⟨x, hx, bx⟩ := hbc k0 n g4
         have : k = x := by
          have hlt := (List.getElem?_eq_some_iff.1 hx).1
          rw [List.getElem?_append_left hlt, hx] at g2
          simpa using g2.symm
         subst this
         exact ⟨n, us, bx, by rw [← subL_den k2 _ g3]; exact g5, g6⟩
       ·simp at he
     ·simp at he
theorem useCts_ok {cts : List (Nat × Ct)} (ha : AllOk P cts) (he : useCts h nv nb f args cts = some e) {vs : List Value} (hv : denL β ρ args = some vs) (hR : Rel β ρ h w) (hnb : β nb = none) (hb : BindsAt ρ nv e.binds) (hn : NeedsAt ρ e.needs) :
  Goes P f vs.toArray w fun en w' => ∃ β' v, Post β β' ρ nb e w w' ∧ den β' ρ e.val = some v ∧ en = .returned v := by
 induction cts with
 | nil => simp [useCts] at he
 | cons c l ih =>
  obtain ⟨g, ct⟩ := c
  unfold useCts at he
  split at he
  ·rename_i hfg
   have hfg : f = g := by simpa using hfg
   subst hfg
   split at he
   ·rename_i e' h1
    simp at he; subst he
    exact useCt_ok ha.1 h1 hv hR hnb hb hn
   ·exact ih ha.2 he
  ·exact ih ha.2 he
variable {tm : List AV} {a : Act} {o : Oper} {cts : List (Nat × Ct)}
theorem lenT_u {ts : Array TypeId} (h : lenT P ts = true) : ∃ t e, ts = #[t] ∧ P.underlying t = some (.slice e) := by
 unfold lenT at h
 split at h
 ·rename_i t ht
  split at h
  ·rename_i e he
   exact ⟨t, e, by apply Array.ext'; simpa using ht, he⟩
  ·simp at h
 ·simp at h
theorem order_min {x y : Nat} {c : Call} (hc : c.callee = .builtin .min) (t : TypeId) (hx : x < W64) (hy : y < W64) (rx : Dy.right x = true) (ry : Dy.right y = true) (ha : (c.args.map a.eval) = #[.float .f64 x, .float .f64 y]) :
  ((do let d ← resolve a.eval c t; invoke d.target d.args) : Sem Next).run P w = .ok (.value (.float .f64 (Dy.dmin x y))) w := by
 unfold resolve
 rw [hc]
 simp only [ha, Sem.run_bind, Sem.run_pure, Result.andThen_ok, invoke, builtin]
 have := run_min (P := P) x y c.argTypes t w hx hy rx ry
 simp [this]
theorem order_max {x y : Nat} {c : Call} (hc : c.callee = .builtin .max) (t : TypeId) (hx : x < W64) (hy : y < W64) (rx : Dy.right x = true) (ry : Dy.right y = true) (ha : (c.args.map a.eval) = #[.float .f64 x, .float .f64 y]) :
  ((do let d ← resolve a.eval c t; invoke d.target d.args) : Sem Next).run P w = .ok (.value (.float .f64 (Dy.dmax x y))) w := by
 unfold resolve
 rw [hc]
 simp only [ha, Sem.run_bind, Sem.run_pure, Result.andThen_ok, invoke, builtin]
 have := run_max (P := P) x y c.argTypes t w hx hy rx ry
 simp [this]
theorem order_imin {k k' : IntKind} {x y : Int} {c : Call} (hc : c.callee = .builtin .min) (t : TypeId) (ha : (c.args.map a.eval) = #[.int k x, .int k' y]) :
  ((do let d ← resolve a.eval c t; invoke d.target d.args) : Sem Next).run P w = .ok (.value (.int k (iMn x y))) w := by
 unfold resolve
 rw [hc]
 simp only [ha, Sem.run_bind, Sem.run_pure, Result.andThen_ok, invoke, builtin]
 simp [Builtin.min_, Builtin.min2, iMn, go_sem]
theorem order_imax {k k' : IntKind} {x y : Int} {c : Call} (hc : c.callee = .builtin .max) (t : TypeId) (ha : (c.args.map a.eval) = #[.int k x, .int k' y]) :
  ((do let d ← resolve a.eval c t; invoke d.target d.args) : Sem Next).run P w = .ok (.value (.int k (iMx x y))) w := by
 unfold resolve
 rw [hc]
 simp only [ha, Sem.run_bind, Sem.run_pure, Result.andThen_ok, invoke, builtin]
 simp [Builtin.max_, Builtin.max2, iMx, go_sem]
theorem order_max3 {x y z : Nat} {c : Call} (hc : c.callee = .builtin .max) (t : TypeId) (hx : x < W64) (hy : y < W64) (hz : z < W64) (rx : Dy.right x = true) (ry : Dy.right y = true) (rz : Dy.right z = true) (ha : (c.args.map a.eval) = #[.float .f64 x, .float .f64 y, .float .f64 z]) :
  ((do let d ← resolve a.eval c t; invoke d.target d.args) : Sem Next).run P w = .ok (.value (.float .f64 (Dy.dmax (Dy.dmax x y) z))) w := by
 unfold resolve
 rw [hc]
 simp only [ha, Sem.run_bind, Sem.run_pure, Result.andThen_ok, invoke, builtin]
 have h1 := run_max (P := P) x y c.argTypes t w hx hy rx ry
 have h2 := run_max (P := P) (Dy.dmax x y) z c.argTypes t w (Dy.dmax_W hx hy) hz (Dy.dmax_right rx ry) rz
 simp [Builtin.max_] at h1 h2
 simp [Builtin.max_, h1, h2]
set_option maxHeartbeats 2000000 in
theorem ok_call {c : Call} (ho : o.op = .call c) (hcts : AllOk P cts) (he : evCall P cts tm h nv nb c = some e) (hT : Ops β ρ tm a c.operands.toList) (hR : Rel β ρ h w) (hnb : β nb = none) (hb : BindsAt ρ nv e.binds) (hn : NeedsAt ρ e.needs) : Does P o a w β ρ nb e := by
 have hargs : ∀ {vs : List AV}, opds tm c.args.toList = some vs → denL β ρ vs = some (c.args.toList.map a.eval) := fun hv => opds_den hT (fun x hx => by unfold Call.operands; simp; exact .inr (by simpa using hx)) hv
 unfold evCall at he
 split at he
 ·rename_i hc
  split at he
  ·rename_i hl
   obtain ⟨t, el, ht, hu⟩ := lenT_u hl
   split at he
   ·rename_i b off len cap hv
    simp at he; subst he
    obtain ⟨x, y, h1, h2, h3⟩ := denL_cons.1 (hargs hv)
    rw [denL_nil.1 h2] at h3
    obtain ⟨n, _, rfl⟩ := den_slc h1
    have h4 : c.args.map a.eval = #[.slice (some ⟨n, off, none⟩) len cap] := by apply Array.ext'; simpa using h3
    refine Does.value (v := .int .i64 len) ?_ rfl rfl rfl
    unfold execOp; rw [ho]
    simp [resolve, hc, h4, invoke, builtin, Builtin.len_, goInt, ht, run_underlying hu w]
   ·rename_i hv
    simp at he; subst he
    obtain ⟨x, y, h1, h2, h3⟩ := denL_cons.1 (hargs hv)
    rw [denL_nil.1 h2] at h3
    unfold den at h1; simp at h1; subst h1
    have h4 : c.args.map a.eval = #[.slice none 0 0] := by apply Array.ext'; simpa using h3
    refine Does.value (v := .int .i64 0) ?_ rfl rfl rfl
    unfold execOp; rw [ho]
    simp [resolve, hc, h4, invoke, builtin, Builtin.len_, goInt, ht, run_underlying hu w]
   ·simp at he
  ·simp at he
 ·rename_i hc
  split at he
  ·rename_i p q hv
   simp at he; subst he
   obtain ⟨x, y, h1, h2, h3⟩ := denL_cons.1 (hargs hv)
   obtain ⟨x', y', h1', h2', rfl⟩ := denL_cons.1 h2
   rw [denL_nil.1 h2'] at h3
   obtain ⟨m, em, wm, rfl⟩ := den_fl h1
   obtain ⟨n, en, wn, rfl⟩ := den_fl h1'
   have h4 : c.args.map a.eval = #[.float .f64 m, .float .f64 n] := by apply Array.ext'; simpa using h3
   have hr := Bool.and_eq_true_iff.1 (need1 hn (List.mem_singleton.2 rfl) (evs2 em en))
   refine Does.value (v := .float .f64 (Dy.dmin m n)) ?_ (fl_den (app_ev (evs2 em en) hb) (Dy.dmin_W wm wn)) rfl rfl
   unfold execOp; rw [ho]
   exact order_min hc o.type wm wn hr.1 hr.2 h4
  ·rename_i k p k' q hv
   simp at he; subst he
   obtain ⟨x, y, h1, h2, h3⟩ := denL_cons.1 (hargs hv)
   obtain ⟨x', y', h1', h2', rfl⟩ := denL_cons.1 h2
   rw [denL_nil.1 h2'] at h3
   obtain ⟨m, em, rfl⟩ := den_it h1
   obtain ⟨n, en, rfl⟩ := den_it h1'
   have h4 : c.args.map a.eval = #[.int k m, .int k' n] := by apply Array.ext'; simpa using h3
   refine Does.value (v := .int k (iMn m n)) ?_ (it_den (app_ev (evs2 em en) hb)) rfl rfl
   unfold execOp; rw [ho]
   exact order_imin hc o.type h4
  ·simp at he
 ·rename_i hc
  split at he
  ·rename_i p q hv
   simp at he; subst he
   obtain ⟨x, y, h1, h2, h3⟩ := denL_cons.1 (hargs hv)
   obtain ⟨x', y', h1', h2', rfl⟩ := denL_cons.1 h2
   rw [denL_nil.1 h2'] at h3
   obtain ⟨m, em, wm, rfl⟩ := den_fl h1
   obtain ⟨n, en, wn, rfl⟩ := den_fl h1'
   have h4 : c.args.map a.eval = #[.float .f64 m, .float .f64 n] := by apply Array.ext'; simpa using h3
   have hr := Bool.and_eq_true_iff.1 (need1 hn (List.mem_singleton.2 rfl) (evs2 em en))
   refine Does.value (v := .float .f64 (Dy.dmax m n)) ?_ (fl_den (app_ev (evs2 em en) hb) (Dy.dmax_W wm wn)) rfl rfl
   unfold execOp; rw [ho]
   exact order_max hc o.type wm wn hr.1 hr.2 h4
  ·rename_i k p k' q hv
   simp at he; subst he
   obtain ⟨x, y, h1, h2, h3⟩ := denL_cons.1 (hargs hv)
   obtain ⟨x', y', h1', h2', rfl⟩ := denL_cons.1 h2
   rw [denL_nil.1 h2'] at h3
   obtain ⟨m, em, rfl⟩ := den_it h1
   obtain ⟨n, en, rfl⟩ := den_it h1'
   have h4 : c.args.map a.eval = #[.int k m, .int k' n] := by apply Array.ext'; simpa using h3
   refine Does.value (v := .int k (iMx m n)) ?_ (it_den (app_ev (evs2 em en) hb)) rfl rfl
   unfold execOp; rw [ho]
   exact order_imax hc o.type h4
  ·rename_i p q r hv
   simp at he; subst he
   obtain ⟨x, y, h1, h2, h3⟩ := denL_cons.1 (hargs hv)
   obtain ⟨x', y', h1', h2', rfl⟩ := denL_cons.1 h2
   obtain ⟨x2, y2, h12, h22, rfl⟩ := denL_cons.1 h2'
   rw [denL_nil.1 h22] at h3
   obtain ⟨m, em, wm, rfl⟩ := den_fl h1
   obtain ⟨n, en, wn, rfl⟩ := den_fl h1'
   obtain ⟨l, el, wl, rfl⟩ := den_fl h12
   have h4 : c.args.map a.eval = #[.float .f64 m, .float .f64 n, .float .f64 l] := by apply Array.ext'; simpa using h3
   have hr := Bool.and_eq_true_iff.1 (need1 hn (List.mem_singleton.2 rfl) (evs3 em en el))
   have hr' := Bool.and_eq_true_iff.1 hr.1
   refine Does.value (v := .float .f64 (Dy.dmax (Dy.dmax m n) l)) ?_ (fl_den (app_ev (evs3 em en el) hb) (Dy.dmax_W (Dy.dmax_W wm wn) wl)) rfl rfl
   unfold execOp; rw [ho]
   exact order_max3 hc o.type wm wn wl hr'.1 hr'.2 hr.2 h4
  ·simp at he
 ·rename_i fo hc
  split at he
  ·rename_i g ac k xs hf hv
   have hfd := opd_den hT (by unfold Call.operands; rw [hc]; simp) hf
   obtain ⟨x, y, h1, h2, h3⟩ := den_fn hfd
   have hall := denL_append (denL_append h1 (hargs hv)) h2
   have hgo := useCts_ok hcts he hall hR hnb hb hn
   intro K Q hK
   have hArr : x.toArray ++ c.args.map a.eval ++ y.toArray = (x ++ c.args.toList.map a.eval ++ y).toArray := by
    apply Array.ext'; simp
   rcases hgo with ⟨hent, hcall⟩ | ⟨v, hrun, β', v', hp, hv', hen⟩
   ·unfold Oper.wp execOp
    rw [ho]
    simp only [resolve, hc, h3, Deferred.ofValue, Sem.run_bind, Sem.run_pure, Result.andThen_ok, invoke, hArr, hent, Oper.upon]
    refine hcall.mono fun en w' ⟨β', v, hp, hv', hen⟩ => ?_
    subst hen
    exact hK β' w' v hp hv'
   ·simp at hen; subst hen
    unfold Oper.wp execOp
    rw [ho]
    simp only [resolve, hc, h3, Deferred.ofValue, Sem.run_bind, Sem.run_pure, Result.andThen_ok, invoke, hArr, hrun, Oper.upon]
    exact hK β' w v hp hv'
  ·simp at he
 ·simp at he
theorem evOp_ok (hcts : AllOk P cts) (he : evOp P cts tm h nv nb o = some e) (hT : Ops β ρ tm a o.op.operands.toList) (hR : Rel β ρ h w) (hnb : β nb = none) (hb : BindsAt ρ nv e.binds) (hn : NeedsAt ρ e.needs) : Does P o a w β ρ nb e := by
 unfold evOp at he
 split at he
 ·rename_i x ho
  rw [ho] at hT
  split at he
  ·rename_i v hv
   simp at he; subst he
   exact Does.value (v := a.eval x) (by unfold execOp; rw [ho]; rfl) (opd_den hT (by simp [Op.operands]) hv) rfl rfl
  ·simp at he
 ·rename_i x ho
  rw [ho] at hT
  split at he
  ·rename_i v hv
   simp at he; subst he
   exact Does.value (v := a.eval x) (by unfold execOp; rw [ho]; rfl) (opd_den hT (by simp [Op.operands]) hv) rfl rfl
  ·simp at he
 ·rename_i c x y ho
  rw [ho] at hT
  split at he
  ·rename_i b hc
   split at he
   ·rename_i v hv
    simp at he; subst he
    obtain ⟨n, h1, h2⟩ := den_bo (opd_den hT (by simp [Op.operands]) hc)
    simp [E.ev] at h1; subst h1
    refine Does.value (v := a.eval (if b then x else y)) ?_ (opd_den hT (by cases b <;> simp [Op.operands]) hv) rfl rfl
    unfold execOp; rw [ho]
    simp only [h2, asBool, Sem.run_bind, Sem.run_pure, Result.andThen_ok]
    cases b <;> rfl
   ·simp at he
  ·simp at he
 ·rename_i t ho
  split at he
  ·rename_i z hz
   split at he
   ·simp at he; exact ok_alloc ho hz he.symm hnb
   ·simp at he
  ·simp at he
 ·rename_i t x ho
  rw [ho] at hT
  split at he
  ·rename_i v hv
   split at he
   ·simp at he; exact ok_box ho hv he.symm (by simpa [Op.operands] using hT) hnb
   ·simp at he
  ·simp at he
 ·rename_i t ps ho
  rw [ho] at hT
  exact ok_build ho he (by simpa [Op.operands] using hT)
 ·rename_i t len ps ho
  rw [ho] at hT
  exact ok_slice ho he (by simpa [Op.operands] using hT) hnb
 ·rename_i t x ho
  rw [ho] at hT
  exact ok_load ho he (by simpa [Op.operands] using hT) hR
 ·rename_i t x y ho
  rw [ho] at hT
  exact ok_store ho he (by simpa [Op.operands] using hT) hR
 ·rename_i x ho
  rw [ho] at hT
  split at he
  ·rename_i b off hv
   simp at he; subst he
   have hd := opd_den hT (by simp [Op.operands]) hv
   obtain ⟨n, _, h2⟩ := den_ptr hd
   refine Does.value (v := a.eval x) ?_ hd rfl rfl
   unfold execOp; rw [ho]; simp only [h2]; rfl
  ·rename_i f x1 x2 hv
   simp at he; subst he
   have hd := opd_den hT (by simp [Op.operands]) hv
   obtain ⟨y1, y2, _, _, h2⟩ := den_fn hd
   refine Does.value (v := a.eval x) ?_ hd rfl rfl
   unfold execOp; rw [ho]; simp only [h2]; rfl
  ·simp at he
 ·rename_i op t x y yt ho
  rw [ho] at hT
  split at he
  ·rename_i u v hu hv
   exact ok_bin ho hu hv he (by simpa [Op.operands] using hT) hb hn
  ·simp at he
 ·rename_i op t x ho
  rw [ho] at hT
  split at he
  ·rename_i u hu
   exact ok_un ho hu he (by simpa [Op.operands] using hT) hb hn
  ·simp at he
 ·rename_i s d x ho
  rw [ho] at hT
  split at he
  ·rename_i u hu
   exact ok_conv ho hu he (by simpa [Op.operands] using hT) hb hn
  ·simp at he
 ·rename_i f x y ho
  rw [ho] at hT
  split at he
  ·rename_i u v hu hv
   simp at he; subst he
   have h1 := opds_den hT (fun z hz => by simp [Op.operands]; exact .inl (by simpa using hz)) hu
   have h2 := opds_den hT (fun z hz => by simp [Op.operands]; exact .inr (by simpa using hz)) hv
   refine Does.value (v := .func (.func f) (x.map a.eval) (y.map a.eval)) ?_ ?_ rfl rfl
   ·unfold execOp; rw [ho]; rfl
   ·unfold den; rw [h1, h2]
    simp only []
    congr 2
    ·apply Array.ext'; simp
    ·apply Array.ext'; simp
  ·simp at he
 ·rename_i t x f ho
  rw [ho] at hT
  split at he
  ·rename_i b off fd hx hf
   split at he
   ·rename_i n hn'
    split at he
    ·rename_i hpos
     simp at he; exact ok_fieldAddr ho hx hf hn' hpos he.symm (by simpa [Op.operands] using hT)
    ·simp at he
   ·simp at he
  ·simp at he
 ·rename_i t x f ho
  rw [ho] at hT
  split at he
  ·rename_i cs fd hx hf
   split at he
   ·rename_i v hv
    simp at he; exact ok_field ho hx hf hv he.symm (by simpa [Op.operands] using hT)
   ·simp at he
  ·simp at he
 ·rename_i t x i ho
  rw [ho] at hT
  exact ok_indexAddr ho he (by simpa [Op.operands] using hT)
 ·rename_i t x i ho
  rw [ho] at hT
  exact ok_index ho he (by simpa [Op.operands] using hT)
 ·rename_i x i ho
  rw [ho] at hT
  split at he
  ·rename_i vs hx
   split at he
   ·rename_i v hv
    simp at he; subst he
    obtain ⟨xs, h1, h2⟩ := den_tup (opd_den hT (by simp [Op.operands]) hx)
    obtain ⟨u, h3, h4⟩ := denL_get h1 hv
    refine Does.value (v := u) ?_ h3 rfl rfl
    unfold execOp; rw [ho]
    simp [Instr.extract, h2, h4]
   ·simp at he
  ·simp at he
 ·rename_i t x ho
  rw [ho] at hT
  split at he
  ·rename_i b off hv
   split at he
   ·rename_i len el hu
    split at he
    ·rename_i s hs
     simp at he; subst he
     obtain ⟨m, h1, h2⟩ := den_ptr (opd_den hT (by simp [Op.operands]) hv)
     refine Does.value (v := .slice (some ⟨m, off, none⟩) len len) ?_ (by unfold den; rw [h1]) rfl rfl
     unfold execOp; rw [ho]
     simp [Instr.sliceAt, Instr.sliceBounds, h2, run_underlying hu w, Instr.sureAddr, run_size hs, add_at]
    ·simp at he
   ·simp at he
  ·simp at he
 ·rename_i c ho
  rw [ho] at hT
  exact ok_call ho hcts he (by simpa [Op.operands] using hT) hR hnb hb hn
 ·simp at he
end
end Go.Proofs.YtkhplflbcgjkcaaGreat
