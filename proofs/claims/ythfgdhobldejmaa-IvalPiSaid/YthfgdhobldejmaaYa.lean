/- A reckoning of programs by symbols: values of known shape whose numbers are variables; what each operation makes of them. Definitions. -/
import Derived.Test.YthfgdhobldejmaaKj
namespace Go.Proofs.Ythfgdhobldejmaa
open Go Go.RowKit

/-- A number that is reckoned with. -/
inductive U where
  | f (n : Nat)
  | i (n : Int)
  | b (x : Bool)
  | any (f : Nat → Value)
  | no
instance : Inhabited U := ⟨.no⟩
def U.F : U → Nat
  | .f n => n
  | _ => 0
def U.I : U → Int
  | .i n => n
  | _ => 0
def U.B : U → Bool
  | .b x => x
  | _ => false
/-- A variable, or a number itself. -/
inductive E where
  | v (n : Nat)
  | l (u : U)
def E.ev (ρ : List U) : E → Option U
  | .v n => ρ[n]?
  | .l u => some u
def evs (ρ : List U) : List E → Option (List U)
  | [] => some []
  | e :: l => match e.ev ρ, evs ρ l with
    | some u, some us => some (u :: us)
    | _, _ => none
/-- A value by symbols: its shape is known, its blocks have numbers of their own. -/
inductive AV where
  | fl (e : E)
  | it (k : IntKind) (e : E)
  | bo (e : E)
  | ptr (b o : Nat)
  | pnil
  | slc (b o len cap : Nat)
  | snil
  | fn (f : Nat) (first capt : List AV)
  | fnil
  | agg (l : List AV)
  | tup (l : List AV)
  | und
  | str (s : ByteArray)
  | val (e : E) (t : Nat)
instance : Inhabited AV := ⟨.und⟩

def W64 : Nat := 18446744073709551616

mutual
/-- What a value by symbols stands for. -/
def den (β : Nat → Option Nat) (ρ : List U) : AV → Option Value
  | .fl e => match e.ev ρ with
    | some (.f n) => if n < W64 then some (.float .f64 n) else none
    | _ => none
  | .it k e => match e.ev ρ with
    | some (.i n) => some (.int k n)
    | _ => none
  | .bo e => match e.ev ρ with
    | some (.b x) => some (.bool x)
    | _ => none
  | .ptr b o => match β b with
    | some n => some (.pointer (some ⟨n, o, none⟩))
    | none => none
  | .pnil => some (.pointer none)
  | .slc b o len cap => match β b with
    | some n => some (.slice (some ⟨n, o, none⟩) len cap)
    | none => none
  | .snil => some (.slice none 0 0)
  | .fn f a c => match denL β ρ a, denL β ρ c with
    | some x, some y => some (.func (.func f) x.toArray y.toArray)
    | _, _ => none
  | .fnil => some .nilFunc
  | .agg l => match denL β ρ l with
    | some x => some (.agg x.toArray)
    | none => none
  | .tup l => match denL β ρ l with
    | some x => some (.tuple x.toArray)
    | none => none
  | .und => some undef
  | .str s => some (.string s)
  | .val e t => match e.ev ρ with
    | some (.any f) => some (f t)
    | _ => none
def denL (β : Nat → Option Nat) (ρ : List U) : List AV → Option (List Value)
  | [] => some []
  | a :: l => match den β ρ a, denL β ρ l with
    | some x, some y => some (x :: y)
    | _, _ => none
end

/-- One cell's value. -/
def AV.scalar : AV → Bool
  | .agg _ | .tup _ | .und | .val _ _ => false
  | _ => true
def AV.cells : AV → List AV
  | .agg l => l
  | v => [v]

def constS : Value → Option AV
  | .float .f64 n => if n < W64 then some (.fl (.l (.f n))) else none
  | .int k n => some (.it k (.l (.i n)))
  | .bool x => some (.bo (.l (.b x)))
  | .pointer none => some .pnil
  | .slice none 0 0 => some .snil
  | .func (.func f) a c => if a.size == 0 && c.size == 0 then some (.fn f [] []) else none
  | .nilFunc => some .fnil
  | .string s => some (.str s)
  | _ => none
def constL : List Value → Option (List AV)
  | [] => some []
  | v :: l => match constS v, constL l with
    | some x, some y => some (x :: y)
    | _, _ => none
def constAV : Value → Option AV
  | .agg cs => (constL cs.toList).map .agg
  | v => constS v

def AV.isVal : AV → Bool
  | .val _ _ => true
  | _ => false
def opd (tm : List AV) : Operand → Option AV
  | .tmp t => match tm[t]? with
    | some (.val _ _) => none
    | x => x
  | .const v => constAV v
  | .func f => some (.fn f [] [])
  | .global _ => none
def opds (tm : List AV) : List Operand → Option (List AV)
  | [] => some []
  | o :: l => match opd tm o, opds tm l with
    | some x, some y => some (x :: y)
    | _, _ => none

/-- Variables that get their numbers together, by a function of others. -/
structure Bind where
  f : List U → Nat → U
  m : Nat
  args : List E
structure Need where
  p : List U → Bool
  args : List E
/-- What an operation does. -/
structure Eff where
  binds : List Bind := []
  needs : List Need := []
  val : AV := .und
  upd : List (Nat × List AV) := []
  new : Option (List AV) := none

/-- A call's contract, by symbols: variables 0 .. m - 1 are the arguments' numbers, blocks 0 .. are those that it reads or writes. -/
structure Ct where
  m : Nat
  blks : List (List AV)
  args : List AV
  eff : Eff

abbrev Heap := List (Option (List AV))

/-! Types -/
section
variable (P : Program)
def tAgg (t : TypeId) : Option Bool := match P.underlying t with
  | some (.struct _) => some true
  | some (.array _ _) => some true
  | some _ => some false
  | none => none
def tSize (t : TypeId) : Option Nat := match P.info? t with
  | some i => some i.size
  | none => none
def tZero (t : TypeId) : Option AV := match P.info? t with
  | some i => match i.zero with
    | some z => constAV z
    | none => none
  | none => none
def partAV (t : TypeId) (cs : List AV) (off : Nat) : Option AV := match tAgg P t with
  | some true => match tSize P t with
    | some n => if off + n ≤ cs.length then some (.agg ((cs.drop off).take n)) else none
    | none => none
  | some false => cs[off]?
  | none => none
def fieldOf (t : TypeId) (f : Nat) : Option Field := match P.underlying t with
  | some (.struct fs) => fs[f]?
  | _ => none

def splice (c : List AV) (o : Nat) (xs : List AV) : List AV := c.take o ++ xs ++ c.drop (o + xs.length)

def litU : E → Option U
  | .l u => some u
  | .v _ => none
def litsU : List E → Option (List U)
  | [] => some []
  | e :: l => match litU e, litsU l with
    | some u, some us => some (u :: us)
    | _, _ => none
/-- The result of a function of numbers: at once, or by a new variable. -/
def app (nv : Nat) (f : List U → U) (args : List E) : E × List Bind := match litsU args with
  | some us => (.l (f us), [])
  | none => (.v nv, [⟨fun us _ => f us, 1, args⟩])

def evLoad (tm : List AV) (h : Heap) (t : TypeId) (a : Operand) : Option Eff := match opd tm a with
  | some (.ptr b o) => match h[b]? with
    | some (some c) => match partAV P t c o with
      | some v => some { val := v }
      | none => none
    | _ => none
  | _ => none

def evStore (tm : List AV) (h : Heap) (t : TypeId) (a x : Operand) : Option Eff := match opd tm a, opd tm x with
  | some (.ptr b o), some v => match h[b]?, tSize P t with
    | some (some c), some n => if v.cells.length = n ∧ o + n ≤ c.length ∧ v.cells.all AV.scalar = true then some { upd := [(b, splice c o v.cells)] } else none
    | _, _ => none
  | _, _ => none

def okF (o : Option Nat) : Bool := match o with
  | some r => decide (r < W64)
  | none => false

def fB (g : Nat → Nat → Option Nat) (us : List U) : U := .f ((g (us.getD 0 default).F (us.getD 1 default).F).getD 0)
def fN (g : Nat → Nat → Option Nat) (us : List U) : Bool := okF (g (us.getD 0 default).F (us.getD 1 default).F)
def cB (g : Nat → Nat → Bool) (us : List U) : U := .b (g (us.getD 0 default).F (us.getD 1 default).F)
def iB (g : Int → Int → Int) (us : List U) : U := .i (g (us.getD 0 default).I (us.getD 1 default).I)
def jB (g : Int → Int → Bool) (us : List U) : U := .b (g (us.getD 0 default).I (us.getD 1 default).I)
def bB (g : Bool → Bool → Bool) (us : List U) : U := .b (g (us.getD 0 default).B (us.getD 1 default).B)
def iN (us : List U) : Bool := decide ((us.getD 1 default).I ≠ 0)

def floatFn : BinOp → Option (Nat → Nat → Option Nat)
  | .add => some Ieee.double.add
  | .sub => some Ieee.double.sub
  | .mul => some Ieee.double.mul
  | .quo => some Ieee.double.div
  | _ => none
def floatRel : BinOp → Option (Nat → Nat → Bool)
  | .eql => some Dy.feq
  | .neq => some Dy.fne
  | .lss => some Dy.flt
  | .leq => some fun a b => Dy.flt a b || Dy.feq a b
  | .gtr => some Dy.fgt
  | .geq => some fun a b => Dy.fgt a b || Dy.feq a b
  | _ => none
def intFn (k : IntKind) : BinOp → Option (Int → Int → Int)
  | .add => some fun a b => k.wrap (a + b)
  | .sub => some fun a b => k.wrap (a - b)
  | .mul => some fun a b => k.wrap (a * b)
  | .and => some fun a b => k.wrap ((BitVec.ofInt k.bits a &&& BitVec.ofInt k.bits b).toNat : Nat)
  | .or => some fun a b => k.wrap ((BitVec.ofInt k.bits a ||| BitVec.ofInt k.bits b).toNat : Nat)
  | .xor => some fun a b => k.wrap ((BitVec.ofInt k.bits a ^^^ BitVec.ofInt k.bits b).toNat : Nat)
  | .andNot => some fun a b => k.wrap ((BitVec.ofInt k.bits a &&& ~~~(BitVec.ofInt k.bits b)).toNat : Nat)
  | _ => none
def shFn (k : IntKind) : BinOp → Option (Int → Int → Int)
  | .shl => some fun x y => k.wrap (x * 2 ^ (min y.toNat k.bits))
  | .shr => some fun x y => x.fdiv (2 ^ (min y.toNat k.bits))
  | _ => none
def sN (us : List U) : Bool := decide (0 ≤ (us.getD 1 default).I)
def intDv (k : IntKind) : BinOp → Option (Int → Int → Int)
  | .quo => some fun a b => k.wrap (a.tdiv b)
  | .rem => some fun a b => a.tmod b
  | _ => none
def intRel : BinOp → Option (Int → Int → Bool)
  | .eql => some fun a b => a == b
  | .neq => some fun a b => a != b
  | .lss => some fun a b => decide (a < b)
  | .leq => some fun a b => decide (a ≤ b)
  | .gtr => some fun a b => decide (a > b)
  | .geq => some fun a b => decide (a ≥ b)
  | _ => none
def isBoolT (t : TypeId) : Bool := match P.underlying t with
  | some .bool => true
  | _ => false
def isPtrT (t : TypeId) : Bool := match P.underlying t with
  | some (.pointer _) => true
  | _ => false

/-- Kinds of numbers. -/
inductive Kd where
  | f
  | i
  | b
def eqK : Kd → U → U → Bool
  | .f, x, y => Dy.feq x.F y.F
  | .i, x, y => x.I == y.I
  | .b, x, y => x.B == y.B
def eqN : List Kd → List U → Bool
  | [], _ => true
  | k :: ks, x :: y :: us => eqK k x y && eqN ks us
  | _, _ => false
def eqB (ks : List Kd) (us : List U) : U := .b (eqN ks us)
def neB (ks : List Kd) (us : List U) : U := .b (!eqN ks us)
def flat2 : List (Kd × E × E) → List E
  | [] => []
  | (_, x, y) :: l => x :: y :: flat2 l
/-- Structs, arrays: part by part. -/
def eqFs (r : TypeId → AV → AV → Option (List (Kd × E × E))) (xs ys : List AV) : List Field → Option (List (Kd × E × E))
  | [] => some []
  | f :: fs => if f.name ≠ "_" then match partAV P f.type xs f.offset, partAV P f.type ys f.offset with
      | some a, some b => match r f.type a b, eqFs r xs ys fs with
        | some l, some m => some (l ++ m)
        | _, _ => none
      | _, _ => none
    else eqFs r xs ys fs
def eqIs (r : AV → AV → Option (List (Kd × E × E))) (e : TypeId) (n : Nat) (xs ys : List AV) : List Nat → Option (List (Kd × E × E))
  | [] => some []
  | i :: is => match partAV P e xs (i * n), partAV P e ys (i * n) with
      | some a, some b => match r a b, eqIs r e n xs ys is with
        | some l, some m => some (l ++ m)
        | _, _ => none
      | _, _ => none
def eqE : Nat → TypeId → AV → AV → Option (List (Kd × E × E))
  | 0, _, _, _ => none
  | d + 1, t, a, b => match P.underlying t, a, b with
    | some .bool, .bo x, .bo y => some [(.b, x, y)]
    | some (.int _), .it k x, .it k' y => if k = k' then some [(.i, x, y)] else none
    | some (.float _), .fl x, .fl y => some [(.f, x, y)]
    | some (.struct fs), .agg xs, .agg ys => if P.stoodInHeld t = false then eqFs P (eqE d) xs ys fs.toList else none
    | some (.array n e), .agg xs, .agg ys => match tSize P e with
      | some s => eqIs P (eqE d e) e s xs ys (List.range n)
      | none => none
    | _, _, _ => none

/-- An operation of two numbers. -/
def evBin (nv : Nat) (op : BinOp) (t : TypeId) : AV → AV → Option Eff
  | .fl a, .fl b => match floatFn op with
    | some g => some { binds := (app nv (fB g) [a, b]).2, needs := [⟨fN g, [a, b]⟩], val := .fl (app nv (fB g) [a, b]).1 }
    | none => match floatRel op with
      | some g => some { binds := (app nv (cB g) [a, b]).2, val := .bo (app nv (cB g) [a, b]).1 }
      | none => none
  | .it k a, .it k' b => match shFn k op with
    | some g => some { binds := (app nv (iB g) [a, b]).2, needs := [⟨sN, [a, b]⟩], val := .it k (app nv (iB g) [a, b]).1 }
    | none => if k = k' then match intFn k op with
    | some g => some { binds := (app nv (iB g) [a, b]).2, val := .it k (app nv (iB g) [a, b]).1 }
    | none => match intDv k op with
      | some g => some { binds := (app nv (iB g) [a, b]).2, needs := [⟨iN, [a, b]⟩], val := .it k (app nv (iB g) [a, b]).1 }
      | none => match intRel op with
        | some g => some { binds := (app nv (jB g) [a, b]).2, val := .bo (app nv (jB g) [a, b]).1 }
        | none => none
     else none
  | .agg xs, .agg ys => if P.eqGuardType P.depth t = false then match eqE P 10000 t (.agg xs) (.agg ys) with
    | some l => match op with
      | .eql => some { binds := (app nv (eqB (l.map (·.1))) (flat2 l)).2, val := .bo (app nv (eqB (l.map (·.1))) (flat2 l)).1 }
      | .neq => some { binds := (app nv (neB (l.map (·.1))) (flat2 l)).2, val := .bo (app nv (neB (l.map (·.1))) (flat2 l)).1 }
      | _ => none
    | none => none
    else none
  | .bo a, .bo b => if isBoolT P t = true then match op with
    | .eql => some { binds := (app nv (bB fun x y => x == y) [a, b]).2, val := .bo (app nv (bB fun x y => x == y) [a, b]).1 }
    | .neq => some { binds := (app nv (bB fun x y => !(x == y)) [a, b]).2, val := .bo (app nv (bB fun x y => !(x == y)) [a, b]).1 }
    | _ => none
    else none
  | .ptr _ _, .pnil => if isPtrT P t = true then match op with
    | .eql => some { val := .bo (.l (.b false)) }
    | .neq => some { val := .bo (.l (.b true)) }
    | _ => none
    else none
  | .pnil, .pnil => if isPtrT P t = true then match op with
    | .eql => some { val := .bo (.l (.b true)) }
    | .neq => some { val := .bo (.l (.b false)) }
    | _ => none
    else none
  | _, _ => none

def nB (us : List U) : U := .b (!(us.getD 0 default).B)
def mF (us : List U) : U := .f (Op.negFloat .f64 (us.getD 0 default).F)
def mN (us : List U) : Bool := decide (Op.negFloat .f64 (us.getD 0 default).F < W64)
def mI (k : IntKind) (us : List U) : U := .i (k.wrap (0 - (us.getD 0 default).I))
def evUn (nv : Nat) : UnOp → AV → Option Eff
  | .not, .bo a => some { binds := (app nv nB [a]).2, val := .bo (app nv nB [a]).1 }
  | .neg, .fl a => some { binds := (app nv mF [a]).2, needs := [⟨mN, [a]⟩], val := .fl (app nv mF [a]).1 }
  | .neg, .it k a => some { binds := (app nv (mI k) [a]).2, val := .it k (app nv (mI k) [a]).1 }
  | _, _ => none

def wI (k : IntKind) (us : List U) : U := .i (k.wrap (us.getD 0 default).I)
def nF (us : List U) : U := .f (FloatKind.f64.nearest (us.getD 0 default).I)
def nN (us : List U) : Bool := decide (FloatKind.f64.nearest (us.getD 0 default).I < W64)
def evConv (nv : Nat) (src dst : TypeId) : AV → Option Eff
  | .it _ a => match P.underlying src, P.underlying dst with
    | some (.int _), some (.int k) => some { binds := (app nv (wI k) [a]).2, val := .it k (app nv (wI k) [a]).1 }
    | some (.int _), some (.float .f64) => some { binds := (app nv nF [a]).2, needs := [⟨nN, [a]⟩], val := .fl (app nv nF [a]).1 }
    | _, _ => none
  | .fl a => match P.underlying src, P.underlying dst with
    | some (.float .f64), some (.float .f64) => some { val := .fl a }
    | _, _ => none
  | _ => none

def parts (tm : List AV) : List (Nat × Operand) → Option (List (Nat × AV))
  | [] => some []
  | (i, o) :: l => match opd tm o, parts tm l with
    | some x, some y => some ((i, x) :: y)
    | _, _ => none
def fillAV (place : Nat → Option (Nat × Nat)) (cs : List AV) : List (Nat × AV) → Option (List AV)
  | [] => some cs
  | (i, v) :: l => match place i with
    | some (off, size) => if v.cells.length = size ∧ off + size ≤ cs.length ∧ v.isVal = false then fillAV place (splice cs off v.cells) l else none
    | none => none

def places (fs : List Field) : Option (List (Nat × Nat)) := match fs with
  | [] => some []
  | f :: l => match tSize P f.type, places l with
    | some n, some y => some ((f.offset, n) :: y)
    | _, _ => none

def evBuild (tm : List AV) (t : TypeId) (ps : List (Nat × Operand)) : Option Eff := match parts tm ps, tZero P t with
  | some xs, some z => match P.underlying t with
    | some (.struct fs) => match places P fs.toList with
      | some pl => match fillAV (fun i => pl[i]?) z.cells xs with
        | some cs => some { val := .agg cs }
        | none => none
      | none => none
    | some (.array _ e) => match tSize P e with
      | some n => match fillAV (fun i => some (i * n, n)) z.cells xs with
        | some cs => some { val := .agg cs }
        | none => none
      | none => none
    | _ => none
  | _, _ => none

/-- The zero value's cells, so many times. -/
def zeros (z : List AV) (n : Nat) : List AV := (List.range n).map fun i => z.getD (i % z.length) .und
def evSlice (tm : List AV) (nb : Nat) (t : TypeId) (len : Nat) (ps : List (Nat × Operand)) : Option Eff := match P.underlying t with
  | some (.slice e) => match parts tm ps, tSize P e, tZero P e with
    | some xs, some n, some z => if z.cells.length = n ∧ 0 < n ∧ 0 < len ∧ len * n ≤ 16777216 then match fillAV (fun i => some (i * n, n)) (zeros z.cells (len * n)) xs with
      | some cs => if cs.all AV.scalar = true then some { val := .slc nb 0 len len, new := some cs } else none
      | none => none
      else none
    | _, _, _ => none
  | _ => none

/-- A place in a row. -/
def evIxA (tm : List AV) (t : TypeId) (x i : Operand) : Option Eff := match opd tm x, opd tm i with
  | some (.ptr b o), some (.it _ (.l (.i n))) => match P.underlying t with
    | some (.array len e) => match tSize P e with
      | some s => if 0 ≤ n ∧ n < len then some { val := .ptr b (o + n.toNat * s) } else none
      | none => none
    | _ => none
  | some (.slc b o len _), some (.it _ (.l (.i n))) => match P.underlying t with
    | some (.slice e) => match tSize P e with
      | some s => if 0 ≤ n ∧ n < len then some { val := .ptr b (o + n.toNat * s) } else none
      | none => none
    | _ => none
  | _, _ => none
def evIx (tm : List AV) (t : TypeId) (x i : Operand) : Option Eff := match opd tm x, opd tm i with
  | some (.agg cs), some (.it _ (.l (.i n))) => match P.underlying t with
    | some (.array len e) => match tSize P e with
      | some s => if 0 ≤ n ∧ n < len then match partAV P e cs (n.toNat * s) with
        | some v => some { val := v }
        | none => none
        else none
      | none => none
    | _ => none
  | _, _ => none

/-! Contracts at a call -/
mutual
def sub (s : List E) (μ : List Nat) : AV → Option AV
  | .fl e => match subE s e with
    | some e => some (.fl e)
    | none => none
  | .it k e => match subE s e with
    | some e => some (.it k e)
    | none => none
  | .bo e => match subE s e with
    | some e => some (.bo e)
    | none => none
  | .ptr b o => match μ[b]? with
    | some n => some (.ptr n o)
    | none => none
  | .pnil => some .pnil
  | .slc b o len cap => match μ[b]? with
    | some n => some (.slc n o len cap)
    | none => none
  | .snil => some .snil
  | .fn f a c => match subL s μ a, subL s μ c with
    | some x, some y => some (.fn f x y)
    | _, _ => none
  | .fnil => some .fnil
  | .agg l => match subL s μ l with
    | some x => some (.agg x)
    | none => none
  | .tup l => match subL s μ l with
    | some x => some (.tup x)
    | none => none
  | .und => some .und
  | .str x => some (.str x)
  | .val e t => match subE s e with
    | some e => some (.val e t)
    | none => none
def subL (s : List E) (μ : List Nat) : List AV → Option (List AV)
  | [] => some []
  | a :: l => match sub s μ a, subL s μ l with
    | some x, some y => some (x :: y)
    | _, _ => none
def subE (s : List E) : E → Option E
  | .v n => s[n]?
  | .l u => some (.l u)
end

/-- What is met while a pattern is held against a value: numbers of the variables, in their order; blocks. -/
structure Met where
  s : List (Nat × E)
  μ : List (Nat × Nat)

mutual
def meet (p v : AV) (m : Met) : Option Met := match p, v with
  | .fl (.v n), .fl e => some { m with s := m.s ++ [(n, e)] }
  | .it k (.v n), .it k' e => if k = k' then some { m with s := m.s ++ [(n, e)] } else none
  | .bo (.v n), .bo e => some { m with s := m.s ++ [(n, e)] }
  | .fl (.l _), .fl _ => some m
  | .it _ (.l _), .it _ _ => some m
  | .bo (.l _), .bo _ => some m
  | .ptr b o, .ptr b' o' => if o = o' then some { m with μ := m.μ ++ [(b, b')] } else none
  | .slc b o _ _, .slc b' o' _ _ => if o = o' then some { m with μ := m.μ ++ [(b, b')] } else none
  | .fn f a c, .fn f' a' c' => if f = f' then match meetL a a' m with
    | some m => meetL c c' m
    | none => none
    else none
  | .agg l, .agg l' => meetL l l' m
  | .tup l, .tup l' => meetL l l' m
  | .pnil, .pnil => some m
  | .snil, .snil => some m
  | .fnil, .fnil => some m
  | _, _ => none
def meetL (p v : List AV) (m : Met) : Option Met := match p, v with
  | [], [] => some m
  | a :: p, b :: v => match meet a b m with
    | some m => meetL p v m
    | none => none
  | _, _ => none
end

def look (l : List (Nat × Nat)) (k : Nat) : Option Nat := match l with
  | [] => none
  | (a, b) :: l => if a = k then some b else look l k
/-- The blocks, one behind the other; each is met before its turn. -/
def meetB (h : Heap) : List (List AV) → Nat → Met → Option Met
  | [], _, m => some m
  | c :: cs, k, m => match look m.μ k with
    | some n => match h[n]? with
      | some (some d) => match meetL c d m with
        | some m => meetB h cs (k + 1) m
        | none => none
      | _ => none
    | none => none
def mu (l : List (Nat × Nat)) : Nat → Nat → Option (List Nat)
  | 0, _ => some []
  | n + 1, k => match look l k, mu l n (k + 1) with
    | some x, some y => some (x :: y)
    | _, _ => none

def lookE (l : List (Nat × E)) (k : Nat) : Option E := match l with
  | [] => none
  | (a, b) :: l => if Nat.beq a k = true then some b else lookE l k
def muE (l : List (Nat × E)) : Nat → Nat → Option (List E)
  | 0, _ => some []
  | n + 1, k => match lookE l k, muE l n (k + 1) with
    | some x, some y => some (x :: y)
    | _, _ => none

def U.same : U → U → Bool
  | .f x, .f y => Nat.beq x y
  | .i x, .i y => decide (x = y)
  | .b x, .b y => x == y
  | _, _ => false
def E.same : E → E → Bool
  | .v x, .v y => Nat.beq x y
  | .l x, .l y => x.same y
  | _, _ => false
mutual
def AV.same : AV → AV → Bool
  | .fl a, .fl b => a.same b
  | .it k a, .it k' b => decide (k = k') && a.same b
  | .bo a, .bo b => a.same b
  | .ptr a b, .ptr c d => Nat.beq a c && Nat.beq b d
  | .pnil, .pnil => true
  | .slc a b c d, .slc a' b' c' d' => Nat.beq a a' && Nat.beq b b' && Nat.beq c c' && Nat.beq d d'
  | .snil, .snil => true
  | .fn f a c, .fn f' a' c' => Nat.beq f f' && sameL a a' && sameL c c'
  | .fnil, .fnil => true
  | .agg l, .agg l' => sameL l l'
  | .tup l, .tup l' => sameL l l'
  | .und, .und => true
  | .val a t, .val b t' => a.same b && Nat.beq t t'
  | _, _ => false
def sameL : List AV → List AV → Bool
  | [], [] => true
  | a :: l, b :: m => a.same b && sameL l m
  | _, _ => false
end

def subEs (s : List E) : List E → Option (List E)
  | [] => some []
  | e :: l => match subE s e, subEs s l with
    | some x, some y => some (x :: y)
    | _, _ => none
def news (nv : Nat) : Nat → List E
  | 0 => []
  | m + 1 => .v nv :: news (nv + 1) m
/-- A contract's variables, at the call: s grows with each bind. -/
def subBinds (nv : Nat) : List Bind → List E → Option (List Bind × List E)
  | [], s => some ([], s)
  | b :: l, s => match subEs s b.args with
    | some a => match subBinds (nv + b.m) l (s ++ news nv b.m) with
      | some (bs, s') => some ({ b with args := a } :: bs, s')
      | none => none
    | none => none
def subNeeds (s : List E) : List Need → Option (List Need)
  | [] => some []
  | n :: l => match subEs s n.args, subNeeds s l with
    | some a, some y => some ({ n with args := a } :: y)
    | _, _ => none
def subUpd (s : List E) (μ : List Nat) : List (Nat × List AV) → Option (List (Nat × List AV))
  | [] => some []
  | (k, c) :: l => match μ[k]?, subL s μ c, subUpd s μ l with
    | some n, some d, some y => some ((n, d) :: y)
    | _, _, _ => none
/-- Are the blocks as the contract asks? -/
def heldB (h : Heap) (s : List E) (μ : List Nat) : List (List AV) → Nat → Bool
  | [], _ => true
  | c :: cs, k => (match μ[k]? with
    | some n => match h[n]?, subL s μ c with
      | some (some d), some c' => sameL c' d
      | _, _ => false
    | none => false) && heldB h s μ cs (k + 1)
def nodupB : List Nat → Bool
  | [] => true
  | n :: l => !l.contains n && nodupB l

def useCt (h : Heap) (nv nb : Nat) (ct : Ct) (args : List AV) : Option Eff :=
  match meetL ct.args args ⟨[], []⟩ with
  | none => none
  | some m => match meetB h ct.blks 0 m with
    | none => none
    | some m => match mu m.μ ct.blks.length 0 with
      | none => none
      | some μ => match muE m.s ct.m 0 with
       | none => none
       | some s0 => match subL s0 μ ct.args with
        | none => none
        | some args' => if sameL args' args = true ∧ s0.length = ct.m ∧ heldB h s0 μ ct.blks 0 = true ∧ nodupB μ = true ∧ (μ.all fun n => decide (n < nb)) = true then
          match subBinds nv ct.eff.binds s0 with
          | none => none
          | some (bs, s) => match subNeeds s ct.eff.needs, sub s (μ ++ [nb]) ct.eff.val, subUpd s (μ ++ [nb]) ct.eff.upd, (match ct.eff.new with | none => some none | some c => (subL s (μ ++ [nb]) c).map some) with
            | some ns, some v, some up, some nw => some { binds := bs, needs := ns, val := v, upd := up, new := nw }
            | _, _, _, _ => none
          else none

def useCts (h : Heap) (nv nb f : Nat) (args : List AV) : List (Nat × Ct) → Option Eff
  | [] => none
  | (g, ct) :: l => if Nat.beq f g = true then match useCt h nv nb ct args with
    | some e => some e
    | none => useCts h nv nb f args l
    else useCts h nv nb f args l

def rN (us : List U) : Bool := Dy.right (us.getD 0 default).F && Dy.right (us.getD 1 default).F
def gB (g : Nat → Nat → Nat) (us : List U) : U := .f (g (us.getD 0 default).F (us.getD 1 default).F)

def lenT (ts : Array TypeId) : Bool := match ts.toList with
  | [t] => match P.underlying t with
    | some (.slice _) => true
    | _ => false
  | _ => false
def evCall (cts : List (Nat × Ct)) (tm : List AV) (h : Heap) (nv nb : Nat) (c : Call) : Option Eff := match c.callee with
  | .builtin .len => if lenT P c.argTypes = true then match opds tm c.args.toList with
    | some [.slc _ _ len _] => some { val := .it .i64 (.l (.i len)) }
    | some [.snil] => some { val := .it .i64 (.l (.i 0)) }
    | _ => none
    else none
  | .builtin .min => match opds tm c.args.toList with
    | some [.fl a, .fl b] => some { binds := (app nv (gB Dy.dmin) [a, b]).2, needs := [⟨rN, [a, b]⟩], val := .fl (app nv (gB Dy.dmin) [a, b]).1 }
    | _ => none
  | .builtin .max => match opds tm c.args.toList with
    | some [.fl a, .fl b] => some { binds := (app nv (gB Dy.dmax) [a, b]).2, needs := [⟨rN, [a, b]⟩], val := .fl (app nv (gB Dy.dmax) [a, b]).1 }
    | _ => none
  | .value f => match opd tm f, opds tm c.args.toList with
    | some (.fn g a k), some xs => useCts h nv nb g (a ++ xs ++ k) cts
    | _, _ => none
  | _ => none

/-- An operation. -/
def evOp (cts : List (Nat × Ct)) (tm : List AV) (h : Heap) (nv nb : Nat) (o : Oper) : Option Eff := match o.op with
  | .move x | .assign x => match opd tm x with
    | some v => some { val := v }
    | none => none
  | .pick c a b => match opd tm c with
    | some (.bo (.l (.b x))) => match opd tm (if x then a else b) with
      | some v => some { val := v }
      | none => none
    | _ => none
  | .alloc t => match tZero P t with
    | some z => if z.cells.all AV.scalar = true then some { val := .ptr nb 0, new := some z.cells } else none
    | none => none
  | .box _ x => match opd tm x with
    | some v => if v.cells.all AV.scalar = true then some { val := .ptr nb 0, new := some v.cells } else none
    | none => none
  | .build t ps => evBuild P tm t ps.toList
  | .buildSlice t len ps => evSlice P tm nb t len ps.toList
  | .load t a => evLoad P tm h t a
  | .store t a x => evStore P tm h t a x
  | .nilCheck x => match opd tm x with
    | some (.ptr b o) => some { val := .ptr b o }
    | some (.fn f a c) => some { val := .fn f a c }
    | _ => none
  | .binOp op t x y _ => match opd tm x, opd tm y with
    | some a, some b => evBin P nv op t a b
    | _, _ => none
  | .unOp op _ x => match opd tm x with
    | some a => evUn nv op a
    | none => none
  | .convert s d x => match opd tm x with
    | some a => evConv P nv s d a
    | none => none
  | .makeFunc (.func f) a c => match opds tm a.toList, opds tm c.toList with
    | some x, some y => some { val := .fn f x y }
    | _, _ => none
  | .fieldAddr t x f => match opd tm x, fieldOf P t f with
    | some (.ptr b o), some fd => match tSize P fd.type with
      | some n => if 0 < n then some { val := .ptr b (o + fd.offset) } else none
      | none => none
    | _, _ => none
  | .field t x f => match opd tm x, fieldOf P t f with
    | some (.agg cs), some fd => match partAV P fd.type cs fd.offset with
      | some v => some { val := v }
      | none => none
    | _, _ => none
  | .indexAddr t x i => evIxA P tm t x i
  | .index t x i => evIx P tm t x i
  | .extract x i => match opd tm x with
    | some (.tup vs) => match vs[i]? with
      | some v => some { val := v }
      | none => none
    | _ => none
  | .call c => evCall P cts tm h nv nb c
  | _ => none
end
end Go.Proofs.Ythfgdhobldejmaa
