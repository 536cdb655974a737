import Derived.Test.YtbmnhagbplkagaaProg
import Derived.WalkKit
import Derived.KernelRfl
import Derived.Deep.OwnRows
/- The abstract layer: data types, abstract values and states, the abstract evaluator of code. -/
namespace Go.Proofs.Ytbmnhagbplkagaa
namespace B

/-- Element types of slices, and what is read of them. -/
inductive Ty where
  | u8 | int | bool
  | slice (t : Ty)
  | pair (a b : Ty)
  deriving DecidableEq

@[reducible] def Ty.T : Ty → Type
  | .u8 => UInt8
  | .int => Int
  | .bool => Bool
  | .slice t => List t.T
  | .pair a b => a.T × b.T

def Ty.dflt : (t : Ty) → t.T
  | .u8 => (0 : UInt8)
  | .int => (0 : Int)
  | .bool => false
  | .slice _ => []
  | .pair a b => (a.dflt, b.dflt)

def Ty.size : Ty → Nat
  | .u8 | .int | .bool | .slice _ => 1
  | .pair a b => a.size + b.size

def Ty.bytes : Ty → Nat
  | .u8 | .bool => 1
  | .int => 8
  | .slice _ => 24
  | .pair a b => a.bytes + b.bytes

abbrev tB : Ty := .slice .u8
abbrev tBB : Ty := .slice tB
abbrev tW : Ty := .pair .int tB
abbrev tAct : Ty := .pair .bool (.pair .u8 .u8)
abbrev tCr : Ty := .pair tBB (.pair .bool .u8)

/-- An abstract value of one cell. -/
inductive CV where
  | undef
  | v (x : Value)
  | str (s : List UInt8)
  | emp
  | sl (t : Ty) (xs : List t.T)
  | clp (t : Ty) (xs : List t.T)
  | el (t : Ty) (x : t.T)
  | ptr (id off : Nat)
  | own (id : Nat)
  | osub (id lo n : Nat)
  | clo (f : Nat) (t : Ty) (x : t.T)
  | slN (t : Ty) (xs : List t.T)
  | elv (v : Value) (t : Ty) (x : t.T)

inductive PV where
  | one (c : CV)
  | agg (cs : List CV)
  | arr (xs : List UInt8)

inductive AV where
  | p (x : PV)
  | tup (xs : List PV)

abbrev o1 (c : CV) : AV := .p (.one c)
abbrev vI (n : Int) : CV := .v (.int .i64 n)
abbrev vB (b : Bool) : CV := .v (.bool b)
abbrev uAV : AV := .p (.one .undef)

/-- What lies in an abstract block. -/
inductive HB where
  | none
  | box (cs : List CV)
  | own (t : Ty) (xs : List t.T)
  | arr (xs : List UInt8)
  | obj (g : Nat) (o : Obj)

def look {α : Type} (d : α) : List (Nat × α) → Nat → α
  | [], _ => d
  | x :: l, t => if x.1 = t then x.2 else look d l t

structure St where
  n : Nat
  ts : List (Nat × AV)
  hs : List (Nat × HB)

def St.get (s : St) (t : Nat) : AV := look uAV s.ts t
def St.h (s : St) (i : Nat) : HB := look .none s.hs i

def constAV : Value → AV
  | .slice none 0 0 => o1 .emp
  | .agg _ | .tuple _ => uAV
  | x => o1 (.v x)

def St.ev (s : St) : Operand → AV
  | .tmp t => s.get t
  | .const x => constAV x
  | .func f => o1 (.v (.func (.func f) #[] #[]))
  | .global _ => uAV

/-- The kinds of the types that occur. -/
inductive TK where
  | bad
  | prim
  | struct (n : Nat)
  | arr (n : Nat)

def tk : Nat → TK
  | 3 | 4 | 5 | 9 | 22 | 23 | 28 | 35 | 54 | 58 | 72 | 73 | 94 | 111 => .prim
  | 25 => .struct 4
  | 45 => .struct 3
  | 76 => .struct 2
  | 61 => .struct 3
  | 56 => .struct 3
  | 59 => .arr 4
  | 109 => .arr 128
  | _ => .bad

/-- What a type's elements are read as. -/
def eTy : Nat → Option Ty
  | 5 => some .u8
  | 3 | 28 => some .int
  | 4 => some .bool
  | 35 => some tB
  | 22 => some tBB
  | 23 => some (.slice tW)
  | 76 => some tW
  | 61 => some tAct
  | 56 => some tCr
  | 58 => some (.slice tAct)
  | 54 => some (.slice tCr)
  | 72 => some (.slice .int)
  | _ => none

/-- A slice type's element type, read. -/
def sTy : Nat → Option Ty
  | 35 => some .u8
  | 22 => some tB
  | 23 => some tW
  | 58 => some tAct
  | 54 => some tCr
  | 72 => some .int
  | _ => none

def zeroT : Nat → Option PV
  | 3 | 28 => some (.one (vI 0))
  | 4 => some (.one (vB false))
  | 5 => some (.one (.v (.int .u8 0)))
  | 94 => some (.one (.v (.int .u64 0)))
  | 22 | 23 | 35 => some (.one .emp)
  | 25 => some (.agg [.emp, .emp, vI 0, vB false])
  | 45 => some (.agg [.emp, vI 0, vI 0])
  | 76 => some (.agg [vI 0, .emp])
  | 61 => some (.agg [vB false, .v (.int .u8 0), .v (.int .u8 0)])
  | 59 => some (.arr [0, 0, 0, 0])
  | 109 => some (.arr (List.replicate 128 0))
  | _ => none

/-- Data as cells. -/
def cellsOf : (t : Ty) → t.T → List CV
  | .u8, x => [.v (.int .u8 ((x : UInt8).toNat : Int))]
  | .int, x => [.v (.int .i64 x)]
  | .bool, x => [.v (.bool x)]
  | .slice t, xs => [.sl t xs]
  | .pair a b, x => cellsOf a x.1 ++ cellsOf b x.2

def ofD : (t : Ty) → t.T → AV
  | .pair a b, x => .p (.agg (cellsOf a x.1 ++ cellsOf b x.2))
  | .u8, x => o1 (.v (.int .u8 ((x : UInt8).toNat : Int)))
  | .int, x => o1 (.v (.int .i64 x))
  | .bool, x => o1 (.v (.bool x))
  | .slice t, xs => o1 (.sl t xs)

/-- What one operation does. -/
structure R where
  cond : Prop
  val : AV
  upd : List (Nat × HB)
  acc : List Nat
  new : List Nat

def bad : R := ⟨False, uAV, [], [], []⟩
abbrev pureR (v : AV) : R := ⟨True, v, [], [], []⟩
abbrev pureC (c : Prop) (v : AV) : R := ⟨c, v, [], [], []⟩

def rMove : AV → R
  | .p (.one c) => pureR (.p (.one c))
  | .p (.agg cs) => pureR (.p (.agg cs))
  | .p (.arr xs) => pureR (.p (.arr xs))
  | .tup xs => pureR (.tup xs)
def pickB (b : Bool) : AV → AV → AV
  | .p (.one (.v (.bool x))), .p (.one (.v (.bool y))) => .p (.one (.v (.bool (bif b then x else y))))
  | x, y => bif b then x else y
def rPick : AV → AV → AV → R
  | .p (.one (.v (.bool true))), x, _ => rMove x
  | .p (.one (.v (.bool false))), _, y => rMove y
  | _, _, _ => bad

def lenC : List CV → Nat
  | [] => 0
  | _ :: l => lenC l + 1
def nthC : List CV → Nat → Option CV
  | [], _ => none
  | c :: _, 0 => some c
  | _ :: l, n + 1 => nthC l n

def rLoadH (T id off : Nat) : HB → R
  | .box cs => match tk T with
    | .prim => match nthC cs off with
      | some c => ⟨True, o1 c, [], [id], []⟩
      | Option.none => bad
    | .struct n => if off = 0 ∧ lenC cs = n then ⟨True, .p (.agg cs), [], [id], []⟩ else bad
    | _ => bad
  | .arr xs => match tk T with
    | .prim => ⟨T = 5 ∧ off < xs.length, o1 (.v (.int .u8 ((xs.getD off 0).toNat : Int))), [], [id], []⟩
    | .arr n => ⟨off = 0 ∧ xs.length = n, .p (.arr xs), [], [id], []⟩
    | _ => bad
  | .own t xs => ⟨eTy T = some t ∧ t.size = 1 ∧ off < xs.length, ofD t (xs.getD off t.dflt), [], [id], []⟩
  | _ => bad

def rLoad (s : St) (T : Nat) : AV → R
  | .p (.one (.el t x)) => pureC (eTy T = some t) (ofD t x)
  | .p (.one (.elv _ t x)) => pureC (eTy T = some t) (ofD t x)
  | .p (.one (.ptr id off)) => rLoadH T id off (s.h id)
  | _ => bad


/-- May it stand in a cell? -/
def CV.cellOk : CV → Bool
  | .v (.agg _) | .v (.tuple _) | .undef => false
  | _ => true

def fieldTs : Nat → List Nat
  | 25 => [22, 23, 3, 4]
  | 45 => [22, 3, 3]
  | 76 => [3, 35]
  | 61 => [4, 5, 5]
  | 56 => [22, 4, 5]
  | _ => []

/-- A value as data: an empty slice by its type, an own slice by what it holds. -/
def coeC (s : St) (T : Nat) : CV → CV
  | .emp => match sTy T with
    | some t => .sl t []
    | Option.none => .emp
  | .clp t xs => .sl t xs
  | .slN t xs => .sl t xs
  | .own id => match s.h id with
    | .own t xs => .sl t xs
    | _ => .undef
  | .osub id lo n => match s.h id with
    | .arr xs => if lo + n ≤ xs.length then .sl .u8 ((xs.drop lo).take n) else .undef
    | _ => .undef
  | c => c
def zipC (s : St) : List Nat → List CV → List CV
  | T :: Ts, c :: cs => coeC s T c :: zipC s Ts cs
  | _, _ => []
def coeP (s : St) (T : Nat) : PV → PV
  | .one c => .one (coeC s T c)
  | .agg cs => .agg (zipC s (fieldTs T) cs)
  | .arr xs => .arr xs
def coeA (s : St) (T : Nat) : AV → AV
  | .p x => .p (coeP s T x)
  | .tup xs => .tup xs
def coeAs (s : St) : List Nat → List AV → List AV
  | T :: Ts, x :: xs => coeA s T x :: coeAs s Ts xs
  | _, _ => []

/-- The own slices in a value. -/
def CV.owns : CV → List Nat
  | .own id => [id]
  | .osub id _ _ => [id]
  | _ => []
def ownsL : List CV → List Nat
  | [] => []
  | c :: cs => c.owns ++ ownsL cs
def PV.owns : PV → List Nat
  | .one c => c.owns
  | .agg cs => ownsL cs
  | .arr _ => []
def AV.owns : AV → List Nat
  | .p x => x.owns
  | .tup _ => []
def ownsA : List AV → List Nat
  | [] => []
  | c :: cs => c.owns ++ ownsA cs
def kills : List Nat → List (Nat × HB)
  | [] => []
  | i :: l => (i, .none) :: kills l

/-- The datum of a type that cells stand for. -/
def asU8 : List CV → Option (UInt8 × List CV)
  | .v (.int .u8 n) :: r => some (UInt8.ofNat n.toNat, r)
  | _ => none
def asI : List CV → Option (Int × List CV)
  | .v (.int .i64 n) :: r => some (n, r)
  | _ => none
def asBo : List CV → Option (Bool × List CV)
  | .v (.bool b) :: r => some (b, r)
  | _ => none
def asSl (t : Ty) : List CV → Option (List t.T × List CV)
  | .sl t' xs :: r => if h : t' = t then some (h ▸ xs, r) else none
  | _ => none
def asD : (t : Ty) → List CV → Option (t.T × List CV)
  | .u8 => asU8
  | .int => asI
  | .bool => asBo
  | .slice t => asSl t
  | .pair a b => fun l => match asD a l with
    | some (x, r) => (asD b r).map fun y => ((x, y.1), y.2)
    | Option.none => Option.none
/-- The ranges that this asks. -/
def asU8c : List CV → Prop
  | .v (.int .u8 n) :: _ => 0 ≤ n ∧ n < 256
  | _ => True
def asDc : (t : Ty) → List CV → Prop
  | .u8 => asU8c
  | .pair a b => fun l => match asD a l with
    | some (_, r) => asDc a l ∧ asDc b r
    | Option.none => False
  | _ => fun _ => True

def PV.cs : PV → List CV
  | .one c => [c]
  | .agg cs => cs
  | .arr _ => []

/-- No reference to the block id. -/
def CV.noM (id : Nat) : CV → Bool
  | .ptr i _ | .own i | .osub i _ _ => !(i == id)
  | _ => true
def noML (id : Nat) : List CV → Bool
  | [] => true
  | c :: cs => c.noM id && noML id cs
def PV.noM (id : Nat) : PV → Bool
  | .one c => c.noM id
  | .agg cs => noML id cs
  | .arr _ => true
def noMP (id : Nat) : List PV → Bool
  | [] => true
  | c :: cs => c.noM id && noMP id cs
def AV.noM (id : Nat) : AV → Bool
  | .p x => x.noM id
  | .tup xs => noMP id xs
def HB.noM (id : Nat) : HB → Bool
  | .box cs => noML id cs
  | _ => true
def noMT (id : Nat) : List (Nat × AV) → Bool
  | [] => true
  | x :: l => x.2.noM id && noMT id l
def noMH (id : Nat) : List (Nat × HB) → Bool
  | [] => true
  | x :: l => x.2.noM id && noMH id l
def St.noM (s : St) (id : Nat) : Bool := noMT id s.ts && noMH id s.hs
def St.news (s : St) : List Nat → Bool
  | [] => true
  | i :: l => s.noM i && s.news l

def elField : (t : Ty) → t.T → Nat → CV
  | .pair a _, x, 0 => .el a x.1
  | .pair _ b, x, f + 1 => elField b x.2 f
  | t, x, 0 => .el t x
  | _, _, _ => .undef

def liveR (id : Nat) (v : AV) : HB → R
  | .box _ => ⟨True, v, [], [id], []⟩
  | .own _ _ => ⟨True, v, [], [id], []⟩
  | .arr _ => ⟨True, v, [], [id], []⟩
  | _ => bad
def rFieldAddr (s : St) (T f : Nat) : AV → R
  | .p (.one (.el t x)) => if f < (fieldTs T).length then pureC (eTy T = some t) (o1 (elField t x f)) else bad
  | .p (.one (.ptr id off)) => if f < (fieldTs T).length then liveR id (o1 (.ptr id (off + f))) (s.h id) else bad
  | _ => bad

def rIndexH (T id : Nat) (n : Int) : HB → R
  | .own t xs => ⟨sTy T = some t ∧ 0 ≤ n ∧ n < xs.length, o1 (.ptr id (n.toNat * t.size)), [], [id], []⟩
  | _ => bad
def rIndexA (_ id off : Nat) (n : Int) : TK → HB → R
  | .arr m, .arr _ => ⟨0 ≤ n ∧ n < m, o1 (.ptr id (off + n.toNat)), [], [id], []⟩
  | _, _ => bad
def rIndexO (T id lo m : Nat) (n : Int) : HB → R
  | .arr _ => ⟨T = 35 ∧ 0 ≤ n ∧ n < m, o1 (.ptr id (lo + n.toNat)), [], [id], []⟩
  | .own .u8 _ => ⟨T = 35 ∧ 0 ≤ n ∧ n < m, o1 (.ptr id (lo + n.toNat)), [], [id], []⟩
  | _ => bad
def rIndexAddr (s : St) (T : Nat) : AV → AV → R
  | .p (.one (.sl t xs)), .p (.one (.v (.int _ n))) => pureC (sTy T = some t ∧ 0 ≤ n ∧ n < xs.length) (o1 (.el t (xs.getD n.toNat t.dflt)))
  | .p (.one (.own id)), .p (.one (.v (.int _ n))) => rIndexH T id n (s.h id)
  | .p (.one (.ptr id off)), .p (.one (.v (.int _ n))) => rIndexA T id off n (tk T) (s.h id)
  | .p (.one (.osub id lo m)), .p (.one (.v (.int _ n))) => rIndexO T id lo m n (s.h id)
  | _, _ => bad

def setC : List CV → Nat → CV → List CV
  | [], _, _ => []
  | _ :: l, 0, x => x :: l
  | c :: l, n + 1, x => c :: setC l n x
def okL : List CV → Bool
  | [] => true
  | c :: l => c.cellOk && okL l
def rStoreH (s : St) (T id off : Nat) (x : PV) : HB → R
  | .box cs => match tk T, x with
    | .prim, .one c => if off < lenC cs ∧ c.cellOk = true then ⟨True, uAV, [(id, .box (setC cs off c))], [id], []⟩ else bad
    | .struct n, .agg ds => if off = 0 ∧ lenC cs = n ∧ lenC ds = n ∧ okL ds = true then ⟨True, uAV, [(id, .box ds)], [id], []⟩ else bad
    | _, _ => bad
  | .arr xs => match tk T, x with
    | .prim, .one (.v (.int .u8 m)) => ⟨T = 5 ∧ 0 ≤ m ∧ m < 256 ∧ off < xs.length, uAV, [(id, .arr (xs.set off (UInt8.ofNat m.toNat)))], [id], []⟩
    | .arr n, .arr ys => ⟨off = 0 ∧ xs.length = n ∧ ys.length = n, uAV, [(id, .arr ys)], [id], []⟩
    | _, _ => bad
  | .own t xs => match x with
    | .one c => match asD t [coeC s T c] with
      | some (d, []) => if c.owns.contains id then bad else ⟨asDc t [coeC s T c] ∧ eTy T = some t ∧ t.size = 1 ∧ off < xs.length, uAV, (id, .own t (xs.set off d)) :: kills c.owns, id :: c.owns, []⟩
      | _ => bad
    | _ => bad
  | _ => bad
def rStore (s : St) (T : Nat) : AV → AV → R
  | .p (.one (.ptr id off)), .p x => rStoreH s T id off x (s.h id)
  | _, _ => bad

def kOf : Nat → Option IntKind
  | 3 | 28 => some .i64
  | 5 => some .u8
  | 73 | 94 => some .u64
  | 111 => some .u32
  | _ => none

def binI (op : BinOp) (k : IntKind) (a b : Int) : R :=
  match op with
  | .add => pureR (o1 (.v (.int k (k.wrap (a + b)))))
  | .sub => pureR (o1 (.v (.int k (k.wrap (a - b)))))
  | .mul => pureR (o1 (.v (.int k (k.wrap (a * b)))))
  | .quo => pureC (b ≠ 0) (o1 (.v (.int k (k.wrap (a.tdiv b)))))
  | .rem => pureC (b ≠ 0) (o1 (.v (.int k (a.tmod b))))
  | .and => pureR (o1 (.v (.int k (k.wrap (BitVec.ofInt k.bits a &&& BitVec.ofInt k.bits b).toNat))))
  | .or => pureR (o1 (.v (.int k (k.wrap (BitVec.ofInt k.bits a ||| BitVec.ofInt k.bits b).toNat))))
  | .xor => pureR (o1 (.v (.int k (k.wrap (BitVec.ofInt k.bits a ^^^ BitVec.ofInt k.bits b).toNat))))
  | .eql => pureR (o1 (vB (a == b)))
  | .neq => pureR (o1 (vB (a != b)))
  | .lss => pureR (o1 (vB (decide (a < b))))
  | .leq => pureR (o1 (vB (decide (a ≤ b))))
  | .gtr => pureR (o1 (vB (decide (a > b))))
  | .geq => pureR (o1 (vB (decide (a ≥ b))))
  | _ => bad
def shI (op : BinOp) (k : IntKind) (a b : Int) : R :=
  match op with
  | .shl => pureC (0 ≤ b) (o1 (.v (.int k (k.wrap (a * 2 ^ min b.toNat k.bits)))))
  | .shr => pureC (0 ≤ b) (o1 (.v (.int k (a.fdiv (2 ^ min b.toNat k.bits)))))
  | _ => bad
def eqB (op : BinOp) (b : Bool) : R :=
  match op with
  | .eql => pureR (o1 (vB b))
  | .neq => pureR (o1 (vB (!b)))
  | _ => bad
def isSh : BinOp → Bool
  | .shl | .shr => true
  | _ => false
def rBin (op : BinOp) (T : Nat) : AV → AV → R
  | .p (.one (.v (.int k a))), .p (.one (.v (.int k' b))) => if isSh op then shI op k a b else if k = k' then binI op k a b else bad
  | .p (.one (.v (.bool a))), .p (.one (.v (.bool b))) => if T = 4 then eqB op (a == b) else bad
  | .p (.one (.str a)), .p (.one (.str b)) => eqB op (a == b)
  | .p (.one (.str a)), .p (.one (.v (.string b))) => eqB op (a == b.data.toList)
  | _, _ => bad

def isNilC : Operand → Bool
  | .const (.slice Option.none _ _) => true
  | _ => false
/-- A slice held against nil. -/
def rNilX (op : BinOp) (t : Ty) : AV → R
  | .p (.one (.slN t' _)) => if t' = t then eqB op false else bad
  | .p (.one (.v (.slice Option.none _ _))) => eqB op true
  | _ => bad
def rNil (op : BinOp) (T : Nat) (x : AV) : R := match sTy T with
  | some t => rNilX op t x
  | Option.none => bad

def rUn (op : UnOp) : AV → R
  | .p (.one (.v (.bool b))) => match op with
    | .not => pureR (o1 (vB (!b)))
    | _ => bad
  | .p (.one (.v (.int .u32 n))) => match op with
    | .xor => pureR (o1 (.v (.int .u32 (IntKind.u32.wrap (BitVec.ofInt IntKind.u32.bits IntKind.u32.max ^^^ BitVec.ofInt IntKind.u32.bits n).toNat))))
    | _ => bad
  | _ => bad

def srcOk (T : Nat) : Prop := match kOf T with
  | some _ => True
  | Option.none => False
def rConv (src dst : Nat) : AV → R
  | .p (.one (.v (.int _ n))) => match kOf dst with
    | some k => pureC (srcOk src) (o1 (.v (.int k (k.wrap n))))
    | Option.none => bad
  | .p (.one (.sl .u8 xs)) => pureC (src = 35 ∧ dst = 9) (o1 (.str xs))
  | .p (.one .emp) => pureC (src = 35 ∧ dst = 9) (o1 (.str []))
  | .p (.one (.v (.string b))) => pureC (src = 9 ∧ dst = 35 ∧ b.size ≤ 1000) (o1 (.sl .u8 b.data.toList))
  | _ => bad

/-- Bytes of the call's own, converted to bytes: read only from then on. -/
def rConvO (src dst id : Nat) : HB → R
  | .own .u8 xs => ⟨src = 35 ∧ dst = 35 ∧ 0 < List.length xs, o1 (.sl .u8 xs), [(id, .none)], [id], []⟩
  | _ => bad

def cutL {α : Type} (xs : List α) : Option Int → Option Int → List α
  | Option.none, Option.none => xs
  | Option.none, some h => xs.take h.toNat
  | some l, Option.none => xs.drop l.toNat
  | some l, some h => (xs.take h.toNat).drop l.toNat
def cutOk (n : Nat) : Option Int → Option Int → Option Int → Prop
  | Option.none, Option.none, Option.none => True
  | Option.none, some h, Option.none => 0 ≤ h ∧ h ≤ n
  | some l, Option.none, Option.none => 0 ≤ l ∧ l ≤ n
  | some l, some h, Option.none => 0 ≤ l ∧ l ≤ h ∧ h ≤ n
  | Option.none, some h, some m => 0 ≤ h ∧ h ≤ m ∧ m ≤ n
  | _, _, _ => False
def AV.int? : AV → Option Int
  | .p (.one (.v (.int _ n))) => some n
  | _ => none
def oInt (s : St) : Option Operand → Option (Option Int)
  | Option.none => some none
  | some x => match (s.ev x).int? with
    | some n => some (some n)
    | Option.none => none
def cutLo : Option Int → Nat
  | some l => l.toNat
  | Option.none => 0
def cutHi (n : Nat) : Option Int → Nat
  | some h => h.toNat
  | Option.none => n
def rSliceO (T id : Nat) (lo hi : Option Int) : HB → R
  | .own t xs => ⟨sTy T = some t ∧ t.size = 1 ∧ cutOk xs.length lo hi Option.none ∧ cutLo lo < xs.length, o1 (.osub id (cutLo lo) (cutHi xs.length hi - cutLo lo)), [], [id], []⟩
  | _ => bad
def rSliceA (T id : Nat) (lo hi : Option Int) : HB → R
  | .arr xs => ⟨tk T = .arr xs.length ∧ cutOk xs.length lo hi Option.none ∧ cutLo lo < xs.length, o1 (.osub id (cutLo lo) (cutHi xs.length hi - cutLo lo)), [], [id], []⟩
  | _ => bad
def rSlice (s : St) (T : Nat) (x : AV) (lo hi mx : Option (Option Int)) : R :=
  match x, lo, hi, mx with
  | .p (.one (.sl t xs)), some lo, some hi, some Option.none => pureC (sTy T = some t ∧ cutOk xs.length lo hi Option.none) (o1 (.sl t (cutL xs lo hi)))
  | .p (.one (.sl t xs)), some lo, some (some h), some (some m) => pureC (sTy T = some t ∧ cutOk xs.length lo (some h) (some m) ∧ h = m) (o1 (.clp t (cutL xs lo (some h))))
  | .p (.one (.own id)), some lo, some hi, some Option.none => rSliceO T id lo hi (s.h id)
  | .p (.one (.ptr id 0)), some lo, some hi, some Option.none => rSliceA T id lo hi (s.h id)
  | _, _, _, _ => bad

def setParts (s : St) : List (Nat × Operand) → List CV → Option (List CV)
  | [], cs => some cs
  | p :: ps, cs => match s.ev p.2 with
    | .p (.one c) => if p.1 < lenC cs ∧ c.cellOk = true then setParts s ps (setC cs p.1 c) else none
    | _ => none
def rBuild (s : St) (T : Nat) (parts : List (Nat × Operand)) : R :=
  match zeroT T with
  | some (.agg zs) => match setParts s parts zs with
    | some cs => if okL cs = true then pureR (.p (.agg cs)) else bad
    | Option.none => bad
  | _ => bad

def elemT : Nat → Nat
  | 35 => 5
  | 22 => 35
  | 23 => 76
  | 58 => 61
  | 72 => 3
  | _ => 0
def rBuild1 (s : St) (T : Nat) (t : Ty) : AV → R
  | .p x => if lenC x.cs = t.size then match asD t (coeP s (elemT T) x).cs with
    | some (d, []) => ⟨asDc t (coeP s (elemT T) x).cs, o1 (.sl t [d]), kills x.owns, x.owns, []⟩
    | _ => bad
    else bad
  | _ => bad
def rBuildSlice (s : St) (T len : Nat) (parts : List (Nat × Operand)) : R :=
  match sTy T, len, parts with
  | some _, 0, [] => pureR (o1 .emp)
  | some t, 1, [p] => if p.1 = 0 then rBuild1 s T t (s.ev p.2) else bad
  | _, _, _ => bad

/-- A slice of two bytes. -/
def rBuild2 (s : St) (dst T : Nat) : List (Nat × Operand) → R
  | [p, q] => match s.ev p.2, s.ev q.2 with
    | .p (.one (.v (.int .u8 a))), .p (.one (.v (.int .u8 b))) => ⟨T = 35 ∧ p.1 = 0 ∧ q.1 = 1 ∧ 0 ≤ a ∧ a < 256 ∧ 0 ≤ b ∧ b < 256, o1 (.own dst), [(dst, .own .u8 [UInt8.ofNat a.toNat, UInt8.ofNat b.toNat])], [], [dst]⟩
    | _, _ => bad
  | _ => bad

def rMakeSlice (dst T : Nat) : AV → AV → R
  | .p (.one (.v (.int .i64 n))), .p (.one (.v (.int .i64 m))) => match T with
    | 35 => ⟨n = m ∧ 0 ≤ n ∧ n ≤ 140737488355328, o1 (.own dst), [(dst, .own .u8 (List.replicate n.toNat (0 : UInt8)))], [], [dst]⟩
    | 22 => ⟨n = m ∧ 0 ≤ n ∧ n * 24 ≤ 140737488355328, o1 (.own dst), [(dst, .own tB (List.replicate n.toNat []))], [], [dst]⟩
    | _ => bad
  | _, _ => bad

/-- What can be appended: its data. -/
def srcOf (s : St) (t : Ty) : CV → Option (List t.T × List Nat)
  | .emp => some ([], [])
  | .sl t' xs => if h : t' = t then some (h ▸ xs, []) else none
  | .clp t' xs => if h : t' = t then some (h ▸ xs, []) else none
  | .own id => match s.h id with
    | .own t' xs => if h : t' = t then some (h ▸ xs, [id]) else none
    | _ => none
  | _ => none
def rAppend1 (s : St) (dst : Nat) (t : Ty) (ys : List t.T) (acc : List Nat) : CV → R
  | .emp => ⟨ys.length * t.bytes ≤ 140737488355328, o1 (.own dst), [(dst, .own t ys)], acc, [dst]⟩
  | .clp t' xs => if h : t' = t then ⟨0 < ys.length ∧ (xs.length + ys.length) * t.bytes ≤ 140737488355328, o1 (.own dst), [(dst, .own t ((h ▸ xs : List t.T) ++ ys))], acc, [dst]⟩ else bad
  | .own id => match s.h id with
    | .own t' xs => if h : t' = t then ⟨(xs.length + ys.length) * t.bytes ≤ 140737488355328 ∧ id ∉ acc, o1 (.own dst), [(dst, .own t ((h ▸ xs : List t.T) ++ ys)), (id, .none)], id :: acc, [dst]⟩ else bad
    | _ => bad
  | _ => bad
def aTy : Nat → Option Ty
  | 35 => some .u8
  | 22 => some tB
  | 23 => some tW
  | 58 => some tAct
  | 72 => some .int
  | _ => none
def rAppend (s : St) (dst T : Nat) : AV → AV → R
  | .p (.one c), .p (.one d) => match aTy T with
    | some t => match srcOf s t d with
      | some (ys, acc) => rAppend1 s dst t ys acc c
      | Option.none => bad
    | Option.none => bad
  | _, _ => bad

def rAppendZ (s : St) (dst : Nat) : AV → AV → R
  | .p (.one (.own id)), .p (.one (.v (.int .i64 n))) => match s.h id with
    | .own .u8 xs => ⟨0 < List.length xs ∧ 0 ≤ n ∧ n ≤ 1000 ∧ List.length xs + n.toNat ≤ 140737488355328, o1 (.own dst), [(dst, .own .u8 (xs ++ List.replicate n.toNat (0 : UInt8))), (id, .none)], [id], [dst]⟩
    | _ => bad
  | _, _ => bad

def rLen (s : St) : AV → R
  | .p (.one (.sl _ xs)) => pureR (o1 (vI xs.length))
  | .p (.one (.clp _ xs)) => pureR (o1 (vI xs.length))
  | .p (.one .emp) => pureR (o1 (vI 0))
  | .p (.one (.osub id _ n)) => liveR id (o1 (vI n)) (s.h id)
  | .p (.one (.own id)) => match s.h id with
    | .own _ xs => ⟨True, o1 (vI xs.length), [], [id], []⟩
    | _ => bad
  | _ => bad

def maxL (k : IntKind) : Int → List AV → Option Int
  | a, [] => some a
  | a, .p (.one (.v (.int k' b))) :: l => if k' = k then maxL k (if b > a then b else a) l else none
  | _, _ => none
def minL (k : IntKind) : Int → List AV → Option Int
  | a, [] => some a
  | a, .p (.one (.v (.int k' b))) :: l => if k' = k then minL k (if b < a then b else a) l else none
  | _, _ => none
def rMax : List AV → R
  | .p (.one (.v (.int k a))) :: l => match maxL k a l with
    | some n => pureR (o1 (.v (.int k n)))
    | Option.none => bad
  | _ => bad
def rMin : List AV → R
  | .p (.one (.v (.int k a))) :: l => match minL k a l with
    | some n => pureR (o1 (.v (.int k n)))
    | Option.none => bad
  | _ => bad

/-- copy: where to. -/
def rCopyH (id lo n T : Nat) (sc : Prop) (src : (t : Ty) → Option (List t.T × List Nat)) : HB → R
  | .own t xs => match src t with
    | some (ys, acc) => ⟨sc ∧ sTy T = some t ∧ t.size = 1 ∧ lo + n ≤ xs.length, o1 (vI (min ys.length n : Nat)), [(id, .own t (xs.take lo ++ ys.take n ++ xs.drop (lo + min ys.length n)))], id :: acc, []⟩
    | Option.none => bad
  | .arr xs => match src .u8 with
    | some (ys, acc) => ⟨sc ∧ T = 35 ∧ lo + n ≤ xs.length, o1 (vI (min ys.length n : Nat)), [(id, .arr (xs.take lo ++ ys.take n ++ xs.drop (lo + min ys.length n)))], id :: acc, []⟩
    | Option.none => bad
  | _ => bad
def srcOf2 (s : St) (d : CV) (t : Ty) : Option (List t.T × List Nat) :=
  match d with
  | .osub id lo n => match s.h id with
    | .own t' xs => if h : t' = t then some (((h ▸ xs : List t.T).drop lo).take n, [id]) else none
    | _ => none
  | d => srcOf s t d
def srcCond (s : St) : CV → Prop
  | .osub id lo n => match s.h id with
    | .own _ xs => lo + n ≤ xs.length
    | _ => True
  | _ => True
def rCopy (s : St) (T : Nat) : AV → AV → R
  | .p (.one (.own id)), .p (.one d) => match s.h id with
    | .own t xs => rCopyH id 0 xs.length T (srcCond s d ∧ 0 < xs.length) (srcOf2 s d) (.own t xs)
    | _ => bad
  | .p (.one (.osub id lo n)), .p (.one d) => rCopyH id lo n T (srcCond s d) (srcOf2 s d) (s.h id)
  | _, _ => bad

def rExtract (i : Nat) : AV → R
  | .tup xs => match xs[i]? with
    | some x => pureR (.p x)
    | Option.none => bad
  | _ => bad

/-- A field of a struct at hand: the one that occurs. -/
def rField (T f : Nat) : AV → R
  | .p (.agg cs) => match nthC cs 2 with
    | some c => if T = 25 ∧ f = 2 then pureR (o1 c) else bad
    | Option.none => bad
  | _ => bad

def rBuiltin (s : St) (dst : Nat) : Builtin → List Nat → List AV → R
  | .len, [T], [x] => match sTy T with
    | some _ => rLen s x
    | Option.none => bad
  | .append, [T, T'], [x, y] => if T = T' then rAppend s dst T x y else if T = 35 ∧ T' = 3 then rAppendZ s dst x y else bad
  | .copy, [T, T'], [x, y] => if T = T' then rCopy s T x y else bad
  | .max, _, l => rMax l
  | .min, _, l => rMin l
  | _, _, _ => bad

def rClo (f : Nat) : AV → R
  | .p (.one (.el t x)) => pureR (o1 (.clo f t x))
  | _ => bad
def rMakeFunc (s : St) (fn : Fn) : List Operand → List Operand → R
  | [], [] => pureR (o1 (.v (.func fn #[] #[])))
  | [], [c] => match fn with
    | .func f => rClo f (s.ev c)
    | _ => bad
  | _, _ => bad

def stepA (o : Op) (dst : Nat) (s : St) : R :=
  match o with
  | .move x => rMove (s.ev x)
  | .assign x => rMove (s.ev x)
  | .pick c a b => rPick (s.ev c) (s.ev a) (s.ev b)
  | .alloc T => match zeroT T with
    | some (.one c) => ⟨True, o1 (.ptr dst 0), [(dst, .box [c])], [], [dst]⟩
    | some (.agg cs) => ⟨True, o1 (.ptr dst 0), [(dst, .box cs)], [], [dst]⟩
    | some (.arr xs) => ⟨True, o1 (.ptr dst 0), [(dst, .arr xs)], [], [dst]⟩
    | Option.none => bad
  | .box _ x => match s.ev x with
    | .p (.one c) => if c.cellOk = true then ⟨True, o1 (.ptr dst 0), [(dst, .box [c])], [], [dst]⟩ else bad
    | .p (.agg cs) => if okL cs = true then ⟨True, o1 (.ptr dst 0), [(dst, .box cs)], [], [dst]⟩ else bad
    | .p (.arr xs) => ⟨True, o1 (.ptr dst 0), [(dst, .arr xs)], [], [dst]⟩
    | _ => bad
  | .build T parts => rBuild s T parts.toList
  | .buildSlice T len parts => bif Nat.beq len 2 then rBuild2 s dst T parts.toList else rBuildSlice s T len parts.toList
  | .load T a => rLoad s T (s.ev a)
  | .store T a x => rStore s T (s.ev a) (s.ev x)
  | .binOp op T x y _ => bif isNilC y then rNil op T (s.ev x) else rBin op T (s.ev x) (s.ev y)
  | .unOp op _ x => rUn op (s.ev x)
  | .convert src dst' x => match s.ev x with
    | .p (.one (.own id)) => rConvO src dst' id (s.h id)
    | av => rConv src dst' av
  | .makeFunc fn first captured => rMakeFunc s fn first.toList captured.toList
  | .makeSlice T l c => rMakeSlice dst T (s.ev l) (s.ev c)
  | .slice T x lo hi mx => rSlice s T (s.ev x) (oInt s lo) (oInt s hi) (oInt s mx)
  | .fieldAddr T x f => rFieldAddr s T f (s.ev x)
  | .indexAddr T x i => rIndexAddr s T (s.ev x) (s.ev i)
  | .extract x i => rExtract i (s.ev x)
  | .field T x f => rField T f (s.ev x)
  | .call c => match c.callee with
    | .builtin b => rBuiltin s dst b c.argTypes.toList (c.args.toList.map s.ev)
    | _ => bad
  | _ => bad

def St.put (s : St) (d : Option Nat) (x : AV) : St :=
  match d with
  | some d => { s with ts := (d, x) :: s.ts }
  | Option.none => s
def St.app (s : St) (d : Option Nat) (r : R) : St :=
  ⟨s.n, (match d with | some d => (d, r.val) :: s.ts | Option.none => s.ts), r.upd ++ s.hs⟩

inductive AExit where
  | normal
  | exit (id : Nat)
  | ret

end B
end Go.Proofs.Ytbmnhagbplkagaa

/- The relation between abstract states and the machine, and how it is kept. -/
namespace Go.Proofs.Ytbmnhagbplkagaa
namespace B
open Go.RowKit

noncomputable abbrev PP : Program := Try.prog

/-- The cells 'ds' lie from an address on. -/
def At (w : World) (b o : Nat) (ds : List Value) : Prop := ∀ j u, ds[j]? = some u → w.cell? ⟨b, o + j, none⟩ = some u

def Rd (ok : Nat → Prop) (w : World) : (t : Ty) → t.T → List Value → Prop
  | .u8, x, cs => cs = [.int .u8 ((x : UInt8).toNat : Int)]
  | .int, x, cs => cs = [.int .i64 x]
  | .bool, x, cs => cs = [.bool x]
  | .slice t, xs, cs => ∃ A cap, cs = [.slice A (List.length (α := t.T) xs) cap] ∧ List.length (α := t.T) xs ≤ cap ∧ cap ≤ 9223372036854775807 ∧
      List.length (α := t.T) xs * t.bytes ≤ 140737488355328 ∧ (A = none → cap = 0) ∧
      ∀ ad, A = some ad → 0 < List.length (α := t.T) xs → ∃ b o, ad = ⟨b, o, none⟩ ∧ ∀ i (h : i < List.length (α := t.T) xs), ok b ∧ b < w.heap.size ∧ ∃ ds, At w b (o + i * t.size) ds ∧ Rd ok w t (xs[i]'h) ds
  | .pair a b, x, cs => ∃ c1 c2, cs = c1 ++ c2 ∧ Rd ok w a x.1 c1 ∧ Rd ok w b x.2 c2

theorem At.mono {w w' : World} {b o : Nat} {ds : List Value} (h : At w b o ds) (hb : w'.heap[b]? = w.heap[b]?) : At w' b o ds :=
  fun j u hu => (World.cell?_of_block (w := w) (w' := w') hb).trans (h j u hu)

theorem Rd.mono {ok ok' : Nat → Prop} {w w' : World} (hs : w.heap.size ≤ w'.heap.size) (hb : ∀ b, ok b → b < w.heap.size → ok' b ∧ w'.heap[b]? = w.heap[b]?) :
    ∀ (t : Ty) (x : t.T) (cs : List Value), Rd ok w t x cs → Rd ok' w' t x cs := by
  intro t
  induction t with
  | u8 => intro x cs h; exact h
  | int => intro x cs h; exact h
  | bool => intro x cs h; exact h
  | slice t ih =>
    intro x cs h
    obtain ⟨A, cap, h1, h2, h3, h4, h5, h6⟩ := h
    refine ⟨A, cap, h1, h2, h3, h4, h5, fun ad had hz => ?_⟩
    obtain ⟨b, o, e, k⟩ := h6 ad had hz
    refine ⟨b, o, e, fun i hi => ?_⟩
    obtain ⟨k1, k2, ds, k3, k4⟩ := k i hi
    exact ⟨(hb b k1 k2).1, Nat.lt_of_lt_of_le k2 hs, ds, k3.mono (hb b k1 k2).2, ih _ _ k4⟩
  | pair a b iha ihb =>
    intro x cs h
    obtain ⟨c1, c2, h1, h2, h3⟩ := h
    exact ⟨c1, c2, h1, iha _ _ h2, ihb _ _ h3⟩

theorem Rd.len {ok : Nat → Prop} {w : World} : ∀ (t : Ty) (x : t.T) (cs : List Value), Rd ok w t x cs → cs.length = t.size := by
  intro t
  induction t with
  | u8 => intro x cs h; have h' : cs = _ := h; subst h'; rfl
  | int => intro x cs h; have h' : cs = _ := h; subst h'; rfl
  | bool => intro x cs h; have h' : cs = _ := h; subst h'; rfl
  | slice t ih => intro x cs h; obtain ⟨A, cap, h1, _⟩ := h; subst h1; rfl
  | pair a b iha ihb =>
    intro x cs h
    obtain ⟨c1, c2, h1, h2, h3⟩ := h
    subst h1
    simp [iha _ _ h2, ihb _ _ h3, Ty.size]

theorem Rd.one {ok : Nat → Prop} {w : World} : ∀ (t : Ty) (x : t.T) (cs : List Value), Rd ok w t x cs → ∀ u ∈ cs, u.oneCell' = true := by
  intro t
  induction t with
  | u8 => intro x cs h; have h' : cs = _ := h; subst h'; simp [Value.oneCell']
  | int => intro x cs h; have h' : cs = _ := h; subst h'; simp [Value.oneCell']
  | bool => intro x cs h; have h' : cs = _ := h; subst h'; simp [Value.oneCell']
  | slice t ih => intro x cs h; obtain ⟨A, cap, h1, _⟩ := h; subst h1; simp [Value.oneCell']
  | pair a b iha ihb =>
    intro x cs h
    obtain ⟨c1, c2, h1, h2, h3⟩ := h
    subst h1
    intro u hu
    rcases List.mem_append.1 hu with hu | hu
    · exact iha _ _ h2 u hu
    · exact ihb _ _ h3 u hu

/-- Where the abstract blocks lie: the value of an own slice, and the block. -/
structure Env where
  ν : Nat → Value
  β : Nat → Option Nat

def CV.R (ok : Nat → Prop) (w : World) (lv : Nat → Prop) (e : Env) : CV → Value → Prop
  | .undef, _ => True
  | .v x, y => y = x ∧ x.oneCell' = true
  | .str s, y => y = .string ⟨s.toArray⟩
  | .emp, y => ∃ A : Option Addr, y = .slice A 0 0 ∧ ∀ ad, A = some ad → ad.spot = none
  | .sl t xs, y => Rd ok w (.slice t) xs [y]
  | .clp t xs, y => Rd ok w (.slice t) xs [y] ∧ ∃ A, y = .slice A (List.length (α := t.T) xs) (List.length (α := t.T) xs)
  | .el t x, y => ∃ b o ds, y = .pointer (some ⟨b, o, none⟩) ∧ ok b ∧ b < w.heap.size ∧ At w b o ds ∧ Rd ok w t x ds
  | .ptr id off, y => y.oneCell' = true ∧ (lv id → ∃ g, e.β id = some g ∧ y = .pointer (some ⟨g, off, none⟩))
  | .own id, y => y.oneCell' = true ∧ (lv id → y = e.ν id)
  | .slN t xs, y => Rd ok w (.slice t) xs [y] ∧ ∃ ad len cap, y = .slice (some ad) len cap
  | .clo f t x, y => ∃ p, y = .func (.func f) #[] #[p] ∧ ∃ b o ds, p = .pointer (some ⟨b, o, none⟩) ∧ ok b ∧ b < w.heap.size ∧ At w b o ds ∧ Rd ok w t x ds
  | .elv z t x, y => y = z ∧ ∃ b o ds, y = .pointer (some ⟨b, o, none⟩) ∧ ok b ∧ b < w.heap.size ∧ At w b o ds ∧ Rd ok w t x ds
  | .osub id lo n, y => y.oneCell' = true ∧ (lv id → ∃ g cap, e.β id = some g ∧ (n ≤ cap ∧ cap ≤ 9223372036854775807 ∧ n ≤ 140737488355328) ∧ y = .slice (some ⟨g, lo, none⟩) n cap)

def F2 (ok : Nat → Prop) (w : World) (lv : Nat → Prop) (e : Env) : List CV → List Value → Prop
  | [], [] => True
  | c :: cs, y :: ys => c.R ok w lv e y ∧ y.oneCell' = true ∧ F2 ok w lv e cs ys
  | _, _ => False

def u8v (x : UInt8) : Value := .int .u8 (x.toNat : Int)

def PV.R (ok : Nat → Prop) (w : World) (lv : Nat → Prop) (e : Env) : PV → Value → Prop
  | .one c, y => c.R ok w lv e y
  | .agg cs, y => ∃ ys : List Value, y = .agg ys.toArray ∧ F2 ok w lv e cs ys
  | .arr xs, y => y = .agg (xs.map u8v).toArray

def F2P (ok : Nat → Prop) (w : World) (lv : Nat → Prop) (e : Env) : List PV → List Value → Prop
  | [], [] => True
  | c :: cs, y :: ys => c.R ok w lv e y ∧ F2P ok w lv e cs ys
  | _, _ => False

def AV.R (ok : Nat → Prop) (w : World) (lv : Nat → Prop) (e : Env) : AV → Value → Prop
  | .p x, y => x.R ok w lv e y
  | .tup xs, y => ∃ ys : List Value, y = .tuple ys.toArray ∧ F2P ok w lv e xs ys

def HB.R (ok : Nat → Prop) (w : World) (lv : Nat → Prop) (e : Env) (id : Nat) : HB → Prop
  | .none => True
  | .box cs => ∃ g E, ∃ vs : List Value, e.β id = some g ∧ w.heap[g]? = some (.cells vs.toArray E (0, 0)) ∧ F2 ok w lv e cs vs
  | .arr xs => ∃ g E, e.β id = some g ∧ w.heap[g]? = some (.cells (xs.map u8v).toArray E (0, 0))
  | .obj g o => e.β id = some g ∧ w.heap[g]? = some o
  | .own t xs => (xs = [] ∧ e.β id = Option.none ∧ ∃ A : Option Addr, e.ν id = .slice A 0 0 ∧ ∀ ad, A = some ad → ad.spot = Option.none) ∨
      ∃ g cap E cur, e.β id = some g ∧ e.ν id = .slice (some ⟨g, 0, Option.none⟩) (List.length (α := t.T) xs) cap ∧ w.heap[g]? = some (.cells cur E (0, 0)) ∧
        List.length (α := t.T) xs ≤ cap ∧ cap ≤ 9223372036854775807 ∧ cur.size = cap * t.size ∧ List.length (α := t.T) xs * t.bytes ≤ 140737488355328 ∧
        ∀ i (h : i < List.length (α := t.T) xs), ∃ ds : List Value, (∀ j u, ds[j]? = some u → cur[i * t.size + j]? = some u) ∧ Rd ok w t (xs[i]'h) ds

def HB.live : HB → Prop
  | .none => False
  | _ => True

def lv (s : St) (id : Nat) : Prop := (s.h id).live

def okS (w0 : World) (okA : Nat → Prop) (e : Env) (s : St) (b : Nat) : Prop :=
  (okA b ∨ w0.heap.size ≤ b) ∧ ∀ id, lv s id → e.β id ≠ some b

structure RelE (w0 : World) (okA : Nat → Prop) (e : Env) (s : St) (a : Act) (w : World) : Prop where
  below : Below w0.heap.size w0 w
  dfr : a.defers = []
  size : a.tmps.size = s.n
  blk : ∀ id g, lv s id → e.β id = some g → w0.heap.size ≤ g ∧ g < w.heap.size
  inj : ∀ i j g, lv s i → lv s j → e.β i = some g → e.β j = some g → i = j
  heap : ∀ id, (s.h id).R (okS w0 okA e s) w (lv s) e id
  tmps : ∀ t, (s.get t).R (okS w0 okA e s) w (lv s) e (a.tmps.getD t undef)

def Rel (w0 : World) (okA : Nat → Prop) (s : St) (a : Act) (w : World) : Prop := ∃ e, RelE w0 okA e s a w

/-! ### keeping -/
/-- What lies in the footprints stays. -/
structure Keep (ok : Nat → Prop) (w : World) (lv : Nat → Prop) (e : Env) (ok' : Nat → Prop) (w' : World) (lv' : Nat → Prop) (e' : Env) : Prop where
  size : w.heap.size ≤ w'.heap.size
  blk : ∀ b, ok b → b < w.heap.size → ok' b ∧ w'.heap[b]? = w.heap[b]?

def Same (lv : Nat → Prop) (e : Env) (lv' : Nat → Prop) (e' : Env) (id : Nat) : Prop := lv' id → lv id ∧ e'.β id = e.β id ∧ e'.ν id = e.ν id

section
variable {ok ok' : Nat → Prop} {w w' : World} {l l' : Nat → Prop} {e e' : Env}

theorem CV.R.mono (hk : Keep ok w l e ok' w' l' e') {c : CV} {y : Value} (hm : ∀ id, c.noM id = false → Same l e l' e' id) (h : c.R ok w l e y) : c.R ok' w' l' e' y := by
  cases c with
  | undef => trivial
  | v x => exact h
  | str s => exact h
  | emp => exact h
  | sl t xs => exact Rd.mono hk.size hk.blk _ _ _ h
  | clp t xs => exact ⟨Rd.mono hk.size hk.blk _ _ _ h.1, h.2⟩
  | slN t xs => exact ⟨Rd.mono hk.size hk.blk _ _ _ h.1, h.2⟩
  | el t x =>
    obtain ⟨b, o, ds, h1, h2, h3, h4, h5⟩ := h
    exact ⟨b, o, ds, h1, (hk.blk b h2 h3).1, Nat.lt_of_lt_of_le h3 hk.size, h4.mono (hk.blk b h2 h3).2, Rd.mono hk.size hk.blk _ _ _ h5⟩
  | elv z t x =>
    obtain ⟨h0, b, o, ds, h1, h2, h3, h4, h5⟩ := h
    exact ⟨h0, b, o, ds, h1, (hk.blk b h2 h3).1, Nat.lt_of_lt_of_le h3 hk.size, h4.mono (hk.blk b h2 h3).2, Rd.mono hk.size hk.blk _ _ _ h5⟩
  | clo f t x =>
    obtain ⟨p, h0, b, o, ds, h1, h2, h3, h4, h5⟩ := h
    exact ⟨p, h0, b, o, ds, h1, (hk.blk b h2 h3).1, Nat.lt_of_lt_of_le h3 hk.size, h4.mono (hk.blk b h2 h3).2, Rd.mono hk.size hk.blk _ _ _ h5⟩
  | ptr id off =>
    refine ⟨h.1, fun hl => ?_⟩
    obtain ⟨k1, k2, k3⟩ := hm id (by simp [CV.noM]) hl
    rw [k2]
    exact h.2 k1
  | own id =>
    refine ⟨h.1, fun hl => ?_⟩
    obtain ⟨k1, k2, k3⟩ := hm id (by simp [CV.noM]) hl
    rw [k3]
    exact h.2 k1
  | osub id lo n =>
    refine ⟨h.1, fun hl => ?_⟩
    obtain ⟨k1, k2, k3⟩ := hm id (by simp [CV.noM]) hl
    rw [k2]
    exact h.2 k1

theorem F2.mono (hk : Keep ok w l e ok' w' l' e') : ∀ {cs : List CV} {ys : List Value}, (∀ id, noML id cs = false → Same l e l' e' id) → F2 ok w l e cs ys → F2 ok' w' l' e' cs ys
  | [], [], _, _ => trivial
  | c :: cs, y :: ys, hm, h => ⟨CV.R.mono hk (fun id hi => hm id (by simp [noML, hi])) h.1, h.2.1, F2.mono hk (fun id hi => hm id (by simp [noML, hi])) h.2.2⟩
  | [], _ :: _, _, h => h.elim
  | _ :: _, [], _, h => h.elim

theorem PV.R.mono (hk : Keep ok w l e ok' w' l' e') {c : PV} {y : Value} (hm : ∀ id, c.noM id = false → Same l e l' e' id) (h : c.R ok w l e y) : c.R ok' w' l' e' y := by
  cases c with
  | one c => exact CV.R.mono hk hm h
  | agg cs =>
    obtain ⟨ys, h1, h2⟩ := h
    exact ⟨ys, h1, F2.mono hk hm h2⟩
  | arr xs => exact h

theorem F2P.mono (hk : Keep ok w l e ok' w' l' e') : ∀ {cs : List PV} {ys : List Value}, (∀ id, noMP id cs = false → Same l e l' e' id) → F2P ok w l e cs ys → F2P ok' w' l' e' cs ys
  | [], [], _, _ => trivial
  | c :: cs, y :: ys, hm, h => ⟨PV.R.mono hk (fun id hi => hm id (by simp [noMP, hi])) h.1, F2P.mono hk (fun id hi => hm id (by simp [noMP, hi])) h.2⟩
  | [], _ :: _, _, h => h.elim
  | _ :: _, [], _, h => h.elim

theorem AV.R.mono (hk : Keep ok w l e ok' w' l' e') {c : AV} {y : Value} (hm : ∀ id, c.noM id = false → Same l e l' e' id) (h : c.R ok w l e y) : c.R ok' w' l' e' y := by
  cases c with
  | p x => exact PV.R.mono hk hm h
  | tup xs =>
    obtain ⟨ys, h1, h2⟩ := h
    exact ⟨ys, h1, F2P.mono hk hm h2⟩

/-- A block that stays as it is. -/
theorem HB.R.mono (hk : Keep ok w l e ok' w' l' e') {id : Nat} {c : HB} (hm : ∀ id, c.noM id = false → Same l e l' e' id) (hβ : e'.β id = e.β id) (hν : e'.ν id = e.ν id)
    (hb : ∀ g, e.β id = some g → w'.heap[g]? = w.heap[g]?) (h : c.R ok w l e id) : c.R ok' w' l' e' id := by
  cases c with
  | none => trivial
  | box cs =>
    obtain ⟨g, E, vs, h1, h2, h3⟩ := h
    exact ⟨g, E, vs, by rw [hβ]; exact h1, by rw [hb g h1]; exact h2, F2.mono hk hm h3⟩
  | arr xs =>
    obtain ⟨g, E, h1, h2⟩ := h
    exact ⟨g, E, by rw [hβ]; exact h1, by rw [hb g h1]; exact h2⟩
  | obj g o => exact ⟨by rw [hβ]; exact h.1, by rw [hb g h.1]; exact h.2⟩
  | own t xs =>
    rcases h with ⟨h1, h2, h3⟩ | ⟨g, cap, E, cur, h1, h2, h3, h4, h5, h6, h7, h8⟩
    · exact .inl ⟨h1, by rw [hβ]; exact h2, by rw [hν]; exact h3⟩
    · refine .inr ⟨g, cap, E, cur, by rw [hβ]; exact h1, by rw [hν]; exact h2, by rw [hb g h1]; exact h3, h4, h5, h6, h7, fun i hi => ?_⟩
      obtain ⟨ds, k1, k2⟩ := h8 i hi
      exact ⟨ds, k1, Rd.mono hk.size hk.blk _ _ _ k2⟩
end

/-! ### look-ups -/
theorem look_mem {α : Type} (d : α) : ∀ (l : List (Nat × α)) (t : Nat), look d l t = d ∨ ∃ x ∈ l, x.1 = t ∧ look d l t = x.2
  | [], _ => .inl rfl
  | x :: l, t => by
    by_cases h : x.1 = t
    · exact .inr ⟨x, by simp, h, by simp [look, h]⟩
    · rcases look_mem d l t with k | ⟨y, k1, k2, k3⟩
      · left; simp [look, h, k]
      · right; exact ⟨y, by simp [k1], k2, by simp [look, h, k3]⟩

theorem noMT_mem {id : Nat} : ∀ {l : List (Nat × AV)}, noMT id l = true → ∀ x ∈ l, x.2.noM id = true
  | x :: l, h, y, hy => by
    simp only [noMT, Bool.and_eq_true] at h
    rcases List.mem_cons.1 hy with rfl | hy
    · exact h.1
    · exact noMT_mem h.2 y hy
theorem noMH_mem {id : Nat} : ∀ {l : List (Nat × HB)}, noMH id l = true → ∀ x ∈ l, x.2.noM id = true
  | x :: l, h, y, hy => by
    simp only [noMH, Bool.and_eq_true] at h
    rcases List.mem_cons.1 hy with rfl | hy
    · exact h.1
    · exact noMH_mem h.2 y hy
theorem St.noM_get {s : St} {id : Nat} (h : s.noM id = true) (t : Nat) : (s.get t).noM id = true := by
  simp only [St.noM, Bool.and_eq_true] at h
  rcases look_mem uAV s.ts t with k | ⟨x, k1, _, k3⟩
  · show (look uAV s.ts t).noM id = true
    rw [k]; rfl
  · show (look uAV s.ts t).noM id = true
    rw [k3]; exact noMT_mem h.1 x k1
theorem St.noM_h {s : St} {id : Nat} (h : s.noM id = true) (t : Nat) : (s.h t).noM id = true := by
  simp only [St.noM, Bool.and_eq_true] at h
  rcases look_mem HB.none s.hs t with k | ⟨x, k1, _, k3⟩
  · show (look HB.none s.hs t).noM id = true
    rw [k]; rfl
  · show (look HB.none s.hs t).noM id = true
    rw [k3]; exact noMH_mem h.2 x k1

@[simp] theorem get_cons (n : Nat) (d : Nat) (x : AV) (ts : List (Nat × AV)) (hs : List (Nat × HB)) (t : Nat) :
    (St.mk n ((d, x) :: ts) hs).get t = if d = t then x else (St.mk n ts hs).get t := rfl
@[simp] theorem h_cons (n : Nat) (d : Nat) (x : HB) (ts : List (Nat × AV)) (hs : List (Nat × HB)) (t : Nat) :
    (St.mk n ts ((d, x) :: hs)).h t = if d = t then x else (St.mk n ts hs).h t := rfl

theorem getD_setIfInBounds (xs : Array Value) (d t : Nat) (v : Value) (h : d < xs.size) : (xs.setIfInBounds d v).getD t undef = if d = t then v else xs.getD t undef := by
  rw [Array.getD_eq_getD_getElem?, Array.getD_eq_getD_getElem?, Array.getElem?_setIfInBounds]
  by_cases e : d = t
  · subst e; simp [h]
  · simp [e]

end B
end Go.Proofs.Ytbmnhagbplkagaa

/- How the relation goes on behind a value, a new block, a store, a call. -/
namespace Go.Proofs.Ytbmnhagbplkagaa
namespace B
open Go.RowKit

variable {w0 : World} {okA : Nat → Prop} {e : Env} {s : St} {a : Act} {w : World}

theorem RelE.put {d : Nat} {av : AV} {v : Value} (h : RelE w0 okA e s a w) (hd : d < s.n) (hv : av.R (okS w0 okA e s) w (lv s) e v) :
    RelE w0 okA e ⟨s.n, (d, av) :: s.ts, s.hs⟩ (a.put (some d) v) w := by
  refine ⟨h.below, h.dfr, by simp [Act.put, h.size], h.blk, h.inj, h.heap, fun t => ?_⟩
  show ((St.mk s.n ((d, av) :: s.ts) s.hs).get t).R _ w _ e ((a.tmps.setIfInBounds d v).getD t undef)
  rw [getD_setIfInBounds _ _ _ _ (by rw [h.size]; exact hd), get_cons]
  by_cases hk : d = t
  · simp only [hk, if_true]; exact hv
  · simp only [hk, if_false]; exact h.tmps t

/-- The general step: the world has gone on; the blocks' references are as they were. -/
theorem RelE.go {e' : Env} {hs' : List (Nat × HB)} {w' : World} (h : RelE w0 okA e s a w)
    (hb : Below w0.heap.size w0 w')
    (hk : Keep (okS w0 okA e s) w (lv s) e (okS w0 okA e' ⟨s.n, s.ts, hs'⟩) w' (lv ⟨s.n, s.ts, hs'⟩) e')
    (hblk : ∀ id g, lv ⟨s.n, s.ts, hs'⟩ id → e'.β id = some g → w0.heap.size ≤ g ∧ g < w'.heap.size)
    (hinj : ∀ i j g, lv ⟨s.n, s.ts, hs'⟩ i → lv ⟨s.n, s.ts, hs'⟩ j → e'.β i = some g → e'.β j = some g → i = j)
    (hm : ∀ t id, (s.get t).noM id = false → Same (lv s) e (lv ⟨s.n, s.ts, hs'⟩) e' id)
    (hh : ∀ id, ((St.mk s.n s.ts hs').h id).R (okS w0 okA e' ⟨s.n, s.ts, hs'⟩) w' (lv ⟨s.n, s.ts, hs'⟩) e' id) :
    RelE w0 okA e' ⟨s.n, s.ts, hs'⟩ a w' :=
  ⟨hb, h.dfr, h.size, hblk, hinj, hh, fun t => AV.R.mono hk (hm t) (h.tmps t)⟩

theorem RelE.le (h : RelE w0 okA e s a w) : w0.heap.size ≤ w.heap.size := h.below.size

/-- What lay stays: a call, a draw. -/
theorem RelE.grow {w' : World} (h : RelE w0 okA e s a w) (hb : Below w.heap.size w w') : RelE w0 okA e s a w' := by
  have hk : Keep (okS w0 okA e s) w (lv s) e (okS w0 okA e s) w' (lv s) e := ⟨hb.size, fun b h1 h2 => ⟨h1, hb.block b h2⟩⟩
  have hB : Below w0.heap.size w0 w' := h.below.trans (hb.mono h.le)
  refine ⟨hB, h.dfr, h.size, fun id g h1 h2 => ?_, h.inj, fun id => ?_, fun t => AV.R.mono hk (fun id _ hl => ⟨hl, rfl, rfl⟩) (h.tmps t)⟩
  · have := h.blk id g h1 h2
    exact ⟨this.1, Nat.lt_of_lt_of_le this.2 hb.size⟩
  · by_cases hl : lv s id
    · exact HB.R.mono hk (fun id _ hl => ⟨hl, rfl, rfl⟩) rfl rfl (fun g hg => hb.block g (h.blk id g hl hg).2) (h.heap id)
    · have : s.h id = .none := by
        unfold lv at hl
        cases hq : s.h id <;> simp_all [HB.live]
      rw [this]; trivial

theorem h_none_of_not_lv {s : St} {id : Nat} (hl : ¬ lv s id) : s.h id = .none := by
  unfold lv at hl
  cases hq : s.h id <;> simp_all [HB.live]

theorem below_drewW (w : World) : Below w.heap.size w w.drew := (Below.refl _ _).drew

theorem RelE.drew (h : RelE w0 okA e s a w) : RelE w0 okA e s a w.drew := h.grow (below_drewW w)

/-- A block is given up. -/
theorem RelE.kill (h : RelE w0 okA e s a w) (i : Nat) : RelE w0 okA e ⟨s.n, s.ts, (i, .none) :: s.hs⟩ a w := by
  have hlv : ∀ id, lv ⟨s.n, s.ts, (i, .none) :: s.hs⟩ id → lv s id := by
    intro id hl
    unfold lv at hl ⊢
    rw [h_cons] at hl
    split at hl
    · exact hl.elim
    · exact hl
  have hk : Keep (okS w0 okA e s) w (lv s) e (okS w0 okA e ⟨s.n, s.ts, (i, .none) :: s.hs⟩) w (lv ⟨s.n, s.ts, (i, .none) :: s.hs⟩) e :=
    ⟨Nat.le_refl _, fun b h1 _ => ⟨⟨h1.1, fun id hl => h1.2 id (hlv id hl)⟩, rfl⟩⟩
  refine h.go h.below hk (fun id g hl => h.blk id g (hlv id hl)) (fun i j g h1 h2 => h.inj i j g (hlv i h1) (hlv j h2)) (fun t id _ hl => ⟨hlv id hl, rfl, rfl⟩) (fun id => ?_)
  rw [h_cons]
  split
  · trivial
  · exact HB.R.mono hk (fun id _ hl => ⟨hlv id hl, rfl, rfl⟩) rfl rfl (fun _ _ => rfl) (h.heap id)

theorem RelE.kills (h : RelE w0 okA e s a w) : ∀ l : List Nat, RelE w0 okA e ⟨s.n, s.ts, kills l ++ s.hs⟩ a w
  | [] => h
  | i :: l => (RelE.kills h l).kill i

def Env.set (e : Env) (d : Nat) (ν : Value) (β : Option Nat) : Env := ⟨fun i => if i = d then ν else e.ν i, fun i => if i = d then β else e.β i⟩
theorem Env.set_ν (e : Env) (d : Nat) (ν : Value) (β : Option Nat) : (e.set d ν β).ν d = ν := by simp [Env.set]
theorem Env.set_β (e : Env) (d : Nat) (ν : Value) (β : Option Nat) : (e.set d ν β).β d = β := by simp [Env.set]
theorem Env.set_ν' (e : Env) {d i : Nat} (ν : Value) (β : Option Nat) (h : i ≠ d) : (e.set d ν β).ν i = e.ν i := by simp [Env.set, h]
theorem Env.set_β' (e : Env) {d i : Nat} (ν : Value) (β : Option Nat) (h : i ≠ d) : (e.set d ν β).β i = e.β i := by simp [Env.set, h]

theorem Keep.new (_ : RelE w0 okA e s a w) (d : Nat) (ν : Value) (β : Option Nat) (hb : HB) (w' : World) (hw : Below w.heap.size w w') (hβ : ∀ g, β = some g → w.heap.size ≤ g) :
    Keep (okS w0 okA e s) w (lv s) e (okS w0 okA (e.set d ν β) ⟨s.n, s.ts, (d, hb) :: s.hs⟩) w' (lv ⟨s.n, s.ts, (d, hb) :: s.hs⟩) (e.set d ν β) := by
  refine ⟨hw.size, fun b h1 h2 => ⟨⟨h1.1, fun id hl => ?_⟩, hw.block b h2⟩⟩
  by_cases hid : id = d
  · subst hid
    rw [Env.set_β]
    intro he
    have := hβ b he
    omega
  · rw [Env.set_β' _ _ _ hid]
    refine h1.2 id ?_
    unfold lv at hl ⊢
    rw [h_cons, if_neg (fun q => hid q.symm)] at hl
    exact hl

/-- A new block (or none): the id d stands nowhere yet. -/
theorem RelE.new {d : Nat} {ν : Value} {β : Option Nat} {hb : HB} {w' : World} (h : RelE w0 okA e s a w) (hn : s.noM d = true)
    (hw : Below w.heap.size w w') (hβ : ∀ g, β = some g → w.heap.size ≤ g ∧ g < w'.heap.size)
    (hH : hb.R (okS w0 okA (e.set d ν β) ⟨s.n, s.ts, (d, hb) :: s.hs⟩) w' (lv ⟨s.n, s.ts, (d, hb) :: s.hs⟩) (e.set d ν β) d) :
    RelE w0 okA (e.set d ν β) ⟨s.n, s.ts, (d, hb) :: s.hs⟩ a w' := by
  have hk := Keep.new h d ν β hb w' hw (fun g hg => (hβ g hg).1)
  have hlv : ∀ id, id ≠ d → lv ⟨s.n, s.ts, (d, hb) :: s.hs⟩ id → lv s id := by
    intro id hid hl
    unfold lv at hl ⊢
    rw [h_cons, if_neg (fun q => hid q.symm)] at hl
    exact hl
  have hsame : ∀ id, id ≠ d → Same (lv s) e (lv ⟨s.n, s.ts, (d, hb) :: s.hs⟩) (e.set d ν β) id := fun id hid hl => ⟨hlv id hid hl, Env.set_β' _ _ _ hid, Env.set_ν' _ _ _ hid⟩
  have hne : ∀ {x : AV} {id : Nat}, x.noM d = true → x.noM id = false → id ≠ d := fun h1 h2 q => by subst q; simp [h1] at h2
  refine h.go (h.below.trans (hw.mono h.le)) hk ?_ ?_ ?_ ?_
  · intro id g hl hg
    by_cases hid : id = d
    · subst hid
      rw [Env.set_β] at hg
      exact ⟨Nat.le_trans h.le (hβ g hg).1, (hβ g hg).2⟩
    · rw [Env.set_β' _ _ _ hid] at hg
      have := h.blk id g (hlv id hid hl) hg
      exact ⟨this.1, Nat.lt_of_lt_of_le this.2 hw.size⟩
  · intro i j g hi hj h1 h2
    by_cases hid : i = d
    · by_cases hjd : j = d
      · rw [hid, hjd]
      · subst hid
        rw [Env.set_β] at h1
        rw [Env.set_β' _ _ _ hjd] at h2
        have k1 := (hβ g h1).1
        have k2 := (h.blk j g (hlv j hjd hj) h2).2
        omega
    · by_cases hjd : j = d
      · subst hjd
        rw [Env.set_β] at h2
        rw [Env.set_β' _ _ _ hid] at h1
        have k1 := (hβ g h2).1
        have k2 := (h.blk i g (hlv i hid hi) h1).2
        omega
      · rw [Env.set_β' _ _ _ hid] at h1
        rw [Env.set_β' _ _ _ hjd] at h2
        exact h.inj i j g (hlv i hid hi) (hlv j hjd hj) h1 h2
  · intro t id hm
    exact hsame id (hne (St.noM_get hn t) hm)
  · intro id
    rw [h_cons]
    by_cases hid : d = id
    · subst hid
      rw [if_pos rfl]; exact hH
    · rw [if_neg hid]
      have hid' : id ≠ d := fun q => hid q.symm
      by_cases hl : lv s id
      · refine HB.R.mono hk (fun id' hm => hsame id' ?_) (Env.set_β' _ _ _ hid') (Env.set_ν' _ _ _ hid') (fun g hg => hw.block g (h.blk id g hl hg).2) (h.heap id)
        intro q
        subst q
        have := St.noM_h hn id
        simp [this] at hm
      · rw [h_none_of_not_lv hl]; trivial

/-- A block that is written. -/
theorem RelE.write {id g : Nat} {hb : HB} {w' : World} (h : RelE w0 okA e s a w) (hl : lv s id) (hβ : e.β id = some g) (hw : w.grownBy w' (some g))
    (_ : hb.live)
    (hH : hb.R (okS w0 okA e ⟨s.n, s.ts, (id, hb) :: s.hs⟩) w' (lv ⟨s.n, s.ts, (id, hb) :: s.hs⟩) e id) :
    RelE w0 okA e ⟨s.n, s.ts, (id, hb) :: s.hs⟩ a w' := by
  have hlv' : ∀ i, lv ⟨s.n, s.ts, (id, hb) :: s.hs⟩ i → lv s i := by
    intro i hi
    by_cases q : id = i
    · subst q; exact hl
    · unfold lv at hi ⊢
      rw [h_cons, if_neg q] at hi
      exact hi
  have hne : ∀ b, okS w0 okA e s b → b ≠ g := fun b hb q => hb.2 id hl (by rw [hβ, q])
  have hk : Keep (okS w0 okA e s) w (lv s) e (okS w0 okA e ⟨s.n, s.ts, (id, hb) :: s.hs⟩) w' (lv ⟨s.n, s.ts, (id, hb) :: s.hs⟩) e :=
    ⟨hw.size, fun b h1 h2 => ⟨⟨h1.1, fun i hi => h1.2 i (hlv' i hi)⟩, hw.block b h2 (fun q => hne b h1 (Option.some.inj q))⟩⟩
  refine h.go (h.below.grown hw h.le (fun k hk => by cases hk; exact (h.blk id _ hl hβ).1)) hk ?_ ?_ ?_ ?_
  · intro i g' hi hg
    have := h.blk i g' (hlv' i hi) hg
    exact ⟨this.1, Nat.lt_of_lt_of_le this.2 hw.size⟩
  · intro i j g' hi hj h1 h2
    exact h.inj i j g' (hlv' i hi) (hlv' j hj) h1 h2
  · intro t i _ hi
    exact ⟨hlv' i hi, rfl, rfl⟩
  · intro i
    rw [h_cons]
    by_cases q : id = i
    · subst q; rw [if_pos rfl]; exact hH
    · rw [if_neg q]
      by_cases hi : lv s i
      · refine HB.R.mono hk (fun i' _ hi' => ⟨hlv' i' hi', rfl, rfl⟩) rfl rfl (fun g' hg => hw.block g' (h.blk i g' hi hg).2 (fun q' => ?_)) (h.heap i)
        cases q'
        exact q (h.inj id i g hl hi hβ hg)
      · rw [h_none_of_not_lv hi]; trivial

/-- An own slice goes on under another name, in its own block. -/
theorem RelE.rebind {i d g : Nat} {ν : Value} {hb : HB} {w' : World} (h : RelE w0 okA e s a w) (hn : s.noM d = true) (hl : lv s i) (hβ : e.β i = some g) (hw : w.grownBy w' (some g))
    (hH : hb.R (okS w0 okA (e.set d ν (some g)) ⟨s.n, s.ts, (d, hb) :: (i, .none) :: s.hs⟩) w' (lv ⟨s.n, s.ts, (d, hb) :: (i, .none) :: s.hs⟩) (e.set d ν (some g)) d) :
    RelE w0 okA (e.set d ν (some g)) ⟨s.n, s.ts, (d, hb) :: (i, .none) :: s.hs⟩ a w' := by
  have hlv : ∀ id, id ≠ d → lv ⟨s.n, s.ts, (d, hb) :: (i, .none) :: s.hs⟩ id → lv s id ∧ id ≠ i := by
    intro id hid hl
    unfold lv at hl ⊢
    rw [h_cons, if_neg (fun q => hid q.symm), h_cons] at hl
    split at hl
    · exact hl.elim
    · rename_i q
      exact ⟨hl, fun r => q r.symm⟩
  have hne : ∀ b, okS w0 okA e s b → b ≠ g := fun b hb q => hb.2 i hl (by rw [hβ, q])
  have hk : Keep (okS w0 okA e s) w (lv s) e (okS w0 okA (e.set d ν (some g)) ⟨s.n, s.ts, (d, hb) :: (i, .none) :: s.hs⟩) w' (lv ⟨s.n, s.ts, (d, hb) :: (i, .none) :: s.hs⟩) (e.set d ν (some g)) := by
    refine ⟨hw.size, fun b h1 h2 => ⟨⟨h1.1, fun id hid => ?_⟩, hw.block b h2 (fun q => hne b h1 (Option.some.inj q))⟩⟩
    by_cases q : id = d
    · subst q; rw [Env.set_β]; exact fun r => hne b h1 (Option.some.inj r).symm
    · rw [Env.set_β' _ _ _ q]; exact h1.2 id (hlv id q hid).1
  have hsame : ∀ id, id ≠ d → Same (lv s) e (lv ⟨s.n, s.ts, (d, hb) :: (i, .none) :: s.hs⟩) (e.set d ν (some g)) id := fun id hid hl => ⟨(hlv id hid hl).1, Env.set_β' _ _ _ hid, Env.set_ν' _ _ _ hid⟩
  have hned : ∀ {x : AV} {id : Nat}, x.noM d = true → x.noM id = false → id ≠ d := fun h1 h2 q => by subst q; simp [h1] at h2
  refine h.go (h.below.grown hw h.le (fun k hk => by cases hk; exact (h.blk i _ hl hβ).1)) hk ?_ ?_ ?_ ?_
  · intro id g' hid hg
    by_cases q : id = d
    · subst q
      rw [Env.set_β] at hg
      cases hg
      have := h.blk i g hl hβ
      exact ⟨this.1, Nat.lt_of_lt_of_le this.2 hw.size⟩
    · rw [Env.set_β' _ _ _ q] at hg
      have := h.blk id g' (hlv id q hid).1 hg
      exact ⟨this.1, Nat.lt_of_lt_of_le this.2 hw.size⟩
  · intro x y g' hx hy h1 h2
    by_cases hxd : x = d
    · by_cases hyd : y = d
      · rw [hxd, hyd]
      · subst hxd
        rw [Env.set_β] at h1
        rw [Env.set_β' _ _ _ hyd] at h2
        cases h1
        exact absurd (h.inj y i g (hlv y hyd hy).1 hl h2 hβ) (hlv y hyd hy).2
    · by_cases hyd : y = d
      · subst hyd
        rw [Env.set_β] at h2
        rw [Env.set_β' _ _ _ hxd] at h1
        cases h2
        exact absurd (h.inj x i g (hlv x hxd hx).1 hl h1 hβ) (hlv x hxd hx).2
      · rw [Env.set_β' _ _ _ hxd] at h1
        rw [Env.set_β' _ _ _ hyd] at h2
        exact h.inj x y g' (hlv x hxd hx).1 (hlv y hyd hy).1 h1 h2
  · intro t id hm
    exact hsame id (hned (St.noM_get hn t) hm)
  · intro id
    rw [h_cons]
    by_cases q : d = id
    · subst q; rw [if_pos rfl]; exact hH
    · rw [if_neg q, h_cons]
      have q' : id ≠ d := fun r => q r.symm
      by_cases r : i = id
      · rw [if_pos r]; trivial
      · rw [if_neg r]
        by_cases hi : lv s id
        · refine HB.R.mono hk (fun id' hm => hsame id' ?_) (Env.set_β' _ _ _ q') (Env.set_ν' _ _ _ q') (fun g' hg => hw.block g' (h.blk id g' hi hg).2 (fun z => ?_)) (h.heap id)
          · intro z
            subst z
            have := St.noM_h hn id
            simp [this] at hm
          · cases z
            exact r (h.inj i id g hl hi hβ hg)
        · rw [h_none_of_not_lv hi]; trivial

/-- The relation looks at look-ups alone. -/
theorem RelE.congr {s' : St} (h : RelE w0 okA e s a w) (hn : s'.n = s.n) (ht : ∀ t, s'.get t = s.get t) (hh : ∀ i, s'.h i = s.h i) : RelE w0 okA e s' a w := by
  have hl : lv s' = lv s := by funext i; simp [lv, hh]
  have ho : okS w0 okA e s' = okS w0 okA e s := by funext b; simp [okS, hl]
  exact ⟨h.below, h.dfr, by rw [hn]; exact h.size, by rw [hl]; exact h.blk, by rw [hl]; exact h.inj, fun id => by rw [hl, ho, hh]; exact h.heap id, fun t => by rw [hl, ho, ht]; exact h.tmps t⟩

end B
end Go.Proofs.Ytbmnhagbplkagaa

/- The types of this program, and the runs of the model's basic operations on them. -/
namespace Go.Proofs.Ytbmnhagbplkagaa
namespace B
open Go.RowKit

def notAgg : TypeDesc → Bool
  | .struct _ | .array _ _ => false
  | _ => true
def primL : List Nat := [3, 4, 5, 9, 22, 23, 28, 35, 54, 58, 72, 73, 94, 111]
def structL : List (Nat × Nat) := [(25, 4), (45, 3), (76, 2), (61, 3), (56, 3)]
def arrL : List (Nat × Nat) := [(59, 4), (109, 128)]
/-- slice type, element type, the element's size and bytes -/
def sliceL : List (Nat × Nat × Nat × Nat) := [(35, 5, 1, 1), (22, 35, 1, 24), (23, 76, 2, 32), (58, 61, 3, 3), (54, 56, 3, 32), (72, 3, 1, 8)]

noncomputable def primB (T : Nat) : Bool := match PP.underlying T, PP.info? T with
  | some d, some i => notAgg d && i.size == 1
  | _, _ => false
noncomputable def fieldsB (fs : List Field) : List Nat → Nat → Bool
  | [], _ => fs.isEmpty
  | _ :: Ts, k => match fs with
    | f :: fs => f.offset == k && (match PP.info? f.type with | some i => i.size == 1 | none => false) && fieldsB fs Ts (k + 1)
    | [] => false
noncomputable def structB (x : Nat × Nat) : Bool := match PP.underlying x.1, PP.info? x.1 with
  | some (.struct fs), some i => i.size == x.2 && (fieldTs x.1).length == x.2 && fieldsB fs.toList (fieldTs x.1) 0
  | _, _ => false
noncomputable def arrB (x : Nat × Nat) : Bool := match PP.underlying x.1, PP.info? x.1 with
  | some (.array n 5), some i => n == x.2 && i.size == x.2
  | _, _ => false
noncomputable def sliceB (x : Nat × Nat × Nat × Nat) : Bool := match PP.underlying x.1, PP.info? x.2.1 with
  | some (.slice e), some i => e == x.2.1 && i.size == x.2.2.1 && i.bytes == x.2.2.2 && i.zero.isSome
  | _, _ => false

theorem primA : primL.all primB = true := by kernel_rfl
theorem structA : structL.all structB = true := by kernel_rfl
theorem arrA : arrL.all arrB = true := by kernel_rfl
theorem sliceA : sliceL.all sliceB = true := by kernel_rfl

theorem tk_prim {T : Nat} (h : tk T = .prim) : ∃ d i, PP.underlying T = some d ∧ notAgg d = true ∧ PP.info? T = some i ∧ i.size = 1 := by
  have hm : T ∈ primL := by
    unfold tk at h
    split at h <;> first | (cases h; done) | decide
  have := List.all_eq_true.1 primA T hm
  unfold primB at this
  split at this
  · rename_i d i h1 h2
    simp at this
    exact ⟨d, i, h1, this.1, h2, this.2⟩
  · cases this

theorem fieldsB_get {fs : List Field} : ∀ {Ts : List Nat} {k : Nat}, fieldsB fs Ts k = true → ∀ f, f < Ts.length → ∃ F i, fs[f]? = some F ∧ F.offset = k + f ∧ PP.info? F.type = some i ∧ i.size = 1 := by
  intro Ts
  induction Ts generalizing fs with
  | nil => intro k _ f hf; simp at hf
  | cons T Ts ih =>
    intro k h f hf
    cases fs with
    | nil => simp [fieldsB] at h
    | cons F fs =>
      simp only [fieldsB, Bool.and_eq_true, beq_iff_eq] at h
      obtain ⟨⟨h1, h2⟩, h3⟩ := h
      cases f with
      | zero =>
        split at h2
        · rename_i i hi
          exact ⟨F, i, rfl, by simpa using h1, hi, by simpa using h2⟩
        · cases h2
      | succ f =>
        obtain ⟨F', i, k1, k2, k3, k4⟩ := ih h3 f (by simpa using hf)
        exact ⟨F', i, by simpa using k1, by omega, k3, k4⟩

theorem structL_spec {T n : Nat} (hm : (T, n) ∈ structL) : ∃ fs i, PP.underlying T = some (.struct fs) ∧ PP.info? T = some i ∧ i.size = n ∧ (fieldTs T).length = n ∧
    ∀ f, f < n → ∃ F i, fs[f]? = some F ∧ F.offset = f ∧ PP.info? F.type = some i ∧ i.size = 1 := by
  have := List.all_eq_true.1 structA (T, n) hm
  unfold structB at this
  split at this
  · rename_i fs i h1 h2
    simp only [Bool.and_eq_true, beq_iff_eq] at this
    refine ⟨fs, i, h1, h2, this.1.1, this.1.2, fun f hf => ?_⟩
    obtain ⟨F, i', k1, k2, k3, k4⟩ := fieldsB_get this.2 f (by rw [this.1.2]; exact hf)
    exact ⟨F, i', by simpa using k1, by omega, k3, k4⟩
  · cases this

theorem tk_struct {T n : Nat} (h : tk T = .struct n) : (T, n) ∈ structL := by
  unfold tk at h
  split at h <;> first | (cases h; done) | (cases h; decide)

theorem tk_arr {T n : Nat} (h : tk T = .arr n) : ∃ i, PP.underlying T = some (.array n 5) ∧ PP.info? T = some i ∧ i.size = n := by
  have hm : (T, n) ∈ arrL := by
    unfold tk at h
    split at h <;> first | (cases h; done) | (cases h; decide)
  have := List.all_eq_true.1 arrA (T, n) hm
  unfold arrB at this
  split at this
  · rename_i m i h1 h2
    simp at this
    obtain ⟨rfl, k⟩ := this
    exact ⟨i, h1, h2, k⟩
  · cases this

/-- A slice type. -/
theorem sTy_spec {T : Nat} {t : Ty} (h : sTy T = some t) : ∃ E i z, PP.underlying T = some (.slice E) ∧ PP.info? E = some i ∧ i.size = t.size ∧ t.bytes ≤ i.bytes ∧ i.bytes ≤ 32 ∧ i.zero = some z := by
  have key : ∀ x ∈ sliceL, x.1 = T → x.2.2.1 = t.size → t.bytes ≤ x.2.2.2 → x.2.2.2 ≤ 32 → ∃ E i z, PP.underlying T = some (.slice E) ∧ PP.info? E = some i ∧ i.size = t.size ∧ t.bytes ≤ i.bytes ∧ i.bytes ≤ 32 ∧ i.zero = some z := by
    intro x hx h1 h2 h3 h4
    have := List.all_eq_true.1 sliceA x hx
    unfold sliceB at this
    split at this
    · rename_i E i k1 k2
      simp only [Bool.and_eq_true, beq_iff_eq] at this
      obtain ⟨⟨⟨k3, k4⟩, k5⟩, k6⟩ := this
      obtain ⟨z, hz⟩ := Option.isSome_iff_exists.1 k6
      subst k3
      exact ⟨_, i, z, by rw [← h1]; exact k1, k2, by omega, by omega, by omega, hz⟩
    · cases this
  unfold sTy at h
  split at h
  · cases h; exact key (35, 5, 1, 1) (by decide) rfl rfl (by decide) (by decide)
  · cases h; exact key (22, 35, 1, 24) (by decide) rfl rfl (by decide) (by decide)
  · cases h; exact key (23, 76, 2, 32) (by decide) rfl rfl (by decide) (by decide)
  · cases h; exact key (58, 61, 3, 3) (by decide) rfl rfl (by decide) (by decide)
  · cases h; exact key (54, 56, 3, 32) (by decide) rfl rfl (by decide) (by decide)
  · cases h; exact key (72, 3, 1, 8) (by decide) rfl rfl (by decide) (by decide)
  · cases h

/-- What is read of a type fits its kind. -/
theorem eTy_tk {T : Nat} {t : Ty} (h : eTy T = some t) : (∃ a b n, t = .pair a b ∧ tk T = .struct n ∧ n = t.size) ∨ ((∀ a b, t ≠ .pair a b) ∧ tk T = .prim) := by
  unfold eTy at h
  split at h <;> first
    | (cases h; done)
    | (cases h; exact Or.inr (And.intro (by intro a b q; cases q) rfl))
    | (cases h; exact .inl ⟨_, _, _, rfl, rfl, rfl⟩)

variable {w : World}

theorem run_isAgg_prim {T : Nat} (h : tk T = .prim) : (isAgg T).run PP w = .ok false w := by
  obtain ⟨d, i, hu, hd, _, _⟩ := tk_prim h
  unfold isAgg
  simp only [Sem.run_bind, run_underlying hu, Result.andThen_ok]
  cases d <;> first | rfl | (simp [notAgg] at hd)
theorem run_isAgg_struct {T n : Nat} (h : tk T = .struct n) : (isAgg T).run PP w = .ok true w := by
  obtain ⟨fs, i, hu, _⟩ := structL_spec (tk_struct h)
  unfold isAgg
  simp only [Sem.run_bind, run_underlying hu, Result.andThen_ok, Sem.run_pure]
theorem run_isAgg_arr {T n : Nat} (h : tk T = .arr n) : (isAgg T).run PP w = .ok true w := by
  obtain ⟨i, hu, _⟩ := tk_arr h
  unfold isAgg
  simp only [Sem.run_bind, run_underlying hu, Result.andThen_ok, Sem.run_pure]
theorem run_sizeOf' {T : Nat} {i : TypeInfo} (h : PP.info? T = some i) : (sizeOf T).run PP w = .ok i.size w := by
  simp [sizeOf, typeInfo, h]

theorem run_loadVar_prim {T : Nat} {ad : Addr} {v : Value} (h : tk T = .prim) (hc : w.cell? ad = some v) : (loadVar T ad).run PP w = .ok v w := by
  simp [loadVar, run_isAgg_prim h, hc]
theorem run_loadVar_agg {T n : Nat} {ad : Addr} {cs : List Value} (h : tk T = .struct n ∨ tk T = .arr n) (hl : cs.length = n) (hc : ∀ j v, cs[j]? = some v → w.cell? (ad.add j) = some v) :
    (loadVar T ad).run PP w = .ok (.agg cs.toArray) w := by
  have hs : ∃ i, PP.info? T = some i ∧ i.size = n := by
    rcases h with h | h
    · obtain ⟨fs, i, _, k1, k2, _⟩ := structL_spec (tk_struct h); exact ⟨i, k1, k2⟩
    · obtain ⟨i, _, k1, k2⟩ := tk_arr h; exact ⟨i, k1, k2⟩
  obtain ⟨i, k1, k2⟩ := hs
  have ha : (isAgg T).run PP w = .ok true w := by
    rcases h with h | h
    · exact run_isAgg_struct h
    · exact run_isAgg_arr h
  have := run_loadCells_list (P := PP) w ad cs hc
  rw [hl] at this
  simp [loadVar, ha, run_sizeOf' k1, k2, this]

theorem tk_size {T : Nat} : (tk T = .prim → ∃ i, PP.info? T = some i ∧ i.size = 1) ∧ (∀ n, tk T = .struct n ∨ tk T = .arr n → ∃ i, PP.info? T = some i ∧ i.size = n) := by
  refine ⟨fun h => ?_, fun n h => ?_⟩
  · obtain ⟨d, i, _, _, k1, k2⟩ := tk_prim h; exact ⟨i, k1, k2⟩
  · rcases h with h | h
    · obtain ⟨fs, i, _, k1, k2, _⟩ := structL_spec (tk_struct h); exact ⟨i, k1, k2⟩
    · obtain ⟨i, _, k1, k2⟩ := tk_arr h; exact ⟨i, k1, k2⟩

/-- A store into a row of cells. -/
theorem run_storeVar {T g o : Nat} {E : TypeId} {cur : Array Value} {v : Value} {i : TypeInfo} (hi : PP.info? T = some i) (hv : v.cells.size = i.size) (hg : w.heap[g]? = some (.cells cur E (0, 0)))
    (hl : o + v.cells.size ≤ cur.size) (h1 : ∀ u ∈ v.cells.toList, u.oneCell' = true) :
    (storeVar T ⟨g, o, none⟩ v).run PP w = .ok () (w.setRow g (cur.toList.take o ++ v.cells.toList ++ cur.toList.drop (o + v.cells.size)).toArray) := by
  have := run_storeCells_at PP g o E v.cells.toList 0 cur w hg (by simpa using hl) h1
  simp only [Nat.add_zero, Array.length_toList] at this
  simp [storeVar, run_sizeOf' hi, hv]
  rw [this, hv, List.append_assoc]

theorem grownBy_setRow (w : World) (g : Nat) (cs : Array Value) : w.grownBy (w.setRow g cs) (some g) :=
  ⟨rfl, rfl, rfl, by simp, fun k _ hk => setRow_other w g k cs (fun q => hk (by rw [q]))⟩

theorem cell_of_heap {g o : Nat} {cur : Array Value} {E : TypeId} {fr : Nat × Nat} (h : w.heap[g]? = some (.cells cur E fr)) : w.cell? ⟨g, o, none⟩ = cur[o]? := by
  simp [World.cell?, h]

end B
end Go.Proofs.Ytbmnhagbplkagaa

/- The operations: each does on the machine what its step says (first part: values, reads, new boxes, stores). -/
namespace Go.Proofs.Ytbmnhagbplkagaa
namespace B
open Go.RowKit

variable {w0 : World} {okA : Nat → Prop} {e : Env} {s : St} {a : Act} {w : World}

theorem ev_R (h : RelE w0 okA e s a w) (x : Operand) : (s.ev x).R (okS w0 okA e s) w (lv s) e (a.eval x) := by
  cases x with
  | tmp t => exact h.tmps t
  | const v =>
    show (constAV v).R _ _ _ _ v
    unfold constAV
    split
    · exact ⟨none, rfl, fun ad h => by cases h⟩
    · trivial
    · trivial
    · rename_i h1 h2 h3
      refine ⟨rfl, ?_⟩
      cases v <;> first | rfl | (exact absurd rfl (h2 _)) | (exact absurd rfl (h3 _))
  | global g => trivial
  | func f => exact ⟨rfl, rfl⟩

/-- What an operation's run must come to. -/
def Done (w0 : World) (okA : Nat → Prop) (o : Oper) (s : St) (a : Act) (w : World) (r : R) : Prop :=
  ∃ n w', (execOp a.eval o).run PP w = .ok n w' ∧
    ((∃ v, n = .value v ∧ ∃ e', RelE w0 okA e' (s.app o.dst r) (a.put o.dst v) w') ∨ (n = .skip ∧ ∃ e', RelE w0 okA e' (s.app o.dst r) (a.put o.dst undef) w'))

theorem app_put {o : Oper} {r : R} {v : Value} {w' : World} {e' : Env} (hd : ∀ d, o.dst = some d → d < s.n) (h' : RelE w0 okA e' ⟨s.n, s.ts, r.upd ++ s.hs⟩ a w')
    (hv : r.val.R (okS w0 okA e' ⟨s.n, s.ts, r.upd ++ s.hs⟩) w' (lv ⟨s.n, s.ts, r.upd ++ s.hs⟩) e' v) : RelE w0 okA e' (s.app o.dst r) (a.put o.dst v) w' := by
  cases hq : o.dst with
  | none => exact h'
  | some d => exact h'.put (d := d) (hd d hq) hv

theorem done_val {o : Oper} {r : R} {v : Value} {w' : World} {e' : Env} (hd : ∀ d, o.dst = some d → d < s.n) (hr : (execOp a.eval o).run PP w = .ok (.value v) w')
    (h' : RelE w0 okA e' ⟨s.n, s.ts, r.upd ++ s.hs⟩ a w')
    (hv : r.val.R (okS w0 okA e' ⟨s.n, s.ts, r.upd ++ s.hs⟩) w' (lv ⟨s.n, s.ts, r.upd ++ s.hs⟩) e' v) : Done w0 okA o s a w r :=
  ⟨_, w', hr, .inl ⟨v, rfl, e', app_put hd h' hv⟩⟩

theorem done_skip {o : Oper} {r : R} {w' : World} {e' : Env} (hd : ∀ d, o.dst = some d → d < s.n) (hr : (execOp a.eval o).run PP w = .ok .skip w')
    (h' : RelE w0 okA e' ⟨s.n, s.ts, r.upd ++ s.hs⟩ a w') (hv : r.val = uAV) : Done w0 okA o s a w r :=
  ⟨_, w', hr, .inr ⟨rfl, e', app_put hd h' (by rw [hv]; trivial)⟩⟩

/-- A step that only reads. -/
theorem done_pure {o : Oper} {r : R} {v : Value} (h : RelE w0 okA e s a w) (hd : ∀ d, o.dst = some d → d < s.n) (hu : r.upd = []) (hr : (execOp a.eval o).run PP w = .ok (.value v) w)
    (hv : r.val.R (okS w0 okA e s) w (lv s) e v) : Done w0 okA o s a w r := by
  refine done_val (e' := e) hd hr ?_ ?_
  · rw [hu]; exact h
  · rw [hu]; exact hv

theorem rMove_eq (x : AV) : rMove x = pureR x := by
  cases x with
  | p y => cases y <;> rfl
  | tup xs => rfl

theorem cell_one {ok : Nat → Prop} {l : Nat → Prop} {c : CV} {y : Value} (hc : c.cellOk = true) (h : c.R ok w l e y) : y.oneCell' = true := by
  cases c with
  | undef => simp [CV.cellOk] at hc
  | v x => rw [h.1]; exact h.2
  | str s => have h' : y = _ := h; rw [h']; rfl
  | emp => obtain ⟨A, h', _⟩ := h; rw [h']; rfl
  | sl t xs => obtain ⟨A, cap, h1, _⟩ := h; rw [List.cons.inj h1 |>.1]; rfl
  | clp t xs => obtain ⟨A, h'⟩ := h.2; rw [h']; rfl
  | slN t xs => obtain ⟨A, _, _, h'⟩ := h.2; rw [h']; rfl
  | el t x => obtain ⟨b, o, ds, h', _⟩ := h; rw [h']; rfl
  | elv z t x => obtain ⟨_, b, o, ds, h', _⟩ := h; rw [h']; rfl
  | ptr id off => exact h.1
  | own id => exact h.1
  | osub id lo n => exact h.1
  | clo f t x => obtain ⟨p, h', _⟩ := h; rw [h']; rfl

theorem cells_one {y : Value} (h : y.oneCell' = true) : y.cells = #[y] := by
  cases y <;> first | rfl | (simp [Value.oneCell'] at h)

theorem F2.len {ok : Nat → Prop} {l : Nat → Prop} : ∀ {cs : List CV} {ys : List Value}, F2 ok w l e cs ys → ys.length = cs.length
  | [], [], _ => rfl
  | _ :: cs, _ :: ys, h => by simp [F2.len (cs := cs) (ys := ys) h.2.2]
  | [], _ :: _, h => h.elim
  | _ :: _, [], h => h.elim

theorem lenC_eq : ∀ cs : List CV, lenC cs = cs.length
  | [] => rfl
  | _ :: l => by simp [lenC, lenC_eq l]

theorem F2.get {ok : Nat → Prop} {l : Nat → Prop} : ∀ {cs : List CV} {ys : List Value} {k : Nat} {c : CV}, F2 ok w l e cs ys → nthC cs k = some c → ∃ y, ys[k]? = some y ∧ c.R ok w l e y ∧ y.oneCell' = true
  | [], _, _, _, _, h => by simp [nthC] at h
  | c :: cs, y :: ys, 0, d, h, hk => by
    cases hk
    exact ⟨y, rfl, h.1, h.2.1⟩
  | _ :: cs, _ :: ys, k + 1, d, h, hk => by
    obtain ⟨y, h1, h2⟩ := F2.get (k := k) h.2.2 hk
    exact ⟨y, by simpa using h1, h2⟩
  | _ :: _, [], _, _, h, _ => h.elim

theorem F2.set {ok : Nat → Prop} {l : Nat → Prop} {c : CV} {y : Value} (hc : c.R ok w l e y) (h1 : y.oneCell' = true) : ∀ {cs : List CV} {ys : List Value} {k : Nat}, F2 ok w l e cs ys → F2 ok w l e (setC cs k c) (ys.set k y)
  | [], [], _, _ => trivial
  | _ :: _, _ :: _, 0, h => ⟨hc, h1, h.2.2⟩
  | _ :: _, _ :: _, _ + 1, h => ⟨h.1, h.2.1, F2.set hc h1 h.2.2⟩
  | [], _ :: _, _, h => h.elim
  | _ :: _, [], _, h => h.elim

theorem F2.ones {ok : Nat → Prop} {l : Nat → Prop} : ∀ {cs : List CV} {ys : List Value}, F2 ok w l e cs ys → ∀ u ∈ ys, u.oneCell' = true
  | [], [], _, u, hu => by simp at hu
  | _ :: cs, y :: ys, h, u, hu => by
    rcases List.mem_cons.1 hu with rfl | hu
    · exact h.2.1
    · exact F2.ones (cs := cs) h.2.2 u hu
  | [], _ :: _, h, _, _ => h.elim
  | _ :: _, [], h, _, _ => h.elim

theorem u8v_ones (xs : List UInt8) : ∀ u ∈ xs.map u8v, u.oneCell' = true := by
  intro u hu
  obtain ⟨x, _, rfl⟩ := List.mem_map.1 hu
  rfl

/-- Data in cells read as the abstract value that stands for them. -/
theorem ofD_R {ok : Nat → Prop} {l : Nat → Prop} : ∀ (t : Ty) (x : t.T) (ds : List Value), Rd ok w t x ds → F2 ok w l e (cellsOf t x) ds := by
  intro t
  induction t with
  | u8 => intro x ds h; have h' : ds = _ := h; subst h'; exact ⟨⟨rfl, rfl⟩, rfl, trivial⟩
  | int => intro x ds h; have h' : ds = _ := h; subst h'; exact ⟨⟨rfl, rfl⟩, rfl, trivial⟩
  | bool => intro x ds h; have h' : ds = _ := h; subst h'; exact ⟨⟨rfl, rfl⟩, rfl, trivial⟩
  | slice t ih =>
    intro x ds h
    obtain ⟨A, cap, h1, h2⟩ := h
    subst h1
    exact ⟨⟨A, cap, rfl, h2⟩, rfl, trivial⟩
  | pair p q ihp ihq =>
    intro x ds h
    obtain ⟨c1, c2, h1, h2, h3⟩ := h
    subst h1
    have k1 := ihp _ _ h2
    have k2 := ihq _ _ h3
    have app : ∀ {cs : List CV} {ys : List Value}, F2 ok w l e cs ys → F2 ok w l e (cs ++ cellsOf q x.2) (ys ++ c2) := by
      intro cs
      induction cs with
      | nil => intro ys h; cases ys with
        | nil => exact k2
        | cons _ _ => exact h.elim
      | cons c cs ih => intro ys h; cases ys with
        | nil => exact h.elim
        | cons y ys => exact ⟨h.1, h.2.1, ih h.2.2⟩
    exact app k1

theorem run_loadAt_el {ok : Nat → Prop} {l : Nat → Prop} {T : Nat} {t : Ty} {x : t.T} {y : Value} (ht : eTy T = some t) (h : (CV.el t x).R ok w l e y) :
    ∃ v, (Instr.loadAt T y).run PP w = .ok v w ∧ (ofD t x).R ok w l e v := by
  obtain ⟨b, o, ds, rfl, h1, h2, h3, h4⟩ := h
  have hcell : ∀ j v, ds[j]? = some v → w.cell? ((⟨b, o, none⟩ : Addr).add j) = some v := by
    intro j v hj
    rw [Addr.add_lit]; exact h3 j v hj
  have hl := Rd.len _ _ _ h4
  have hF := ofD_R (l := l) (e := e) _ _ _ h4
  rcases eTy_tk ht with ⟨p, q, n, rfl, k1, k2⟩ | ⟨k0, k1⟩
  · refine ⟨.agg ds.toArray, ?_, ?_⟩
    · simp [Instr.loadAt, Instr.sureAddr, run_loadVar_agg (.inl k1) (by rw [hl, k2]) hcell]
    · exact ⟨ds, rfl, hF⟩
  · have one : ∀ c : CV, cellsOf t x = [c] → ofD t x = o1 c → ∃ v, (Instr.loadAt T (.pointer (some ⟨b, o, none⟩))).run PP w = .ok v w ∧ (ofD t x).R ok w l e v := by
      intro c hc ho
      rw [hc] at hF
      cases ds with
      | nil => exact hF.elim
      | cons d ds' =>
        have h0 := hcell 0 d rfl
        rw [Addr.add_lit] at h0
        refine ⟨d, ?_, ?_⟩
        · simp [Instr.loadAt, Instr.sureAddr]
          exact run_loadVar_prim k1 (by simpa using h0)
        · rw [ho]; exact hF.1
    cases t with
    | u8 => exact one _ rfl rfl
    | int => exact one _ rfl rfl
    | bool => exact one _ rfl rfl
    | slice t => exact one _ rfl rfl
    | pair p q => exact absurd rfl (k0 p q)

theorem live_of {id : Nat} {hb : HB} (h : s.h id = hb) (hl : hb.live) : lv s id := by unfold lv; rw [h]; exact hl

theorem rLoad_ok (h : RelE w0 okA e s a w) {T : Nat} {av : AV} {y : Value} (hy : av.R (okS w0 okA e s) w (lv s) e y) (hc : (rLoad s T av).cond) :
    (rLoad s T av).upd = [] ∧ ∃ v, (Instr.loadAt T y).run PP w = .ok v w ∧ (rLoad s T av).val.R (okS w0 okA e s) w (lv s) e v := by
  unfold rLoad at hc ⊢
  split at hc
  · rename_i t x
    exact ⟨rfl, run_loadAt_el hc hy⟩
  · rename_i z t x
    exact ⟨rfl, run_loadAt_el hc hy.2⟩
  · rename_i id off
    obtain ⟨hy1, hy2⟩ := hy
    have hB := h.heap id
    show (rLoadH T id off (s.h id)).upd = [] ∧ ∃ v, (Instr.loadAt T y).run PP w = .ok v w ∧ (rLoadH T id off (s.h id)).val.R (okS w0 okA e s) w (lv s) e v
    generalize hcs : s.h id = hb at hc hB ⊢
    unfold rLoadH at hc ⊢
    split at hc
    · rename_i cs
      obtain ⟨g, hg1, rfl⟩ := hy2 (live_of hcs trivial)
      obtain ⟨g', E, vs, k1, k2, k3⟩ := hB
      rw [hg1] at k1; cases k1
      split at hc
      · rename_i hT
        split at hc
        · rename_i c hcc
          obtain ⟨v, m1, m2, m3⟩ := k3.get hcc
          refine ⟨rfl, v, ?_, m2⟩
          simp only [Instr.loadAt, Instr.sureAddr, Sem.run_bind, Sem.run_pure, Result.andThen_ok]
          exact run_loadVar_prim hT (by rw [cell_of_heap k2]; simpa using m1)
        · exact hc.elim
      · rename_i n hT
        split at hc
        · rename_i hcond
          obtain ⟨rfl, hlen⟩ := hcond
          refine ⟨by simp [hlen], .agg vs.toArray, ?_, ?_⟩
          · simp only [Instr.loadAt, Instr.sureAddr, Sem.run_bind, Sem.run_pure, Result.andThen_ok]
            refine run_loadVar_agg (.inl hT) (by rw [k3.len, ← lenC_eq, hlen]) (fun j v hj => ?_)
            rw [Addr.add_lit, cell_of_heap k2]
            simpa using hj
          · simp only [hlen, and_self, if_true]
            exact ⟨vs, rfl, k3⟩
        · exact hc.elim
      · exact hc.elim
    · rename_i xs
      obtain ⟨g, hg1, rfl⟩ := hy2 (live_of hcs trivial)
      obtain ⟨g', E, k1, k2⟩ := hB
      rw [hg1] at k1; cases k1
      split at hc
      · rename_i hT
        obtain ⟨rfl, hlt⟩ := hc
        refine ⟨rfl, u8v (xs.getD off 0), ?_, ⟨rfl, rfl⟩⟩
        simp only [Instr.loadAt, Instr.sureAddr, Sem.run_bind, Sem.run_pure, Result.andThen_ok]
        refine run_loadVar_prim hT ?_
        rw [cell_of_heap k2]
        simp [hlt]
      · rename_i n hT
        obtain ⟨rfl, hlen⟩ := hc
        refine ⟨rfl, .agg (xs.map u8v).toArray, ?_, rfl⟩
        simp only [Instr.loadAt, Instr.sureAddr, Sem.run_bind, Sem.run_pure, Result.andThen_ok]
        refine run_loadVar_agg (.inr hT) (by simpa using hlen) (fun j v hj => ?_)
        rw [Addr.add_lit, cell_of_heap k2]
        simpa using hj
      · exact hc.elim
    · rename_i t xs
      obtain ⟨hT, hsz, hlt⟩ := hc
      obtain ⟨g, hg1, rfl⟩ := hy2 (live_of hcs trivial)
      rcases hB with ⟨rfl, _, _⟩ | ⟨g', cap, E, cur, k1, _, k3, k4, k5, k6, k7, k8⟩
      · exact absurd hlt (by simp)
      · rw [hg1] at k1; cases k1
        obtain ⟨ds, m1, m2⟩ := k8 off hlt
        rw [hsz, Nat.mul_one] at m1
        have hget : (xs.getD off t.dflt) = xs[off]'hlt := by simp [List.getD, hlt]
        have hR : (CV.el t (xs.getD off t.dflt)).R (fun b => okS w0 okA e s b ∨ b = g) w (lv s) e (.pointer (some ⟨g, off, none⟩)) := by
          refine ⟨g, off, ds, rfl, .inr rfl, (h.blk id g (live_of hcs trivial) hg1).2, fun j u hj => ?_, ?_⟩
          · rw [cell_of_heap k3]; exact m1 j u hj
          · rw [hget]; exact Rd.mono (Nat.le_refl _) (fun b hb _ => ⟨.inl hb, rfl⟩) _ _ _ m2
        refine ⟨rfl, ?_⟩
        have hlen : ds.length = 1 := by rw [Rd.len _ _ _ m2, hsz]
        obtain ⟨v, hv1, hv2⟩ := run_loadAt_el hT hR
        refine ⟨v, hv1, ?_⟩
        -- the value's own footprint does not hold the row's block
        have hF := ofD_R (l := lv s) (e := e) t (xs.getD off t.dflt) ds (by rw [hget]; exact m2)
        cases ds with
        | nil => simp at hlen
        | cons d ds' =>
          have hd0 : w.cell? ⟨g, off, none⟩ = some d := by
            rw [cell_of_heap k3]
            simpa using m1 0 d rfl
          have hk : tk T = .prim := by
            rcases eTy_tk hT with ⟨p, q, n, rfl, _, _⟩ | ⟨_, k⟩
            · simp only [Ty.size] at hsz
              have p1 : ∀ t : Ty, 1 ≤ t.size := by
                intro t
                induction t with
                | pair a b iha _ => simp only [Ty.size]; omega
                | _ => simp [Ty.size]
              have := p1 p
              have := p1 q
              omega
            · exact k
          have hv' : v = d := by
            have : (Instr.loadAt T (.pointer (some ⟨g, off, none⟩))).run PP w = .ok d w := by
              simp only [Instr.loadAt, Instr.sureAddr, Sem.run_bind, Sem.run_pure, Result.andThen_ok]
              exact run_loadVar_prim hk hd0
            rw [hv1] at this
            injection this
          subst hv'
          cases t with
          | u8 => exact hF.1
          | int => exact hF.1
          | bool => exact hF.1
          | slice t => exact hF.1
          | pair p q =>
            exfalso
            rcases eTy_tk hT with ⟨p, q, n, _, k, _⟩ | ⟨k, _⟩
            · rw [hk] at k; cases k
            · exact k _ _ rfl
    · exact hc.elim
  · exact hc.elim

end B
end Go.Proofs.Ytbmnhagbplkagaa

/- The operations, second part: addresses, cuts, arithmetic, conversions, tuples, lengths. -/
namespace Go.Proofs.Ytbmnhagbplkagaa
namespace B
open Go.RowKit

variable {w0 : World} {okA : Nat → Prop} {e : Env} {s : St} {a : Act} {w : World}

def chain : Ty → Nat → Bool
  | .pair a b, n + 1 => a.size == 1 && chain b n
  | t, 1 => t.size == 1
  | _, _ => false

theorem At.left {b o : Nat} {c1 c2 : List Value} (h : At w b o (c1 ++ c2)) : At w b o c1 := fun j u hj => h j u (by rw [List.getElem?_append_left (List.getElem?_eq_some_iff.1 hj).1]; exact hj)
theorem At.right {b o : Nat} {c1 c2 : List Value} (h : At w b o (c1 ++ c2)) : At w b (o + c1.length) c2 := fun j u hj => by
  have := h (c1.length + j) u (by rw [List.getElem?_append_right (by omega)]; simpa using hj)
  rwa [← Nat.add_assoc] at this

theorem elField_R {ok : Nat → Prop} {l : Nat → Prop} {b : Nat} (hb : ok b) (hb' : b < w.heap.size) : ∀ (t : Ty) (x : t.T) (n f o : Nat) (ds : List Value), chain t n = true → f < n → At w b o ds → Rd ok w t x ds →
    (elField t x f).R ok w l e (.pointer (some ⟨b, o + f, none⟩)) := by
  intro t
  have base : ∀ (t : Ty) (x : t.T) (o : Nat) (ds : List Value), At w b o ds → Rd ok w t x ds → (CV.el t x).R ok w l e (.pointer (some ⟨b, o + 0, none⟩)) :=
    fun t x o ds h1 h2 => ⟨b, o, ds, rfl, hb, hb', h1, h2⟩
  have leaf : ∀ (t : Ty), (∀ p q, t ≠ .pair p q) → ∀ (x : t.T) (n f o : Nat) (ds : List Value), chain t n = true → f < n → At w b o ds → Rd ok w t x ds → (elField t x f).R ok w l e (.pointer (some ⟨b, o + f, none⟩)) := by
    intro t ht x n f o ds hc hf h1 h2
    have hn : n = 1 := by
      cases t with
      | pair p q => exact absurd rfl (ht p q)
      | _ =>
        match n, hc with
        | 1, _ => rfl
        | 0, hc => simp [chain] at hc
        | n + 2, hc => simp [chain] at hc
    obtain rfl : f = 0 := by omega
    have : elField t x 0 = .el t x := by
      cases t with
      | pair p q => exact absurd rfl (ht p q)
      | _ => rfl
    rw [this]
    exact base t x o ds h1 h2
  induction t with
  | pair p q _ ihq =>
    intro x n f o ds hc hf h1 h2
    obtain ⟨c1, c2, rfl, k1, k2⟩ := h2
    cases n with
    | zero => omega
    | succ n =>
      simp only [chain, Bool.and_eq_true, beq_iff_eq] at hc
      cases f with
      | zero => exact base p x.1 o c1 h1.left k1
      | succ f =>
        have hl := Rd.len _ _ _ k1
        have := ihq x.2 n f (o + c1.length) c2 hc.2 (by omega) h1.right k2
        rw [hl, hc.1] at this
        rw [show o + (f + 1) = o + 1 + f by omega]
        exact this
  | u8 => exact leaf _ (fun p q h => by cases h)
  | int => exact leaf _ (fun p q h => by cases h)
  | bool => exact leaf _ (fun p q h => by cases h)
  | slice t _ => exact leaf _ (fun p q h => by cases h)

theorem eTy_chain {T : Nat} {t : Ty} (h : eTy T = some t) (hn : 0 < (fieldTs T).length) : chain t (fieldTs T).length = true ∧ ∃ n, (T, n) ∈ structL := by
  unfold eTy at h
  split at h <;> first
    | (cases h; done)
    | (simp [fieldTs] at hn; done)
    | (cases h; exact ⟨rfl, _, by simp [structL]; exact rfl⟩)
    | (cases h; refine ⟨rfl, 2, by decide⟩)
    | (cases h; refine ⟨rfl, 3, by decide⟩)

theorem fieldTs_struct {T : Nat} (hn : 0 < (fieldTs T).length) : ∃ n, (T, n) ∈ structL := by
  unfold fieldTs at hn
  split at hn <;> first
    | (simp at hn; done)
    | exact ⟨4, by decide⟩
    | exact ⟨3, by decide⟩
    | exact ⟨2, by decide⟩

theorem run_fieldAt {T f b o : Nat} (hf : f < (fieldTs T).length) : (Instr.fieldAt T (.pointer (some ⟨b, o, none⟩)) f).run PP w = .ok (.pointer (some ⟨b, o + f, none⟩)) w := by
  obtain ⟨n, hm⟩ := fieldTs_struct (T := T) (by omega)
  obtain ⟨fs, i, hu, _, _, hl, hF⟩ := structL_spec hm
  obtain ⟨F, i', h1, h2, h3, h4⟩ := hF f (by omega)
  unfold Instr.fieldAt
  simp [run_underlying hu, h1, Instr.sureAddr, fieldPlace, run_sizeOf' h3, h4, h2, Addr.add_lit]

theorem liveR_spec {id : Nat} {v : AV} {hb : HB} (hc : (liveR id v hb).cond) : hb.live ∧ liveR id v hb = ⟨True, v, [], [id], []⟩ := by
  cases hb <;> first | exact ⟨trivial, rfl⟩ | exact hc.elim

theorem rFieldAddr_ok (_ : RelE w0 okA e s a w) {T f : Nat} {av : AV} {y : Value} (hy : av.R (okS w0 okA e s) w (lv s) e y) (hc : (rFieldAddr s T f av).cond) :
    (rFieldAddr s T f av).upd = [] ∧ ∃ v, (Instr.fieldAt T y f).run PP w = .ok v w ∧ (rFieldAddr s T f av).val.R (okS w0 okA e s) w (lv s) e v := by
  unfold rFieldAddr at hc ⊢
  split at hc
  · rename_i t x
    split at hc
    · rename_i hf
      obtain ⟨b', o', ds, h1, h2, h3, h4, h5⟩ := hy
      cases h1
      refine ⟨by simp [hf], _, run_fieldAt hf, ?_⟩
      simp only [hf, if_true]
      exact elField_R h2 h3 t x _ f o' ds (eTy_chain hc (by omega)).1 hf h4 h5
    · exact hc.elim
  · rename_i id off
    split at hc
    · rename_i hf
      obtain ⟨hl, he⟩ := liveR_spec hc
      obtain ⟨g, h1, h2⟩ := hy.2 hl
      subst h2
      refine ⟨by simp [hf, he], _, run_fieldAt hf, ?_⟩
      simp only [hf, if_true, he]
      exact ⟨rfl, fun _ => ⟨g, h1, rfl⟩⟩
    · exact hc.elim
  · exact hc.elim

theorem run_indexSlice {T E k : Nat} {kk : IntKind} {b o len cap : Nat} {n : Int} {i : TypeInfo} (hu : PP.underlying T = some (.slice E)) (hi : PP.info? E = some i) (hk : i.size = k) (h0 : 0 ≤ n) (h1 : n < len) :
    (Instr.indexAt T (.slice (some ⟨b, o, none⟩) len cap) (.int kk n)).run PP w = .ok (.pointer (some ⟨b, o + n.toNat * k, none⟩)) w := by
  unfold Instr.indexAt
  simp [asIntOf, run_underlying hu, h0, h1, run_sizeOf' hi, hk, Addr.add_lit]

theorem run_indexArr {T m : Nat} {kk : IntKind} {b o : Nat} {n : Int} (hT : tk T = .arr m) (h0 : 0 ≤ n) (h1 : n < m) :
    (Instr.indexAt T (.pointer (some ⟨b, o, none⟩)) (.int kk n)).run PP w = .ok (.pointer (some ⟨b, o + n.toNat, none⟩)) w := by
  obtain ⟨i, hu, _, _⟩ := tk_arr hT
  obtain ⟨d, i5, _, _, h5, h5s⟩ := tk_prim (T := 5) rfl
  unfold Instr.indexAt
  simp [asIntOf, run_underlying hu, Instr.sureAddr, h0, h1, run_sizeOf' h5, h5s, Addr.add_lit]

theorem int_of_R {ok : Nat → Prop} {l : Nat → Prop} {x : Value} {y : Value} (h : (CV.v x).R ok w l e y) : y = x := h.1

theorem rIndexAddr_ok (h : RelE w0 okA e s a w) {T : Nat} {av iv : AV} {y z : Value} (hy : av.R (okS w0 okA e s) w (lv s) e y) (hz : iv.R (okS w0 okA e s) w (lv s) e z) (hc : (rIndexAddr s T av iv).cond) :
    (rIndexAddr s T av iv).upd = [] ∧ ∃ v, (Instr.indexAt T y z).run PP w = .ok v w ∧ (rIndexAddr s T av iv).val.R (okS w0 okA e s) w (lv s) e v := by
  unfold rIndexAddr at hc ⊢
  split at hc
  · rename_i t xs kk n
    obtain ⟨hT, h0, h1⟩ := hc
    have hz' : z = _ := hz.1
    subst hz'
    obtain ⟨A, cap, k1, k2, k3, k4, k5, k6⟩ := hy
    obtain ⟨E, i, z, hu, hi, hsz, _, _, _⟩ := sTy_spec hT
    have k1' : y = .slice A xs.length cap := (List.cons.inj k1).1
    cases A with
    | none =>
      have := k5 rfl
      have : xs.length = 0 := by omega
      omega
    | some ad =>
      obtain ⟨b, o, rfl, m⟩ := k6 ad rfl (by omega)
      subst k1'
      have hlt : n.toNat < xs.length := by omega
      obtain ⟨m1, m2, ds, m3, m4⟩ := m n.toNat hlt
      refine ⟨rfl, _, run_indexSlice hu hi hsz h0 h1, ?_⟩
      refine ⟨b, o + n.toNat * t.size, ds, rfl, m1, m2, m3, ?_⟩
      have : xs.getD n.toNat t.dflt = xs[n.toNat]'hlt := by simp [List.getD, hlt]
      rw [this]; exact m4
  · rename_i id kk n
    have hz' : z = _ := hz.1
    subst hz'
    have hB := h.heap id
    show (rIndexH T id n (s.h id)).upd = [] ∧ ∃ v, (Instr.indexAt T y (.int kk n)).run PP w = .ok v w ∧ (rIndexH T id n (s.h id)).val.R (okS w0 okA e s) w (lv s) e v
    generalize hcs : s.h id = hb at hc hB ⊢
    unfold rIndexH at hc ⊢
    split at hc
    · rename_i t xs
      obtain ⟨hT, h0, h1⟩ := hc
      obtain ⟨E, i, z, hu, hi, hsz, _, _, _⟩ := sTy_spec hT
      have hy' := hy.2 (live_of hcs trivial)
      rcases hB with ⟨rfl, _, _⟩ | ⟨g, cap, E', cur, k1, k2, k3, k4, k5, k6, k7, k8⟩
      · simp at h1; omega
      · rw [k2] at hy'
        subst hy'
        refine ⟨rfl, _, run_indexSlice hu hi hsz h0 h1, rfl, fun _ => ⟨g, k1, by simp⟩⟩
    · exact hc.elim
  · rename_i id off kk n
    have hz' : z = _ := hz.1
    subst hz'
    show (rIndexA T id off n (tk T) (s.h id)).upd = [] ∧ ∃ v, (Instr.indexAt T y (.int kk n)).run PP w = .ok v w ∧ (rIndexA T id off n (tk T) (s.h id)).val.R (okS w0 okA e s) w (lv s) e v
    generalize hcs : s.h id = hb at hc ⊢
    generalize hT : tk T = k at hc ⊢
    unfold rIndexA at hc ⊢
    split at hc
    · rename_i m xs
      obtain ⟨h0, h1⟩ := hc
      obtain ⟨g, k1, rfl⟩ := hy.2 (live_of hcs trivial)
      exact ⟨rfl, _, run_indexArr hT h0 h1, rfl, fun _ => ⟨g, k1, rfl⟩⟩
    · exact hc.elim
  · rename_i id lo m kk n
    have hz' : z = _ := hz.1
    subst hz'
    show (rIndexO T id lo m n (s.h id)).upd = [] ∧ ∃ v, (Instr.indexAt T y (.int kk n)).run PP w = .ok v w ∧ (rIndexO T id lo m n (s.h id)).val.R (okS w0 okA e s) w (lv s) e v
    obtain ⟨E, i, z, hu, hi, hsz, _, _, _⟩ := sTy_spec (T := 35) rfl
    generalize hcs : s.h id = hb at hc ⊢
    unfold rIndexO at hc ⊢
    split at hc
    · obtain ⟨rfl, h0, h1⟩ := hc
      obtain ⟨g, cap, k1, k2, rfl⟩ := hy.2 (live_of hcs trivial)
      refine ⟨rfl, _, run_indexSlice hu hi hsz h0 h1, rfl, fun _ => ⟨g, k1, by simp [Ty.size]⟩⟩
    · obtain ⟨rfl, h0, h1⟩ := hc
      obtain ⟨g, cap, k1, k2, rfl⟩ := hy.2 (live_of hcs trivial)
      refine ⟨rfl, _, run_indexSlice hu hi hsz h0 h1, rfl, fun _ => ⟨g, k1, by simp [Ty.size]⟩⟩
    · exact hc.elim
  · exact hc.elim

end B
end Go.Proofs.Ytbmnhagbplkagaa

/- The operations, third part: choices, arithmetic, conversions, tuples, lengths, cuts. -/
namespace Go.Proofs.Ytbmnhagbplkagaa
namespace B
open Go.RowKit

variable {w0 : World} {okA : Nat → Prop} {e : Env} {s : St} {a : Act} {w : World}

/-- A step on values alone. -/
def POk (ok : Nat → Prop) (w : World) (l : Nat → Prop) (e : Env) (r : R) (m : Sem Value) : Prop := r.upd = [] ∧ ∃ v, m.run PP w = .ok v w ∧ r.val.R ok w l e v

section
variable {ok : Nat → Prop} {l : Nat → Prop}

theorem rBin_int {op : BinOp} {T : Nat} {ox oy : Operand} {k : IntKind} {x y : Int} (hc : (binI op k x y).cond) :
    POk ok w l e (binI op k x y) (do eqGuard op T ox oy (.int k x) (.int k y); binOp op T (.int k x) (.int k y)) := by
  cases op <;> simp only [binI] at hc ⊢ <;> first
    | (exact hc.elim)
    | (refine ⟨rfl, _, ?_, ⟨rfl, rfl⟩⟩; simp [eqGuard, binOp, Op.intArith, Op.intCmp, Op.intBits, Op.intDiv, hc]; done)

theorem rBin_sh {op : BinOp} {T : Nat} {ox oy : Operand} {k k' : IntKind} {x y : Int} (hc : (shI op k x y).cond) :
    POk ok w l e (shI op k x y) (do eqGuard op T ox oy (.int k x) (.int k' y); binOp op T (.int k x) (.int k' y)) := by
  cases op <;> simp only [shI] at hc ⊢ <;> first
    | (exact hc.elim)
    | (refine ⟨rfl, _, ?_, ⟨rfl, rfl⟩⟩; simp [eqGuard, binOp, Op.shift, Int.not_lt.2 hc]; done)

theorem rBin_bool {op : BinOp} {ox oy : Operand} {x y : Bool} (hc : (eqB op (x == y)).cond) :
    POk ok w l e (eqB op (x == y)) (do eqGuard op 4 ox oy (.bool x) (.bool y); binOp op 4 (.bool x) (.bool y)) := by
  have hu : PP.underlying 4 = some .bool := Try.underlying4
  cases op <;> simp only [eqB] at hc ⊢ <;> first
    | (exact hc.elim)
    | (refine ⟨rfl, _, ?_, ⟨rfl, rfl⟩⟩; simp [eqGuard, binOp, Op.equal, Op.maxDepth, run_equalIn_bool _ 9999 4 x y hu]; done)

theorem rBin_str {op : BinOp} {T : Nat} {ox oy : Operand} {x y : ByteArray} (hc : (eqB op (x.data.toList == y.data.toList)).cond) :
    POk ok w l e (eqB op (x.data.toList == y.data.toList)) (do eqGuard op T ox oy (.string x) (.string y); binOp op T (.string x) (.string y)) := by
  cases op <;> simp only [eqB] at hc ⊢ <;> first
    | (exact hc.elim)
    | (refine ⟨rfl, _, ?_, ⟨rfl, rfl⟩⟩; simp [eqGuard, binOp, Op.stringOp, ByteArray.toList_eq]; done)

theorem rNil_eq {op : BinOp} {T E : Nat} {ox oy : Operand} {A : Option Addr} {n m p q : Nat} (hu : PP.underlying T = some (.slice E)) (hc : (eqB op A.isNone).cond) :
    POk ok w l e (eqB op A.isNone) (do eqGuard op T ox oy (.slice A n m) (.slice none p q); binOp op T (.slice A n m) (.slice none p q)) := by
  have he : (Op.equal T (.slice A n m) (.slice none p q)).run PP w = .ok A.isNone w := by
    have hd : ∀ d, (Op.equalIn (d + 1) T (.slice A n m) (.slice none p q)).run PP w = .ok A.isNone w := by
      intro d
      cases A <;> simp [Op.equalIn, run_underlying hu]
    exact hd 9999
  cases op <;> simp only [eqB] at hc ⊢ <;> first
    | (exact hc.elim)
    | (refine ⟨rfl, _, ?_, ⟨rfl, rfl⟩⟩; simp [eqGuard, binOp, he]; done)

theorem rNil_ok {op : BinOp} {T : Nat} {ox oy : Operand} {av : AV} {y : Value} {a : Act} (hy : av.R ok w l e y) (hn : isNilC oy = true) (hc : (rNil op T av).cond) :
    POk ok w l e (rNil op T av) (do eqGuard op T ox oy y (a.eval oy); binOp op T y (a.eval oy)) := by
  unfold isNilC at hn
  split at hn
  · rename_i p q
    unfold rNil at hc ⊢
    split at hc
    · rename_i t hT
      obtain ⟨E, i, z, hu, _⟩ := sTy_spec hT
      unfold rNilX at hc ⊢
      split at hc
      · rename_i t' xs
        split at hc
        · rename_i heq
          subst heq
          obtain ⟨_, ad, n, m, rfl⟩ := hy
          simp only [if_true]
          exact rNil_eq (A := some ad) hu hc
        · exact hc.elim
      · rename_i n m
        have h1 : y = _ := hy.1
        subst h1
        exact rNil_eq (A := none) hu hc
      · exact hc.elim
    · exact hc.elim
  · cases hn

theorem rBin_ok {op : BinOp} {T : Nat} {ox oy : Operand} {av bv : AV} {y z : Value} (hy : av.R ok w l e y) (hz : bv.R ok w l e z) (hc : (rBin op T av bv).cond) :
    POk ok w l e (rBin op T av bv) (do eqGuard op T ox oy y z; binOp op T y z) := by
  unfold rBin at hc ⊢
  split at hc
  · rename_i k x k' x'
    have h1 : y = _ := hy.1
    have h2 : z = _ := hz.1
    subst h1 h2
    by_cases hs : isSh op = true
    · simp only [hs, if_true] at hc ⊢
      exact rBin_sh hc
    · simp only [hs] at hc ⊢
      by_cases hk : k = k'
      · subst hk
        simp only [if_true] at hc ⊢
        exact rBin_int hc
      · simp only [hk, if_false] at hc
        exact hc.elim
  · rename_i x x'
    have h1 : y = _ := hy.1
    have h2 : z = _ := hz.1
    subst h1 h2
    by_cases hT : T = 4
    · subst hT
      simp only [if_true] at hc ⊢
      exact rBin_bool hc
    · simp only [hT, if_false] at hc
      exact hc.elim
  · rename_i x x'
    have h1 : y = _ := hy
    have h2 : z = _ := hz
    subst h1 h2
    exact rBin_str (x := ⟨x.toArray⟩) (y := ⟨x'.toArray⟩) hc
  · rename_i x x'
    have h1 : y = _ := hy
    have h2 : z = _ := hz.1
    subst h1 h2
    exact rBin_str (x := ⟨x.toArray⟩) (y := x') hc
  · exact hc.elim

theorem rUn_ok {op : UnOp} {av : AV} {y : Value} (hy : av.R ok w l e y) (hc : (rUn op av).cond) : POk ok w l e (rUn op av) (Op.unary op y) := by
  unfold rUn at hc ⊢
  split at hc
  · have h1 : y = _ := hy.1
    subst h1
    cases op <;> first
      | (exact hc.elim)
      | (refine ⟨rfl, _, ?_, ⟨rfl, rfl⟩⟩; simp [Op.unary]; done)
  · have h1 : y = _ := hy.1
    subst h1
    cases op <;> first
      | (exact hc.elim)
      | (refine ⟨rfl, _, ?_, ⟨rfl, rfl⟩⟩; simp only [Op.unary, Op.intBits, IntKind.signed, Bool.false_eq_true, if_false, Sem.run_pure])
  · exact hc.elim

theorem kOf_spec {T : Nat} {k : IntKind} (h : kOf T = some k) : PP.underlying T = some (.int k) := by
  unfold kOf at h
  split at h
  · cases h; exact Try.underlying3
  · cases h; exact Try.underlying28
  · cases h; exact Try.underlying5
  · cases h; exact Try.underlying73
  · cases h; exact Try.underlying94
  · cases h; exact Try.underlying111
  · cases h

theorem foldl_push (l : List UInt8) : ∀ (acc : ByteArray), (l.map fun x => (x.toNat : Int)).foldl (fun r n => r.push (UInt8.ofNat n.toNat)) acc = ⟨(acc.data.toList ++ l).toArray⟩ := by
  induction l with
  | nil => intro acc; simp
  | cons x l ih =>
    intro acc
    simp only [List.map_cons, List.foldl_cons]
    rw [ih]
    simp [ByteArray.push]

theorem bytes_cells {ok : Nat → Prop} {xs : List UInt8} {A : Option Addr} {cap : Nat} (h : Rd ok w tB xs [.slice A xs.length cap]) : ∀ ad, A = some ad → (loadCells ad xs.length).run PP w = .ok ((xs.map fun x => (x.toNat : Int)).map (Value.int .u8)).toArray w := by
  intro ad had
  obtain ⟨A', cap', h1, h2, h3, h4, h5, h6⟩ := h
  injection h1 with h1 _
  injection h1 with h1 _ h1c
  subst h1
  by_cases hz : xs = []
  · subst hz
    exact run_loadCells_list (P := PP) w ad [] (fun j v hj => by simp at hj)
  obtain ⟨b, o, rfl, k⟩ := h6 ad had (List.length_pos_iff.2 hz)
  have := run_loadCells_list (P := PP) w ⟨b, o, none⟩ ((xs.map fun x => (x.toNat : Int)).map (Value.int .u8)) (fun j v hj => ?_)
  · simpa using this
  · rw [Addr.add_lit]
    simp only [List.getElem?_map, Option.map_map, Option.map_eq_some_iff] at hj
    obtain ⟨x, hx, rfl⟩ := hj
    obtain ⟨hj', hx'⟩ := List.getElem?_eq_some_iff.1 hx
    obtain ⟨_, _, ds, k1, k2⟩ := k j hj'
    have k2' : ds = _ := k2
    subst k2'
    have := k1 0 _ rfl
    simp only [Ty.size, Nat.mul_one, Nat.add_zero] at this
    rw [this]
    subst hx'
    rfl

theorem conv_bytes {xs : List UInt8} {A : Option Addr} {cap : Nat} (h : Rd ok w tB xs [.slice A xs.length cap]) : (convert 35 9 (.slice A xs.length cap)).run PP w = .ok (.string ⟨xs.toArray⟩) w := by
  have h35 : PP.underlying 35 = some (.slice 5) := Try.underlying35
  have h9 : PP.underlying 9 = some .string := Try.underlying9
  have h5 : PP.underlying 5 = some (.int .u8) := Try.underlying5
  have hb := bytes_cells h
  cases A with
  | none =>
    obtain ⟨A', cap', h1, h2, h3, h4, hA, h6⟩ := h
    simp only [List.cons.injEq, Value.slice.injEq, and_true] at h1
    have : cap' = 0 := hA h1.1.symm
    have hx : xs = [] := List.eq_nil_of_length_eq_zero (by omega)
    subst hx
    simp only [convert, Sem.run_bind, run_underlying h35, run_underlying h9, run_underlying h5, Result.andThen_ok, Conv.bytesToString, Sem.run_pure]
    rw [show ByteArray.empty = ⟨([] : List UInt8).toArray⟩ from rfl]
  | some ad =>
    have := run_bytesToString (P := PP) w ad xs.length cap _ (hb ad rfl)
    simp only [convert, Sem.run_bind, run_underlying h35, run_underlying h9, run_underlying h5, Result.andThen_ok, this]
    rw [foldl_push]
    simp

theorem rConv_int {src dst : Nat} {k k' : IntKind} {n : Int} (h : kOf dst = some k) (hs : (PP.underlying src).isSome = true) : (convert src dst (.int k' n)).run PP w = .ok (.int k (k.wrap n)) w := by
  obtain ⟨d, hd⟩ := Option.isSome_iff_exists.1 hs
  have := kOf_spec h
  simp only [convert, Sem.run_bind, run_underlying hd, run_underlying this, Result.andThen_ok, Conv.intToInt, Sem.run_pure]

end

theorem rExtract_ok {ok : Nat → Prop} {l : Nat → Prop} {i : Nat} {av : AV} {y : Value} (hy : av.R ok w l e y) (hc : (rExtract i av).cond) : POk ok w l e (rExtract i av) (Instr.extract y i) := by
  unfold rExtract at hc ⊢
  split at hc
  · rename_i xs
    obtain ⟨ys, rfl, hF⟩ := hy
    have key : ∀ (xs : List PV) (ys : List Value) (i : Nat) (x : PV), F2P ok w l e xs ys → xs[i]? = some x → ∃ y, ys[i]? = some y ∧ x.R ok w l e y := by
      intro xs
      induction xs with
      | nil => intro ys i x _ h; simp at h
      | cons c xs ih =>
        intro ys i x hF h
        cases ys with
        | nil => exact hF.elim
        | cons y ys =>
          cases i with
          | zero => simp at h; subst h; exact ⟨y, rfl, hF.1⟩
          | succ i => simp at h; obtain ⟨z, h1, h2⟩ := ih ys i x hF.2 h; exact ⟨z, by simpa using h1, h2⟩
    split at hc
    · rename_i x hx
      obtain ⟨y, h1, h2⟩ := key xs ys i x hF hx
      exact ⟨rfl, y, by simp [Instr.extract, h1], h2⟩
    · exact hc.elim
  · exact hc.elim

theorem rPick_ok {ok : Nat → Prop} {l : Nat → Prop} {c x y : AV} {vc vx vy : Value} (hc' : c.R ok w l e vc) (hx : x.R ok w l e vx) (hy : y.R ok w l e vy) (hc : (rPick c x y).cond) :
    (rPick c x y).upd = [] ∧ ∃ b : Bool, vc = .bool b ∧ (rPick c x y).val.R ok w l e (if b then vx else vy) := by
  unfold rPick at hc ⊢
  split at hc
  · rw [rMove_eq]
    exact ⟨rfl, true, hc'.1, by simpa using hx⟩
  · rw [rMove_eq]
    exact ⟨rfl, false, hc'.1, by simpa using hy⟩
  · exact hc.elim

theorem run_len {T : Nat} {t : Ty} {A : Option Addr} {n cap : Nat} {ty : TypeId} (h : sTy T = some t) : (Builtin.len_ #[T] ty #[.slice A n cap]).run PP w = .ok (.int .i64 n) w := by
  obtain ⟨E, i, z, hu, _⟩ := sTy_spec h
  simp [Builtin.len_, run_underlying hu, goInt]

theorem maxL_run {k : IntKind} {ok : Nat → Prop} {l : Nat → Prop} : ∀ (xs : List AV) (ys : List Value) (x n : Int), (∀ (i : Nat) (a : AV), xs[i]? = some a → ∃ y, ys[i]? = some y ∧ a.R ok w l e y) → ys.length = xs.length → maxL k x xs = some n →
    (ys.foldlM Builtin.max2 (Value.int k x)).run PP w = .ok (.int k n) w := by
  intro xs
  induction xs with
  | nil => intro ys x n _ hl h; cases ys with
    | nil => simp [maxL] at h; simp [h]
    | cons _ _ => simp at hl
  | cons a xs ih =>
    intro ys x n hx hl h
    cases ys with
    | nil => simp at hl
    | cons y ys =>
      obtain ⟨y', h1, h2⟩ := hx 0 a (by simp)
      simp at h1
      subst h1
      unfold maxL at h
      split at h
      · rename_i h0; cases h0
      · rename_i b k' z l' h0
        injection h0 with h0 h0'
        subst h0 h0'
        have hy : y = _ := h2.1
        subst hy
        split at h
        · rename_i hk
          subst hk
          rw [List.foldlM_cons, Sem.run_bind]
          simp only [Builtin.max2, Sem.run_pure, Result.andThen_ok]
          exact ih ys _ n (fun i a hi => by have := hx (i + 1) a (by simpa using hi); simpa using this) (by simpa using hl) h
        · cases h
      · cases h

theorem minL_run {k : IntKind} {ok : Nat → Prop} {l : Nat → Prop} : ∀ (xs : List AV) (ys : List Value) (x n : Int), (∀ (i : Nat) (a : AV), xs[i]? = some a → ∃ y, ys[i]? = some y ∧ a.R ok w l e y) → ys.length = xs.length → minL k x xs = some n →
    (ys.foldlM Builtin.min2 (Value.int k x)).run PP w = .ok (.int k n) w := by
  intro xs
  induction xs with
  | nil => intro ys x n _ hl h; cases ys with
    | nil => simp [minL] at h; simp [h]
    | cons _ _ => simp at hl
  | cons a xs ih =>
    intro ys x n hx hl h
    cases ys with
    | nil => simp at hl
    | cons y ys =>
      obtain ⟨y', h1, h2⟩ := hx 0 a (by simp)
      simp at h1
      subst h1
      unfold minL at h
      split at h
      · rename_i h0; cases h0
      · rename_i b k' z l' h0
        injection h0 with h0 h0'
        subst h0 h0'
        have hy : y = _ := h2.1
        subst hy
        split at h
        · rename_i hk
          subst hk
          rw [List.foldlM_cons, Sem.run_bind]
          simp only [Builtin.min2, Sem.run_pure, Result.andThen_ok]
          exact ih ys _ n (fun i a hi => by have := hx (i + 1) a (by simpa using hi); simpa using this) (by simpa using hl) h
        · cases h
      · cases h

end B
end Go.Proofs.Ytbmnhagbplkagaa

/- The operations, fourth part: new boxes, stores, structs, cuts. -/
namespace Go.Proofs.Ytbmnhagbplkagaa
namespace B
open Go.RowKit

variable {w0 : World} {okA : Nat → Prop} {e : Env} {s : St} {a : Act} {w : World}

def CV.zv : CV → Value
  | .v x => x
  | _ => .slice none 0 0
def PV.zv : PV → Value
  | .one c => c.zv
  | .agg cs => .agg (cs.map CV.zv).toArray
  | .arr xs => .agg (xs.map u8v).toArray
def CV.zk : CV → Bool
  | .v x => x.oneCell'
  | .emp => true
  | _ => false
def PV.zk : PV → Bool
  | .one c => c.zk
  | .agg cs => cs.all CV.zk
  | .arr _ => true

theorem info_of {T : Nat} {z : Value} (h : (PP.info? T).bind (fun i => i.zero) = some z) : ∃ i, PP.info? T = some i ∧ i.zero = some z := Option.bind_eq_some_iff.1 h

theorem zero_spec {T : Nat} {pv : PV} (h : zeroT T = some pv) : (∃ i, PP.info? T = some i ∧ i.zero = some pv.zv) ∧ pv.zk = true := by
  unfold zeroT at h
  split at h
  · cases h; exact ⟨info_of (T := 3) (by kernel_rfl), rfl⟩
  · cases h; exact ⟨info_of (T := 28) (by kernel_rfl), rfl⟩
  · cases h; exact ⟨info_of (T := 4) (by kernel_rfl), rfl⟩
  · cases h; exact ⟨info_of (T := 5) (by kernel_rfl), rfl⟩
  · cases h; exact ⟨info_of (T := 94) (by kernel_rfl), rfl⟩
  · cases h; exact ⟨info_of (T := 22) (by kernel_rfl), rfl⟩
  · cases h; exact ⟨info_of (T := 23) (by kernel_rfl), rfl⟩
  · cases h; exact ⟨info_of (T := 35) (by kernel_rfl), rfl⟩
  · cases h; exact ⟨info_of (T := 25) (by kernel_rfl), rfl⟩
  · cases h; exact ⟨info_of (T := 45) (by kernel_rfl), rfl⟩
  · cases h; exact ⟨info_of (T := 76) (by kernel_rfl), rfl⟩
  · cases h; exact ⟨info_of (T := 61) (by kernel_rfl), rfl⟩
  · cases h; exact ⟨info_of (T := 59) (by kernel_rfl), rfl⟩
  · cases h; exact ⟨info_of (T := 109) (by kernel_rfl), rfl⟩
  · cases h

section
variable {ok : Nat → Prop} {l : Nat → Prop}
theorem CV.zR {c : CV} (h : c.zk = true) : c.R ok w l e c.zv ∧ c.zv.oneCell' = true ∧ ∀ id, c.noM id = true := by
  cases c with
  | v x => exact ⟨⟨rfl, h⟩, h, fun _ => rfl⟩
  | emp => exact ⟨⟨none, rfl, fun ad h => by cases h⟩, rfl, fun _ => rfl⟩
  | _ => simp [CV.zk] at h
theorem F2.zR : ∀ {cs : List CV}, cs.all CV.zk = true → F2 ok w l e cs (cs.map CV.zv) ∧ ∀ id, noML id cs = true
  | [], _ => ⟨trivial, fun _ => rfl⟩
  | c :: cs, h => by
    simp only [List.all_cons, Bool.and_eq_true] at h
    have h1 := CV.zR (ok := ok) (l := l) (e := e) (w := w) h.1
    have h2 := F2.zR (cs := cs) h.2
    exact ⟨⟨h1.1, h1.2.1, h2.1⟩, fun id => by simp [noML, h1.2.2 id, h2.2 id]⟩
theorem PV.zR {c : PV} (h : c.zk = true) : c.R ok w l e c.zv ∧ ∀ id, c.noM id = true := by
  cases c with
  | one c => have := CV.zR (ok := ok) (l := l) (e := e) (w := w) h; exact ⟨this.1, this.2.2⟩
  | agg cs => have := F2.zR (ok := ok) (l := l) (e := e) (w := w) h; exact ⟨⟨_, rfl, this.1⟩, this.2⟩
  | arr xs => exact ⟨rfl, fun _ => rfl⟩
end

def PV.hb : PV → HB
  | .one c => .box [c]
  | .agg cs => .box cs
  | .arr xs => .arr xs
def PV.cellOk : PV → Bool
  | .one c => c.cellOk
  | _ => true

theorem ev_noM {d : Nat} (h : s.noM d = true) (x : Operand) : (s.ev x).noM d = true := by
  cases x with
  | tmp t => exact St.noM_get h t
  | const v =>
    show (constAV v).noM d = true
    unfold constAV
    split <;> rfl
  | global g => rfl
  | func f => rfl

/-- A new box. -/
theorem RelE.newBox {d E : Nat} {pv : PV} {y : Value} (h : RelE w0 okA e s a w) (hn : s.noM d = true) (hp : pv.noM d = true) (hk : pv.cellOk = true) (hy : pv.R (okS w0 okA e s) w (lv s) e y) :
    RelE w0 okA (e.set d undef (some w.heap.size)) ⟨s.n, s.ts, (d, pv.hb) :: s.hs⟩ a (w.alloc (.cells y.cells E)) := by
  have hw : Below w.heap.size w (w.alloc (.cells y.cells E)) := (Below.refl _ _).alloc (Nat.le_refl _) _
  have hK := Keep.new h d undef (some w.heap.size) pv.hb _ hw (fun g hg => by cases hg; exact Nat.le_refl _)
  have hsame : ∀ id, id ≠ d → Same (lv s) e (lv ⟨s.n, s.ts, (d, pv.hb) :: s.hs⟩) (e.set d undef (some w.heap.size)) id := by
    intro id hid hl
    refine ⟨?_, Env.set_β' _ _ _ hid, Env.set_ν' _ _ _ hid⟩
    unfold lv at hl ⊢
    rwa [h_cons, if_neg (fun q => hid q.symm)] at hl
  have hm : ∀ id, pv.noM id = false → id ≠ d := fun id h1 q => by subst q; simp [hp] at h1
  have hnew := heap_alloc_new w (.cells y.cells E)
  refine h.new hn hw (fun g hg => by cases hg; simp) ?_
  cases pv with
  | one c =>
    have h1 := cell_one hk hy
    refine ⟨w.heap.size, E, [y], Env.set_β _ _ _ _, ?_, ?_⟩
    · rw [hnew, cells_one h1]
    · exact ⟨CV.R.mono hK (fun id hi => hsame id (hm id hi)) hy, h1, trivial⟩
  | agg cs =>
    obtain ⟨ys, rfl, hF⟩ := hy
    exact ⟨w.heap.size, E, ys, Env.set_β _ _ _ _, hnew, F2.mono hK (fun id hi => hsame id (hm id hi)) hF⟩
  | arr xs =>
    have hy' : y = _ := hy
    subst hy'
    exact ⟨w.heap.size, E, Env.set_β _ _ _ _, hnew⟩

theorem hb_live (pv : PV) : pv.hb.live := by cases pv <;> trivial

theorem ptr_new_R {d : Nat} {w' : World} {ok : Nat → Prop} {l : Nat → Prop} (g : Nat) (ν : Value) : (o1 (.ptr d 0)).R ok w' l (e.set d ν (some g)) (.pointer (some ⟨g, 0, none⟩)) :=
  ⟨rfl, fun _ => ⟨g, Env.set_β _ _ _ _, rfl⟩⟩

theorem set_take_drop (l : List Value) (o : Nat) (y : Value) (h : o < l.length) : l.take o ++ [y] ++ l.drop (o + 1) = l.set o y := by
  rw [List.set_eq_take_append_cons_drop, if_pos h]
  simp

/-- A cell of a box is written. -/
theorem rStore_box_ok (h : RelE w0 okA e s a w) {T id off : Nat} {x : PV} {cs : List CV} {y z : Value} (hcs : s.h id = .box cs) (hy : (CV.ptr id off).R (okS w0 okA e s) w (lv s) e y) (hz : x.R (okS w0 okA e s) w (lv s) e z)
    (hc : (rStoreH s T id off x (.box cs)).cond) :
    ∃ w', (Instr.storeAt T y z).run PP w = .ok () w' ∧ RelE w0 okA e ⟨s.n, s.ts, (rStoreH s T id off x (.box cs)).upd ++ s.hs⟩ a w' ∧ (rStoreH s T id off x (.box cs)).val = uAV := by
  have hl : lv s id := live_of hcs trivial
  obtain ⟨g, hβ, rfl⟩ := hy.2 hl
  have hB := h.heap id
  rw [hcs] at hB
  obtain ⟨g', E, vs, k1, k2, k3⟩ := hB
  rw [hβ] at k1; cases k1
  have hlv : ∀ (hb : HB), hb.live → ∀ i, lv ⟨s.n, s.ts, (id, hb) :: s.hs⟩ i → lv s i := by
    intro hb hb' i hi
    by_cases q : id = i
    · subst q; exact hl
    · unfold lv at hi ⊢
      rwa [h_cons, if_neg q] at hi
  have keep : ∀ (hb : HB) (hb' : hb.live) (vs' : Array Value), Keep (okS w0 okA e s) w (lv s) e (okS w0 okA e ⟨s.n, s.ts, (id, hb) :: s.hs⟩) (w.setRow g vs') (lv ⟨s.n, s.ts, (id, hb) :: s.hs⟩) e := by
    intro hb hb' vs'
    refine ⟨by simp, fun b h1 h2 => ⟨⟨h1.1, fun i hi => h1.2 i (hlv hb hb' i hi)⟩, setRow_other w g b vs' (fun q => h1.2 id hl (by rw [hβ, q]))⟩⟩
  unfold rStoreH at hc ⊢
  dsimp only at hc ⊢
  split at hc
  · rename_i c hT
    split at hc
    · rename_i hcond
      obtain ⟨hoff, hck⟩ := hcond
      rw [lenC_eq] at hoff
      have h1 := cell_one hck hz
      obtain ⟨i, hi, hsz⟩ := tk_size.1 hT
      have hlen : off < vs.length := by rw [k3.len]; exact hoff
      have hrun := run_storeVar (T := T) (g := g) (o := off) (E := E) (cur := vs.toArray) (v := z) hi (by rw [cells_one h1, hsz]; rfl) k2 (by rw [cells_one h1]; simp; omega) (by rw [cells_one h1]; simpa using h1)
      rw [cells_one h1] at hrun
      refine ⟨w.setRow g (vs.set off z).toArray, ?_, ?_, ?_⟩
      · simp only [Instr.storeAt, Instr.sureAddr, Sem.run_bind, Sem.run_pure, Result.andThen_ok]
        rw [hrun]
        have q := set_take_drop vs off z hlen
        simp only [List.size_toArray, List.length_cons, List.length_nil, Nat.zero_add]
        rw [q]
      · simp only [lenC_eq, hoff, hck, and_self, if_true, List.singleton_append]
        refine h.write hl hβ (grownBy_setRow w g _) trivial ⟨g, E, vs.set off z, hβ, setRow_heap w g _ _ E _ k2, ?_⟩
        exact F2.set (CV.R.mono (keep (.box (setC cs off c)) trivial _) (fun i _ hi => ⟨hlv _ (by trivial) i hi, rfl, rfl⟩) hz) h1 (F2.mono (keep (.box (setC cs off c)) trivial _) (fun i _ hi => ⟨hlv _ (by trivial) i hi, rfl, rfl⟩) k3)
      · simp only [lenC_eq, hoff, hck, and_self, if_true]
    · exact hc.elim
  · rename_i n ds hT
    split at hc
    · rename_i hcond
      obtain ⟨rfl, hlc, hld, hok⟩ := hcond
      obtain ⟨ys, rfl, hF⟩ := hz
      obtain ⟨i, hi, hsz⟩ := tk_size.2 n (.inl hT)
      rw [lenC_eq] at hlc hld
      have hly : ys.length = n := by rw [hF.len, hld]
      have hlv' : vs.length = n := by rw [k3.len, hlc]
      have hrun := run_storeVar (T := T) (g := g) (o := 0) (E := E) (cur := vs.toArray) (v := .agg ys.toArray) hi (by simp [Value.cells, hsz, hly]) k2 (by simp [Value.cells, hly, hlv']) (by simpa [Value.cells] using F2.ones hF)
      refine ⟨w.setRow g ys.toArray, ?_, ?_, ?_⟩
      · simp only [Instr.storeAt, Instr.sureAddr, Sem.run_bind, Sem.run_pure, Result.andThen_ok]
        rw [hrun]
        simp [Value.cells, hly, ← hlv']
      · simp only [lenC_eq, hlc, hld, hok, and_self, if_true, List.singleton_append]
        exact h.write hl hβ (grownBy_setRow w g _) trivial ⟨g, E, ys, hβ, setRow_heap w g _ _ E _ k2, F2.mono (keep (.box ds) trivial _) (fun i _ hi => ⟨hlv _ (by trivial) i hi, rfl, rfl⟩) hF⟩
      · simp only [lenC_eq, hlc, hld, hok, and_self, if_true]
    · exact hc.elim
  · exact hc.elim

end B
end Go.Proofs.Ytbmnhagbplkagaa

/- The operations, fifth part: values as data, stores into rows, structs and slices built, cuts. -/
namespace Go.Proofs.Ytbmnhagbplkagaa
namespace B
open Go.RowKit

variable {w0 : World} {okA : Nat → Prop} {e : Env} {s : St} {a : Act} {w : World}

/-- An own slice as data, its block given up. -/
theorem own_sl {ok ok' : Nat → Prop} {l : Nat → Prop} {id : Nat} {t : Ty} {xs : List t.T} (h : (HB.own t xs).R ok w l e id) (hg : ∀ g, e.β id = some g → g < w.heap.size ∧ ok' g) (hk : ∀ b, ok b → ok' b) : Rd ok' w (.slice t) xs [e.ν id] := by
  rcases h with ⟨rfl, h2, A, h3, h4⟩ | ⟨g, cap, E, cur, h1, h2, h3, h4, h5, h6, h7, h8⟩
  · refine ⟨A, 0, by rw [h3]; rfl, Nat.le_refl _, by omega, by simp, fun _ => rfl, fun ad had hz => absurd hz (by simp)⟩
  · refine ⟨some ⟨g, 0, none⟩, cap, by rw [h2], h4, h5, h7, (fun q => by cases q), fun ad had hz => ?_⟩
    cases had
    refine ⟨g, 0, rfl, fun i hi => ?_⟩
    obtain ⟨ds, k1, k2⟩ := h8 i hi
    refine ⟨(hg g h1).2, (hg g h1).1, ds, fun j u hj => ?_, Rd.mono (Nat.le_refl _) (fun b hb _ => ⟨hk b hb, rfl⟩) _ _ _ k2⟩
    rw [cell_of_heap h3, Nat.zero_add]
    exact k1 j u hj

theorem emp_sl {ok : Nat → Prop} {l : Nat → Prop} {t : Ty} {y : Value} (h : CV.emp.R ok w l e y) : (CV.sl t []).R ok w l e y := by
  obtain ⟨A, rfl, h4⟩ := h
  refine ⟨A, 0, rfl, Nat.le_refl _, by omega, by rw [List.length_nil, Nat.zero_mul]; omega, fun _ => rfl, fun ad had hz => absurd hz (by simp)⟩

theorem lv_kills {s : St} : ∀ (l : List Nat) (i : Nat), lv ⟨s.n, s.ts, kills l ++ s.hs⟩ i ↔ (lv s i ∧ i ∉ l)
  | [], i => by simp [kills]
  | k :: l, i => by
    have ih := lv_kills (s := s) l i
    show ((St.mk s.n s.ts ((k, .none) :: (kills l ++ s.hs))).h i).live ↔ _
    rw [h_cons]
    by_cases q : k = i
    · subst q; simp [HB.live]
    · rw [if_neg q]
      show lv ⟨s.n, s.ts, kills l ++ s.hs⟩ i ↔ _
      rw [ih]
      simp [Ne.symm q]

theorem osub_sl {ok : Nat → Prop} {l : Nat → Prop} {g lo n cap : Nat} {E : TypeId} {xs : List UInt8} (hg : w.heap[g]? = some (.cells (xs.map u8v).toArray E (0, 0))) (hle : lo + n ≤ xs.length) (hcap : n ≤ cap ∧ cap ≤ 9223372036854775807 ∧ n ≤ 140737488355328) (hok : ok g) (hlt : g < w.heap.size) :
    (CV.sl .u8 ((xs.drop lo).take n)).R ok w l e (.slice (some ⟨g, lo, none⟩) n cap) := by
  have hlen : ((xs.drop lo).take n).length = n := by simp; omega
  refine ⟨some ⟨g, lo, none⟩, cap, by rw [hlen], by rw [hlen]; exact hcap.1, hcap.2.1, by simp only [hlen, Ty.bytes]; omega, (fun q => by cases q), fun ad had hz => ?_⟩
  cases had
  refine ⟨g, lo, rfl, fun i hi => ⟨hok, hlt, [u8v (((xs.drop lo).take n)[i]'hi)], ?_, rfl⟩⟩
  intro j u hj
  cases j with
  | succ j => simp at hj
  | zero =>
    simp at hj
    subst hj
    rw [cell_of_heap hg]
    have hi' : i < n := by
      have : i < ((xs.drop lo).take n).length := hi
      omega
    simp [Ty.size]
    exact ⟨_, List.getElem?_eq_getElem (by omega), rfl⟩

/-- Data by its type: what is own is given up. -/
theorem coe_R (h : RelE w0 okA e s a w) {ks : List Nat} {T : Nat} {c : CV} {y : Value} (hc : c.R (okS w0 okA e s) w (lv s) e y) (hk : ∀ i ∈ c.owns, i ∈ ks) (hy1 : y.oneCell' = true) :
    (coeC s T c).R (okS w0 okA e ⟨s.n, s.ts, kills ks ++ s.hs⟩) w (lv ⟨s.n, s.ts, kills ks ++ s.hs⟩) e y := by
  have hK : Keep (okS w0 okA e s) w (lv s) e (okS w0 okA e ⟨s.n, s.ts, kills ks ++ s.hs⟩) w (lv ⟨s.n, s.ts, kills ks ++ s.hs⟩) e :=
    ⟨Nat.le_refl _, fun b h1 _ => ⟨⟨h1.1, fun i hi => h1.2 i ((lv_kills ks i).1 hi).1⟩, rfl⟩⟩
  have hm : ∀ (c : CV), c.R (okS w0 okA e s) w (lv s) e y → c.R (okS w0 okA e ⟨s.n, s.ts, kills ks ++ s.hs⟩) w (lv ⟨s.n, s.ts, kills ks ++ s.hs⟩) e y :=
    fun c hc => CV.R.mono hK (fun i _ hi => ⟨((lv_kills ks i).1 hi).1, rfl, rfl⟩) hc
  cases c with
  | emp =>
    unfold coeC
    dsimp only
    split
    · exact emp_sl (hm _ hc)
    · exact hm _ hc
  | clp t xs => exact (hm _ hc).1
  | slN t xs => exact (hm _ hc).1
  | own id =>
    unfold coeC
    dsimp only
    split
    · rename_i t xs hcs
      have hl : lv s id := live_of hcs trivial
      have hy := hc.2 hl
      subst hy
      have hB := h.heap id
      rw [hcs] at hB
      refine own_sl (id := id) hB (fun g hg => ⟨(h.blk id g hl hg).2, .inr (h.blk id g hl hg).1, fun i hi hi' => ?_⟩) (fun b hb => ⟨hb.1, fun i hi => hb.2 i ((lv_kills ks i).1 hi).1⟩)
      obtain ⟨q1, q2⟩ := (lv_kills ks i).1 hi
      have := h.inj i id g q1 hl hi' hg
      subst this
      exact q2 (hk i (by simp [CV.owns]))
    · trivial
  | undef => exact hm _ hc
  | v x => exact hm _ hc
  | str s => exact hm _ hc
  | sl t xs => exact hm _ hc
  | el t x => exact hm _ hc
  | elv z t x => exact hm _ hc
  | ptr id off => exact hm _ hc
  | clo f t x => exact hm _ hc
  | osub id lo n =>
    unfold coeC
    dsimp only
    split
    · rename_i xs hcs
      split
      · rename_i hle
        have hl : lv s id := live_of hcs trivial
        obtain ⟨g, cap, hg, hcap, rfl⟩ := hc.2 hl
        have hB := h.heap id
        rw [hcs] at hB
        obtain ⟨g', E, k1, k2⟩ := hB
        rw [hg] at k1; cases k1
        have hblk := h.blk id g hl hg
        refine osub_sl k2 hle hcap ⟨.inr hblk.1, fun i hi hi' => ?_⟩ hblk.2
        obtain ⟨q1, q2⟩ := (lv_kills ks i).1 hi
        have := h.inj i id g q1 hl hi' hg
        subst this
        exact q2 (hk i (by simp [CV.owns]))
      · trivial
    · trivial

section
variable {ok : Nat → Prop} {l : Nat → Prop}

/-- The datum that cells stand for lies in them. -/
theorem asD_R : ∀ (t : Ty) (cs : List CV) (ys : List Value) (d : t.T) (r : List CV), F2 ok w l e cs ys → asD t cs = some (d, r) → asDc t cs → ∃ ds rs, ys = ds ++ rs ∧ Rd ok w t d ds ∧ F2 ok w l e r rs := by
  intro t
  induction t with
  | u8 =>
    intro cs ys d r hF h hc
    change asU8 cs = some (d, r) at h
    change asU8c cs at hc
    unfold asU8 at h
    split at h
    · rename_i n r'
      cases ys with
      | nil => exact hF.elim
      | cons y ys =>
        injection h with h
        injection h with h1 h2
        subst h1 h2
        obtain ⟨h0, h1⟩ : 0 ≤ n ∧ n < 256 := hc
        refine ⟨[y], ys, rfl, ?_, hF.2.2⟩
        have hy : y = _ := hF.1.1
        subst hy
        show [Value.int .u8 n] = [.int .u8 ((UInt8.ofNat n.toNat).toNat : Int)]
        congr 2
        rw [UInt8.toNat_ofNat']
        omega
    · cases h
  | int =>
    intro cs ys d r hF h hc
    change asI cs = some (d, r) at h
    unfold asI at h
    split at h
    · rename_i n r'
      cases ys with
      | nil => exact hF.elim
      | cons y ys =>
        injection h with h
        injection h with h1 h2
        subst h1 h2
        refine ⟨[y], ys, rfl, ?_, hF.2.2⟩
        have hy : y = _ := hF.1.1
        subst hy
        rfl
    · cases h
  | bool =>
    intro cs ys d r hF h hc
    change asBo cs = some (d, r) at h
    unfold asBo at h
    split at h
    · rename_i n r'
      cases ys with
      | nil => exact hF.elim
      | cons y ys =>
        injection h with h
        injection h with h1 h2
        subst h1 h2
        refine ⟨[y], ys, rfl, ?_, hF.2.2⟩
        have hy : y = _ := hF.1.1
        subst hy
        rfl
    · cases h
  | slice t ih =>
    intro cs ys d r hF h hc
    change asSl t cs = some (d, r) at h
    unfold asSl at h
    split at h
    · rename_i t' xs r'
      split at h
      · rename_i ht
        subst ht
        cases ys with
        | nil => exact hF.elim
        | cons y ys =>
          injection h with h
          injection h with h1 h2
          subst h1 h2
          exact ⟨[y], ys, rfl, hF.1, hF.2.2⟩
      · cases h
    · cases h
  | pair p q ihp ihq =>
    intro cs ys d r hF h hc
    change (match asD p cs with | some (x, r) => (asD q r).map fun y => ((x, y.1), y.2) | Option.none => Option.none) = some (d, r) at h
    change (match asD p cs with | some (_, r) => asDc p cs ∧ asDc q r | Option.none => False) at hc
    split at h
    · rename_i x r1 hp
      rw [hp] at hc
      obtain ⟨⟨y, r2⟩, hq, h2⟩ := Option.map_eq_some_iff.1 h
      injection h2 with h2 h3
      subst h2 h3
      obtain ⟨ds, rs, rfl, k1, k2⟩ := ihp _ _ _ _ hF hp hc.1
      obtain ⟨ds2, rs2, rfl, k3, k4⟩ := ihq _ _ _ _ k2 hq hc.2
      exact ⟨ds ++ ds2, rs2, by simp, ⟨ds, ds2, rfl, k1, k3⟩, k4⟩
    · cases h
end

end B
end Go.Proofs.Ytbmnhagbplkagaa

/- The operations, sixth part: stores into rows and arrays, structs and slices built, cuts, rows made. -/
namespace Go.Proofs.Ytbmnhagbplkagaa
namespace B
open Go.RowKit

variable {w0 : World} {okA : Nat → Prop} {e : Env} {s : St} {a : Act} {w : World}

theorem lv_put {s : St} {id : Nat} {hb : HB} {ks : List Nat} (hl : lv s id) : ∀ i, lv ⟨s.n, s.ts, (id, hb) :: (kills ks ++ s.hs)⟩ i → lv s i := by
  intro i hi
  by_cases q : id = i
  · subst q; exact hl
  · unfold lv at hi
    rw [h_cons, if_neg q] at hi
    exact ((lv_kills ks i).1 hi).1

theorem Keep.wr (_ : RelE w0 okA e s a w) {id g : Nat} (hl : lv s id) (hβ : e.β id = some g) (hb : HB) {w' : World} (hw : w.grownBy w' (some g)) :
    Keep (okS w0 okA e s) w (lv s) e (okS w0 okA e ⟨s.n, s.ts, (id, hb) :: s.hs⟩) w' (lv ⟨s.n, s.ts, (id, hb) :: s.hs⟩) e :=
  ⟨hw.size, fun b h1 h2 => ⟨⟨h1.1, fun i hi => h1.2 i (lv_put (ks := []) hl i hi)⟩, hw.block b h2 (fun q => h1.2 id hl (by rw [hβ, Option.some.inj q]))⟩⟩

theorem grown_setRow (w : World) (g : Nat) (cs : Array Value) : w.grownBy (w.setRow g cs) (some g) := grownBy_setRow w g cs

theorem rStore_arr_ok (h : RelE w0 okA e s a w) {T id off : Nat} {x : PV} {xs : List UInt8} {y z : Value} (hcs : s.h id = .arr xs) (hy : (CV.ptr id off).R (okS w0 okA e s) w (lv s) e y) (hz : x.R (okS w0 okA e s) w (lv s) e z)
    (hc : (rStoreH s T id off x (.arr xs)).cond) :
    ∃ w', (Instr.storeAt T y z).run PP w = .ok () w' ∧ RelE w0 okA e ⟨s.n, s.ts, (rStoreH s T id off x (.arr xs)).upd ++ s.hs⟩ a w' ∧ (rStoreH s T id off x (.arr xs)).val = uAV := by
  have hl : lv s id := live_of hcs trivial
  obtain ⟨g, hβ, rfl⟩ := hy.2 hl
  have hB := h.heap id
  rw [hcs] at hB
  obtain ⟨g', E, k1, k2⟩ := hB
  rw [hβ] at k1; cases k1
  unfold rStoreH at hc ⊢
  dsimp only at hc ⊢
  split at hc
  · rename_i m hT
    obtain ⟨rfl, h0, h1, hoff⟩ := hc
    have hz' : z = _ := hz.1
    subst hz'
    have hm : Value.int .u8 m = u8v (UInt8.ofNat m.toNat) := by
      unfold u8v
      rw [UInt8.toNat_ofNat']
      congr 1
      omega
    obtain ⟨i, hi, hsz⟩ := tk_size.1 hT
    have hrun := run_storeVar (T := 5) (g := g) (o := off) (E := E) (cur := (xs.map u8v).toArray) (v := .int .u8 m) hi (by rw [hsz]; rfl) k2 (by simp [Value.cells]; omega) (by simp [Value.cells, Value.oneCell'])
    refine ⟨w.setRow g ((xs.set off (UInt8.ofNat m.toNat)).map u8v).toArray, ?_, ?_, rfl⟩
    · simp only [Instr.storeAt, Instr.sureAddr, Sem.run_bind, Sem.run_pure, Result.andThen_ok]
      rw [hrun]
      have q := set_take_drop (xs.map u8v) off (Value.int .u8 m) (by simpa using hoff)
      simp only [Value.cells, List.size_toArray, List.length_cons, List.length_nil, Nat.zero_add]
      rw [q, hm, List.map_set]
    · exact h.write hl hβ (grownBy_setRow w g _) trivial ⟨g, E, hβ, setRow_heap w g _ _ E _ k2⟩
  · rename_i n ys hT
    obtain ⟨rfl, hlc, hld⟩ := hc
    have hz' : z = _ := hz
    subst hz'
    obtain ⟨i, hi, hsz⟩ := tk_size.2 n (.inr hT)
    have hrun := run_storeVar (T := T) (g := g) (o := 0) (E := E) (cur := (xs.map u8v).toArray) (v := .agg (ys.map u8v).toArray) hi (by simp [Value.cells, hsz, hld]) k2 (by simp [Value.cells, hlc, hld]) (by simpa [Value.cells] using u8v_ones ys)
    refine ⟨w.setRow g (ys.map u8v).toArray, ?_, ?_, rfl⟩
    · simp only [Instr.storeAt, Instr.sureAddr, Sem.run_bind, Sem.run_pure, Result.andThen_ok]
      rw [hrun]
      have q : List.drop ys.length (List.map u8v xs) = [] := List.drop_eq_nil_of_le (by simp [hlc, hld])
      simp [Value.cells, q]
    · exact h.write hl hβ (grownBy_setRow w g _) trivial ⟨g, E, hβ, setRow_heap w g _ _ E _ k2⟩
  · exact hc.elim

theorem kills_mem {ks : List Nat} {id : Nat} (h : ks.contains id = false) : id ∉ ks := by
  intro hm
  rw [List.contains_iff_mem.2 hm] at h
  cases h

theorem h_kills {s : St} : ∀ {ks : List Nat} {id : Nat}, id ∉ ks → (St.mk s.n s.ts (kills ks ++ s.hs)).h id = s.h id
  | [], _, _ => rfl
  | k :: ks, id, h => by
    show (St.mk s.n s.ts ((k, .none) :: (kills ks ++ s.hs))).h id = _
    rw [h_cons, if_neg (fun q => h (by simp [q]))]
    exact h_kills (fun q => h (by simp [q]))

theorem asD_undef : ∀ t : Ty, asD t [CV.undef] = none := by
  intro t
  induction t with
  | pair p q ihp _ => simp [asD, ihp]
  | u8 => rfl
  | int => rfl
  | bool => rfl
  | slice t _ => rfl

theorem rStore_own_ok (h : RelE w0 okA e s a w) {T id off : Nat} {x : PV} {t : Ty} {xs : List t.T} {y z : Value} (hcs : s.h id = .own t xs) (hy : (CV.ptr id off).R (okS w0 okA e s) w (lv s) e y) (hz : x.R (okS w0 okA e s) w (lv s) e z)
    (hc : (rStoreH s T id off x (.own t xs)).cond) :
    ∃ w', (Instr.storeAt T y z).run PP w = .ok () w' ∧ RelE w0 okA e ⟨s.n, s.ts, (rStoreH s T id off x (.own t xs)).upd ++ s.hs⟩ a w' ∧ (rStoreH s T id off x (.own t xs)).val = uAV := by
  have hl : lv s id := live_of hcs trivial
  obtain ⟨g, hβ, rfl⟩ := hy.2 hl
  unfold rStoreH at hc ⊢
  dsimp only at hc ⊢
  split at hc
  · rename_i c
    split at hc
    · rename_i d hasD
      split at hc
      · exact hc.elim
      · rename_i hni
        obtain ⟨hrange, hT, hsz, hoff⟩ := hc
        have hni' : id ∉ c.owns := kills_mem (by simpa using hni)
        simp only [hni, Bool.false_eq_true, if_false]
        have hK := h.kills c.owns
        have hl' : lv ⟨s.n, s.ts, kills c.owns ++ s.hs⟩ id := (lv_kills _ _).2 ⟨hl, hni'⟩
        have hz1 : z.oneCell' = true := by
          cases c with
          | undef =>
            have h0 : asD t [CV.undef] = some (d, []) := hasD
            rw [asD_undef] at h0
            cases h0
          | v x => rw [hz.1]; exact hz.2
          | str s => have h' : z = _ := hz; rw [h']; rfl
          | emp => obtain ⟨A, h', _⟩ := hz; rw [h']; rfl
          | sl t xs => obtain ⟨A, cap, h1, _⟩ := hz; rw [List.cons.inj h1 |>.1]; rfl
          | clp t xs => obtain ⟨A, h'⟩ := hz.2; rw [h']; rfl
          | slN t xs => obtain ⟨A, _, _, h'⟩ := hz.2; rw [h']; rfl
          | el t x => obtain ⟨b, o, ds, h', _⟩ := hz; rw [h']; rfl
          | elv z' t x => obtain ⟨_, b, o, ds, h', _⟩ := hz; rw [h']; rfl
          | ptr id off => exact hz.1
          | own id => exact hz.1
          | osub id lo n => exact hz.1
          | clo f t x => obtain ⟨p, h', _⟩ := hz; rw [h']; rfl
        have hcoe := coe_R h (ks := c.owns) (T := T) hz (fun _ q => q) hz1
        have hF2 : F2 (okS w0 okA e ⟨s.n, s.ts, kills c.owns ++ s.hs⟩) w (lv ⟨s.n, s.ts, kills c.owns ++ s.hs⟩) e [coeC s T c] [z] := ⟨hcoe, hz1, trivial⟩
        obtain ⟨ds, rs, hds, hRd, hrs⟩ := asD_R t _ [z] d [] hF2 hasD hrange
        have hrs' : rs = [] := by cases rs with
          | nil => rfl
          | cons _ _ => exact hrs.elim
        subst hrs'
        rw [List.append_nil] at hds
        subst hds
        have hB := hK.heap id
        rw [h_kills hni', hcs] at hB
        rcases hB with ⟨rfl, _, _⟩ | ⟨g', cap, E, cur, k1, k2, k3, k4, k5, k6, k7, k8⟩
        · simp at hoff
        · rw [hβ] at k1; cases k1
          have hpr : tk T = .prim := by
            rcases eTy_tk hT with ⟨p, q, n, rfl, _, _⟩ | ⟨_, k⟩
            · simp only [Ty.size] at hsz
              have p1 : ∀ t : Ty, 1 ≤ t.size := by
                intro t
                induction t with
                | pair a b iha _ => simp only [Ty.size]; omega
                | _ => simp [Ty.size]
              have := p1 p
              have := p1 q
              omega
            · exact k
          obtain ⟨i, hi, hisz⟩ := tk_size.1 hpr
          have hlt : off < cur.size := by rw [k6, hsz]; omega
          have hrun := run_storeVar (T := T) (g := g) (o := off) (E := E) (cur := cur) (v := z) hi (by rw [cells_one hz1, hisz]; rfl) k3 (by rw [cells_one hz1]; simp; omega) (by rw [cells_one hz1]; simpa using hz1)
          rw [cells_one hz1] at hrun
          refine ⟨w.setRow g (cur.toList.set off z).toArray, ?_, ?_, trivial⟩
          · simp only [Instr.storeAt, Instr.sureAddr, Sem.run_bind, Sem.run_pure, Result.andThen_ok]
            rw [hrun]
            have q := set_take_drop cur.toList off z (by simpa using hlt)
            simp only [List.size_toArray, List.length_cons, List.length_nil, Nat.zero_add]
            rw [q]
          · have hkeep := Keep.wr hK hl' hβ (.own t (xs.set off d)) (grownBy_setRow w g (cur.toList.set off z).toArray)
            refine hK.write (hb := .own t (xs.set off d)) hl' hβ (grownBy_setRow w g (cur.toList.set off z).toArray) trivial (Or.inr ⟨g, cap, E, (cur.toList.set off z).toArray, hβ, by rw [k2]; simp, setRow_heap w g _ _ E _ k3, by simpa using k4, k5, by simpa using k6, by simpa using k7, fun i hi' => ?_⟩)
            have hi2 : i < xs.length := by simpa using hi'
            by_cases q : off = i
            · subst q
              refine ⟨[z], fun j u hj => ?_, ?_⟩
              · cases j with
                | zero =>
                  simp at hj
                  subst hj
                  rw [hsz]
                  simp [hlt]
                | succ j => simp at hj
              · have : (xs.set off d)[off]'hi' = d := by simp
                rw [this]
                exact Rd.mono hkeep.size hkeep.blk _ _ _ hRd
            · obtain ⟨ds, m1, m2⟩ := k8 i hi2
              refine ⟨ds, fun j u hj => ?_, ?_⟩
              · have hj0 := (List.getElem?_eq_some_iff.1 hj).1
                rw [Rd.len _ _ _ m2, hsz] at hj0
                have hj' : j = 0 := by omega
                subst hj'
                have := m1 0 u hj
                rw [hsz, Nat.mul_one, Nat.add_zero] at this ⊢
                simp [q]
                simpa using this
              · have : (xs.set off d)[i]'hi' = xs[i]'hi2 := by simp [q]
                rw [this]
                exact Rd.mono hkeep.size hkeep.blk _ _ _ m2
    · exact hc.elim
  · exact hc.elim

theorem rStore_ok (h : RelE w0 okA e s a w) {T : Nat} {av xv : AV} {y z : Value} (hy : av.R (okS w0 okA e s) w (lv s) e y) (hz : xv.R (okS w0 okA e s) w (lv s) e z) (hc : (rStore s T av xv).cond) :
    ∃ w', (Instr.storeAt T y z).run PP w = .ok () w' ∧ RelE w0 okA e ⟨s.n, s.ts, (rStore s T av xv).upd ++ s.hs⟩ a w' ∧ (rStore s T av xv).val = uAV := by
  unfold rStore at hc ⊢
  split at hc
  · rename_i id off x
    show ∃ w', _ ∧ RelE w0 okA e ⟨s.n, s.ts, (rStoreH s T id off x (s.h id)).upd ++ s.hs⟩ a w' ∧ (rStoreH s T id off x (s.h id)).val = uAV
    cases hcs : s.h id with
    | none => rw [hcs] at hc; exact hc.elim
    | obj g o => rw [hcs] at hc; exact hc.elim
    | box cs => rw [hcs] at hc; exact rStore_box_ok h hcs hy hz hc
    | arr xs => rw [hcs] at hc; exact rStore_arr_ok h hcs hy hz hc
    | own t xs => rw [hcs] at hc; exact rStore_own_ok h hcs hy hz hc
  · exact hc.elim

end B
end Go.Proofs.Ytbmnhagbplkagaa

/- The operations, seventh part: structs and slices built, cuts, rows made. -/
namespace Go.Proofs.Ytbmnhagbplkagaa
namespace B
open Go.RowKit

variable {w0 : World} {okA : Nat → Prop} {e : Env} {s : St} {a : Act} {w : World}

theorem fill_one {place : Nat → Option (Nat × Nat)} {cs : List Value} {i off : Nat} {v : Value} {rest : List (Nat × Value)} (hp : place i = some (off, 1)) (hv : v.oneCell' = true) (ho : off < cs.length) :
    Instr.fill place cs.toArray ((i, v) :: rest) = Instr.fill place (cs.set off v).toArray rest := by
  have h1 := cells_one hv
  have : ¬ (cs.length < off + 1) := by omega
  simp [Instr.fill, hp, h1, this]

theorem setC_len : ∀ (cs : List CV) (k : Nat) (c : CV), (setC cs k c).length = cs.length
  | [], _, _ => rfl
  | _ :: _, 0, _ => rfl
  | _ :: cs, k + 1, c => by simp [setC, setC_len cs k c]

theorem fill_ok (h : RelE w0 okA e s a w) {place : Nat → Option (Nat × Nat)} {n : Nat} (hp : ∀ i, i < n → place i = some (i, 1)) : ∀ (parts : List (Nat × Operand)) (cs cs' : List CV) (vs : List Value),
    cs.length = n → F2 (okS w0 okA e s) w (lv s) e cs vs → setParts s parts cs = some cs' →
    ∃ vs', Instr.fill place vs.toArray (parts.map fun x => (x.1, a.eval x.2)) = some vs'.toArray ∧ F2 (okS w0 okA e s) w (lv s) e cs' vs' := by
  intro parts
  induction parts with
  | nil =>
    intro cs cs' vs _ hF hs
    simp only [setParts, Option.some.injEq] at hs
    subst hs
    exact ⟨vs, rfl, hF⟩
  | cons p ps ih =>
    intro cs cs' vs hn hF hs
    unfold setParts at hs
    have hev := ev_R h p.2
    split at hs
    · rename_i c hc
      split at hs
      · rename_i hcond
        obtain ⟨h1, h2⟩ := hcond
        rw [lenC_eq] at h1
        rw [hc] at hev
        have hone := cell_one h2 hev
        have hF' := F2.set (k := p.1) hev hone hF
        obtain ⟨vs', k1, k2⟩ := ih (setC cs p.1 c) cs' (vs.set p.1 (a.eval p.2)) (by rw [setC_len, hn]) hF' hs
        refine ⟨vs', ?_, k2⟩
        rw [List.map_cons, fill_one (hp p.1 (by omega)) hone (by rw [hF.len]; exact h1)]
        exact k1
      · cases hs
    · cases hs

theorem mapM_places {fs : List Field} : ∀ {Ts : List Nat} {k : Nat}, fieldsB fs Ts k = true → fs.length = Ts.length ∧
    (fs.mapM fun f => do pure (f.offset, ← sizeOf f.type) : Sem (List (Nat × Nat))).run PP w = .ok ((List.range' k Ts.length).map fun i => (i, 1)) w := by
  induction fs with
  | nil =>
    intro Ts k h
    cases Ts with
    | nil => exact ⟨rfl, by simp⟩
    | cons _ _ => simp [fieldsB] at h
  | cons f fs ih =>
    intro Ts k h
    cases Ts with
    | nil => simp [fieldsB] at h
    | cons T Ts =>
      simp only [fieldsB, Bool.and_eq_true, beq_iff_eq] at h
      obtain ⟨⟨h1, h2⟩, h3⟩ := h
      split at h2
      · rename_i i hi
        obtain ⟨k1, k2⟩ := ih h3
        refine ⟨by simp [k1], ?_⟩
        have hsz : i.size = 1 := by simpa using h2
        rw [List.mapM_cons]
        simp only [Sem.run_bind, run_sizeOf' hi, Result.andThen_ok, Sem.run_pure, k2, h1, hsz]
        simp [List.range'_succ]
      · cases h2

theorem structL_fields {T n : Nat} (hm : (T, n) ∈ structL) : ∃ fs, PP.underlying T = some (.struct fs) ∧ fieldsB fs.toList (fieldTs T) 0 = true ∧ (fieldTs T).length = n := by
  have := List.all_eq_true.1 structA (T, n) hm
  unfold structB at this
  split at this
  · rename_i fs i h1 h2
    simp only [Bool.and_eq_true, beq_iff_eq] at this
    exact ⟨fs, h1, this.2, this.1.2⟩
  · cases this

theorem zeroT_agg {T : Nat} {zs : List CV} (h : zeroT T = some (.agg zs)) : (T, zs.length) ∈ structL := by
  unfold zeroT at h
  split at h <;> first
    | (cases h; done)
    | (cases h; decide)

theorem rBuild_ok (h : RelE w0 okA e s a w) {T : Nat} {parts : List (Nat × Operand)} (hc : (rBuild s T parts).cond) :
    (rBuild s T parts).upd = [] ∧ ∃ v, (Instr.build T (parts.map fun x => (x.1, a.eval x.2)).toArray).run PP w = .ok v w ∧ (rBuild s T parts).val.R (okS w0 okA e s) w (lv s) e v := by
  unfold rBuild at hc ⊢
  split at hc
  · rename_i zs hz
    split at hc
    · rename_i cs hcs
      split at hc
      · rename_i hok
        obtain ⟨⟨i, hi, hzero⟩, hzk⟩ := zero_spec hz
        have hm := zeroT_agg hz
        obtain ⟨fs, hu, hfb, hlen⟩ := structL_fields hm
        obtain ⟨k1, k2⟩ := mapM_places (w := w) hfb
        have hF0 := (F2.zR (ok := okS w0 okA e s) (l := lv s) (e := e) (w := w) (cs := zs) hzk).1
        obtain ⟨vs', m1, m2⟩ := fill_ok h (place := fun i => ((((List.range' 0 (fieldTs T).length).map fun i => (i, 1)).toArray : Array (Nat × Nat)))[i]?) (n := zs.length) (fun i hi => by simp [hlen, hi]) parts zs cs (zs.map CV.zv) rfl hF0 hcs
        refine ⟨by simp [hok], .agg vs'.toArray, ?_, by simp only [hok, if_true]; exact ⟨vs', rfl, m2⟩⟩
        unfold Instr.build
        have hzv : (zeroValue T).run PP w = .ok (PV.zv (.agg zs)) w := by simp [zeroValue, typeInfo, hi, hzero]
        have hmapM : (fs.mapM fun f => do pure (f.offset, ← sizeOf f.type) : Sem (Array (Nat × Nat))).run PP w = .ok ((List.range' 0 (fieldTs T).length).map fun i => (i, 1)).toArray w := by
          rw [Array.mapM_eq_mapM_toList]
          simp only [Sem.run_map, k2, Result.andThen_ok]
        simp only [Sem.run_bind, hzv, run_underlying hu, Result.andThen_ok, hmapM, PV.zv, Value.cells]
        rw [m1]
        simp
      · exact hc.elim
    · exact hc.elim
  · exact hc.elim

end B
end Go.Proofs.Ytbmnhagbplkagaa

/- The operations, eighth part: slices built, cuts, rows made. -/
namespace Go.Proofs.Ytbmnhagbplkagaa
namespace B
open Go.RowKit

variable {w0 : World} {okA : Nat → Prop} {e : Env} {s : St} {a : Act} {w : World}

theorem okS_new (h : RelE w0 okA e s a w) : okS w0 okA e s w.heap.size :=
  ⟨.inr h.le, fun id hl q => by have := (h.blk id _ hl q).2; omega⟩

theorem F2_app {ok : Nat → Prop} {l : Nat → Prop} : ∀ {cs : List CV} {ys : List Value}, F2 ok w l e cs ys → ∀ u ∈ ys, u.oneCell' = true := F2.ones

/-- Filling a row of one element. -/
theorem fill_whole {size : Nat} (ds : List Value) (hl : ds.length = size) (v : Value) (hv : v.cells = ds.toArray) (zs : List Value) (hz : zs.length = size) (h3 : size ≤ 3) :
    Instr.fill (fun i => some (i * size, size)) zs.toArray [(0, v)] = some ds.toArray := by
  subst hl
  have h0 : v.cells.size = ds.length := by rw [hv]; simp
  unfold Instr.fill
  simp only [Nat.zero_mul]
  rw [if_neg (by simp [h0, hz])]
  unfold Instr.fill
  rw [hv]
  congr 1
  match ds, zs, hz, h3 with
  | [], [], _, _ => rfl
  | [a], [x], _, _ => rfl
  | [a, b], [x, y], _, _ => rfl
  | [a, b, c], [x, y, z], _, _ => rfl
  | a :: b :: c :: d :: _, _, _, h => simp at h

theorem sTy_small {T : Nat} {t : Ty} (h : sTy T = some t) : t.size ≤ 3 ∧ 1 ≤ t.size := by
  unfold sTy at h
  split at h <;> first
    | (cases h; done)
    | (cases h; decide)

theorem PV.cs_R {ok : Nat → Prop} {l : Nat → Prop} {x : PV} {y : Value} (hx : x.R ok w l e y) (h1 : ∀ c, x = .one c → y.oneCell' = true) (hna : ∀ xs, x ≠ .arr xs) : ∃ ys : List Value, y.cells = ys.toArray ∧ F2 ok w l e x.cs ys := by
  cases x with
  | one c => exact ⟨[y], cells_one (h1 c rfl), hx, h1 c rfl, trivial⟩
  | agg cs => obtain ⟨ys, rfl, hF⟩ := hx; exact ⟨ys, rfl, hF⟩
  | arr xs => exact absurd rfl (hna xs)

theorem zipC_F2 (h : RelE w0 okA e s a w) {ks : List Nat} : ∀ {Ts : List Nat} {cs : List CV} {ys : List Value}, F2 (okS w0 okA e s) w (lv s) e cs ys → (∀ i ∈ ownsL cs, i ∈ ks) → Ts.length = cs.length →
    F2 (okS w0 okA e ⟨s.n, s.ts, kills ks ++ s.hs⟩) w (lv ⟨s.n, s.ts, kills ks ++ s.hs⟩) e (zipC s Ts cs) ys
  | [], [], [], _, _, _ => trivial
  | T :: Ts, c :: cs, y :: ys, hF, hk, hl => by
    refine ⟨coe_R h hF.1 (fun i hi => hk i (by simp [ownsL, hi])) hF.2.1, hF.2.1, ?_⟩
    exact zipC_F2 h hF.2.2 (fun i hi => hk i (by simp [ownsL, hi])) (by simpa using hl)
  | _ :: _, [], _, _, _, hl => by simp at hl
  | [], _ :: _, _, _, _, hl => by simp at hl
  | [], [], _ :: _, hF, _, _ => hF.elim
  | _ :: _, _ :: _, [], hF, _, _ => hF.elim

theorem asD_zip_len : ∀ (t : Ty) (cs : List CV) (d : t.T) (r : List CV), asD t cs = some (d, r) → cs.length = t.size + r.length := by
  intro t
  induction t with
  | u8 =>
    intro cs d r h
    change asU8 cs = some (d, r) at h
    unfold asU8 at h
    split at h
    · injection h with h; injection h with h1 h2; subst h2; simp [Ty.size]; omega
    · cases h
  | int =>
    intro cs d r h
    change asI cs = some (d, r) at h
    unfold asI at h
    split at h
    · injection h with h; injection h with h1 h2; subst h2; simp [Ty.size]; omega
    · cases h
  | bool =>
    intro cs d r h
    change asBo cs = some (d, r) at h
    unfold asBo at h
    split at h
    · injection h with h; injection h with h1 h2; subst h2; simp [Ty.size]; omega
    · cases h
  | slice t _ =>
    intro cs d r h
    change asSl t cs = some (d, r) at h
    unfold asSl at h
    split at h
    · split at h
      · injection h with h; injection h with h1 h2; subst h2; simp [Ty.size]; omega
      · cases h
    · cases h
  | pair p q ihp ihq =>
    intro cs d r h
    change (match asD p cs with | some (x, r) => (asD q r).map fun y => ((x, y.1), y.2) | Option.none => Option.none) = some (d, r) at h
    split at h
    · rename_i x r1 hp
      obtain ⟨⟨y, r2⟩, hq, h2⟩ := Option.map_eq_some_iff.1 h
      injection h2 with h2 h3
      subst h3
      have := ihp _ _ _ hp
      have := ihq _ _ _ hq
      simp [Ty.size]
      omega
    · cases h

theorem zipC_len (s : St) : ∀ (Ts : List Nat) (cs : List CV), (zipC s Ts cs).length = min Ts.length cs.length
  | [], _ => by simp [zipC]
  | _ :: _, [] => by simp [zipC]
  | T :: Ts, c :: cs => by simp [zipC, zipC_len s Ts cs]

theorem one_of_R {ok : Nat → Prop} {l : Nat → Prop} {c : CV} {y : Value} (hne : c ≠ .undef) (h : c.R ok w l e y) : y.oneCell' = true := by
  cases c with
  | undef => exact absurd rfl hne
  | v x => rw [h.1]; exact h.2
  | str s => have h' : y = _ := h; rw [h']; rfl
  | emp => obtain ⟨A, h', _⟩ := h; rw [h']; rfl
  | sl t xs => obtain ⟨A, cap, h1, _⟩ := h; rw [List.cons.inj h1 |>.1]; rfl
  | clp t xs => obtain ⟨A, h'⟩ := h.2; rw [h']; rfl
  | slN t xs => obtain ⟨A, _, _, h'⟩ := h.2; rw [h']; rfl
  | el t x => obtain ⟨b, o, ds, h', _⟩ := h; rw [h']; rfl
  | elv z t x => obtain ⟨_, b, o, ds, h', _⟩ := h; rw [h']; rfl
  | ptr id off => exact h.1
  | own id => exact h.1
  | osub id lo n => exact h.1
  | clo f t x => obtain ⟨p, h', _⟩ := h; rw [h']; rfl

theorem sTy_elem {T : Nat} {t : Ty} (h : sTy T = some t) (hne : elemT T ≠ 0) : (∀ n, (elemT T, n) ∈ structL → (fieldTs (elemT T)).length = t.size) := by
  unfold sTy at h
  intro n hn
  split at h <;> first
    | (cases h; done)
    | (cases h; rfl)
    | (cases h; revert hn; simp [elemT, structL]; done)
    | (cases h; exact absurd rfl hne)

theorem coeP_cs (s : St) (T : Nat) (x : PV) : (coeP s T x).cs = match x with | .one c => [coeC s T c] | .agg cs => zipC s (fieldTs T) cs | .arr _ => [] := by
  cases x <;> rfl

theorem rBuildSlice_ok (h : RelE w0 okA e s a w) {T len : Nat} {parts : List (Nat × Operand)} (hc : (rBuildSlice s T len parts).cond) :
    ∃ v w', (Instr.buildSlice T len (parts.map fun x => (x.1, a.eval x.2)).toArray).run PP w = .ok v w' ∧ RelE w0 okA e ⟨s.n, s.ts, (rBuildSlice s T len parts).upd ++ s.hs⟩ a w' ∧
      (rBuildSlice s T len parts).val.R (okS w0 okA e ⟨s.n, s.ts, (rBuildSlice s T len parts).upd ++ s.hs⟩) w' (lv ⟨s.n, s.ts, (rBuildSlice s T len parts).upd ++ s.hs⟩) e v := by
  unfold rBuildSlice at hc ⊢
  split at hc
  · rename_i t hT
    obtain ⟨E, i, z, hu, hi, hsz, _, _, hz⟩ := sTy_spec hT
    refine ⟨.slice (some ⟨w.heap.size, 0, none⟩) 0 0, w.alloc (.cells #[] E), ?_, h.grow ((Below.refl _ _).alloc (Nat.le_refl _) _), ⟨_, rfl, fun ad had => by cases had; rfl⟩⟩
    unfold Instr.buildSlice
    have hr0 : ∀ f : Nat → Value, (Array.range 0).map f = #[] := fun f => by
      apply Array.ext'
      simp
    simp only [Sem.run_bind, run_underlying hu, run_sizeOf' hi, Result.andThen_ok, Nat.zero_mul, hr0, List.map_nil, Instr.fill, newRow]
    simp
  · rename_i t p hT
    split at hc
    · rename_i hp0
      have hev := ev_R h p.2
      simp only [hp0, if_true]
      unfold rBuild1 at hc ⊢
      split at hc
      · rename_i x hx
        rw [hx] at hev
        split at hc
        · rename_i hlen
          split at hc
          · rename_i d hd
            obtain ⟨E, i, z, hu, hi, hsz, hb, _, hz⟩ := sTy_spec hT
            obtain ⟨hs3, hs1⟩ := sTy_small hT
            have hK := h.kills x.owns
            rw [lenC_eq] at hlen
            have hnu : ∀ c, x = .one c → c ≠ .undef := by
              intro c hc' q
              subst hc' q
              simp only [coeP, coeC, PV.cs] at hd
              rw [asD_undef] at hd
              cases hd
            have hcells : ∃ ys : List Value, (a.eval p.2).cells = ys.toArray ∧ F2 (okS w0 okA e ⟨s.n, s.ts, kills x.owns ++ s.hs⟩) w (lv ⟨s.n, s.ts, kills x.owns ++ s.hs⟩) e (coeP s (elemT T) x).cs ys := by
              cases x with
              | one c =>
                have h1 := one_of_R (hnu c rfl) hev
                exact ⟨[a.eval p.2], cells_one h1, coe_R h hev (fun i hi => hi) h1, h1, trivial⟩
              | agg cs =>
                obtain ⟨ys, hy, hF⟩ := hev
                have hl2 := asD_zip_len t _ d [] hd
                rw [coeP_cs, zipC_len] at hl2
                simp only [PV.cs] at hlen
                simp at hl2
                refine ⟨ys, by rw [hy]; rfl, ?_⟩
                rw [coeP_cs]
                refine zipC_F2 h hF (fun i hi => hi) ?_
                -- the type's own fields are as many as the cells
                have : (fieldTs (elemT T)).length = cs.length ∨ cs.length < (fieldTs (elemT T)).length ∨ (fieldTs (elemT T)).length < cs.length := by omega
                rcases this with q | q | q
                · exact q
                · exfalso
                  have key : (fieldTs (elemT T)).length ≤ t.size := by
                    unfold sTy at hT
                    split at hT <;> first
                      | (cases hT; done)
                      | (cases hT; decide)
                  omega
                · omega
              | arr xs => simp [PV.cs] at hlen; omega
            obtain ⟨ys, hy, hF⟩ := hcells
            obtain ⟨ds, rs, hds, hRd, hrs⟩ := asD_R t _ ys d [] hF hd hc
            have hrs' : rs = [] := by cases rs with
              | nil => rfl
              | cons _ _ => exact hrs.elim
            subst hrs'
            rw [List.append_nil] at hds
            subst hds
            have hdl := Rd.len _ _ _ hRd
            have hrun : (Instr.buildSlice T 1 ([p].map fun x => (x.1, a.eval x.2)).toArray).run PP w = .ok (.slice (some ⟨w.heap.size, 0, none⟩) 1 1) (w.alloc (.cells ys.toArray E)) := by
              unfold Instr.buildSlice
              have h24 : ¬ (1 * i.size > 2 ^ 24) := by omega
              have hz0 : ¬ (1 * i.size = 0) := by omega
              have hzv : (zeroValue E).run PP w = .ok z w := by simp [zeroValue, typeInfo, hi, hz]
              simp only [Sem.run_bind, run_underlying hu, run_sizeOf' hi, Result.andThen_ok, h24, if_false, hz0, hzv, Sem.run_pure]
              have hfill := fill_whole (size := i.size) ys (by rw [hdl, hsz]) (a.eval p.2) hy ((Array.range (1 * i.size)).map fun k => (z.cells[k % z.cells.size]!)).toList (by simp) (by omega)
              rw [Array.toArray_toList] at hfill
              simp only [List.map_cons, List.map_nil, hp0]
              rw [hfill]
              simp [newRow]
            have hlive : RelE w0 okA e ⟨s.n, s.ts, kills x.owns ++ s.hs⟩ a (w.alloc (.cells ys.toArray E)) := hK.grow ((Below.refl _ _).alloc (Nat.le_refl _) _)
            refine ⟨_, _, hrun, ?_, ?_⟩
            · simp only [lenC_eq, hlen, if_true]
              exact hlive
            · simp only [lenC_eq, hlen, if_true]
              refine ⟨some ⟨w.heap.size, 0, none⟩, 1, rfl, Nat.le_refl _, by omega, ?_, (fun q => by cases q), fun ad had hz => ?_⟩
              · simp only [List.length_singleton, Nat.one_mul]
                have : t.bytes ≤ i.bytes := hb
                omega
              · cases had
                refine ⟨w.heap.size, 0, rfl, fun k hk => ?_⟩
                have hk0 : k = 0 := by simpa using hk
                subst hk0
                refine ⟨okS_new hK, by simp, ys, fun j u hj => ?_, ?_⟩
                · simp only [Nat.zero_mul, Nat.zero_add, World.cell?_alloc_new]
                  simpa using hj
                · refine Rd.mono (by simp) (fun b hb hb' => ⟨hb, ?_⟩) _ _ _ hRd
                  exact Below.heap_alloc w _ b hb'
          · exact hc.elim
        · exact hc.elim
      · exact hc.elim
    · exact hc.elim
  · exact hc.elim

end B
end Go.Proofs.Ytbmnhagbplkagaa

/- The operations, ninth part: cuts, rows made, lengths. -/
namespace Go.Proofs.Ytbmnhagbplkagaa
namespace B
open Go.RowKit

variable {w0 : World} {okA : Nat → Prop} {e : Env} {s : St} {a : Act} {w : World}

theorem int?_R {ok : Nat → Prop} {l : Nat → Prop} {av : AV} {y : Value} {n : Int} (h : av.int? = some n) (hy : av.R ok w l e y) : ∃ k, y = .int k n := by
  unfold AV.int? at h
  split at h
  · cases h
    exact ⟨_, hy.1⟩
  · cases h

theorem oInt_R (h : RelE w0 okA e s a w) {x : Option Operand} {o : Option Int} (hx : oInt s x = some o) : (o = none ∧ x = none) ∨ ∃ n k op, o = some n ∧ x = some op ∧ a.eval op = .int k n := by
  unfold oInt at hx
  split at hx
  · cases hx; exact .inl ⟨rfl, rfl⟩
  · rename_i op
    split at hx
    · rename_i n hn
      cases hx
      obtain ⟨k, hk⟩ := int?_R hn (ev_R h op)
      exact .inr ⟨n, k, op, rfl, rfl, hk⟩
    · cases hx

def cutMx (cap : Nat) : Option Int → Nat
  | some m => m.toNat
  | none => cap

theorem run_sliceBound {k : IntKind} {n : Int} {y : Nat} {c : BoundsCode} (h0 : 0 ≤ n) (h1 : n ≤ y) : (Instr.sliceBound (.int k n) y c).run PP w = .ok n.toNat w := by
  simp [Instr.sliceBound, asIntOf, h0, h1]

/-- The bounds of a cut. -/
theorem run_cut (h : RelE w0 okA e s a w) {lo hi mx : Option Operand} {l hh m : Option Int} (hl : oInt s lo = some l) (hhi : oInt s hi = some hh) (hm : oInt s mx = some m) {b : Bool} {len cap : Nat} (hlc : len ≤ cap) (hc : cutOk len l hh m) :
    (Instr.sliceBounds b len cap (lo.map a.eval) (hi.map a.eval) (mx.map a.eval)).run PP w = .ok (cutLo l, cutHi len hh, cutMx cap m) w ∧ cutLo l ≤ cutHi len hh ∧ cutHi len hh ≤ len ∧ cutHi len hh ≤ cutMx cap m ∧ cutMx cap m ≤ cap := by
  rcases oInt_R h hl with ⟨rfl, rfl⟩ | ⟨nl, kl, ol, rfl, rfl, el⟩ <;> rcases oInt_R h hhi with ⟨rfl, rfl⟩ | ⟨nh, kh, oh, rfl, rfl, eh⟩ <;> rcases oInt_R h hm with ⟨rfl, rfl⟩ | ⟨nm, km, om, rfl, rfl, em⟩
  all_goals simp only [cutOk] at hc
  · exact ⟨by simp [Instr.sliceBounds, cutLo, cutHi, cutMx], by simp [cutLo, cutHi], by simp [cutHi], by simp [cutHi, cutMx, hlc], by simp [cutMx]⟩
  · have b1 := run_sliceBound (w := w) (k := kh) (c := if b then .sliceAcap else .sliceAlen) (y := cap) hc.1 (by omega)
    refine ⟨?_, by simp [cutLo], by simp [cutHi]; omega, by simp [cutHi, cutMx]; omega, by simp [cutMx]⟩
    simp [Instr.sliceBounds, cutLo, cutHi, cutMx, eh, b1]
  · have b1 := run_sliceBound (w := w) (k := km) (c := if b then .slice3Acap else .slice3Alen) (y := cap) (n := nm) (by omega) (by omega)
    have b2 := run_sliceBound (w := w) (k := kh) (c := .slice3B) (y := nm.toNat) (n := nh) (by omega) (by omega)
    refine ⟨?_, by simp [cutLo], by simp [cutHi]; omega, by simp [cutHi, cutMx]; omega, by simp [cutMx]; omega⟩
    simp [Instr.sliceBounds, cutLo, cutHi, cutMx, eh, em, b1, b2]
  · have b1 := run_sliceBound (w := w) (k := kl) (c := .sliceB) (y := len) (n := nl) (by omega) (by omega)
    refine ⟨?_, by simp [cutLo, cutHi]; omega, by simp [cutHi], by simp [cutHi, cutMx, hlc], by simp [cutMx]⟩
    simp [Instr.sliceBounds, cutLo, cutHi, cutMx, el, b1]
  · have b1 := run_sliceBound (w := w) (k := kh) (c := if b then .sliceAcap else .sliceAlen) (y := cap) (n := nh) (by omega) (by omega)
    have b2 := run_sliceBound (w := w) (k := kl) (c := .sliceB) (y := nh.toNat) (n := nl) (by omega) (by omega)
    refine ⟨?_, by simp [cutLo, cutHi]; omega, by simp [cutHi]; omega, by simp [cutHi, cutMx]; omega, by simp [cutMx]⟩
    simp [Instr.sliceBounds, cutLo, cutHi, cutMx, eh, el, b1, b2]

theorem cutL_eq {α : Type} (xs : List α) {n : Nat} (hn : xs.length = n) (l h : Option Int) : cutL xs l h = (xs.take (cutHi n h)).drop (cutLo l) := by
  cases l <;> cases h <;> simp [cutL, cutLo, cutHi, ← hn]

theorem Rd_cut {ok : Nat → Prop} {t : Ty} {xs : List t.T} {A : Option Addr} {cap l h m : Nat} (hR : Rd ok w (.slice t) xs [.slice A xs.length cap]) (h1 : l ≤ h) (h2 : h ≤ xs.length) (h3 : h ≤ m) (h4 : m ≤ cap) :
    Rd ok w (.slice t) ((xs.take h).drop l) [.slice (if m = l then A else A.map (·.add (l * t.size))) (h - l) (m - l)] := by
  obtain ⟨A', cap', e1, k2, k3, k4, k5, k6⟩ := hR
  simp only [List.cons.injEq, Value.slice.injEq, and_true] at e1
  obtain ⟨rfl, _, rfl⟩ := e1
  have hlen : ((xs.take h).drop l).length = h - l := by simp; omega
  have hbytes : (h - l) * t.bytes ≤ 140737488355328 := Nat.le_trans (Nat.mul_le_mul_right _ (by omega)) k4
  refine ⟨_, m - l, by rw [hlen], by omega, by omega, by rw [hlen]; exact hbytes, fun q => ?_, fun ad had hz => ?_⟩
  · split at q
    · omega
    · cases A with
      | none => have := k5 rfl; omega
      | some ad => cases q
  · split at had
    · rw [hlen] at hz
      omega
    · cases A with
      | none => cases had
      | some a0 =>
        rw [hlen] at hz
        obtain ⟨b, o, rfl, k⟩ := k6 a0 rfl (by omega)
        simp only [Option.map_some, Option.some.injEq, Addr.add_lit] at had
        subst had
        refine ⟨b, o + l * t.size, rfl, fun i hi => ?_⟩
        have hi' : l + i < xs.length := by omega
        obtain ⟨m1, m2, ds, m3, m4⟩ := k (l + i) hi'
        refine ⟨m1, m2, ds, ?_, ?_⟩
        · rw [Nat.add_assoc, ← Nat.add_mul]; exact m3
        · have : ((xs.take h).drop l)[i]'hi = xs[l + i]'hi' := by simp
          rw [this]; exact m4

theorem run_slice {T E : Nat} {A : Option Addr} {len cap l h m : Nat} {lo hi mx : Option Value} {i : TypeInfo} (hu : PP.underlying T = some (.slice E)) (hi' : PP.info? E = some i)
    (hb : (Instr.sliceBounds true len cap lo hi mx).run PP w = .ok (l, h, m) w) :
    (Instr.sliceAt T (.slice A len cap) lo hi mx).run PP w = .ok (.slice (if m = l then A else A.map (·.add (l * i.size))) (h - l) (m - l)) w := by
  simp [Instr.sliceAt, Instr.slice, run_underlying hu, hb, run_sizeOf' hi']

theorem run_sliceArr {T n : Nat} {b o l h m : Nat} {lo hi mx : Option Value} (hT : tk T = .arr n)
    (hb : (Instr.sliceBounds false n n lo hi mx).run PP w = .ok (l, h, m) w) :
    (Instr.sliceAt T (.pointer (some ⟨b, o, none⟩)) lo hi mx).run PP w = .ok (.slice (some (if m = l then ⟨b, o, none⟩ else ⟨b, o + l, none⟩)) (h - l) (m - l)) w := by
  obtain ⟨i, hu, _, _⟩ := tk_arr hT
  obtain ⟨d, i5, _, _, h5, h5s⟩ := tk_prim (T := 5) rfl
  simp [Instr.sliceAt, run_underlying hu, Instr.sureAddr, hb, run_sizeOf' h5, h5s, Addr.add_lit]

theorem one_le_bytes : ∀ t : Ty, 1 ≤ t.bytes
  | .u8 | .int | .bool | .slice _ => by simp [Ty.bytes]
  | .pair a b => by have := one_le_bytes a; simp only [Ty.bytes]; omega
theorem arr_le {T n : Nat} (h : tk T = .arr n) : n ≤ 128 := by
  unfold tk at h
  split at h <;> cases h <;> omega

theorem rSliceH_own {T id : Nat} {t : Ty} {xs : List t.T} {lo hi mx : Option Operand} {l hh : Option Int} {y : Value} (h : RelE w0 okA e s a w) (hcs : s.h id = .own t xs) (hsz : t.size = 1) (hy : (CV.own id).R (okS w0 okA e s) w (lv s) e y)
    (hT : ∃ E i, PP.underlying T = some (.slice E) ∧ PP.info? E = some i ∧ i.size = t.size) (hlo : oInt s lo = some l) (hhi : oInt s hi = some hh) (hmx : oInt s mx = some none) (hc : cutOk xs.length l hh none) (hlt : cutLo l < xs.length) :
    ∃ v, (Instr.sliceAt T y (lo.map a.eval) (hi.map a.eval) (mx.map a.eval)).run PP w = .ok v w ∧ (CV.osub id (cutLo l) (cutHi xs.length hh - cutLo l)).R (okS w0 okA e s) w (lv s) e v := by
  have hl := live_of hcs trivial
  have hy' := hy.2 hl
  subst hy'
  have hB := h.heap id
  rw [hcs] at hB
  obtain ⟨E, i, hu, hi', hisz⟩ := hT
  rcases hB with ⟨rfl, _, _⟩ | ⟨g, cap, E', cur, k1, k2, k3, k4, k5, k6, k7, k8⟩
  · simp at hlt
  · obtain ⟨b1, b2, b3, b4, b5⟩ := run_cut h (b := true) hlo hhi hmx k4 hc
    rw [k2]
    have hby : 1 ≤ t.bytes := one_le_bytes t
    have hby2 : List.length (α := t.T) xs * 1 ≤ List.length (α := t.T) xs * t.bytes := Nat.mul_le_mul_left _ hby
    have hmx' : cutMx cap none ≤ cap := by simp [cutMx]
    refine ⟨_, run_slice hu hi' b1, rfl, fun _ => ⟨g, cutMx cap none - cutLo l, k1, ⟨by omega, by omega, by omega⟩, ?_⟩⟩
    have : ¬ (cutMx cap none = cutLo l) := by simp only [cutMx]; omega
    rw [if_neg this, hisz, hsz]
    simp [Addr.add_lit]

theorem rSliceH_arr {T id n : Nat} {xs : List UInt8} {lo hi mx : Option Operand} {l hh : Option Int} {y : Value} (h : RelE w0 okA e s a w) (hcs : s.h id = .arr xs) (hn : xs.length = n) (hy : (CV.ptr id 0).R (okS w0 okA e s) w (lv s) e y)
    (hT : tk T = .arr n) (hlo : oInt s lo = some l) (hhi : oInt s hi = some hh) (hmx : oInt s mx = some none) (hc : cutOk xs.length l hh none) (hlt : cutLo l < xs.length) :
    ∃ v, (Instr.sliceAt T y (lo.map a.eval) (hi.map a.eval) (mx.map a.eval)).run PP w = .ok v w ∧ (CV.osub id (cutLo l) (cutHi xs.length hh - cutLo l)).R (okS w0 okA e s) w (lv s) e v := by
  have hl := live_of hcs trivial
  obtain ⟨g, k1, rfl⟩ := hy.2 hl
  subst hn
  obtain ⟨b1, b2, b3, b4, b5⟩ := run_cut h (b := false) hlo hhi hmx (Nat.le_refl _) hc
  have h128 := arr_le hT
  have hmx' : cutMx xs.length none ≤ xs.length := by simp [cutMx]
  refine ⟨_, run_sliceArr hT b1, rfl, fun _ => ⟨g, cutMx xs.length none - cutLo l, k1, ⟨by omega, by omega, by omega⟩, ?_⟩⟩
  have : ¬ (cutMx xs.length none = cutLo l) := by simp only [cutMx]; omega
  rw [if_neg this]
  simp

theorem rSlice_ok (h : RelE w0 okA e s a w) {T : Nat} {av : AV} {lo hi mx : Option Operand} {y : Value} (hy : av.R (okS w0 okA e s) w (lv s) e y) (hc : (rSlice s T av (oInt s lo) (oInt s hi) (oInt s mx)).cond) :
    (rSlice s T av (oInt s lo) (oInt s hi) (oInt s mx)).upd = [] ∧ ∃ v, (Instr.sliceAt T y (lo.map a.eval) (hi.map a.eval) (mx.map a.eval)).run PP w = .ok v w ∧ (rSlice s T av (oInt s lo) (oInt s hi) (oInt s mx)).val.R (okS w0 okA e s) w (lv s) e v := by
  generalize hlo : oInt s lo = lo' at hc ⊢
  generalize hhi : oInt s hi = hi' at hc ⊢
  generalize hmx : oInt s mx = mx' at hc ⊢
  unfold rSlice at hc ⊢
  split at hc
  · rename_i t xs l h'
    obtain ⟨hT, hcut⟩ := hc
    obtain ⟨E, i, z, hu, hi, hsz, _, _, _⟩ := sTy_spec hT
    have hy0 : Rd (okS w0 okA e s) w (.slice t) xs [y] := hy
    obtain ⟨A, cap, k1, k2, k3⟩ := hy0
    have k1' : y = .slice A xs.length cap := (List.cons.inj k1).1
    subst k1'
    obtain ⟨b1, b2, b3, b4, b5⟩ := run_cut h (b := true) hlo hhi hmx k2 hcut
    refine ⟨rfl, _, run_slice hu hi b1, ?_⟩
    show Rd _ w (.slice t) (cutL xs l h') [_]
    rw [cutL_eq xs rfl, hsz]
    exact Rd_cut hy b2 b3 b4 b5
  · rename_i t xs l h' m
    obtain ⟨hT, hcut, rfl⟩ := hc
    obtain ⟨E, i, z, hu, hi, hsz, _, _, _⟩ := sTy_spec hT
    have hy0 : Rd (okS w0 okA e s) w (.slice t) xs [y] := hy
    obtain ⟨A, cap, k1, k2, k3⟩ := hy0
    have k1' : y = .slice A xs.length cap := (List.cons.inj k1).1
    subst k1'
    obtain ⟨b1, b2, b3, b4, b5⟩ := run_cut h (b := true) hlo hhi hmx k2 hcut
    have hlen : List.length (α := t.T) (cutL xs l (some h')) = cutHi xs.length (some h') - cutLo l := by
      rw [cutL_eq xs rfl]; simp; omega
    refine ⟨rfl, _, run_slice hu hi b1, ?_, ?_⟩
    · rw [cutL_eq xs rfl, hsz]
      exact Rd_cut hy b2 b3 b4 b5
    · rw [hlen]
      exact ⟨_, rfl⟩
  · rename_i id l h'
    cases hcs : s.h id with
    | own t xs =>
      rw [hcs] at hc
      obtain ⟨hT, hsz, hcut, hlt⟩ := hc
      obtain ⟨E, i, z, hu, hi, hisz, _, _, _⟩ := sTy_spec hT
      exact ⟨rfl, rSliceH_own h hcs hsz hy ⟨E, i, hu, hi, hisz⟩ hlo hhi hmx hcut hlt⟩
    | none => rw [hcs] at hc; exact hc.elim
    | box cs => rw [hcs] at hc; exact hc.elim
    | obj g o => rw [hcs] at hc; exact hc.elim
    | arr xs => rw [hcs] at hc; exact hc.elim
  · rename_i id l h'
    cases hcs : s.h id with
    | arr xs =>
      rw [hcs] at hc
      obtain ⟨hT, hcut, hlt⟩ := hc
      exact ⟨rfl, rSliceH_arr h hcs rfl hy hT hlo hhi hmx hcut hlt⟩
    | none => rw [hcs] at hc; exact hc.elim
    | box cs => rw [hcs] at hc; exact hc.elim
    | obj g o => rw [hcs] at hc; exact hc.elim
    | own t xs => rw [hcs] at hc; exact hc.elim
  · exact hc.elim

/-! ### rows made -/
theorem made_get (z : Value) (n i : Nat) (h : i < n) : (madeCells #[z] n)[i]? = some z := by
  simp [madeCells, h, Nat.mod_one]

theorem newRow_ok (h : RelE w0 okA e s a w) {d E n bytes : Nat} {t : Ty} {z : Value} (hn : s.noM d = true) (hsz : t.size = 1) (hz : ∀ ok w, Rd ok w t t.dflt [z]) (hb : t.bytes = bytes) (hbytes : n * bytes ≤ 140737488355328) (hb0 : 1 ≤ bytes) :
    RelE w0 okA (e.set d (.slice (some ⟨w.heap.size, 0, none⟩) n n) (some w.heap.size)) ⟨s.n, s.ts, (d, .own t (List.replicate n t.dflt)) :: s.hs⟩ a (w.alloc (.cells (madeCells #[z] n) E)) := by
  refine h.new hn ((Below.refl _ _).alloc (Nat.le_refl _) _) (fun g hg => by cases hg; simp) (Or.inr ⟨w.heap.size, n, E, madeCells #[z] n, Env.set_β _ _ _ _, by rw [Env.set_ν]; simp, heap_alloc_new w _, by simp, ?_, by simp [size_madeCells, hsz], by simpa [hb] using hbytes, fun i hi => ⟨[z], fun j u hj => ?_, ?_⟩⟩)
  · have : n ≤ n * bytes := Nat.le_mul_of_pos_right _ hb0
    omega
  · cases j with
    | zero =>
      simp only [List.getElem?_cons_zero, Option.some.injEq] at hj
      subst hj
      rw [hsz, Nat.mul_one, Nat.add_zero]
      exact made_get z n i (by simpa using hi)
    | succ j => simp at hj
  · have : (List.replicate n t.dflt)[i]'hi = t.dflt := by simp
    rw [this]
    exact hz _ _

theorem rMakeSlice_ok (h : RelE w0 okA e s a w) {d T : Nat} {lv' cv' : AV} {y z : Value} (hy : lv'.R (okS w0 okA e s) w (lv s) e y) (hz : cv'.R (okS w0 okA e s) w (lv s) e z) (hc : (rMakeSlice d T lv' cv').cond) (hn : s.news (rMakeSlice d T lv' cv').new = true) :
    ∃ v w' e', (Instr.makeSlice T y z).run PP w = .ok v w' ∧ RelE w0 okA e' ⟨s.n, s.ts, (rMakeSlice d T lv' cv').upd ++ s.hs⟩ a w' ∧
      (rMakeSlice d T lv' cv').val.R (okS w0 okA e' ⟨s.n, s.ts, (rMakeSlice d T lv' cv').upd ++ s.hs⟩) w' (lv ⟨s.n, s.ts, (rMakeSlice d T lv' cv').upd ++ s.hs⟩) e' v := by
  unfold rMakeSlice at hc hn ⊢
  split at hc
  · rename_i n m
    have hy' : y = _ := hy.1
    have hz' : z = _ := hz.1
    subst hy' hz'
    split at hc
    · obtain ⟨rfl, h0, h1⟩ := hc
      obtain ⟨k, rfl⟩ := Int.eq_ofNat_of_zero_le h0
      have hnm : s.noM d = true := by simpa [St.news] using hn
      have hrun := run_make_row' (P := PP) 35 5 (.int .u8 0) 1 Try.underlying35 (by kernel_rfl) rfl .i64 .i64 k (by omega) (by omega) w
      have := newRow_ok (E := 5) (t := .u8) (z := .int .u8 0) (n := k) (bytes := 1) h hnm rfl (fun _ _ => rfl) rfl (by omega) (by omega)
      exact ⟨_, _, _, hrun, this, rfl, fun _ => (Env.set_ν _ _ _ _).symm⟩
    · obtain ⟨rfl, h0, h1⟩ := hc
      obtain ⟨k, rfl⟩ := Int.eq_ofNat_of_zero_le h0
      have hnm : s.noM d = true := by simpa [St.news] using hn
      have hrun := run_make_row' (P := PP) 22 35 (.slice none 0 0) 24 Try.underlying22 (by kernel_rfl) rfl .i64 .i64 k (by omega) (by omega) w
      have := newRow_ok (E := 35) (t := tB) (z := .slice none 0 0) (n := k) (bytes := 24) h hnm rfl (fun _ _ => ⟨none, 0, rfl, Nat.le_refl _, by omega, (show 0 * _ ≤ _ by omega), fun _ => rfl, fun ad had => by cases had⟩) rfl (by omega) (by omega)
      exact ⟨_, _, _, hrun, this, rfl, fun _ => (Env.set_ν _ _ _ _).symm⟩
    · exact hc.elim
  · exact hc.elim

/-! ### lengths -/
theorem run_len_any {ty : TypeId} {T : Nat} {E : TypeId} {A : Option Addr} {n cap : Nat} (hu : PP.underlying T = some (.slice E)) : (Builtin.len_ #[T] ty #[.slice A n cap]).run PP w = .ok (.int .i64 n) w := by
  simp [Builtin.len_, run_underlying hu, goInt]

theorem rLen_ok (h : RelE w0 okA e s a w) {T ty : Nat} {av : AV} {y : Value} (hT : ∃ t, sTy T = some t) (hy : av.R (okS w0 okA e s) w (lv s) e y) (hc : (rLen s av).cond) :
    (rLen s av).upd = [] ∧ ∃ v, (Builtin.len_ #[T] ty #[y]).run PP w = .ok v w ∧ (rLen s av).val.R (okS w0 okA e s) w (lv s) e v := by
  obtain ⟨t0, hT⟩ := hT
  obtain ⟨E, i, z, hu, _⟩ := sTy_spec hT
  unfold rLen at hc ⊢
  split at hc
  · obtain ⟨A, cap, k1, _⟩ := hy
    have := (List.cons.inj k1).1
    subst this
    exact ⟨rfl, _, run_len_any hu, rfl, rfl⟩
  · obtain ⟨A, k1⟩ := hy.2
    subst k1
    exact ⟨rfl, _, run_len_any hu, rfl, rfl⟩
  · obtain ⟨A, rfl, _⟩ := hy
    exact ⟨rfl, _, run_len_any hu, rfl, rfl⟩
  · rename_i id lo n
    obtain ⟨hlv, hq⟩ := liveR_spec hc
    rw [hq]
    obtain ⟨g, cap, _, _, k1⟩ := hy.2 hlv
    subst k1
    exact ⟨rfl, _, run_len_any hu, rfl, rfl⟩
  · rename_i id
    cases hcs : s.h id with
    | own t xs =>
      have hl := live_of hcs trivial
      have hy' := hy.2 hl
      have hB := h.heap id
      rw [hcs] at hB
      rcases hB with ⟨rfl, _, A, k1, _⟩ | ⟨g, cap, E', cur, _, k2, _⟩
      · rw [k1] at hy'; subst hy'
        exact ⟨rfl, _, run_len_any hu, rfl, rfl⟩
      · rw [k2] at hy'; subst hy'
        exact ⟨rfl, _, run_len_any hu, rfl, rfl⟩
    | none => rw [hcs] at hc; exact hc.elim
    | box cs => rw [hcs] at hc; exact hc.elim
    | obj g o => rw [hcs] at hc; exact hc.elim
    | arr xs => rw [hcs] at hc; exact hc.elim
  · exact hc.elim

end B
end Go.Proofs.Ytbmnhagbplkagaa
