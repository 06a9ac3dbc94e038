/- A part of a reader of loaded code that is proved sound; no condition. -/
import Derived.Laws.AppendOwn
import Derived.ProofKit
import Derived.WalkKit
import Derived.Laws.StructEq
import Derived.WalkSpells
import Derived.WalkLawsBesides
import Derived.ChangeKeysEq
import Derived.Laws.BytesString
import Derived.Lib.ConvBytes
import Derived.Below
namespace Go.Proofs.YtmkgmlgklggnlaaGm

/-! A symbolic reading of loaded code: values without memory, a small heap of the call's own objects, and a reader of code in continuation form that the kernel can run. -/

/-- What a row of elements holds. -/
inductive Pay (α : Type) where
  | bytes (l : List UInt8)
  | ints (k : IntKind) (l : List Int)
  | rows (sz : Nat) (l : List (List α))

/-- Values as the reading has them. -/
inductive AV where
  | top
  | bool (b : Bool)
  | int (k : IntKind) (n : Int)
  | str (s : List UInt8)
  | agg (l : List AV)
  | arr (l : List AV)
  | tup (l : List AV)
  | nilp
  | ptr (o off : Nat)
  | aptr (o i off : Nat)
  | eptr (p : Pay AV) (i off : Nat)
  | nil
  | ro (p : Pay AV)
  | rn (p : Pay AV)
  | own (o : Nat)
  | sub (o off len : Nat)
  | fn (f : Nat) (caps : List AV)
  | nilf
  | mapo (o : Nat)
  | vsl (o n : Nat)
  | nilm
  | iface (t : Nat) (v : AV)
  | nili
  | len (n : Nat)
  /-- A whole number; and the words that lie in a package variable (block g). -/
  | tin (g : Nat) (l : List Int) (n : Int)

/-- An object of the call's own. -/
inductive AObj where
  | dead
  | var (T : Nat) (cells : List AV)
  | vara (T : Nat) (k : IntKind) (l : List Int)
  | arr (E : Nat) (p : Pay AV)

structure St where
  fr : List AV
  hp : List AObj

/-- What a type is, as far as the reading asks. -/
inductive AT where
  | bool | int (k : IntKind) | str | ptr (e : Nat) | slice (e : Nat) | array (n e : Nat) | struct (fs : List (Nat × Nat)) | map (k e : Nat) | func | iface | other

structure TyE where
  d : AT
  size : Nat
  bytes : Nat
  zv : Value
  leaf : List Nat

abbrev Tab := List (Nat × TyE)

def tget : Tab → Nat → Option TyE
  | [], _ => none
  | (a, e) :: r, t => bif Nat.beq a t then some e else tget r t

def nth : List AV → Nat → AV
  | [], _ => .top
  | a :: _, 0 => a
  | _ :: r, n + 1 => nth r n

def setN : List AV → Nat → AV → List AV
  | [], _, _ => []
  | _ :: r, 0, v => v :: r
  | a :: r, n + 1, v => a :: setN r n v

def hget : List AObj → Nat → AObj
  | [], _ => .dead
  | a :: _, 0 => a
  | _ :: r, n + 1 => hget r n

def hset : List AObj → Nat → AObj → List AObj
  | [], _, _ => []
  | _ :: r, 0, v => v :: r
  | a :: r, n + 1, v => a :: hset r n v

def ikEq : IntKind → IntKind → Bool
  | .i8, .i8 | .i16, .i16 | .i32, .i32 | .i64, .i64 | .u8, .u8 | .u16, .u16 | .u32, .u32 | .u64, .u64 => true
  | _, _ => false

def hasB (k : IntKind) (n : Int) : Bool := decide (k.min ≤ n) && decide (n ≤ k.max)

/-- A constant of the code. -/
def aleaf : Value → AV
  | .bool b => .bool b
  | .int k n => bif hasB k n then .int k n else .top
  | .string s => bif Nat.ble s.size maxLen then .str s.data.toList else .top
  | .pointer none => .nilp
  | .slice none 0 0 => .nil
  | .map none => .nilm
  | .nilFunc => .nilf
  | .nilIface => .nili
  | _ => .top

def oneB : Value → Bool
  | .agg _ => false
  | .tuple _ => false
  | _ => true

def aconst : Value → AV
  | .agg cs => bif cs.toList.all oneB then .agg (cs.toList.map aleaf) else .top
  | .tuple vs => match vs.toList with | [] => .tup [] | _ => .top
  | v => aleaf v

def TyE.zero (e : TyE) : AV := aconst e.zv

def aval (fr : List AV) : Operand → AV
  | .tmp t => nth fr t
  | .const v => aconst v
  | .global _ => .top
  | .func f => .fn f []

def ltI (a b : Int) : Bool := decide (a < b)
def leI (a b : Int) : Bool := decide (a ≤ b)
def eqI (a b : Int) : Bool := decide (a = b)

def iand (k : IntKind) (a b : Int) : Int := k.wrap (BitVec.ofInt k.bits a &&& BitVec.ofInt k.bits b).toNat
def ior (k : IntKind) (a b : Int) : Int := k.wrap (BitVec.ofInt k.bits a ||| BitVec.ofInt k.bits b).toNat
def ixor (k : IntKind) (a b : Int) : Int := k.wrap (BitVec.ofInt k.bits a ^^^ BitVec.ofInt k.bits b).toNat
def iandn (k : IntKind) (a b : Int) : Int := k.wrap (BitVec.ofInt k.bits a &&& ~~~ BitVec.ofInt k.bits b).toNat
def ishl (k : IntKind) (a b : Int) : Int := k.wrap (a * 2 ^ min b.toNat k.bits)
def ishr (k : IntKind) (a b : Int) : Int := a.fdiv (2 ^ min b.toNat k.bits)
def iquo (k : IntKind) (a b : Int) : Int := k.wrap (a.tdiv b)
def irem (a b : Int) : Int := a.tmod b
def iones (k : IntKind) : Int := if k.signed then -1 else k.max

def eqS (a b : List UInt8) : Bool := a == b
def ltS (a b : List UInt8) : Bool := Op.bytesLess a b

section pay
variable (p q : Pay AV)
def Pay.len : Pay AV → Nat
  | .bytes l => l.length
  | .ints _ l => l.length
  | .rows _ l => l.length
def Pay.sz : Pay AV → Nat
  | .bytes _ => 1
  | .ints _ _ => 1
  | .rows n _ => n
/-- From 'a' on, 'n' elements. -/
def Pay.cut (a n : Nat) : Pay AV → Pay AV
  | .bytes l => .bytes ((l.drop a).take n)
  | .ints k l => .ints k ((l.drop a).take n)
  | .rows s l => .rows s ((l.drop a).take n)
def Pay.from (a : Nat) : Pay AV → Pay AV
  | .bytes l => .bytes (l.drop a)
  | .ints k l => .ints k (l.drop a)
  | .rows s l => .rows s (l.drop a)
def Pay.leaf (i off : Nat) : Pay AV → AV
  | .bytes l => .int .u8 (l.getD i 0).toNat
  | .ints k l => .int k (l.getD i 0)
  | .rows _ l => nth (l.getD i []) off
def Pay.leaves (i : Nat) : Pay AV → List AV
  | .bytes l => [.int .u8 (l.getD i 0).toNat]
  | .ints k l => [.int k (l.getD i 0)]
  | .rows _ l => l.getD i []
/-- All cells, one behind the other. -/
def Pay.cells : Pay AV → List AV
  | .bytes l => l.map fun b => .int .u8 b.toNat
  | .ints k l => l.map (.int k)
  | .rows _ l => l.flatten
def Pay.app : Pay AV → Pay AV → Option (Pay AV)
  | .bytes l, .bytes m => some (.bytes (l ++ m))
  | .ints k l, .ints k' m => bif ikEq k k' then some (.ints k (l ++ m)) else none
  | .rows s l, .rows s' m => bif Nat.beq s s' then some (.rows s (l ++ m)) else none
  | _, _ => none
end pay

def emptyPay (tt : Tab) (E : Nat) : Pay AV :=
  match tget tt E with
  | some ⟨.int .u8, _, _, _, _⟩ => .bytes []
  | some ⟨.int k, _, _, _, _⟩ => .ints k []
  | some e => .rows e.size []
  | none => .rows 0 []

def leavesOf : AV → List AV
  | .agg l => l
  | .arr l => l
  | v => [v]

def isInt (k : IntKind) : AV → Bool
  | .int k' _ => ikEq k k'
  | _ => false
def intOf : AV → Int
  | .int _ n => n
  | _ => 0
def isBool : AV → Bool
  | .bool _ => true
  | _ => false
def boolOf : AV → Bool
  | .bool b => b
  | _ => false
def isStr : AV → Bool
  | .str _ => true
  | _ => false
def strOf : AV → List UInt8
  | .str s => s
  | _ => []
def kindOfPay : Pay AV → Pay AV → Bool
  | .bytes _, .bytes _ => true
  | .ints k _, .ints k' _ => ikEq k k'
  | .rows s _, .rows s' _ => Nat.beq s s'
  | _, _ => false
def isRo (e : Pay AV) : AV → Bool
  | .ro p => kindOfPay e p
  | _ => false
def bytesOf : AV → List UInt8
  | .ro (.bytes l) => l
  | _ => []
def intsOf : AV → List Int
  | .ro (.ints _ l) => l
  | _ => []
def rowsOf : AV → List (List AV)
  | .ro (.rows _ l) => l
  | _ => []
def roOf (e : Pay AV) (v : AV) : Pay AV :=
  match e with
  | .bytes _ => .bytes (bytesOf v)
  | .ints k _ => .ints k (intsOf v)
  | .rows s _ => .rows s (rowsOf v)

section cps
variable {R : Type} (stk : R)

/-- A value out of a row, in the form that its type has. -/
def eta1 (tt : Tab) (t : Nat) (v : AV) (k : AV → R) : R :=
  match tget tt t with
  | some e => match e.d with
    | .bool => bif isBool v then k (.bool (boolOf v)) else stk
    | .int kk => bif isInt kk v then k (.int kk (intOf v)) else stk
    | .str => bif isStr v then k (.str (strOf v)) else stk
    | .slice el => bif isRo (emptyPay tt el) v then k (.ro (roOf (emptyPay tt el) v)) else stk
    | _ => k v
  | none => stk

/-- A struct's leaves, each in its form. -/
def etaL (tt : Tab) (ls : List AV) : List Nat → Nat → (List AV → R) → R
  | [], _, k => k []
  | t :: ts, i, k => eta1 stk tt t (nth ls i) fun v => etaL tt ls ts (i + 1) fun vs => k (v :: vs)

end cps
end Go.Proofs.YtmkgmlgklggnlaaGm

namespace Go.Proofs.YtmkgmlgklggnlaaGm

/-- A value with 'f' at each of its references (three levels deep). -/
def mapv (f : AV → AV) : Nat → AV → AV
  | n + 1, .agg l => .agg (l.map (mapv f n))
  | n + 1, .tup l => .tup (l.map (mapv f n))
  | n + 1, .fn g l => .fn g (l.map (mapv f n))
  | n + 1, .iface t v => .iface t (mapv f n v)
  | 0, .agg _ => .top
  | 0, .tup _ => .top
  | 0, .fn _ _ => .top
  | 0, .iface _ _ => .top
  | _, .own o => f (.own o)
  | _, .sub o a n => f (.sub o a n)
  | _, .ptr o a => f (.ptr o a)
  | _, .aptr o i a => f (.aptr o i a)
  | _, .mapo o => f (.mapo o)
  | _, .vsl o m => f (.vsl o m)
  | _, v => v

def mapObj (f : AV → AV) : AObj → AObj
  | .var T cs => .var T (cs.map (mapv f 3))
  | o => o

def St.mapRefs (f : AV → AV) (s : St) : St := ⟨s.fr.map (mapv f 4), s.hp.map (mapObj f)⟩

def isOf (o : Nat) : AV → Bool
  | .own a => Nat.beq a o
  | .sub a _ _ => Nat.beq a o
  | .aptr a _ _ => Nat.beq a o
  | .ptr a _ => Nat.beq a o
  | .mapo a => Nat.beq a o
  | .vsl a _ => Nat.beq a o
  | _ => false

/-- No reference to object 'o' any more. -/
def lose (o : Nat) (v : AV) : AV := bif isOf o v then .top else v
/-- The same; of who held the whole row the length is still known. -/
def loseN (o n : Nat) (v : AV) : AV :=
  match v with
  | .own a => bif Nat.beq a o then .len n else .own a
  | v => lose o v

/-- Object 'o' holds 'p' for good. -/
def frozenAs (o : Nat) (p : Pay AV) : AV → AV
  | .own a => bif Nat.beq a o then .ro p else .own a
  | .sub a i n => bif Nat.beq a o then .ro (p.cut i n) else .sub a i n
  | .aptr a i off => bif Nat.beq a o then .eptr p i off else .aptr a i off
  | v => lose o v

def St.freeze (s : St) (o : Nat) : St :=
  match hget s.hp o with
  | .arr _ p => let s' := s.mapRefs (frozenAs o p); ⟨s'.fr, hset s'.hp o .dead⟩
  | _ => s

def St.freezeAll (s : St) : List Nat → St
  | [] => s
  | o :: r => (s.freeze o).freezeAll r

/-- That a slice is not nil: forgotten. -/
def deN : AV → AV
  | .rn p => .ro p
  | v => v

/-- What a slice value holds. -/
def payOf (tt : Tab) (E : Nat) (hp : List AObj) : AV → Option (Pay AV)
  | .nil => some (emptyPay tt E)
  | .ro p => some p
  | .rn p => some p
  | .own o => match hget hp o with
    | .arr _ p => some p
    | _ => none
  | .sub o a n => match hget hp o with
    | .arr _ p => some (p.cut a n)
    | _ => none
  | _ => none

def memN : List Nat → Nat → Bool
  | [], _ => false
  | a :: r, n => bif Nat.beq a n then true else memN r n

/-- As it is lent to what is called: a row of the call's own as what it holds; another object not at all. -/
def lendL (L : List Nat) (hp : List AObj) : AV → AV
  | .own o => bif memN L o then (match hget hp o with
    | .arr _ p => .ro p
    | _ => .top) else .top
  | .sub o a n => bif memN L o then (match hget hp o with
    | .arr _ p => .ro (p.cut a n)
    | _ => .top) else .top
  | .aptr _ _ _ => .top
  | .ptr _ _ => .top
  | .mapo _ => .top
  | .vsl _ _ => .top
  | v => v

def ownIn : Nat → AV → List Nat
  | _, .own o => [o]
  | _, .sub o _ _ => [o]
  | n + 1, .agg l => l.flatMap (ownIn n)
  | n + 1, .tup l => l.flatMap (ownIn n)
  | n + 1, .fn _ l => l.flatMap (ownIn n)
  | n + 1, .iface _ v => ownIn n v
  | _, _ => []

/-- May it lead to a row that is read? -/
def hasRo : Nat → AV → Bool
  | _, .ro _ => true
  | _, .rn _ => true
  | _, .eptr _ _ _ => true
  | _, .top => true
  | n + 1, .agg l => l.any (hasRo n)
  | n + 1, .tup l => l.any (hasRo n)
  | 0, .agg _ => true
  | 0, .tup _ => true
  | _, .fn _ _ => true
  | _, .iface _ _ => true
  | _, .tin _ _ _ => true
  | _, _ => false

/-- A leaf that leads to no object. -/
def pureLeaf : AV → Bool
  | .bool _ => true
  | .int _ _ => true
  | .str _ => true
  | .ro _ => true
  | _ => false

/-- A leaf that leads nowhere. -/
def scalarLeaf : AV → Bool
  | .bool _ => true
  | .int _ _ => true
  | .str _ => true
  | _ => false

/-- Leaves as they lie in a row: what is the call's own is frozen, what is nil is an empty row. -/
def rowLeaves (tt : Tab) (hp : List AObj) : List Nat → List AV → List AV
  | t :: ts, v :: vs =>
    (match v with
      | .nil => (match tget tt t with
        | some ⟨.slice E, _, _, _, _⟩ => .ro (emptyPay tt E)
        | _ => .top)
      | v => mapv (lendL (ownIn 0 v) hp) 0 v) :: rowLeaves tt hp ts vs
  | _, vs => vs

def St.put (s : St) (d : Option Nat) (v : AV) : St :=
  match d with
  | some t => ⟨setN s.fr t v, s.hp⟩
  | none => s

def setRange (cs : List AV) (off : Nat) : List AV → List AV
  | [] => cs
  | v :: vs => setRange (setN cs off v) (off + 1) vs

def zerosOf (tt : Tab) (E n : Nat) : Pay AV :=
  match tget tt E with
  | some ⟨.int .u8, _, _, _, _⟩ => .bytes (List.replicate n 0)
  | some ⟨.int k, _, _, _, _⟩ => .ints k (List.replicate n 0)
  | some e => .rows e.size (List.replicate n (rowLeaves tt [] e.leaf (leavesOf e.zero)))
  | none => .rows 0 []

/-- A value whose cells are told. -/
def leavesOk : AV → Bool
  | .top => false
  | .tup _ => false
  | _ => true

/-- The elements' zero value can be told. -/
def zeroOk (tt : Tab) (E : Nat) : Bool :=
  match tget tt E with
  | some ⟨.int k, sz, _, .int k' z, _⟩ => ikEq k k' && decide (z = 0) && Nat.beq sz 1
  | some ⟨.int _, _, _, _, _⟩ => false
  | some e => leavesOk e.zero && (rowLeaves tt [] e.leaf (leavesOf e.zero)).all pureLeaf && Nat.blt 0 e.size
  | none => false

def Pay.setAt (i off : Nat) (ls : List AV) : Pay AV → Option (Pay AV)
  | .bytes l => match ls with
    | [.int .u8 n] => some (.bytes (l.set i (UInt8.ofNat n.toNat)))
    | _ => none
  | .ints k l => match ls with
    | [.int k' n] => bif ikEq k k' then some (.ints k (l.set i n)) else none
    | _ => none
  | .rows s l => some (.rows s (l.set i (setRange (l.getD i []) off ls)))

def isTy (tt : Tab) (t : Nat) (f : AT → Bool) : Bool :=
  match tget tt t with
  | some e => f e.d
  | none => false

section cps
variable {R : Type} (stk : R)

def isNilTy : AT → Bool
  | .slice _ => true
  | .ptr _ => true
  | .map _ _ => true
  | .func => true
  | _ => false

def isSliceTy : AT → Bool
  | .slice _ => true
  | _ => false
def isPtrTy : AT → Bool
  | .ptr _ => true
  | _ => false
def isMapTy : AT → Bool
  | .map _ _ => true
  | _ => false
def isFuncTy : AT → Bool
  | .func => true
  | _ => false
def isBoolTy : AT → Bool
  | .bool => true
  | _ => false

def isStructTy : AT → Bool
  | .struct _ => true
  | _ => false
/-- Whole numbers, one cell each. -/
def isIntTy1 (tt : Tab) (t : Nat) : Bool :=
  match tget tt t with
  | some e => (match e.d with
    | .int _ => Nat.beq e.size 1
    | _ => false)
  | none => false
def kindIn (tt : Tab) (t : Nat) : IntKind :=
  match tget tt t with
  | some e => (match e.d with
    | .int k => k
    | _ => .u8)
  | none => .u8

/-- '==' or '!=', the answer known. -/
def eqlIs (op : BinOp) (b : Bool) (k : AV → R) : R :=
  match op with
  | .eql => k (.bool b)
  | .neq => k (.bool (!b))
  | _ => stk

/-- Are two leaves the same? -/
def eqLeaf : AT → AV → AV → Option Bool
  | .int _, .int k a, .int k' b => bif ikEq k k' then some (eqI a b) else none
  | .str, .str a, .str b => some (eqS a b)
  | .bool, .bool a, .bool b => some (a == b)
  | _, _, _ => none
/-- A struct's fields, each by 'f'. -/
def eqF (tt : Tab) (f : Nat → List AV → List AV → Option Bool) (xs ys : List AV) : List (Nat × Nat) → Option Bool
  | [] => some true
  | (o, t) :: r => (match tget tt t with
    | some e => (match f t ((xs.drop o).take e.size) ((ys.drop o).take e.size), eqF tt f xs ys r with
      | some a, some b => some (a && b)
      | _, _ => none)
    | none => none)
/-- Are two values of a type the same? Their leaves are told. -/
def eqT (tt : Tab) : Nat → Nat → List AV → List AV → Option Bool
  | 0, _, _, _ => none
  | n + 1, t, xs, ys => (match tget tt t with
    | some e => (match e.d with
      | .struct fs => eqF tt (eqT tt n) xs ys fs
      | d => (match xs, ys with
        | [a], [b] => eqLeaf d a b
        | _, _ => none))
    | none => none)
def eqAs : List AV → List AV → Bool
  | [], [] => true
  | a :: l, b :: m => eqI (intOf a) (intOf b) && eqAs l m
  | _, _ => false

def abin (tt : Tab) (t : Nat) (op : BinOp) (x y : AV) (k : AV → R) : R :=
  match x, y with
  | .int kx a, .int ky b =>
    match op with
    | .shl => bif ltI b 0 then stk else k (.int kx (ishl kx a b))
    | .shr => bif ltI b 0 then stk else k (.int kx (ishr kx a b))
    | op => bif ikEq kx ky then (match op with
      | .add => k (.int kx (kx.wrap (a + b)))
      | .sub => k (.int kx (kx.wrap (a - b)))
      | .mul => k (.int kx (kx.wrap (a * b)))
      | .quo => bif eqI b 0 then stk else k (.int kx (iquo kx a b))
      | .rem => bif eqI b 0 then stk else k (.int kx (irem a b))
      | .and => k (.int kx (iand kx a b))
      | .or => k (.int kx (ior kx a b))
      | .xor => k (.int kx (ixor kx a b))
      | .andNot => k (.int kx (iandn kx a b))
      | .eql => k (.bool (eqI a b))
      | .neq => k (.bool (!eqI a b))
      | .lss => k (.bool (ltI a b))
      | .leq => k (.bool (leI a b))
      | .gtr => k (.bool (ltI b a))
      | .geq => k (.bool (leI b a))
      | _ => stk) else stk
  | .str a, .str b =>
    match op with
    | .add => bif Nat.ble (a.length + b.length) maxLen then k (.str (a ++ b)) else stk
    | .eql => k (.bool (eqS a b))
    | .neq => k (.bool (!eqS a b))
    | .lss => k (.bool (ltS a b))
    | .leq => k (.bool (ltS a b || eqS a b))
    | .gtr => k (.bool (!(ltS a b || eqS a b)))
    | .geq => k (.bool (!ltS a b))
    | _ => stk
  | .bool a, .bool b => bif isTy tt t isBoolTy then eqlIs stk op (a == b) k else stk
  | .nil, .nil => bif isTy tt t isSliceTy then eqlIs stk op true k else stk
  | .nilp, .nilp => bif isTy tt t isPtrTy then eqlIs stk op true k else stk
  | .nilm, .nilm => bif isTy tt t isMapTy then eqlIs stk op true k else stk
  | .nilf, .nilf => bif isTy tt t isFuncTy then eqlIs stk op true k else stk
  | .ptr _ _, .nilp => bif isTy tt t isPtrTy then eqlIs stk op false k else stk
  | .nilp, .ptr _ _ => bif isTy tt t isPtrTy then eqlIs stk op false k else stk
  | .fn _ _, .nilf => bif isTy tt t isFuncTy then eqlIs stk op false k else stk
  | .mapo _, .nilm => bif isTy tt t isMapTy then eqlIs stk op false k else stk
  | .ro p, .nil => bif isTy tt t isSliceTy && Nat.blt 0 p.len then eqlIs stk op false k else stk
  | .rn _, .nil => bif isTy tt t isSliceTy then eqlIs stk op false k else stk
  | .agg a, .agg b => (match eqT tt 4 t a b with
    | some r => bif isTy tt t isStructTy then eqlIs stk op r k else stk
    | none => stk)
  | .arr a, .arr b => (match tget tt t with
    | some e => (match e.d with
      | .array m E => bif isIntTy1 tt E then bif Nat.beq a.length m && Nat.beq b.length m && a.all (isInt (kindIn tt E)) && b.all (isInt (kindIn tt E)) then eqlIs stk op (eqAs a b) k else stk else stk
      | _ => stk)
    | none => stk)
  | _, _ => stk

def aun (op : UnOp) (x : AV) (k : AV → R) : R :=
  match op, x with
  | .neg, .int kk n => k (.int kk (kk.wrap (0 - n)))
  | .xor, .int kk n => k (.int kk (ixor kk (iones kk) n))
  | .not, .bool b => k (.bool (!b))
  | _, _ => stk

def aconv (tt : Tab) (hp : List AObj) (src dst : Nat) (x : AV) (k : AV → R) : R :=
  match tget tt src, tget tt dst with
  | some s, some d =>
    match s.d, d.d, x with
    | .int _, .int kk, .int _ n => k (.int kk (kk.wrap n))
    | .str, .str, .str a => k (.str a)
    | .slice E, .str, x => (match emptyPay tt E, payOf tt E hp x with
      | .bytes _, some (.bytes l) => k (.str l)
      | _, _ => stk)
    | .str, .slice E, .str a => (match emptyPay tt E with
      | .bytes _ => k (.ro (.bytes a))
      | _ => stk)
    | _, _, _ => stk
  | _, _ => stk

/-- The type has values of so many cells. -/
def szOk (tt : Tab) (E n : Nat) : Bool :=
  match tget tt E with
  | some e => Nat.beq e.size n
  | none => false

/-- An index that lies below. -/
def inB (i : Int) (n : Nat) : Bool := decide (0 ≤ i) && decide (i < n)

def aindexAddr (tt : Tab) (hp : List AObj) (t : Nat) (x i : AV) (k : AV → R) : R :=
  match tget tt t, i with
  | some e, .int _ i =>
    match e.d, x with
    | .slice E, .ro p => bif szOk tt E p.sz && inB i p.len then k (.eptr p i.toNat 0) else stk
    | .slice E, .own o => (match hget hp o with
      | .arr _ p => bif szOk tt E p.sz && inB i p.len then k (.aptr o i.toNat 0) else stk
      | _ => stk)
    | .slice E, .sub o a n => (match hget hp o with
      | .arr _ p => bif szOk tt E p.sz && inB i n then k (.aptr o (a + i.toNat) 0) else stk
      | _ => stk)
    | .array n E, .ptr o off => (match tget tt E with
      | some eE => bif inB i n then k (.ptr o (off + i.toNat * eE.size)) else stk
      | none => stk)
    | .array n E, .eptr p j off => (match tget tt E with
      | some eE => bif inB i n then k (.eptr p j (off + i.toNat * eE.size)) else stk
      | none => stk)
    | .array n E, .aptr o j off => (match tget tt E with
      | some eE => bif inB i n then k (.aptr o j (off + i.toNat * eE.size)) else stk
      | none => stk)
    | _, _ => stk
  | _, _ => stk

def aindex (tt : Tab) (t : Nat) (x i : AV) (k : AV → R) : R :=
  match tget tt t, i with
  | some e, .int _ i =>
    match e.d, x with
    | .str, .str s => bif inB i s.length then k (.int .u8 (s.getD i.toNat 0).toNat) else stk
    | .array n E, .arr l => (match tget tt E with
      | some ⟨.int _, sz, _, _, _⟩ => bif Nat.beq sz 1 && inB i n then eta1 stk tt E (nth l i.toNat) k else stk
      | _ => stk)
    | _, _ => stk
  | _, _ => stk

def isArrTy (tt : Tab) (n E : Nat) : Bool :=
  match tget tt E with
  | some ⟨.int _, _, _, _, _⟩ => Nat.blt 0 n
  | _ => false

def notTop (v : AV) (k : AV → R) : R :=
  match v with
  | .top => stk
  | v => k v

/-- A variable's value out of an own object's cells. -/
def ldVar (tt : Tab) (t : Nat) (cs : List AV) (off : Nat) (k : AV → R) : R :=
  match tget tt t with
  | some e =>
    match e.d with
    | .struct _ => bif Nat.ble (off + e.size) cs.length then k (.agg ((cs.drop off).take e.size)) else stk
    | .array _ _ => bif Nat.ble (off + e.size) cs.length && ((cs.drop off).take e.size).all scalarLeaf then k (.arr ((cs.drop off).take e.size)) else stk
    | .int _ => eta1 stk tt t (nth cs off) k
    | .bool => eta1 stk tt t (nth cs off) k
    | .str => eta1 stk tt t (nth cs off) k
    | .other => stk
    | _ => notTop stk (nth cs off) k
  | none => stk

/-- Bytes of a row, as an array of them. -/
def spanB (l : List UInt8) (i n : Nat) : List AV := (List.range n).map fun j => .int .u8 (l.getD (i + j) 0).toNat
def isU8 (d : AT) : Bool := match d with
  | .int .u8 => true
  | _ => false
/-- An array out of a row of bytes, whole elements. -/
def ldSpan (tt : Tab) (e : TyE) (p : Pay AV) (i off : Nat) (k : AV → R) : R :=
  match e.d, p with
  | .array n E, .bytes l => bif isTy tt E isU8 && Nat.beq off 0 && Nat.beq e.size n && Nat.ble (i + n) l.length then k (.arr (spanB l i n)) else stk
  | _, _ => stk
/-- Of a slice, its array: what it leads to. -/
def asap (tt : Tab) (hp : List AObj) (t : Nat) (x : AV) (k : AV → R) : R :=
  match tget tt t with
  | some ⟨.array n _, _, _, _, _⟩ => (match x with
    | .ro p => bif Nat.blt 0 n && Nat.ble n p.len then k (.eptr p 0 0) else stk
    | .own o => (match hget hp o with
      | .arr _ p => bif Nat.blt 0 n && Nat.ble n p.len then k (.aptr o 0 0) else stk
      | _ => stk)
    | .sub o a m => (match hget hp o with
      | .arr _ _ => bif Nat.blt 0 n && Nat.ble n m then k (.aptr o a 0) else stk
      | _ => stk)
    | _ => stk)
  | _ => stk

/-- Whole numbers of a list, one by one. -/
def spanA (k : IntKind) (l : List AV) (n : Nat) : List AV := (List.range n).map fun j => .int k (intOf (nth l j))

/-- A variable's value out of a row. -/
def ldPay (tt : Tab) (t : Nat) (p : Pay AV) (i off : Nat) (k : AV → R) : R :=
  match tget tt t with
  | some e =>
    bif Nat.ble (off + e.size) p.sz && Nat.blt 0 e.size then
    (match e.d with
    | .struct _ => etaL stk tt (((p.leaves i).drop off).take e.size) e.leaf 0 fun ls => k (.agg ls)
    | .array n E => bif isIntTy1 tt E then
        (bif Nat.beq (((p.leaves i).drop off).take e.size).length n && (((p.leaves i).drop off).take e.size).all (isInt (kindIn tt E)) then k (.arr (spanA (kindIn tt E) (((p.leaves i).drop off).take e.size) n)) else stk)
      else bif (((p.leaves i).drop off).take e.size).all scalarLeaf then k (.arr (((p.leaves i).drop off).take e.size)) else stk
    | .other => stk
    | _ => (match p with
      | .rows _ _ => eta1 stk tt t (p.leaf i off) k
      | p => k (p.leaf i off))) else ldSpan stk tt e p i off k
  | none => stk

/-- A value out of an array variable of whole numbers. -/
def ldArr (tt : Tab) (t : Nat) (kk : IntKind) (l : List Int) (off : Nat) (k : AV → R) : R :=
  match tget tt t with
  | some e => (match e.d with
    | .int k' => bif ikEq kk k' && Nat.blt off l.length then k (.int kk (l.getD off 0)) else stk
    | .array _ _ => bif Nat.beq off 0 && Nat.beq e.size l.length then k (.arr (l.map (AV.int kk))) else stk
    | _ => stk)
  | none => stk

def aload (tt : Tab) (hp : List AObj) (t : Nat) (a : AV) (k : AV → R) : R :=
  match a with
  | .ptr o off => (match hget hp o with
    | .var _ cs => ldVar stk tt t cs off k
    | .vara _ kk l => ldArr stk tt t kk l off k
    | _ => stk)
  | .eptr p i off => ldPay stk tt t p i off k
  | .aptr o i off => (match hget hp o with
    | .arr _ p => ldPay stk tt t p i off k
    | _ => stk)
  | _ => stk

def fieldOff (tt : Tab) (s f : Nat) : Option (Nat × Nat) :=
  match tget tt s with
  | some ⟨.struct fs, _, _, _, _⟩ => fs[f]?
  | _ => none

def afieldAddr (tt : Tab) (s f : Nat) (x : AV) (k : AV → R) : R :=
  match fieldOff tt s f with
  | some (fo, ft) =>
    (match tget tt ft with
    | some e => bif Nat.blt 0 e.size then (match x with
      | .ptr o off => k (.ptr o (off + fo))
      | .eptr p i off => k (.eptr p i (off + fo))
      | .aptr o i off => k (.aptr o i (off + fo))
      | _ => stk) else stk
    | none => stk)
  | none => stk

def afield (tt : Tab) (s f : Nat) (x : AV) (k : AV → R) : R :=
  match fieldOff tt s f, x with
  | some (fo, ft), .agg l =>
    (match tget tt ft with
    | some e => (match e.d with
      | .struct _ => k (.agg ((l.drop fo).take e.size))
      | .array _ _ => bif ((l.drop fo).take e.size).all scalarLeaf then k (.arr ((l.drop fo).take e.size)) else stk
      | _ => notTop stk (nth l fo) k)
    | none => stk)
  | _, _ => stk

def optI (d : Int) : Option AV → Option Int
  | none => some d
  | some (.int _ n) => some n
  | some _ => none

def isSome? : Option AV → Bool
  | some _ => true
  | none => false

def aslice (tt : Tab) (hp : List AObj) (t : Nat) (x : AV) (lo hi : Option AV) (k : AV → R) : R :=
  match tget tt t with
  | some e =>
    match e.d, x with
    | .str, .str s => (match optI 0 lo, optI s.length hi with
      | some l, some h => bif (leI 0 l && leI l h && leI h s.length) then
          k (.str (bif isSome? hi then (s.drop l.toNat).take (h.toNat - l.toNat) else s.drop l.toNat)) else stk
      | _, _ => stk)
    | .slice E, .ro p => (match optI 0 lo, optI p.len hi with
      | some l, some h => bif (szOk tt E p.sz && leI 0 l && leI l h && leI h p.len) then
          k (.ro (bif isSome? hi then p.cut l.toNat (h.toNat - l.toNat) else p.from l.toNat)) else stk
      | _, _ => stk)
    | .slice E, .own o => (match hget hp o with
      | .arr _ p => (match optI 0 lo, optI p.len hi with
        | some l, some h => bif (szOk tt E p.sz && leI 0 l && leI l h && leI h p.len) then k (.sub o l.toNat (h.toNat - l.toNat)) else stk
        | _, _ => stk)
      | _ => stk)
    | .slice E, .sub o a n => (match hget hp o with
      | .arr _ p => (match optI 0 lo, optI n hi with
        | some l, some h => bif (szOk tt E p.sz && leI 0 l && leI l h && leI h n) then k (.sub o (a + l.toNat) (h.toNat - l.toNat)) else stk
        | _, _ => stk)
      | _ => stk)
    | .array n E, .ptr o off => (match lo, hi with
      | none, none => bif Nat.beq off 0 && Nat.ble n 281474976710656 && isTy tt E (fun _ => true) then k (.vsl o n) else stk
      | _, _ => stk)
    | .slice E, .nil => (match optI 0 lo, optI 0 hi with
      | some l, some h => bif (isTy tt E (fun _ => true) && leI 0 l && leI l h && leI h 0) then k .nil else stk
      | _, _ => stk)
    | _, _ => stk
  | none => stk

def alen (tt : Tab) (hp : List AObj) (t : Nat) (x : AV) (k : AV → R) : R :=
  match tget tt t with
  | some e =>
    match e.d, x with
    | .str, .str s => k (.int .i64 s.length)
    | .slice _, .len n => k (.int .i64 n)
    | .slice E, x => (match payOf tt E hp x with
      | some p => k (.int .i64 p.len)
      | none => stk)
    | .array n _, _ => bif hasB .i64 n then k (.int .i64 n) else stk
    | _, _ => stk
  | none => stk

def amin2 (x y : AV) (k : AV → R) : R :=
  match x, y with
  | .int kk a, .int k' b => bif ikEq kk k' then k (.int kk (if b < a then b else a)) else stk
  | _, _ => stk
def amax2 (x y : AV) (k : AV → R) : R :=
  match x, y with
  | .int kk a, .int k' b => bif ikEq kk k' then k (.int kk (if b > a then b else a)) else stk
  | _, _ => stk
def afoldm (f : AV → AV → (AV → R) → R) : AV → List AV → (AV → R) → R
  | x, [], k => k x
  | x, y :: l, k => f x y fun z => afoldm f z l k

def apick (c a b : AV) (k : AV → R) : R :=
  match c with
  | .bool c => bif c then k a else k b
  | _ => stk

/-- A struct's or an array's leaves put in their places. -/
def fillParts (place : Nat → Option (Nat × Nat)) (cells : List AV) : List (Nat × AV) → Option (List AV)
  | [] => some cells
  | (i, v) :: rest =>
    match place i with
    | none => none
    | some (off, size) =>
      bif leavesOk v && Nat.beq (leavesOf v).length size && Nat.ble (off + size) cells.length then fillParts place (setRange cells off (leavesOf v)) rest else none

def placesOf (tt : Tab) : List (Nat × Nat) → Nat → Option (Nat × Nat)
  | [], _ => none
  | (o, t) :: _, 0 => match tget tt t with
    | some e => some (o, e.size)
    | none => none
  | _ :: r, n + 1 => placesOf tt r n

def abuild (tt : Tab) (t : Nat) (parts : List (Nat × AV)) (k : AV → R) : R :=
  match tget tt t with
  | some e =>
    match e.d with
    | .struct fs => bif leavesOk e.zero && fs.all (fun x => isTy tt x.2 fun _ => true) then (match fillParts (placesOf tt fs) (leavesOf e.zero) parts with
      | some cs => k (.agg cs)
      | none => stk) else stk
    | .array n E => (match tget tt E with
      | some eE => bif leavesOk e.zero then
        (match fillParts (fun i => bif Nat.blt i n then some (i * eE.size, eE.size) else none) (leavesOf e.zero) parts with
          | some cs => bif cs.all scalarLeaf then k (.arr cs) else stk
          | none => stk) else stk
      | none => stk)
    | _ => stk
  | none => stk

end cps
end Go.Proofs.YtmkgmlgklggnlaaGm

namespace Go.Proofs.YtmkgmlgklggnlaaGm

/-- What is known of a function that is called. 'pure': it reads and answers; 'eff': it may change the objects that it is handed. -/
abbrev Ans := (R : Type) → R → List AV → (AV → List AObj → R) → R

abbrev EAns := (R : Type) → R → List AV → List AObj → (AV → List AObj → R) → R

inductive Spec where
  | pure (go : Ans)
  | eff (go : EAns)

structure Mask where
  keep : List Nat
  own : List (Nat × Nat)

structure Cfg where
  tt : Tab
  sg : List (Nat × Spec)
  F : Nat
  lm : List (Nat × Mask)
  jm : List (Nat × Mask)
  h0 : Nat

def sget : List (Nat × Spec) → Nat → Option Spec
  | [], _ => none
  | (a, e) :: r, f => bif Nat.beq a f then some e else sget r f

def mget : List (Nat × Mask) → Nat → Option Mask
  | [], _ => none
  | (a, e) :: r, f => bif Nat.beq a f then some e else mget r f

def posN : List Nat → Nat → Option Nat
  | [], _ => none
  | a :: r, n => bif Nat.beq a n then some 0 else (match posN r n with | some i => some (i + 1) | none => none)

def refsIn : Nat → AV → List Nat
  | _, .own o => [o]
  | _, .sub o _ _ => [o]
  | _, .ptr o _ => [o]
  | _, .aptr o _ _ => [o]
  | _, .mapo o => [o]
  | _, .vsl o m => [o]
  | n + 1, .agg l => l.flatMap (refsIn n)
  | n + 1, .tup l => l.flatMap (refsIn n)
  | n + 1, .fn _ l => l.flatMap (refsIn n)
  | n + 1, .iface _ v => refsIn n v
  | _, _ => []

def objRefs : AObj → List Nat
  | .var _ cs => cs.flatMap (refsIn 3)
  | _ => []

/-- Which objects are led to, each once, in the order in which they are met. -/
def reach (hp : List AObj) : Nat → List Nat → List Nat → List Nat
  | 0, _, acc => acc
  | _ + 1, [], acc => acc
  | n + 1, o :: todo, acc => bif memN acc o then reach hp n todo acc else reach hp n (todo ++ objRefs (hget hp o)) (acc ++ [o])

def renum (ids : List Nat) : AV → AV
  | .own o => match posN ids o with | some i => .own i | none => .top
  | .sub o a n => match posN ids o with | some i => .sub i a n | none => .top
  | .ptr o a => match posN ids o with | some i => .ptr i a | none => .top
  | .aptr o i a => match posN ids o with | some j => .aptr j i a | none => .top
  | .mapo o => match posN ids o with | some i => .mapo i | none => .top
  | .vsl o m => match posN ids o with | some i => .vsl i m | none => .top
  | v => v

def keepF (keep : List Nat) : List AV → Nat → List AV
  | [], _ => []
  | v :: r, i => (bif memN keep i then v else .top) :: keepF keep r (i + 1)

def upto : Nat → List Nat
  | 0 => []
  | n + 1 => upto n ++ [n]

def St.gc (s : St) (h0 : Nat) : St :=
  let ids := reach s.hp 200 (s.fr.flatMap (refsIn 4) ++ (upto h0).flatMap fun i => objRefs (hget s.hp i)) (upto h0)
  ⟨s.fr.map (mapv (renum ids) 4), ids.map fun o => mapObj (renum ids) (hget s.hp o)⟩

def St.owned (tt : Tab) (s : St) : List (Nat × Nat) → St
  | [] => s
  | (t, E) :: r =>
    (match nth s.fr t with
      | .nil => bif Nat.blt 0 (emptyPay tt E).sz then St.owned tt ⟨setN s.fr t (.own s.hp.length), s.hp ++ [.arr E (emptyPay tt E)]⟩ r else St.owned tt s r
      | _ => St.owned tt s r)

def maskSt (tt : Tab) (h0 : Nat) (m : Mask) (s : St) : St :=
  let s1 := s.owned tt m.own
  St.gc ⟨keepF m.keep s1.fr 0, s1.hp⟩ h0

def maskAt (tt : Tab) (h0 : Nat) (ms : List (Nat × Mask)) (key : Nat) (s : St) : St :=
  match mget ms key with
  | some m => maskSt tt h0 m s
  | none => s

/-- A value's leaves as they lie in a row. -/
def rowOf (tt : Tab) (hp : List AObj) (ts : List Nat) (v : AV) : List AV :=
  match v with
  | .arr l => l
  | v => rowLeaves tt hp ts (leavesOf v)
def rowPure (tt : Tab) (hp : List AObj) (ts : List Nat) (v : AV) : Bool :=
  match v with
  | .arr _ => true
  | v => (rowLeaves tt hp ts (leavesOf v)).all pureLeaf
def leafOwn (v : AV) : List Nat :=
  match v with
  | .arr _ => []
  | v => (leavesOf v).flatMap (ownIn 0)

def setParts (tt : Tab) (hp : List AObj) (leaf : List Nat) (p : Pay AV) : List (Nat × AV) → Option (Pay AV)
  | [] => some p
  | (i, v) :: r =>
    bif leavesOk v && rowPure tt hp leaf v && Nat.blt i p.len && Nat.beq (rowOf tt hp leaf v).length p.sz then (match p.setAt i 0 (rowOf tt hp leaf v) with
      | some p' => setParts tt hp leaf p' r
      | none => none) else none

def ownsOf (l : List (Nat × AV)) : List Nat := l.flatMap fun x => leafOwn x.2

section cps
variable {R : Type} (stk : R)

/-- An operation that leaves all objects as they are. -/
def rop (tt : Tab) (hp : List AObj) (ev : Operand → AV) (op : Op) (k : AV → R) : R :=
  match op with
  | .move x => k (ev x)
  | .assign x => k (ev x)
  | .pick c a b => apick stk (ev c) (ev a) (ev b) k
  | .nilCheck x => (match ev x with
    | .ptr o a => k (.ptr o a)
    | .aptr o i a => k (.aptr o i a)
    | .eptr p i a => k (.eptr p i a)
    | _ => stk)
  | .binOp op t x y _ => abin stk tt t op (ev x) (ev y) k
  | .unOp op _ x => aun stk op (ev x) k
  | .convert s d x => aconv stk tt hp s d (ev x) k
  | .makeFunc (.func f) first caps => (match first.toList with
    | [] => k (.fn f (caps.toList.map ev))
    | _ => stk)
  | .slice t x lo hi none => aslice stk tt hp t (deN (ev x)) (lo.map ev) (hi.map ev) k
  | .sliceToArrayPointer t x => asap stk tt hp t (deN (ev x)) k
  | .fieldAddr s x f => afieldAddr stk tt s f (ev x) k
  | .field t x f => afield stk tt t f (ev x) k
  | .indexAddr t x i => aindexAddr stk tt hp t (deN (ev x)) (ev i) k
  | .index t x i => aindex stk tt t (ev x) (ev i) k
  | .load t a => aload stk tt hp t (ev a) k
  | .extract x i => (match ev x with
    | .tup l => bif Nat.blt i l.length then k (nth l i) else stk
    | _ => stk)
  | .build t parts => abuild stk tt t (parts.toList.map fun x => (x.1, ev x.2)) k
  | .call c => (match c.callee with
    | .builtin .len => (match c.args.toList, c.argTypes.toList with
      | [x], [t] => alen stk tt hp t (deN (ev x)) k
      | _, _ => stk)
    | .builtin .min => (match c.args.toList with
      | x :: l => afoldm (amin2 stk) (ev x) (l.map ev) k
      | [] => stk)
    | .builtin .max => (match c.args.toList with
      | x :: l => afoldm (amax2 stk) (ev x) (l.map ev) k
      | [] => stk)
    | _ => stk)
  | _ => stk

/-- What is called: its number, and what it captured. -/
def target (v : AV) : Option (Nat × List AV) :=
  match v with
  | .fn f caps => some (f, caps)
  | _ => none

/-- Objects that lie behind others. -/
def shiftR (n : Nat) : AV → AV
  | .own o => .own (n + o)
  | .sub o a l => .sub (n + o) a l
  | .ptr o a => .ptr (n + o) a
  | .aptr o i a => .aptr (n + o) i a
  | .mapo o => .mapo (n + o)
  | .vsl o m => .vsl (n + o) m
  | v => v
def objRo : AObj → Bool
  | .arr _ (.rows _ _) => true
  | .var _ cs => cs.any (hasRo 3)
  | _ => false
def objFits (tt : Tab) : AObj → Bool
  | .arr E p => kindOfPay (emptyPay tt E) p
  | _ => true

/-- A variable's bytes. -/
def u8of (cs : List AV) : List UInt8 := cs.map fun a => UInt8.ofNat (intOf a).toNat
/-- An argument as it is lent: a slice of an array variable as the bytes in it. -/
def lendA (L : List Nat) (hp : List AObj) (a : AV) : AV :=
  match a with
  | .vsl o _ => (match hget hp o with
    | .var _ cs => .ro (.bytes (u8of cs))
    | _ => .top)
  | a => mapv (lendL L hp) 3 a
def vslIn (hp : List AObj) (a : AV) : Bool :=
  match a with
  | .vsl o n => (match hget hp o with
    | .var _ cs => Nat.beq cs.length n && Nat.ble n 281474976710656 && cs.all (isInt .u8)
    | _ => false)
  | _ => true
def isVsl : AV → Bool
  | .vsl _ _ => true
  | _ => false

/-- A call of what only reads and answers: the answer, and which own rows it may have handed on. -/
def callPure (tt : Tab) (hp : List AObj) (go : Ans) (args : List AV) (k : AV → List AObj → List Nat → R) : R :=
  bif args.all (vslIn hp) then
    go R stk (args.map (lendA (args.flatMap (ownIn 3)) hp)) fun r objs =>
      bif objs.all (objFits tt) && !((hasRo 3 r || objs.any objRo) && args.any isVsl) then k r objs (bif hasRo 3 r || objs.any objRo then args.flatMap (ownIn 3) else []) else stk
  else stk

/-- The same answer, its own rows as who calls may read them. -/
def lentGo (go : Ans) : Ans := fun R stk args k => go R stk args fun r objs => k (mapv (lendL (ownIn 3 r) objs) 3 r) []

/-- References to rows that were handed over, lost. -/
def loseIn (ids : List Nat) : AV → AV
  | .own o => bif memN ids o then .top else .own o
  | .sub o a n => bif memN ids o then .top else .sub o a n
  | .aptr o i a => bif memN ids o then .top else .aptr o i a
  | v => v
/-- An object of who was called, by its number with who calls: those handed over come first. -/
def bkN : List Nat → Nat → Nat → Nat
  | [], n, k => n + k
  | a :: _, _, 0 => a
  | _ :: r, n, k + 1 => bkN r n k
def backR (ids : List Nat) (n : Nat) : AV → AV
  | .own o => .own (bkN ids n o)
  | .sub o a l => .sub (bkN ids n o) a l
  | .ptr o a => .ptr (bkN ids n o) a
  | .aptr o i a => .aptr (bkN ids n o) i a
  | .mapo o => .mapo (bkN ids n o)
  | .vsl o m => .vsl (bkN ids n o) m
  | v => v
def getA {α : Type} (d : α) : List α → Nat → α
  | [], _ => d
  | a :: _, 0 => a
  | _ :: r, n + 1 => getA d r n
def dropA {α : Type} : List α → Nat → List α
  | l, 0 => l
  | [], _ => []
  | _ :: r, n + 1 => dropA r n
/-- The first list, those handed over as the second has them. -/
def mergeA {α : Type} (d : α) (ids : List Nat) (ys : List α) : List α → Nat → List α
  | [], _ => []
  | x :: xs, i => (match posN ids i with | some k => getA d ys k | none => x) :: mergeA d ids ys xs (i + 1)

def St.effed (s : St) (ids : List Nat) (hp' : List AObj) (d : Option Nat) (r : AV) : St :=
  St.put ⟨s.fr.map (mapv (loseIn ids) 4), mergeA .dead ids (hp'.map (mapObj (backR ids s.hp.length))) (s.hp.map (mapObj (loseIn ids))) 0 ++ (dropA hp' ids.length).map (mapObj (backR ids s.hp.length))⟩ d (mapv (backR ids s.hp.length) 3 r)

/-- A call of what may change the objects that its arguments lead to. -/
def callEff (tt : Tab) (hp : List AObj) (go : EAns) (args : List AV) (ids : List Nat) (k : AV → List AObj → R) : R :=
  bif ids.all (fun o => Nat.blt o hp.length) then
    go R stk (args.map (mapv (renum ids) 3)) (ids.map fun o => mapObj (renum ids) (hget hp o)) fun r hp' =>
      bif hp'.all (objFits tt) && Nat.ble ids.length hp'.length then k r hp' else stk
  else stk

def effIds (hp : List AObj) (args : List AV) : List Nat := reach hp 200 (args.flatMap (refsIn 3)) []

def isSrcTy : AT → Bool
  | .slice _ => true
  | .str => true
  | _ => false

def appOk (e : TyE) (p : Pay AV) : Bool := Nat.beq p.sz e.size && Nat.blt 0 e.size && Nat.blt 0 e.bytes

/-- The bytes fit. -/
def appFits (e : TyE) (p : Pay AV) : Bool := Nat.ble (p.len * e.bytes) 140737488355328

def vslOk (tt : Tab) (E : Nat) (hp : List AObj) (x : AV) : Bool :=
  match x with
  | .vsl o n => (match hget hp o with
    | .var _ cs => isTy tt E isU8 && Nat.beq cs.length n && Nat.ble n 281474976710656 && cs.all (isInt .u8)
    | _ => false)
  | _ => true
/-- What is appended. -/
def srcPay (tt : Tab) (E : Nat) (hp : List AObj) (x : AV) : Option (Pay AV) :=
  match x with
  | .str m => some (.bytes m)
  | .vsl o _ => (match hget hp o with
    | .var _ cs => some (.bytes (u8of cs))
    | _ => none)
  | x => payOf tt E hp x

def aappend (tt : Tab) (t : Nat) (d : Option Nat) (b x : AV) (s : St) (k : St → R) : R :=
  match tget tt t with
  | some ⟨.slice E, _, _, _, _⟩ =>
    (match tget tt E with
    | some e =>
      bif vslOk tt E s.hp x then
      (match srcPay tt E s.hp x with
      | some q =>
        (match b with
        | .nil => (match (emptyPay tt E).app q with
          | some p => bif appOk e p && appFits e p then k (St.put ⟨s.fr, s.hp ++ [.arr E p]⟩ d (.own s.hp.length)) else stk
          | none => stk)
        | .own o => (match hget s.hp o with
          | .arr E0 p0 => (match p0.app q with
            | some p => bif Nat.beq E0 E && appOk e p && !(memN (refsIn 0 x) o) && appFits e p then
                (let s' := s.mapRefs (loseN o p0.len); k (St.put ⟨s'.fr, hset s'.hp o (.arr E p)⟩ d (.own o))) else stk
            | none => stk)
          | _ => stk)
        | _ => stk)
      | none => stk) else stk
    | none => stk)
  | _ => stk

def undefA : AV := .tup []

/-- What a call answers, with the objects that are its own. -/
def St.joined (s : St) (objs : List AObj) (d : Option Nat) (r : AV) : St :=
  St.put ⟨s.fr, s.hp ++ objs.map (mapObj (shiftR s.hp.length))⟩ d (mapv (shiftR s.hp.length) 3 r)

/-- A call of what may change the objects that it is handed: own rows among the arguments are frozen ahead of it. -/
def aeffStep (tt : Tab) (s : St) (go : EAns) (f : Nat) (args : List Operand) (fo : Operand) (d : Option Nat) (k : St → R) : R :=
  match target (aval s.fr fo) with
  | some (f', caps) => bif Nat.beq f' f then
      callEff stk tt s.hp go ((args.map (aval s.fr)).map deN ++ caps) (effIds s.hp ((args.map (aval s.fr)).map deN ++ caps)) fun r hp' =>
        k (s.effed (effIds s.hp ((args.map (aval s.fr)).map deN ++ caps)) hp' d r)
    else stk
  | none => stk

/-- '[]byte("..")' of a constant: the row is read from now on. -/
def markStep (tt : Tab) (s : St) (t i : Nat) (d : Option Nat) (k : St → R) : R :=
  match tget tt t, hget s.hp i with
  | some e, .arr _ p => (match e.d, p with
    | .slice E, .bytes l => (match emptyPay tt E with
      | .bytes _ => bif Nat.blt 0 l.length then k (St.put (s.freeze i) d (.ro (.bytes l))) else stk
      | _ => stk)
    | _, _ => stk)
  | _, _ => stk

/-- What an array variable of whole numbers holds after a store. -/
def stInts (v : AV) (l : List Int) (off : Nat) : List Int :=
  match v with
  | .arr a => a.map intOf
  | v => l.set off (intOf v)
def stIntsOk (kk : IntKind) (v : AV) (l : List Int) (off : Nat) : Bool :=
  match v with
  | .arr a => Nat.beq off 0 && Nat.beq a.length l.length && a.all (isInt kk)
  | v => isInt kk v && Nat.blt off l.length

/-- One operation. -/
def astep (c : Cfg) (o : Oper) (s : St) (k : St → R) : R :=
  match o.op with
  | .alloc T => (match tget c.tt T with
    | some e => bif leavesOk e.zero then k (St.put ⟨s.fr, s.hp ++ [.var T (leavesOf e.zero)]⟩ o.dst (.ptr s.hp.length 0)) else stk
    | none => stk)
  | .box T x => (match tget c.tt T with
    | some e => bif leavesOk (aval s.fr x) && Nat.beq (leavesOf (aval s.fr x)).length e.size then
        k (St.put ⟨s.fr, s.hp ++ [.var T (leavesOf (aval s.fr x))]⟩ o.dst (.ptr s.hp.length 0)) else stk
    | none => stk)
  | .buildSlice t len parts => (match tget c.tt t with
    | some ⟨.slice E, _, _, _, _⟩ => (match tget c.tt E with
      | some e =>
        let ps := parts.toList.map fun x => (x.1, aval s.fr x.2)
        (match setParts c.tt s.hp e.leaf (zerosOf c.tt E len) ps with
        | some p => bif zeroOk c.tt E && Nat.ble (len * e.size) 16777216 then
            (let s' := s.freezeAll (ownsOf ps); k (St.put ⟨s'.fr, s'.hp ++ [.arr E p]⟩ o.dst (.own s'.hp.length))) else stk
        | none => stk)
      | none => stk)
    | _ => stk)
  | .makeSlice t l m => (match tget c.tt t, aval s.fr l, aval s.fr m with
    | some ⟨.slice E, _, _, _, _⟩, .int _ l, .int _ m => (match tget c.tt E with
      | some e => bif (zeroOk c.tt E && leI 0 l && leI l m && leI (m * e.bytes) 140737488355328 && Nat.blt 0 e.bytes) then
          k (St.put ⟨s.fr, s.hp ++ [.arr E (zerosOf c.tt E l.toNat)]⟩ o.dst (.own s.hp.length)) else stk
      | none => stk)
    | _, _, _ => stk)
  | .store t a x => (match tget c.tt t with
    | some e =>
      let v := aval s.fr x
      bif leavesOk v && Nat.beq (leavesOf v).length e.size then (match aval s.fr a with
        | .ptr b off => (match hget s.hp b with
          | .var T cs => bif Nat.ble (off + e.size) cs.length then k (St.put ⟨s.fr, hset s.hp b (.var T (setRange cs off (leavesOf v)))⟩ o.dst undefA) else stk
          | .vara T kk l => bif stIntsOk kk v l off then k (St.put ⟨s.fr, hset s.hp b (.vara T kk (stInts v l off))⟩ o.dst undefA) else stk
          | _ => stk)
        | .aptr b i off => (match hget s.hp b with
          | .arr E p =>
            bif rowPure c.tt s.hp e.leaf v && Nat.blt i p.len && Nat.ble (off + e.size) p.sz && Nat.beq (rowOf c.tt s.hp e.leaf v).length e.size && !(memN (leafOwn v) b) then
              (match p.setAt i off (rowOf c.tt s.hp e.leaf v) with
              | some p' => (let s' := s.freezeAll (leafOwn v); k (St.put ⟨s'.fr, hset s'.hp b (.arr E p')⟩ o.dst undefA))
              | none => stk) else stk
          | _ => stk)
        | _ => stk) else stk
    | none => stk)
  | .call cl => (match cl.callee with
    | .builtin .append => (match cl.args.toList, cl.argTypes.toList with
      | [b, x], [t, tx] => bif isTy c.tt tx isSrcTy then aappend stk c.tt t o.dst (aval s.fr b) (aval s.fr x) s k else stk
      | _, _ => stk)
    | .value fo => (match target (aval s.fr fo) with
      | some (f, caps) => (match sget c.sg f with
        | some (.pure go) => callPure stk c.tt s.hp go ((cl.args.toList.map (aval s.fr)).map deN ++ caps) fun r objs frz => k (St.joined (s.freezeAll frz) objs o.dst r)
        | some (.eff go) => aeffStep stk c.tt (s.freezeAll ((cl.args.toList.map (aval s.fr) ++ caps).flatMap (ownIn 3))) go f cl.args.toList fo o.dst k
        | _ => stk)
      | none => stk)
    | _ => rop stk c.tt s.hp (aval s.fr) o.op fun v => k (s.put o.dst v))
  | .convert a b x => (match aval s.fr x with
    | .own i => bif Nat.beq a b then markStep stk c.tt s a i o.dst k else rop stk c.tt s.hp (aval s.fr) o.op fun v => k (s.put o.dst v)
    | _ => rop stk c.tt s.hp (aval s.fr) o.op fun v => k (s.put o.dst v))
  | op => rop stk c.tt s.hp (aval s.fr) op fun v => k (s.put o.dst v)

def dstOf : List Oper → Nat → Option Nat
  | [], _ => none
  | o :: _, 0 => o.dst
  | _ :: r, n + 1 => dstOf r n

def aops (c : Cfg) (all : List Oper) : List Oper → St → (St → R) → R
  | [], s, k => k s
  | o :: r, s, k =>
    match o.guard with
    | none => astep stk c o s fun s' => aops c all r s' k
    | some (j, want) => (match dstOf all j with
      | some t => (match nth s.fr t with
        | .bool b => bif b then
            (match want with
              | true => astep stk c o ⟨setN s.fr t (.bool true), s.hp⟩ fun s' => aops c all r s' k
              | false => aops c all r (St.put ⟨setN s.fr t (.bool true), s.hp⟩ o.dst undefA) k)
          else
            (match want with
              | true => aops c all r (St.put ⟨setN s.fr t (.bool false), s.hp⟩ o.dst undefA) k
              | false => astep stk c o ⟨setN s.fr t (.bool false), s.hp⟩ fun s' => aops c all r s' k)
        | .tup [] => aops c all r (s.put o.dst undefA) k
        | _ => stk)
      | none => stk)

/-! Variables of bytes whose slices are handed to a callee with effects: read from then on. -/
def frozenV (o : Nat) (p : List UInt8) (n : Nat) (v : AV) : AV :=
  match v with
  | .vsl a m => bif Nat.beq a o then (bif Nat.beq m n then .ro (.bytes p) else .top) else .vsl a m
  | v => lose o v
def St.freezeV (h0 : Nat) (s : St) (o : Nat) : St :=
  match hget s.hp o with
  | .var _ cs => bif Nat.ble h0 o && cs.all (isInt .u8) && Nat.ble cs.length 140737488355328 then
      (let s' := s.mapRefs (frozenV o (u8of cs) cs.length); ⟨s'.fr, hset s'.hp o .dead⟩) else s
  | _ => s
def St.freezeVs (h0 : Nat) (s : St) : List Nat → St
  | [] => s
  | o :: r => (s.freezeV h0 o).freezeVs h0 r
def vslsOf : List AV → List Nat
  | [] => []
  | .vsl o _ :: r => o :: vslsOf r
  | _ :: r => vslsOf r
def preV (c : Cfg) (o : Oper) (s : St) : St :=
  match o.op with
  | .call cl => (match cl.callee with
    | .value _ => s.freezeVs c.h0 (vslsOf (cl.args.toList.map (aval s.fr)))
    | _ => s)
  | _ => s
def aopsV (c : Cfg) : List Oper → St → (St → R) → R
  | [], s, k => k s
  | o :: r, s, k =>
    match o.guard with
    | none => astep stk c o (preV c o s) fun s' => aopsV c r s' k
    | some _ => stk
/-- A region's operations; where the configuration says so, with variables frozen ahead of calls. -/
def aopsW (c : Cfg) (id : Nat) (ops : List Oper) (s : St) (k : St → R) : R :=
  match mget c.jm (4000000 + id) with
  | some _ => aopsV stk c ops s k
  | none => aops stk c ops ops s k

inductive Ex where
  | normal | exit (id : Nat) | ret

def aiter (n : Nat) (f : St → (St → R) → R) (m : St → St) : St → R :=
  Nat.rec (fun _ => stk) (fun _ ih s => f s fun s' => ih (m s')) n

def keyOf : Code → Option Nat
  | .seq (.region i _ _) (.cond _ _ _) => some i
  | .block i _ => some (1000000 + i)
  | _ => none

def refine (fr : List AV) (c : Operand) (b : Bool) : List AV :=
  match c with
  | .tmp t => setN fr t (.bool b)
  | _ => fr

/-- An operation that leaves all objects as they are, or a call that hands on none of them. -/
def qstep (c : Cfg) (hp : List AObj) (ev : Operand → AV) (op : Op) (k : AV → R) : R :=
  match op with
  | .call cl => (match cl.callee with
    | .value f => (match target (ev f) with
      | some (f, caps) => (match sget c.sg f with
        | some (.pure go) => callPure stk c.tt hp (lentGo go) ((cl.args.toList.map ev).map deN ++ caps) fun r objs frz => (match objs, frz with
          | [], [] => k (mapv (shiftR hp.length) 3 r)
          | _, _ => stk)
        | _ => stk)
      | none => stk)
    | _ => rop stk c.tt hp ev op k)
  | op => rop stk c.tt hp ev op k

/-- The operations of a region of which the order is drawn. -/
def aopsQ (c : Cfg) (all : List Oper) : List Oper → St → (St → R) → R
  | [], s, k => k s
  | o :: r, s, k =>
    match o.guard with
    | none => qstep stk c s.hp (aval s.fr) o.op fun v => aopsQ c all r (s.put o.dst v) k
    | some (j, want) => (match dstOf all j with
      | some t => (match nth s.fr t with
        | .bool b => bif b then
            (match want with
              | true => qstep stk c s.hp (aval (setN s.fr t (.bool true))) o.op fun v => aopsQ c all r (St.put ⟨setN s.fr t (.bool true), s.hp⟩ o.dst v) k
              | false => aopsQ c all r (St.put ⟨setN s.fr t (.bool true), s.hp⟩ o.dst undefA) k)
          else
            (match want with
              | true => aopsQ c all r (St.put ⟨setN s.fr t (.bool false), s.hp⟩ o.dst undefA) k
              | false => qstep stk c s.hp (aval (setN s.fr t (.bool false))) o.op fun v => aopsQ c all r (St.put ⟨setN s.fr t (.bool false), s.hp⟩ o.dst v) k)
        | .tup [] => aopsQ c all r (s.put o.dst undefA) k
        | _ => stk)
      | none => stk)

/-- Nothing in it leads to an object. -/
def noRef : Nat → AV → Bool
  | _, .own _ => false
  | _, .sub _ _ _ => false
  | _, .ptr _ _ => false
  | _, .aptr _ _ _ => false
  | _, .mapo _ => false
  | _, .vsl _ _ => false
  | n + 1, .agg l => l.all (noRef n)
  | n + 1, .tup l => l.all (noRef n)
  | n + 1, .fn _ l => l.all (noRef n)
  | n + 1, .iface _ v => noRef n v
  | _, _ => true
def keepsNo (op : Op) (v : AV) : Bool :=
  match op with
  | .call _ => noRef 3 v
  | _ => true

/-- The operations of a region of which the order is drawn, with one new variable, which is written once. -/
def aopsD (c : Cfg) (hp0 : List AObj) : List Oper → St → (St → R) → R
  | [], s, k => k s
  | o :: r, s, k =>
    match o.guard with
    | some _ => stk
    | none => (match o.op with
      | .alloc _ => astep stk c o s fun s' => aopsD c hp0 r s' k
      | .store _ _ _ => astep stk c o s fun s' => aopsD c hp0 r s' k
      | op => qstep stk c hp0 (aval s.fr) op fun v => bif keepsNo op v then aopsD c hp0 r (s.put o.dst v) k else stk)

/-- Which operations stand ahead of each, as the bits of a number. -/
def bindsA (e : Edge) : Bool :=
  match e.ground with
  | .textOnly _ => false
  | .gcOnly _ => false
  | _ => true
def nthN : List Nat → Nat → Nat
  | [], _ => 0
  | a :: _, 0 => a
  | _ :: r, n + 1 => nthN r n
def bitN (m i : Nat) : Bool := Nat.beq (Nat.land (Nat.shiftRight m i) 1) 1
def befOf (acc : List Nat) : List Edge → Nat
  | [] => 0
  | e :: r => bif bindsA e then Nat.lor (Nat.lor (Nat.pow 2 e.on) (nthN acc e.on)) (befOf acc r) else befOf acc r
def befs : List Oper → List Nat → List Nat
  | [], acc => acc
  | o :: r, acc => befs r (acc ++ [befOf acc o.after.toList])
def slotOf (all : List Oper) (o : Oper) : List Nat :=
  match o.guard with
  | some (j, _) => (match dstOf all j with
    | some t => [t]
    | none => [])
  | none => []
def tmpOf : Operand → List Nat
  | .tmp t => [t]
  | _ => []
def readsOf (all : List Oper) (o : Oper) : List Nat := slotOf all o ++ o.op.operands.toList.flatMap tmpOf
def namesOf (all : List Oper) (o : Oper) : List Nat :=
  match o.dst with
  | some d => d :: readsOf all o
  | none => readsOf all o
def apartN (B : List Nat) (names : List Nat) (j : Nat) : List Oper → Nat → Bool
  | [], _ => true
  | o :: r, i => (match o.dst with
    | some d => bif memN names d then bif Nat.beq i j then true else bif Nat.blt i j then bitN (nthN B j) i else bitN (nthN B i) j else true
    | none => true) && apartN B names j r (i + 1)
def backN (j : Nat) : List Edge → Bool
  | [] => true
  | e :: r => (bif bindsA e then Nat.blt e.on j else true) && backN j r
def drawAll (B : List Nat) (all : List Oper) : List Oper → Nat → Bool
  | [], _ => true
  | o :: r, j => backN j o.after.toList && apartN B (namesOf all o) j all 0 && drawAll B all r (j + 1)
def drawOk (ops : List Oper) : Bool := drawAll (befs ops []) ops ops 0
def allocDst : List Oper → Option Nat
  | [] => none
  | o :: r => match o.op with
    | .alloc _ => o.dst
    | _ => allocDst r
/-- One variable is made, then written; nothing else has to do with it. -/
def dshape (all : List Oper) (d : Nat) : List Oper → Nat → Bool
  | [], st => Nat.beq st 2
  | o :: r, st => match o.op with
    | .alloc _ => (match o.dst with
      | some d' => bif Nat.beq d' d && Nat.beq st 0 then dshape all d r 1 else false
      | none => false)
    | .store _ (.tmp p) x => (match o.dst with
      | some _ => false
      | none => bif Nat.beq p d && Nat.beq st 1 && !(memN (tmpOf x) d) then dshape all d r 2 else false)
    | .store _ _ _ => false
    | _ => bif memN (namesOf all o) d then false else dshape all d r st

/-! ### Regions of which the order is drawn, whose operations make and change own objects -/

/-- References by other numbers; those without a number are lost. -/
def refMap (g : Nat → Option Nat) : AV → AV
  | .own o => (match g o with | some i => .own i | none => .top)
  | .sub o a n => (match g o with | some i => .sub i a n | none => .top)
  | .ptr o a => (match g o with | some i => .ptr i a | none => .top)
  | .aptr o i a => (match g o with | some j => .aptr j i a | none => .top)
  | .mapo o => (match g o with | some i => .mapo i | none => .top)
  | .vsl o m => (match g o with | some i => .vsl i m | none => .top)
  | v => v
def inO (O : List Nat) (o : Nat) : Option Nat := bif memN O o then some o else none
/-- The objects of the list, and new ones, which get places from 'base' on. -/
def plN (O : List Nat) (N base o : Nat) : Option Nat := bif Nat.blt o N then inO O o else some (base + (o - N))
def inPl (base cnt i : Nat) : Bool := Nat.ble base i && Nat.blt i (base + cnt)
def keepS (g : Nat → Option Nat) (S : List Nat) : List AV → Nat → List AV
  | [], _ => []
  | v :: r, i => (bif memN S i then mapv (refMap g) 4 v else .top) :: keepS g S r (i + 1)
def keepO (g : Nat → Option Nat) (O : List Nat) : List AObj → Nat → List AObj
  | [], _ => []
  | x :: r, i => (bif memN O i then mapObj (refMap g) x else .dead) :: keepO g O r (i + 1)
def onlyO (O : List Nat) : List AObj → Nat → List AObj
  | [], _ => []
  | x :: r, i => (bif memN O i then x else .dead) :: onlyO O r (i + 1)
def mergeS (g : Nat → Option Nat) (W : List Nat) (ys : List AV) : List AV → Nat → List AV
  | [], _ => []
  | x :: r, i => (bif memN W i then mapv (refMap g) 4 (nth ys i) else x) :: mergeS g W ys r (i + 1)
/-- References to these are lost. -/
def offN (O : List Nat) (base cnt o : Nat) : Option Nat := bif memN O o || (Nat.ble base o && Nat.blt o (base + cnt)) then none else some o
def mergeO (g : Nat → Option Nat) (O WO : List Nat) (N base cnt : Nat) (ys : List AObj) : List AObj → Nat → List AObj
  | [], _ => []
  | x :: r, i => (bif memN O i then mapObj (refMap g) (hget ys i) else bif inPl base cnt i then mapObj (refMap g) (hget ys (N + (i - base))) else bif memN WO i then mapObj (refMap (offN O base cnt)) x else x) :: mergeO g O WO N base cnt ys r (i + 1)
/-- Every reference in it is such. -/
def cleanV (B : AV → Bool) : Nat → AV → Bool
  | _, .own o => B (.own o)
  | _, .sub o a n => B (.sub o a n)
  | _, .ptr o a => B (.ptr o a)
  | _, .aptr o i a => B (.aptr o i a)
  | _, .mapo o => B (.mapo o)
  | _, .vsl o m => B (.vsl o m)
  | n + 1, .agg l => l.all (cleanV B n)
  | n + 1, .tup l => l.all (cleanV B n)
  | n + 1, .fn _ l => l.all (cleanV B n)
  | n + 1, .iface _ v => cleanV B n v
  | 0, .agg _ => false
  | 0, .tup _ => false
  | 0, .fn _ _ => false
  | 0, .iface _ _ => false
  | _, _ => true
/-- It leads to none of these rows, and to no new place. -/
def offR (O : List Nat) (base cnt : Nat) : AV → Bool
  | .own o => !(memN O o) && !(inPl base cnt o)
  | .sub o _ _ => !(memN O o) && !(inPl base cnt o)
  | .aptr o _ _ => !(memN O o) && !(inPl base cnt o)
  | .ptr o _ => !(inPl base cnt o)
  | .mapo o => !(inPl base cnt o)
  | .vsl o m => !(inPl base cnt o)
  | _ => true
/-- What lies at a place: a slot's value or an object. -/
inductive XV where
  | v (a : AV)
  | o (x : AObj)
def cleanX (B : AV → Bool) : XV → Bool
  | .v a => cleanV B 4 a
  | .o (.var _ cs) => cs.all (cleanV B 3)
  | .o _ => true
/-- Slots have even numbers, objects odd ones. -/
def getX (s : St) (n : Nat) : Option XV := bif Nat.beq (n % 2) 0 then (s.fr[n / 2]?).map .v else (s.hp[n / 2]?).map .o
/-- What an operation reads and writes. -/
structure XRec where
  S : List Nat
  W : List Nat
  O : List Nat
  WO : List Nat
  q : Bool
  qc : Bool
  base : Nat
  cnt : Nat
def spanN (base : Nat) : Nat → List Nat
  | 0 => []
  | n + 1 => spanN base n ++ [base + n]
def dbl (n : Nat) : Nat := 2 * n
def dbl1 (n : Nat) : Nat := 2 * n + 1
def XRec.rd (r : XRec) : List Nat := r.S.map dbl ++ r.O.map dbl1
def XRec.wr (r : XRec) : List Nat := r.W.map dbl ++ (bif r.q then [] else (r.O ++ r.WO ++ spanN r.base r.cnt).map dbl1)
/-- It reads objects at most. -/
def quietX (op : Op) : Bool :=
  match op with
  | .alloc _ => false
  | .box _ _ => false
  | .buildSlice _ _ _ => false
  | .makeSlice _ _ _ => false
  | .store _ _ _ => false
  | .call cl => (match cl.callee with
    | .builtin .append => false
    | .value _ => false
    | _ => true)
  | _ => true
/-- For how many new objects it gets places. -/
def cntOf (op : Op) : Nat :=
  match op with
  | .alloc _ => 1
  | .box _ _ => 1
  | .buildSlice _ _ _ => 1
  | .makeSlice _ _ _ => 1
  | .call cl => (match cl.callee with
    | .builtin .append => 1
    | .value _ => 4
    | _ => 0)
  | _ => 0
def dstL (o : Oper) : List Nat := match o.dst with
  | some d => [d]
  | none => []
/-- Does it read objects? -/
def readO (op : Op) (refs : List Nat) : List Nat :=
  match op with
  | .load _ _ => refs
  | .indexAddr _ _ _ => refs
  | .slice _ _ _ _ _ => refs
  | .sliceToArrayPointer _ _ => refs
  | .convert _ _ _ => refs
  | .call _ => refs
  | _ => []
def emptyN : List Nat → Bool
  | [] => true
  | _ => false
/-- A call that only reads, of own rows: the answer's rows are read only. -/
def scalarT : AT → Bool
  | .bool => true
  | .int _ => true
  | .str => true
  | .array _ _ => true
  | _ => false
def ownCall (c : Cfg) (fr : List AV) (o : Oper) : Bool :=
  isTy c.tt o.type scalarT && match o.op with
  | .call cl => (match cl.callee with
    | .value f => (match target (aval fr f) with
      | some (g, caps) => (match sget c.sg g with
        | some (.pure _) => !(emptyN ((cl.args.toList.map (aval fr) ++ caps).flatMap (ownIn 3)))
        | _ => false)
      | none => false)
    | _ => false)
  | _ => false
def leadsO (O : List Nat) : AV → Bool
  | .own o => memN O o
  | .sub o _ _ => memN O o
  | .ptr o _ => memN O o
  | .aptr o _ _ => memN O o
  | .mapo o => memN O o
  | .vsl o m => memN O o
  | _ => true
/-- Slots that lead to the same objects alone: kept too, where the configuration says so. -/
def moreS (c : Cfg) (X : St) (S O : List Nat) : List Nat :=
  match mget c.jm 3000000 with
  | some _ => (spanN 0 X.fr.length).filter fun t => !(memN S t) && !(cleanV (fun _ => false) 4 (nth X.fr t)) && cleanV (leadsO O) 4 (nth X.fr t)
  | none => []
def xrec (c : Cfg) (all : List Oper) (o : Oper) (base : Nat) (X : St) : XRec :=
  let S := readsOf all o
  let refs := S.flatMap fun t => refsIn 4 (nth X.fr t)
  bif quietX o.op then ⟨S, dstL o, readO o.op refs, [], true, false, base, 0⟩
  else bif ownCall c X.fr o then ⟨S, dstL o, refs, [], true, true, base, 0⟩
  else
    let O := reach X.hp 200 refs []
    let S2 := S ++ moreS c X S O
    ⟨S2, dstL o ++ S2.filter (fun t => !(cleanV (fun _ => false) 4 (nth X.fr t))) ++ (spanN 0 X.fr.length).filter (fun t => !(cleanV (offR O base (cntOf o.op)) 4 (nth X.fr t))), O,
      (spanN 0 X.hp.length).filter (fun i => !(memN O i) && !(cleanX (offR O base (cntOf o.op)) (.o (hget X.hp i)))), false, false, base, cntOf o.op⟩
def deadAt (O : List Nat) (hp : List AObj) (base : Nat) : Nat → Bool
  | 0 => true
  | n + 1 => (match hp[base + n]? with
    | some .dead => !(memN O (base + n))
    | _ => false) && deadAt O hp base n
/-- One operation, by what it reads alone; all else stays. -/
def xstep (c : Cfg) (r : XRec) (o : Oper) (X : St) (k : St → R) : R :=
  bif r.q then
    bif r.qc then
      bif r.S.all (fun t => cleanV (leadsO r.O) 4 (nth X.fr t)) then qstep stk c (onlyO r.O X.hp 0) (aval (keepS some r.S X.fr 0)) o.op fun v => k (X.put o.dst v) else stk
    else rop stk c.tt (onlyO r.O X.hp 0) (aval (keepS some r.S X.fr 0)) o.op fun v => k (X.put o.dst v)
  else bif deadAt r.O X.hp r.base r.cnt then
    astep stk c o ⟨keepS (inO r.O) r.S X.fr 0, keepO (inO r.O) r.O X.hp 0⟩ fun Y =>
      bif Nat.ble Y.hp.length (X.hp.length + r.cnt) then
        k ⟨mergeS (plN r.O X.hp.length r.base) r.W Y.fr X.fr 0, mergeO (plN r.O X.hp.length r.base) r.O r.WO X.hp.length r.base r.cnt Y.hp X.hp 0⟩ else stk
    else stk
def outsX (X : St) : List Nat → List (Nat × XV)
  | [] => []
  | n :: r => (match getX X n with
    | some x => bif cleanX (fun _ => false) x then outsX X r else (n, x) :: outsX X r
    | none => outsX X r)
abbrev XLog := List (XRec × List (Nat × XV))
/-- The operations in the order of the text, with what each reads and writes. -/
def aopsX (c : Cfg) (all : List Oper) : List Oper → Nat → XLog → St → (XLog → St → R) → R
  | [], _, log, X, k => k log X
  | o :: r, base, log, X, k =>
    let e := xrec c all o base X
    let next := fun Y => aopsX c all r (base + cntOf o.op) (log ++ [(e, outsX Y e.wr)]) Y k
    match o.guard with
    | none => xstep stk c e o X next
    | some (j, want) => (match dstOf all j with
      | some t => (match nth X.fr t with
        | .bool b => bif b then
            (match want with
              | true => xstep stk c e o ⟨setN X.fr t (.bool true), X.hp⟩ next
              | false => next (St.put ⟨setN X.fr t (.bool true), X.hp⟩ o.dst undefA))
          else
            (match want with
              | true => next (St.put ⟨setN X.fr t (.bool false), X.hp⟩ o.dst undefA)
              | false => xstep stk c e o ⟨setN X.fr t (.bool false), X.hp⟩ next)
        | .tup [] => next (X.put o.dst undefA)
        | _ => stk)
      | none => stk)
def meetsN (l m : List Nat) : Bool := l.any (memN m)
/-- What one writes stands ahead of or behind what the other reads or writes. -/
def apartX (B : List Nat) (names : List Nat) (j : Nat) : XLog → Nat → Bool
  | [], _ => true
  | e :: r, i => (bif meetsN e.1.wr names then bif Nat.beq i j then true else bif Nat.blt i j then bitN (nthN B j) i else bitN (nthN B i) j else true) && apartX B names j r (i + 1)
def drawAllX (B : List Nat) (log : XLog) : XLog → Nat → Bool
  | [], _ => true
  | e :: r, j => apartX B (e.1.rd ++ e.1.wr) j log 0 && drawAllX B log r (j + 1)
def backAll : List Oper → Nat → Bool
  | [], _ => true
  | o :: r, j => backN j o.after.toList && backAll r (j + 1)
/-- It is written anew by one that stands ahead of the operation with these bits. -/
def laterW (b n : Nat) : XLog → Nat → Nat → Bool
  | [], _, _ => false
  | e :: r, k, i => (Nat.ble k i && memN e.1.wr n && bitN b i) || laterW b n r k (i + 1)
/-- A value that lay at place n ahead of operation k, as operation j may find it. -/
def evOk (B : List Nat) (log : XLog) (j : Nat) (r : XRec) (k : Nat) (e : Nat × XV) : Bool :=
  memN (r.rd ++ r.wr) e.1 || cleanX (offR r.O r.base r.cnt) e.2 || (Nat.blt 0 k && bitN (nthN B (k - 1)) j) || laterW (nthN B j) e.1 log k 0
def evsOk (B : List Nat) (log : XLog) (j : Nat) (r : XRec) : XLog → Nat → Bool
  | [], _ => true
  | e :: l, k => e.2.all (evOk B log j r k) && evsOk B log j r l (k + 1)
def evAll (B : List Nat) (evs0 : List (Nat × XV)) (log : XLog) : XLog → Nat → Bool
  | [], _ => true
  | e :: l, j => (e.1.q || (evs0.all (evOk B log j e.1 0) && evsOk B log j e.1 log 1)) && evAll B evs0 log l (j + 1)
def locsX (s : St) : List Nat := (spanN 0 s.fr.length).map dbl ++ (spanN 0 s.hp.length).map dbl1
def cntAll : List Oper → Nat
  | [] => 0
  | o :: r => cntOf o.op + cntAll r
def padX (s : St) (n : Nat) : St := ⟨s.fr, s.hp ++ List.replicate n .dead⟩
def aregX (c : Cfg) (ops : List Oper) (s : St) (k : St → R) : R :=
  aopsX stk c ops ops s.hp.length [] (padX s (cntAll ops)) fun log Y =>
    bif backAll ops 0 && drawAllX (befs ops []) log log 0 && evAll (befs ops []) (outsX (padX s (cntAll ops)) (locsX (padX s (cntAll ops)))) log log 0 then k (St.gc Y c.h0) else stk
def loudOp (op : Op) : Bool :=
  match op with
  | .box _ _ => true
  | .buildSlice _ _ _ => true
  | .makeSlice _ _ _ => true
  | .call cl => (match cl.callee with
    | .builtin .append => true
    | _ => false)
  | _ => false
def isStore (op : Op) : Bool :=
  match op with
  | .store _ _ _ => true
  | _ => false
def useX (c : Cfg) (id : Nat) (ops : List Oper) : Bool := ops.any (fun o => loudOp o.op) || (match allocDst ops with
  | none => ops.any fun o => isStore o.op
  | some d => !(dshape ops d ops 0)) || (match mget c.jm (2000000 + id) with
  | some _ => true
  | none => false)

def cntT : Tab → Nat → Nat
  | [], _ => 0
  | (a, _) :: r, t => bif Nat.beq a t then cntT r t + 1 else cntT r t
/-- A long array of whole numbers: or one whose type the table holds twice; none whose type it holds three times. -/
def bigArr (tt : Tab) (T : Nat) : Option IntKind :=
  match tget tt T with
  | some e => (match e.d with
    | .array n E => bif (Nat.ble 48 n && Nat.blt (cntT tt T) 3) || Nat.beq (cntT tt T) 2 then (match tget tt E with
      | some e2 => (match e2.d with
        | .int k => some k
        | _ => none)
      | none => none) else none
    | _ => none)
  | none => none
/-- Variables of long arrays of whole numbers hold a list of these. -/
def bigL (tt : Tab) : List AObj → (List AObj → R) → R
  | [], k => k []
  | .var T cs :: r, k => (match bigArr tt T with
    | some kk => bif cs.all (isInt kk) then bigL tt r (fun r' => k (.vara T kk (cs.map intOf) :: r')) else stk
    | none => bigL tt r fun r' => k (.var T cs :: r'))
  | o :: r, k => bigL tt r fun r' => k (o :: r')
def bigK (tt : Tab) (s : St) (k : St → R) : R := bigL stk tt s.hp fun hp => k ⟨s.fr, hp⟩

def acode (c : Cfg) : Code → Nat → St → (Ex → St → R) → R
  | .skip, _, s, k => k .normal s
  | .region id ops draw, _, s, k => bif draw then bif useX c id ops.toList then aregX stk c ops.toList s (fun s' => bigK stk c.tt s' fun s'' => k .normal s'') else bif drawOk ops.toList then (match allocDst ops.toList with
      | none => aopsQ stk c ops.toList ops.toList s (fun s' => bigK stk c.tt s' fun s'' => k .normal s'')
      | some d => bif Nat.blt d s.fr.length && dshape ops.toList d ops.toList 0 then aopsD stk c s.hp ops.toList s (fun s' => bigK stk c.tt s' fun s'' => k .normal s'') else stk) else stk else aopsW stk c id ops.toList s fun s' => bigK stk c.tt s' fun s'' => k .normal s''
  | .seq a b, n, s, k => acode c a n s fun e s' =>
      match e with
      | .normal => acode c b n (match keyOf a with | some i => maskAt c.tt c.h0 c.jm i s' | none => s') k
      | e => k e s'
  | .cond x a b, n, s, k =>
    (match aval s.fr x with
    | .bool t => bif t then acode c a n ⟨refine s.fr x true, s.hp⟩ k else acode c b n ⟨refine s.fr x false, s.hp⟩ k
    | _ => stk)
  | .block id b, _, s, k => acode c b id s fun e s' =>
      match e with
      | .exit j => bif Nat.beq j id then k .normal s' else k (.exit j) s'
      | e => k e s'
  | .loop b, n, s, k => aiter stk c.F (fun s kn => acode c b n s fun e s' =>
      match e with
      | .normal => kn s'
      | e => k e s') (maskAt c.tt c.h0 c.lm n) (maskAt c.tt c.h0 c.lm n s)
  | .scope b, n, s, k => acode c b n s k
  | .exit id, _, s, k => k (.exit id) s
  | .ret, _, s, k => k .ret s
  | _, _, _, _ => stk

/-- The round of the loop in block 'id', with what follows behind it; 'fs': how many rounds the loops around it have left. -/
def loopIn (c : Cfg) (id : Nat) : Code → Nat → List Nat → (Ex → St → R) → Option (St → (St → R) → R)
  | .seq a b, n, fs, k =>
    (match loopIn c id a n fs (fun e s' =>
      match e with
      | .normal => acode stk c b n (match keyOf a with | some i => maskAt c.tt c.h0 c.jm i s' | none => s') k
      | e => k e s') with
    | some f => some f
    | none => loopIn c id b n fs k)
  | .cond _ a b, n, fs, k =>
    (match loopIn c id a n fs k with
    | some f => some f
    | none => loopIn c id b n fs k)
  | .block j b, _, fs, k => loopIn c id b j fs fun e s' =>
      match e with
      | .exit i => bif Nat.beq i j then k .normal s' else k (.exit i) s'
      | e => k e s'
  | .loop b, n, fs, k =>
    let f : St → (St → R) → R := fun s kn => acode stk c b n s fun e s' =>
      match e with
      | .normal => kn s'
      | e => k e s'
    bif Nat.beq n id then some f else (match fs with
      | [] => none
      | g :: gs => loopIn c id b n gs fun e s' =>
        match e with
        | .normal => aiter stk g f (maskAt c.tt c.h0 c.lm n) (maskAt c.tt c.h0 c.lm n s')
        | e => k e s')
  | .scope b, n, fs, k => loopIn c id b n fs k
  | _, _, _, _ => none

end cps

inductive Res where
  | stuck
  | ret (v : AV) (hp : List AObj)

def resVals (tt : Tab) (fr : List AV) (hp : List AObj) : List ResultVar → Option (List AV)
  | [] => some []
  | .tmp t :: r => match resVals tt fr hp r with
    | some l => some (nth fr t :: l)
    | none => none
  | .cell x t :: r => match nth fr x with
    | .ptr o off => (match hget hp o with
      | .vara _ kk l => (match ldArr (R := Option AV) none tt t kk l off some with
        | some v => (match resVals tt fr hp r with
          | some l => some (v :: l)
          | none => none)
        | none => none)
      | .var _ cs => (match ldVar (R := Option AV) none tt t cs off some with
        | some v => (match resVals tt fr hp r with
          | some l => some (v :: l)
          | none => none)
        | none => none)
      | _ => none)
    | _ => none

def resVal (tt : Tab) (fr : List AV) (hp : List AObj) (rs : List ResultVar) : Option AV :=
  match resVals tt fr hp rs with
  | some [v] => some v
  | some l => some (.tup l)
  | none => none

def padTo : Nat → List AV → List AV
  | 0, _ => []
  | n + 1, [] => undefA :: padTo n []
  | n + 1, a :: r => a :: padTo n r

/-- The end of a function. -/
def aend (tt : Tab) (fn : Func) (e : Ex) (s : St) : Res :=
  match e with
  | .exit _ => .stuck
  | _ => match resVal tt s.fr s.hp fn.results.toList with
    | some v => .ret v s.hp
    | none => .stuck

/-- What a function comes to. -/
def afun (c : Cfg) (fn : Func) (args : List AV) (hp : List AObj) : Res :=
  match fn.body with
  | some body => bif Nat.ble args.length fn.ntmps then acode Res.stuck c body 0 ⟨padTo fn.ntmps args, hp⟩ (aend c.tt fn) else .stuck
  | none => .stuck

/-- The function from the head of a loop on, 'k' rounds left. -/
def aloop (c : Cfg) (fn : Func) (id : Nat) (fs : List Nat) (k : Nat) (s : St) : Res :=
  match fn.body with
  | some body => (match loopIn Res.stuck c id body 0 fs (aend c.tt fn) with
    | some f => aiter Res.stuck k f (maskAt c.tt c.h0 c.lm id) s
    | none => .stuck)
  | none => .stuck

/-- What a function that only reads and answers comes to: the answer, and its own objects that the answer leads to. -/
def apure (c : Cfg) (fn : Func) (args : List AV) : Option (AV × List AObj) :=
  match afun c fn args [] with
  | .ret v hp => let s := St.gc ⟨[v], hp⟩ 0; some (nth s.fr 0, s.hp)
  | .stuck => none

/-- What a function that may change the objects that it is handed comes to. -/
def aeff (c : Cfg) (fn : Func) (args : List AV) (hp : List AObj) : Option (AV × List AObj) :=
  bif hp.all (objFits c.tt) && Nat.beq hp.length c.h0 then
    (match afun c fn args hp with
    | .ret v hp' => let s := St.gc ⟨[v], hp'⟩ c.h0; some (nth s.fr 0, s.hp)
    | .stuck => none) else none
end Go.Proofs.YtmkgmlgklggnlaaGm

namespace Go.Proofs.YtmkgmlgklggnlaaGm

section
variable {R : Type} (stk : R) {tt : Tab} {hp : List AObj}

theorem elim_cond {α : Type} (c : Bool) (x y : Option α) (k : α → R) : (bif c then x else y).elim stk k = bif c then x.elim stk k else y.elim stk k := by cases c <;> rfl

theorem eqlIs_cps (op : BinOp) (b : Bool) (k : AV → R) : eqlIs stk op b k = (eqlIs (R := Option AV) none op b some).elim stk k := by
  cases op <;> rfl

theorem abin_cps (t : Nat) (op : BinOp) (x y : AV) (k : AV → R) : abin stk tt t op x y k = (abin (R := Option AV) none tt t op x y some).elim stk k := by
  unfold abin
  split
  all_goals first
    | (cases op <;> first | rfl | (simp only [elim_cond]; rfl))
    | (simp only [elim_cond]; rw [eqlIs_cps]; rfl)
    | rfl
    | (split <;> first | rfl | (simp only [elim_cond]; rw [eqlIs_cps]; rfl))
    | (split <;> first | rfl | (split <;> first | rfl | (simp only [elim_cond]; rw [eqlIs_cps]; rfl)))

theorem aun_cps (op : UnOp) (x : AV) (k : AV → R) : aun stk op x k = (aun (R := Option AV) none op x some).elim stk k := by
  unfold aun; split <;> rfl

theorem aconv_cps (s d : Nat) (x : AV) (k : AV → R) : aconv stk tt hp s d x k = (aconv (R := Option AV) none tt hp s d x some).elim stk k := by
  unfold aconv
  split
  · split
    · rfl
    · rfl
    · split <;> rfl
    · split <;> rfl
    · rfl
  · rfl

theorem eta1_cps (t : Nat) (v : AV) (k : AV → R) : eta1 stk tt t v k = (eta1 (R := Option AV) none tt t v some).elim stk k := by
  unfold eta1
  split
  · split <;> first | rfl | (simp only [elim_cond]; rfl)
  · rfl

theorem etaL_cps {R : Type} (stk : R) (ls : List AV) : ∀ (ts : List Nat) (i : Nat) (k : List AV → R), etaL stk tt ls ts i k = (etaL (R := Option (List AV)) none tt ls ts i some).elim stk k
  | [], i, k => rfl
  | t :: ts, i, k => by
    simp only [etaL]
    have e1 := eta1_cps (tt := tt) stk t (nth ls i) fun v => etaL stk tt ls ts (i + 1) fun vs => k (v :: vs)
    have e2 := eta1_cps (tt := tt) (R := Option (List AV)) none t (nth ls i) fun v => etaL none tt ls ts (i + 1) fun vs => some (v :: vs)
    rw [e1, e2]
    cases eta1 (R := Option AV) none tt t (nth ls i) some with
    | none => rfl
    | some v =>
      have f1 := etaL_cps stk ls ts (i + 1) fun vs => k (v :: vs)
      have f2 := etaL_cps (R := Option (List AV)) none ls ts (i + 1) fun vs => some (v :: vs)
      simp only [Option.elim]
      rw [f1, f2]
      cases etaL (R := Option (List AV)) none tt ls ts (i + 1) some <;> rfl

theorem aindexAddr_cps (t : Nat) (x i : AV) (k : AV → R) : aindexAddr stk tt hp t x i k = (aindexAddr (R := Option AV) none tt hp t x i some).elim stk k := by
  unfold aindexAddr
  split
  · split
    · simp only [elim_cond]; rfl
    · split
      · simp only [elim_cond]; rfl
      · rfl
    · split
      · simp only [elim_cond]; rfl
      · rfl
    · split
      · simp only [elim_cond]; rfl
      · rfl
    · split
      · simp only [elim_cond]; rfl
      · rfl
    · split
      · simp only [elim_cond]; rfl
      · rfl
    · rfl
  · rfl

theorem aindex_cps (t : Nat) (x i : AV) (k : AV → R) : aindex stk tt t x i k = (aindex (R := Option AV) none tt t x i some).elim stk k := by
  unfold aindex
  split
  · split
    · simp only [elim_cond]; rfl
    · split
      · simp only [elim_cond]; rw [eta1_cps]; rfl
      · rfl
    · rfl
  · rfl

theorem notTop_cps (v : AV) (k : AV → R) : notTop stk v k = (notTop (R := Option AV) none v some).elim stk k := by
  unfold notTop; split <;> rfl

theorem ldVar_cps (t : Nat) (cs : List AV) (off : Nat) (k : AV → R) : ldVar stk tt t cs off k = (ldVar (R := Option AV) none tt t cs off some).elim stk k := by
  unfold ldVar
  split
  · split
    · simp only [elim_cond]; rfl
    · simp only [elim_cond]; rfl
    · exact eta1_cps ..
    · exact eta1_cps ..
    · exact eta1_cps ..
    · rfl
    · exact notTop_cps ..
  · rfl

theorem ldArr_cps (t : Nat) (kk : IntKind) (l : List Int) (off : Nat) (k : AV → R) : ldArr stk tt t kk l off k = (ldArr (R := Option AV) none tt t kk l off some).elim stk k := by
  unfold ldArr
  split
  · split
    · simp only [elim_cond]; rfl
    · simp only [elim_cond]; rfl
    · rfl
  · rfl
theorem ldSpan_cps (e : TyE) (p : Pay AV) (i off : Nat) (k : AV → R) : ldSpan stk tt e p i off k = (ldSpan (R := Option AV) none tt e p i off some).elim stk k := by
  unfold ldSpan
  split
  · simp only [elim_cond]; rfl
  · rfl
theorem asap_cps (t : Nat) (x : AV) (k : AV → R) : asap stk tt hp t x k = (asap (R := Option AV) none tt hp t x some).elim stk k := by
  unfold asap
  split
  · split
    · simp only [elim_cond]; rfl
    · split
      · simp only [elim_cond]; rfl
      · rfl
    · split
      · simp only [elim_cond]; rfl
      · rfl
    · rfl
  · rfl
theorem ldPay_cps (t : Nat) (p : Pay AV) (i off : Nat) (k : AV → R) : ldPay stk tt t p i off k = (ldPay (R := Option AV) none tt t p i off some).elim stk k := by
  unfold ldPay
  split
  · rename_i e _
    cases (Nat.ble (off + e.size) p.sz && Nat.blt 0 e.size)
    · exact ldSpan_cps ..
    simp only [cond_true]
    split
    · rw [etaL_cps stk, etaL_cps (R := Option AV) none]
      cases etaL (R := Option (List AV)) none tt _ _ 0 some <;> rfl
    · cases isIntTy1 tt _
      · simp only [cond_false, elim_cond]; rfl
      · simp only [cond_true, elim_cond]; rfl
    · rfl
    · split
      · exact eta1_cps ..
      · rfl
  · rfl

theorem aload_cps (t : Nat) (a : AV) (k : AV → R) : aload stk tt hp t a k = (aload (R := Option AV) none tt hp t a some).elim stk k := by
  unfold aload
  split
  · split
    · exact ldVar_cps ..
    · exact ldArr_cps ..
    · rfl
  · exact ldPay_cps ..
  · split
    · exact ldPay_cps ..
    · rfl
  · rfl

theorem afieldAddr_cps (s f : Nat) (x : AV) (k : AV → R) : afieldAddr stk tt s f x k = (afieldAddr (R := Option AV) none tt s f x some).elim stk k := by
  unfold afieldAddr
  split
  · split
    · rw [elim_cond]; congr 1; split <;> rfl
    · rfl
  · rfl

theorem afield_cps (s f : Nat) (x : AV) (k : AV → R) : afield stk tt s f x k = (afield (R := Option AV) none tt s f x some).elim stk k := by
  unfold afield
  split
  · split
    · split
      · rfl
      · simp only [elim_cond]; rfl
      · exact notTop_cps ..
    · rfl
  · rfl

theorem aslice_cps (t : Nat) (x : AV) (lo hi : Option AV) (k : AV → R) : aslice stk tt hp t x lo hi k = (aslice (R := Option AV) none tt hp t x lo hi some).elim stk k := by
  unfold aslice
  split
  · split
    · split
      · simp only [elim_cond]; rfl
      · rfl
    · split
      · simp only [elim_cond]; rfl
      · rfl
    · split
      · split
        · simp only [elim_cond]; rfl
        · rfl
      · rfl
    · split
      · split
        · simp only [elim_cond]; rfl
        · rfl
      · rfl
    · split
      · simp only [elim_cond]; rfl
      · rfl
    · split
      · simp only [elim_cond]; rfl
      · rfl
    · rfl
  · rfl

theorem alen_cps (t : Nat) (x : AV) (k : AV → R) : alen stk tt hp t x k = (alen (R := Option AV) none tt hp t x some).elim stk k := by
  unfold alen
  split
  · split
    · rfl
    · rfl
    · split <;> rfl
    · simp only [elim_cond]; rfl
    · rfl
  · rfl

theorem amin2_cps (x y : AV) (k : AV → R) : amin2 stk x y k = (amin2 (R := Option AV) none x y some).elim stk k := by
  unfold amin2; split
  · simp only [elim_cond]; rfl
  · rfl
theorem amax2_cps (x y : AV) (k : AV → R) : amax2 stk x y k = (amax2 (R := Option AV) none x y some).elim stk k := by
  unfold amax2; split
  · simp only [elim_cond]; rfl
  · rfl

theorem afoldm_min_cps : ∀ (l : List AV) (x : AV) (k : AV → R), afoldm (amin2 stk) x l k = (afoldm (amin2 (R := Option AV) none) x l some).elim stk k
  | [], _, _ => rfl
  | y :: l, x, k => by
    simp only [afoldm]
    have e1 := amin2_cps stk x y fun z => afoldm (amin2 stk) z l k
    have e2 := amin2_cps (R := Option AV) none x y fun z => afoldm (amin2 none) z l some
    rw [e1, e2]
    cases amin2 (R := Option AV) none x y some with
    | none => rfl
    | some v => exact afoldm_min_cps l v k
theorem afoldm_max_cps : ∀ (l : List AV) (x : AV) (k : AV → R), afoldm (amax2 stk) x l k = (afoldm (amax2 (R := Option AV) none) x l some).elim stk k
  | [], _, _ => rfl
  | y :: l, x, k => by
    simp only [afoldm]
    have e1 := amax2_cps stk x y fun z => afoldm (amax2 stk) z l k
    have e2 := amax2_cps (R := Option AV) none x y fun z => afoldm (amax2 none) z l some
    rw [e1, e2]
    cases amax2 (R := Option AV) none x y some with
    | none => rfl
    | some v => exact afoldm_max_cps l v k

theorem apick_cps (c a b : AV) (k : AV → R) : apick stk c a b k = (apick (R := Option AV) none c a b some).elim stk k := by
  unfold apick; split
  · simp only [elim_cond]; rfl
  · rfl

theorem abuild_cps (t : Nat) (parts : List (Nat × AV)) (k : AV → R) : abuild stk tt t parts k = (abuild (R := Option AV) none tt t parts some).elim stk k := by
  unfold abuild
  split
  · split
    · rw [elim_cond]; congr 1
      split <;> rfl
    · split
      · rw [elim_cond]; congr 1
        split
        · simp only [elim_cond]; rfl
        · rfl
      · rfl
    · rfl
  · rfl

theorem rop_cps (ev : Operand → AV) (op : Op) (k : AV → R) : rop stk tt hp ev op k = (rop (R := Option AV) none tt hp ev op some).elim stk k := by
  unfold rop
  split
  · rfl
  · rfl
  · exact apick_cps ..
  · split <;> rfl
  · exact abin_cps ..
  · exact aun_cps ..
  · exact aconv_cps ..
  · split <;> rfl
  · exact aslice_cps ..
  · exact asap_cps ..
  · exact afieldAddr_cps ..
  · exact afield_cps ..
  · exact aindexAddr_cps ..
  · exact aindex_cps ..
  · exact aload_cps ..
  · split
    · simp only [elim_cond]; rfl
    · rfl
  · exact abuild_cps ..
  · split
    · split
      · exact alen_cps ..
      · rfl
    · split
      · exact afoldm_min_cps ..
      · rfl
    · split
      · exact afoldm_max_cps ..
      · rfl
    · rfl
  · rfl
end

/-- A function that is called answers in one way, whatever follows. -/
def PureCps (go : Ans) : Prop := ∀ (R : Type) (stk : R) (args : List AV) (k : AV → List AObj → R), go R stk args k = (go (Option (AV × List AObj)) none args fun r o => some (r, o)).elim stk fun x => k x.1 x.2

def EffCps (go : EAns) : Prop := ∀ (R : Type) (stk : R) (args : List AV) (hp : List AObj) (k : AV → List AObj → R), go R stk args hp k = (go (Option (AV × List AObj)) none args hp fun r o => some (r, o)).elim stk fun x => k x.1 x.2

def SpecsCps (sg : List (Nat × Spec)) : Prop := ∀ f s, sget sg f = some s → match s with
  | .pure go => PureCps go
  | .eff go => EffCps go

section
variable {R : Type} (stk : R) {tt : Tab} {hp : List AObj}

theorem PureCps.lent {go : Ans} (h : PureCps go) : PureCps (lentGo go) := by
  intro R stk args k
  have e1 := h R stk args fun r objs => k (mapv (lendL (ownIn 3 r) objs) 3 r) []
  have e2 := h (Option (AV × List AObj)) none args fun r objs => some (mapv (lendL (ownIn 3 r) objs) 3 r, [])
  unfold lentGo
  refine e1.trans ?_
  show _ = (go (Option (AV × List AObj)) none args fun r objs => some (mapv (lendL (ownIn 3 r) objs) 3 r, [])).elim stk fun x => k x.1 x.2
  rw [e2]
  cases go (Option (AV × List AObj)) none args (fun r o => some (r, o)) <;> rfl

theorem callPure_cps {go : Ans} (hg : PureCps go) (args : List AV) (k : AV → List AObj → List Nat → R) :
    callPure stk tt hp go args k = (callPure (R := Option (AV × List AObj × List Nat)) none tt hp go args fun r o l => some (r, o, l)).elim stk fun x => k x.1 x.2.1 x.2.2 := by
  unfold callPure
  cases args.all (vslIn hp) with
  | false => rfl
  | true =>
  simp only [cond_true]
  rw [hg R, hg (Option (AV × List AObj × List Nat))]
  cases go (Option (AV × List AObj)) none (args.map (lendA (args.flatMap (ownIn 3)) hp)) (fun r o => some (r, o)) with
  | none => rfl
  | some x =>
    simp only [Option.elim]
    cases x.2.all (objFits tt) && !((hasRo 3 x.1 || x.2.any objRo) && args.any isVsl) <;> rfl

theorem callEff_cps {go : EAns} (hg : EffCps go) (args : List AV) (ids : List Nat) (k : AV → List AObj → R) :
    callEff stk tt hp go args ids k = (callEff (R := Option (AV × List AObj)) none tt hp go args ids fun r o => some (r, o)).elim stk fun x => k x.1 x.2 := by
  unfold callEff
  rw [elim_cond]; congr 1
  have e1 := hg R stk (args.map (mapv (renum ids) 3)) (ids.map fun o => mapObj (renum ids) (hget hp o)) fun r hp' => bif hp'.all (objFits tt) && Nat.ble ids.length hp'.length then k r hp' else stk
  have e2 := hg (Option (AV × List AObj)) none (args.map (mapv (renum ids) 3)) (ids.map fun o => mapObj (renum ids) (hget hp o)) fun r hp' => bif hp'.all (objFits tt) && Nat.ble ids.length hp'.length then some (r, hp') else none
  refine e1.trans ((?_ : _ = _).trans (congrArg (fun z => Option.elim z stk fun x => k x.1 x.2) e2).symm)
  cases go (Option (AV × List AObj)) none (args.map (mapv (renum ids) 3)) (ids.map fun o => mapObj (renum ids) (hget hp o)) (fun r o => some (r, o)) with
  | none => rfl
  | some x =>
    simp only [Option.elim]
    cases (x.2.all (objFits tt) && Nat.ble ids.length x.2.length) <;> rfl

theorem aeffStep_cps {go : EAns} (hg : EffCps go) (s : St) (f : Nat) (args : List Operand) (fo : Operand) (d : Option Nat) (k : St → R) :
    aeffStep stk tt s go f args fo d k = (aeffStep (R := Option St) none tt s go f args fo d some).elim stk k := by
  unfold aeffStep
  split
  · rw [elim_cond]; congr 1
    rw [callEff_cps _ hg, callEff_cps (R := Option St) _ hg]
    cases callEff (R := Option (AV × List AObj)) none tt s.hp go _ _ _ <;> rfl
  · rfl

theorem markStep_cps (s : St) (t i : Nat) (d : Option Nat) (k : St → R) : markStep stk tt s t i d k = (markStep (R := Option St) none tt s t i d some).elim stk k := by
  unfold markStep
  split
  · split
    · split
      · simp only [elim_cond]; rfl
      · rfl
    · rfl
  · rfl

theorem aappend_cps (t : Nat) (d : Option Nat) (b x : AV) (s : St) (k : St → R) : aappend stk tt t d b x s k = (aappend (R := Option St) none tt t d b x s some).elim stk k := by
  unfold aappend
  split
  · split
    · cases vslOk _ _ _ _
      · rfl
      simp only [cond_true]
      split
      · split
        · split
          · simp only [elim_cond]; rfl
          · rfl
        · split
          · split
            · simp only [elim_cond]; rfl
            · rfl
          · rfl
        · rfl
      · rfl
    · rfl
  · rfl

theorem rop_put_cps (ev : Operand → AV) (op : Op) (f : AV → St) (k : St → R) :
    (rop stk tt hp ev op fun v => k (f v)) = (rop (R := Option St) none tt hp ev op fun v => some (f v)).elim stk k := by
  rw [rop_cps, rop_cps (R := Option St)]
  cases rop (R := Option AV) none tt hp ev op some <;> rfl

theorem astep_cps (c : Cfg) (hs : SpecsCps c.sg) (o : Oper) (s : St) (k : St → R) : astep stk c o s k = (astep (R := Option St) none c o s some).elim stk k := by
  unfold astep
  split
  · split
    · simp only [elim_cond]; rfl
    · rfl
  · split
    · simp only [elim_cond]; rfl
    · rfl
  · split
    · split
      · dsimp only
        split
        · simp only [elim_cond]; rfl
        · rfl
      · rfl
    · rfl
  · split
    · split
      · simp only [elim_cond]; rfl
      · rfl
    · rfl
  · split
    · dsimp only
      rw [elim_cond]; congr 1
      split
      · split
        · simp only [elim_cond]; rfl
        · simp only [elim_cond]; rfl
        · rfl
      · split
        · rw [elim_cond]; congr 1
          split <;> rfl
        · rfl
      · rfl
    · rfl
  · split
    · split
      · rw [elim_cond]; congr 1
        exact aappend_cps ..
      · rfl
    · split
      · split
        · rename_i hsg
          have := hs _ _ hsg
          rw [callPure_cps _ this, callPure_cps (R := Option St) _ this]
          cases callPure (R := Option (AV × List AObj × List Nat)) none _ _ _ _ _ <;> rfl
        · rename_i hsg
          exact aeffStep_cps _ (hs _ _ hsg) ..
        · rfl
      · rfl
    · exact rop_put_cps ..
  · split
    · rw [elim_cond]; congr 1
      · exact markStep_cps ..
      · exact rop_put_cps ..
    · exact rop_put_cps ..
  · exact rop_put_cps ..

theorem aops_cps (c : Cfg) (hs : SpecsCps c.sg) (all : List Oper) : ∀ (l : List Oper) (s : St) (k : St → R), aops stk c all l s k = (aops (R := Option St) none c all l s some).elim stk k
  | [], _, _ => rfl
  | o :: r, s, k => by
    have step : ∀ s : St, (astep stk c o s fun s' => aops stk c all r s' k) = (astep (R := Option St) none c o s fun s' => aops (R := Option St) none c all r s' some).elim stk k := by
      intro s
      have e1 := astep_cps stk c hs o s fun s' => aops stk c all r s' k
      have e2 := astep_cps (R := Option St) none c hs o s fun s' => aops (R := Option St) none c all r s' some
      rw [e1, e2]
      cases astep (R := Option St) none c o s some with
      | none => rfl
      | some s' => exact aops_cps c hs all r s' k
    unfold aops
    split
    · exact step s
    · split
      · split
        · rw [elim_cond]
          congr 1
          · split
            · exact step _
            · exact aops_cps c hs all r _ k
          · split
            · exact aops_cps c hs all r _ k
            · exact step _
        · exact aops_cps c hs all r _ k
        · rfl
      · rfl

theorem qstep_cps (c : Cfg) (hs : SpecsCps c.sg) (ev : Operand → AV) (op : Op) (k : AV → R) : qstep stk c hp ev op k = (qstep (R := Option AV) none c hp ev op some).elim stk k := by
  unfold qstep
  split
  · split
    · split
      · split
        · rename_i hsg
          have := hs _ _ hsg
          rw [callPure_cps _ this.lent, callPure_cps (R := Option AV) _ this.lent]
          cases callPure (R := Option (AV × List AObj × List Nat)) none _ _ _ _ _ with
          | none => rfl
          | some x =>
            obtain ⟨r, o, l⟩ := x
            cases o <;> cases l <;> rfl
        · rfl
      · rfl
    · exact rop_cps ..
  · exact rop_cps ..

theorem aopsQ_cps (c : Cfg) (hs : SpecsCps c.sg) (all : List Oper) : ∀ (l : List Oper) (s : St) (k : St → R), aopsQ stk c all l s k = (aopsQ (R := Option St) none c all l s some).elim stk k
  | [], _, _ => rfl
  | o :: r, s, k => by
    have step : ∀ s : St, (qstep stk c s.hp (aval s.fr) o.op fun v => aopsQ stk c all r (s.put o.dst v) k) = (qstep (R := Option St) none c s.hp (aval s.fr) o.op fun v => aopsQ (R := Option St) none c all r (s.put o.dst v) some).elim stk k := by
      intro s
      have e1 := qstep_cps stk (hp := s.hp) c hs (aval s.fr) o.op fun v => aopsQ stk c all r (s.put o.dst v) k
      have e2 := qstep_cps (R := Option St) none (hp := s.hp) c hs (aval s.fr) o.op fun v => aopsQ (R := Option St) none c all r (s.put o.dst v) some
      rw [e1, e2]
      cases qstep (R := Option AV) none c s.hp (aval s.fr) o.op some with
      | none => rfl
      | some v => exact aopsQ_cps c hs all r _ k
    unfold aopsQ
    split
    · exact step s
    · split
      · split
        · rw [elim_cond]
          congr 1
          · split
            · exact step ⟨_, s.hp⟩
            · exact aopsQ_cps c hs all r _ k
          · split
            · exact aopsQ_cps c hs all r _ k
            · exact step ⟨_, s.hp⟩
        · exact aopsQ_cps c hs all r _ k
        · rfl
      · rfl

theorem aopsD_cps (c : Cfg) (hs : SpecsCps c.sg) (hp0 : List AObj) : ∀ (l : List Oper) (s : St) (k : St → R), aopsD stk c hp0 l s k = (aopsD (R := Option St) none c hp0 l s some).elim stk k
  | [], _, _ => rfl
  | o :: r, s, k => by
    have e3 : (astep stk c o s fun s' => aopsD stk c hp0 r s' k) = (astep (R := Option St) none c o s fun s' => aopsD (R := Option St) none c hp0 r s' some).elim stk k := by
      rw [astep_cps stk c hs o s fun s' => aopsD stk c hp0 r s' k, astep_cps (R := Option St) none c hs o s fun s' => aopsD (R := Option St) none c hp0 r s' some]
      cases astep (R := Option St) none c o s some with
      | none => rfl
      | some v => exact aopsD_cps c hs hp0 r _ k
    have e4 : (qstep stk c hp0 (aval s.fr) o.op fun v => bif keepsNo o.op v then aopsD stk c hp0 r (s.put o.dst v) k else stk) =
        (qstep (R := Option St) none c hp0 (aval s.fr) o.op fun v => bif keepsNo o.op v then aopsD (R := Option St) none c hp0 r (s.put o.dst v) some else none).elim stk k := by
      rw [qstep_cps stk (hp := hp0) c hs (aval s.fr) o.op fun v => bif keepsNo o.op v then aopsD stk c hp0 r (s.put o.dst v) k else stk,
        qstep_cps (R := Option St) none (hp := hp0) c hs (aval s.fr) o.op fun v => bif keepsNo o.op v then aopsD (R := Option St) none c hp0 r (s.put o.dst v) some else none]
      cases qstep (R := Option AV) none c hp0 (aval s.fr) o.op some with
      | none => rfl
      | some v =>
        simp only [Option.elim]
        cases keepsNo o.op v with
        | false => rfl
        | true => exact aopsD_cps c hs hp0 r _ k
    unfold aopsD
    split
    · rfl
    · split
      · exact e3
      · exact e3
      · exact e4

theorem xstep_cps (c : Cfg) (hs : SpecsCps c.sg) (r : XRec) (o : Oper) (X : St) (k : St → R) : xstep stk c r o X k = (xstep (R := Option St) none c r o X some).elim stk k := by
  unfold xstep
  rw [elim_cond]; congr 1
  · rw [elim_cond]; congr 1
    · rw [elim_cond]; congr 1
      rw [qstep_cps stk c hs (aval (keepS some r.S X.fr 0)) o.op fun v => k (X.put o.dst v), qstep_cps (R := Option St) none c hs (aval (keepS some r.S X.fr 0)) o.op fun v => some (X.put o.dst v)]
      cases qstep (R := Option AV) none c (onlyO r.O X.hp 0) (aval (keepS some r.S X.fr 0)) o.op some <;> rfl
    · exact rop_put_cps stk _ _ _ _
  · rw [elim_cond]; congr 1
    rw [astep_cps stk c hs o _ fun Y => bif Nat.ble Y.hp.length (X.hp.length + r.cnt) then
        k ⟨mergeS (plN r.O X.hp.length r.base) r.W Y.fr X.fr 0, mergeO (plN r.O X.hp.length r.base) r.O r.WO X.hp.length r.base r.cnt Y.hp X.hp 0⟩ else stk,
      astep_cps (R := Option St) none c hs o _ fun Y => bif Nat.ble Y.hp.length (X.hp.length + r.cnt) then
        some ⟨mergeS (plN r.O X.hp.length r.base) r.W Y.fr X.fr 0, mergeO (plN r.O X.hp.length r.base) r.O r.WO X.hp.length r.base r.cnt Y.hp X.hp 0⟩ else none]
    cases astep (R := Option St) none c o ⟨keepS (inO r.O) r.S X.fr 0, keepO (inO r.O) r.O X.hp 0⟩ some with
    | none => rfl
    | some Y => simp only [Option.elim]; cases Nat.ble Y.hp.length (X.hp.length + r.cnt) <;> rfl

theorem aopsX_cps (c : Cfg) (hs : SpecsCps c.sg) (all : List Oper) : ∀ (l : List Oper) (base : Nat) (log : XLog) (X : St) (k : XLog → St → R),
    aopsX stk c all l base log X k = (aopsX (R := Option (XLog × St)) none c all l base log X fun l s => some (l, s)).elim stk fun x => k x.1 x.2
  | [], _, _, _, _ => rfl
  | o :: r, base, log, X, k => by
    have step : ∀ (X0 X : St), (xstep stk c (xrec c all o base X0) o X fun Y => aopsX stk c all r (base + cntOf o.op) (log ++ [(xrec c all o base X0, outsX Y (xrec c all o base X0).wr)]) Y k) =
        (xstep (R := Option (XLog × St)) none c (xrec c all o base X0) o X fun Y => aopsX (R := Option (XLog × St)) none c all r (base + cntOf o.op) (log ++ [(xrec c all o base X0, outsX Y (xrec c all o base X0).wr)]) Y fun l s => some (l, s)).elim stk fun x => k x.1 x.2 := by
      intro X0 X
      rw [xstep_cps stk c hs, xstep_cps (R := Option (XLog × St)) none c hs]
      cases xstep (R := Option St) none c (xrec c all o base X0) o X some with
      | none => rfl
      | some Y => exact aopsX_cps c hs all r _ _ _ k
    unfold aopsX
    dsimp only
    split
    · exact step X X
    · split
      · split
        · rw [elim_cond]
          congr 1
          · split
            · exact step X ⟨_, X.hp⟩
            · exact aopsX_cps c hs all r _ _ _ k
          · split
            · exact aopsX_cps c hs all r _ _ _ k
            · exact step X ⟨_, X.hp⟩
        · exact aopsX_cps c hs all r _ _ _ k
        · rfl
      · rfl

theorem aregX_cps (c : Cfg) (hs : SpecsCps c.sg) (ops : List Oper) (s : St) (k : St → R) : aregX stk c ops s k = (aregX (R := Option St) none c ops s some).elim stk k := by
  unfold aregX
  rw [aopsX_cps stk c hs, aopsX_cps (R := Option St) none c hs]
  cases aopsX (R := Option (XLog × St)) none c ops ops s.hp.length [] (padX s (cntAll ops)) fun l s => some (l, s) with
  | none => rfl
  | some x =>
    show (bif _ then _ else _) = (bif _ then _ else _ : Option St).elim stk k
    rw [elim_cond]; rfl

/-- A loop's rounds: what each state comes to without what follows. -/
theorem aiter_cps (n : Nat) (m : St → St) {g : St → Option (Ex × St)} {f : St → (St → R) → R} {f' : St → (St → Option (Ex × St)) → Option (Ex × St)} (k : Ex → St → R)
    (hf : ∀ s kn, f s kn = (g s).elim stk fun x => match x.1 with | .normal => kn x.2 | e => k e x.2)
    (hf' : ∀ s kn, f' s kn = (g s).elim none fun x => match x.1 with | .normal => kn x.2 | e => some (e, x.2)) (s : St) :
    aiter stk n f m s = (aiter (R := Option (Ex × St)) none n f' m s).elim stk fun x => k x.1 x.2 := by
  induction n generalizing s with
  | zero => rfl
  | succ n ih =>
    show f s (fun s' => aiter stk n f m (m s')) = (f' s (fun s' => aiter (R := Option (Ex × St)) none n f' m (m s'))).elim stk fun x => k x.1 x.2
    rw [hf, hf']
    cases g s with
    | none => rfl
    | some x =>
      obtain ⟨e, s'⟩ := x
      cases e with
      | normal => exact ih (m s')
      | exit id => rfl
      | ret => rfl

/-- What code comes to. -/
def acodeO (c : Cfg) (code : Code) (n : Nat) (s : St) : Option (Ex × St) := acode (R := Option (Ex × St)) none c code n s fun e s => some (e, s)

theorem bigL_cps {R : Type} (stk : R) (tt : Tab) : ∀ (hp : List AObj) (k : List AObj → R), bigL stk tt hp k = (bigL (R := Option (List AObj)) none tt hp some).elim stk k
  | [], _ => rfl
  | o :: r, k => by
    have ih := fun (x : AObj) => bigL_cps stk tt r fun r' => k (x :: r')
    have ih2 := fun (x : AObj) => bigL_cps (R := Option (List AObj)) none tt r fun r' => some (x :: r')
    have both : ∀ x : AObj, (bigL stk tt r fun r' => k (x :: r')) = ((bigL (R := Option (List AObj)) none tt r fun r' => some (x :: r')).elim stk k) := fun x => by
      rw [ih x, ih2 x]
      cases bigL (R := Option (List AObj)) none tt r some <;> rfl
    cases o with
    | var T cs =>
      unfold bigL
      cases bigArr tt T with
      | none => exact both _
      | some kk =>
        dsimp only
        cases cs.all (isInt kk)
        · rfl
        · exact both _
    | _ => exact both _
theorem bigK_cps {R : Type} (stk : R) (tt : Tab) (s : St) (k : St → R) : bigK stk tt s k = (bigK (R := Option St) none tt s some).elim stk k := by
  unfold bigK
  rw [bigL_cps stk, bigL_cps (R := Option St) none]
  cases bigL (R := Option (List AObj)) none tt s.hp some <;> rfl
theorem bigK_k {R : Type} (stk : R) (tt : Tab) (s : St) (k : Ex → St → R) : (bigK stk tt s fun s' => k .normal s') = (bigK (R := Option (Ex × St)) none tt s fun s' => some (.normal, s')).elim stk fun x => k x.1 x.2 := by
  rw [bigK_cps stk, bigK_cps (R := Option (Ex × St)) none]
  cases bigK (R := Option St) none tt s some <;> rfl
theorem aopsV_cps {R : Type} (stk : R) (c : Cfg) (hs : SpecsCps c.sg) : ∀ (l : List Oper) (s : St) (k : St → R), aopsV stk c l s k = (aopsV (R := Option St) none c l s some).elim stk k
  | [], _, _ => rfl
  | o :: r, s, k => by
    unfold aopsV
    cases o.guard with
    | some _ => rfl
    | none =>
      dsimp only
      rw [astep_cps stk c hs, astep_cps (R := Option St) none c hs o _ (fun s' => aopsV (R := Option St) none c r s' some)]
      cases astep (R := Option St) none c o (preV c o s) some with
      | none => rfl
      | some s' => exact aopsV_cps stk c hs r s' k
theorem aopsW_cps {R : Type} (stk : R) (c : Cfg) (hs : SpecsCps c.sg) (id : Nat) (l : List Oper) (s : St) (k : St → R) : aopsW stk c id l s k = (aopsW (R := Option St) none c id l s some).elim stk k := by
  unfold aopsW
  cases mget c.jm (4000000 + id) with
  | none => exact aops_cps stk c hs l l s k
  | some _ => exact aopsV_cps stk c hs l s k
theorem acode_cps (c : Cfg) (hs : SpecsCps c.sg) : ∀ (code : Code) {R : Type} (stk : R) (n : Nat) (s : St) (k : Ex → St → R),
    acode stk c code n s k = (acodeO c code n s).elim stk fun x => k x.1 x.2
  | .skip, _, _, _, _, _ => rfl
  | .region id ops draw, R, stk, n, s, k => by
    simp only [acode, acodeO]
    rw [elim_cond]; congr 1
    · rw [elim_cond]; congr 1
      · rw [aregX_cps stk c hs, aregX_cps (R := Option (Ex × St)) none c hs]
        cases aregX (R := Option St) none c ops.toList s some <;> first | rfl | exact bigK_k ..
      rw [elim_cond]; congr 1
      cases allocDst ops.toList with
      | none =>
        dsimp only
        rw [aopsQ_cps stk c hs, aopsQ_cps (R := Option (Ex × St)) none c hs]
        cases aopsQ (R := Option St) none c ops.toList ops.toList s some <;> first | rfl | exact bigK_k ..
      | some d =>
        dsimp only
        rw [elim_cond]; congr 1
        rw [aopsD_cps stk c hs, aopsD_cps (R := Option (Ex × St)) none c hs]
        cases aopsD (R := Option St) none c s.hp ops.toList s some <;> first | rfl | exact bigK_k ..
    · rw [aopsW_cps stk c hs, aopsW_cps (R := Option (Ex × St)) none c hs]
      cases aopsW (R := Option St) none c id ops.toList s some <;> first | rfl | exact bigK_k ..
  | .seq a b, R, stk, n, s, k => by
    simp only [acode, acodeO]
    rw [acode_cps c hs a, acode_cps c hs a]
    cases acodeO c a n s with
    | none => rfl
    | some x =>
      obtain ⟨e, s'⟩ := x
      cases e with
      | normal => exact acode_cps c hs b stk n _ k
      | exit id => rfl
      | ret => rfl
  | .cond x a b, R, stk, n, s, k => by
    simp only [acode, acodeO]
    split
    · rw [elim_cond]; congr 1
      · exact acode_cps c hs a stk n _ k
      · exact acode_cps c hs b stk n _ k
    · rfl
  | .block id b, R, stk, n, s, k => by
    simp only [acode, acodeO]
    rw [acode_cps c hs b, acode_cps c hs b]
    cases acodeO c b id s with
    | none => rfl
    | some x =>
      obtain ⟨e, s'⟩ := x
      cases e with
      | normal => rfl
      | exit j => dsimp only [Option.elim]; cases Nat.beq j id <;> rfl
      | ret => rfl
  | .loop b, R, stk, n, s, k => by
    simp only [acode, acodeO]
    exact aiter_cps stk c.F _ (g := fun s => acodeO c b n s) k (fun s kn => acode_cps c hs b stk n s _) (fun s kn => acode_cps c hs b none n s _) _
  | .scope b, R, stk, n, s, k => by
    simp only [acode, acodeO]
    exact acode_cps c hs b stk n s k
  | .exit id, _, _, _, _, _ => rfl
  | .ret, _, _, _, _, _ => rfl
  | .rangeFunc .., _, _, _, _, _ => rfl
  | .label _, _, _, _, _, _ => rfl
  | .goto _, _, _, _, _, _ => rfl
  | .refuse _, _, _, _, _, _ => rfl
end
end Go.Proofs.YtmkgmlgklggnlaaGm

namespace Go.Proofs.YtmkgmlgklggnlaaGm
set_option maxRecDepth 100000

/-- Where an own object lies. -/
inductive CObj where
  | gone
  | blk (b : Nat)
  | row (v : Value) (sz : Nat)

def CObj.block? : CObj → Option Nat
  | .gone => none
  | .blk b => some b
  | .row v _ => v.ownBlock

/-- These cells, from a place on. -/
def CellsAt (w : World) (b base : Nat) (us : List Value) : Prop := ∀ j u, us[j]? = some u → w.cell? ⟨b, base + j, none⟩ = some u

def Pay.wf : Pay AV → Prop
  | .rows s l => 0 < s ∧ ∀ r ∈ l, r.length = s
  | _ => True

mutual
inductive RepV (w : World) (M : Nat → Prop) (ρ : List CObj) : AV → Value → Prop
  | top (v : Value) : RepV w M ρ .top v
  | bool (b : Bool) : RepV w M ρ (.bool b) (.bool b)
  | int {k : IntKind} {n : Int} (h : k.has n) : RepV w M ρ (.int k n) (.int k n)
  | str {s : ByteArray} (h : s.size ≤ maxLen) : RepV w M ρ (.str s.data.toList) (.string s)
  | agg {l : List AV} {vs : List Value} (h : RepL w M ρ l vs) (h1 : ∀ v ∈ vs, v.oneCell' = true) : RepV w M ρ (.agg l) (.agg vs.toArray)
  | arr {l : List AV} {vs : List Value} (h : RepL w M ρ l vs) (h1 : ∀ v ∈ vs, v.oneCell' = true) (hp : ∀ a ∈ l, scalarLeaf a = true) : RepV w M ρ (.arr l) (.agg vs.toArray)
  | tup {l : List AV} {vs : List Value} (h : RepL w M ρ l vs) : RepV w M ρ (.tup l) (.tuple vs.toArray)
  | nilp : RepV w M ρ .nilp (.pointer none)
  | ptr {o off b : Nat} (h : ρ[o]? = some (.blk b)) : RepV w M ρ (.ptr o off) (.pointer (some ⟨b, off, none⟩))
  | aptr {o i off g n cap sz : Nat} (h : ρ[o]? = some (.row (.slice (some ⟨g, 0, none⟩) n cap) sz)) (hi : i < n) :
      RepV w M ρ (.aptr o i off) (.pointer (some ⟨g, i * sz + off, none⟩))
  | eptr {p : Pay AV} {us : List Value} {b base i off : Nat} (hl : RepL w M ρ p.cells us) (hc : CellsAt w b base us) (hb : ¬ M b) (hlt : b < w.heap.size) (h1 : ∀ u ∈ us, u.oneCell' = true)
      (hp : ∀ a ∈ p.cells, pureLeaf a = true) (hw : p.wf) (hi : i < p.len) : RepV w M ρ (.eptr p i off) (.pointer (some ⟨b, base + i * p.sz + off, none⟩))
  | nil : RepV w M ρ .nil (.slice none 0 0)
  | roN {p : Pay AV} {a : Option Addr} {cap : Nat} (h0 : p.len = 0) (hm : cap ≤ maxLen) (hn : a = none → cap = 0) : RepV w M ρ (.ro p) (.slice a 0 cap)
  | ro {p : Pay AV} {us : List Value} {b base cap : Nat} (hl : RepL w M ρ p.cells us) (hc : CellsAt w b base us) (hb : ¬ M b) (hlt : b < w.heap.size) (h1 : ∀ u ∈ us, u.oneCell' = true)
      (hp : ∀ a ∈ p.cells, pureLeaf a = true) (hw : p.wf) (hcap : p.len ≤ cap) (hm : cap ≤ maxLen) : RepV w M ρ (.ro p) (.slice (some ⟨b, base, none⟩) p.len cap)
  | rn {p : Pay AV} {a : Addr} {n cap : Nat} (h : RepV w M ρ (.ro p) (.slice (some a) n cap)) : RepV w M ρ (.rn p) (.slice (some a) n cap)
  | own {o sz : Nat} {v : Value} (h : ρ[o]? = some (.row v sz)) (h1 : v.oneCell' = true) : RepV w M ρ (.own o) v
  | subN {o sz : Nat} (h : ρ[o]? = some (.row (.slice none 0 0) sz)) : RepV w M ρ (.sub o 0 0) (.slice none 0 0)
  | sub {o off len g n cap sz : Nat} {a : Addr} (h : ρ[o]? = some (.row (.slice (some ⟨g, 0, none⟩) n cap) sz)) (hle : off + len ≤ n) (ha : cap - off ≠ 0 → a = ⟨g, off * sz, none⟩) :
      RepV w M ρ (.sub o off len) (.slice (some a) len (cap - off))
  | fn {f : Nat} {l : List AV} {vs : List Value} (h : RepL w M ρ l vs) : RepV w M ρ (.fn f l) (.func (.func f) #[] vs.toArray)
  | nilf : RepV w M ρ .nilf .nilFunc
  | nilm : RepV w M ρ .nilm (.map none)
  | mapo {o b : Nat} (h : ρ[o]? = some (.blk b)) : RepV w M ρ (.mapo o) (.map (some b))
  | vsl {o n b : Nat} (h : ρ[o]? = some (.blk b)) : RepV w M ρ (.vsl o n) (.slice (some ⟨b, 0, none⟩) n n)
  | iface {t : Nat} {v : AV} {u : Value} (h : RepV w M ρ v u) : RepV w M ρ (.iface t v) (.iface t u)
  | nili : RepV w M ρ .nili .nilIface
  | len {n cap : Nat} {a : Option Addr} (h : n ≤ maxLen) : RepV w M ρ (.len n) (.slice a n cap)
  | tin {g : Nat} {l : List Int} {n : Int} {T : Nat} {oo : Nat × Nat} (h : IntKind.i64.has n) (hc : w.heap[g]? = some (.cells (l.map (Value.int .u64)).toArray T oo)) (hb : ¬ M g) (hlt : g < w.heap.size) : RepV w M ρ (.tin g l n) (.int .i64 n)
inductive RepL (w : World) (M : Nat → Prop) (ρ : List CObj) : List AV → List Value → Prop
  | nil : RepL w M ρ [] []
  | cons {a : AV} {v : Value} {l : List AV} {vs : List Value} (h : RepV w M ρ a v) (t : RepL w M ρ l vs) : RepL w M ρ (a :: l) (v :: vs)
end

section lists
variable {w : World} {M : Nat → Prop} {ρ : List CObj}

theorem RepL.length {l : List AV} {vs : List Value} : RepL w M ρ l vs → l.length = vs.length
  | .nil => rfl
  | .cons _ t => by simp [t.length]

theorem RepL.get {l : List AV} {vs : List Value} : RepL w M ρ l vs → ∀ i v, vs[i]? = some v → RepV w M ρ (nth l i) v
  | .nil, i, v, h => by simp at h
  | .cons h _, 0, v, e => by simp at e; subst e; exact h
  | .cons _ t, i + 1, v, e => by simp at e; exact t.get i v e

theorem RepL.nth {l : List AV} {vs : List Value} (h : RepL w M ρ l vs) (i : Nat) : RepV w M ρ (YtmkgmlgklggnlaaGm.nth l i) (vs.getD i undef) := by
  rcases Nat.lt_or_ge i vs.length with hi | hi
  · exact h.get i _ (by simp [List.getD, List.getElem?_eq_getElem hi])
  · have : YtmkgmlgklggnlaaGm.nth l i = .top := by
      have hl := h.length
      clear h
      induction l generalizing i vs with
      | nil => rfl
      | cons a l ih =>
        cases i with
        | zero => simp at hl; omega
        | succ i =>
          cases vs with
          | nil => simp at hl
          | cons v vs => exact ih (vs := vs) i (by simpa using hi) (by simpa using hl)
    rw [this]
    exact .top _

theorem RepL.set {l : List AV} {vs : List Value} : RepL w M ρ l vs → ∀ (i : Nat) {a : AV} {v : Value}, RepV w M ρ a v → RepL w M ρ (setN l i a) (vs.set i v)
  | .nil, _, _, _, _ => .nil
  | .cons _ t, 0, _, _, hv => .cons hv t
  | .cons h t, i + 1, _, _, hv => .cons h (t.set i hv)

theorem RepL.append {l m : List AV} {vs us : List Value} : RepL w M ρ l vs → RepL w M ρ m us → RepL w M ρ (l ++ m) (vs ++ us)
  | .nil, h => h
  | .cons h t, h' => .cons h (t.append h')

theorem RepL.take {l : List AV} {vs : List Value} : RepL w M ρ l vs → ∀ n, RepL w M ρ (l.take n) (vs.take n)
  | _, 0 => .nil
  | .nil, n + 1 => .nil
  | .cons h t, n + 1 => .cons h (t.take n)

theorem RepL.drop {l : List AV} {vs : List Value} : RepL w M ρ l vs → ∀ n, RepL w M ρ (l.drop n) (vs.drop n)
  | h, 0 => h
  | .nil, n + 1 => .nil
  | .cons _ t, n + 1 => t.drop n

theorem RepL.of_get {l : List AV} {vs : List Value} (hl : l.length = vs.length) (h : ∀ (i : Nat) (a : AV) (v : Value), l[i]? = some a → vs[i]? = some v → RepV w M ρ a v) : RepL w M ρ l vs := by
  induction l generalizing vs with
  | nil => cases vs with
    | nil => exact .nil
    | cons v vs => simp at hl
  | cons a l ih => cases vs with
    | nil => simp at hl
    | cons v vs => exact .cons (h 0 a v rfl rfl) (ih (by simpa using hl) fun i a' v' h1 h2 => h (i + 1) a' v' (by simpa using h1) (by simpa using h2))

theorem RepL.get' {l : List AV} {vs : List Value} : RepL w M ρ l vs → ∀ (i : Nat) (a : AV), l[i]? = some a → ∃ v, vs[i]? = some v ∧ RepV w M ρ a v
  | .nil, i, a, h => by simp at h
  | .cons h _, 0, a, e => by simp at e; subst e; exact ⟨_, rfl, h⟩
  | .cons _ t, i + 1, a, e => by simp at e; simpa using t.get' i a e

theorem RepL.mem {l : List AV} {vs : List Value} : RepL w M ρ l vs → ∀ v ∈ vs, ∃ a ∈ l, RepV w M ρ a v
  | .nil, v, h => by simp at h
  | .cons (a := a) (v := u) h t, v, e => by
    rcases List.mem_cons.1 e with rfl | e
    · exact ⟨a, by simp, h⟩
    · obtain ⟨b, hb, hr⟩ := t.mem v e; exact ⟨b, by simp [hb], hr⟩

theorem RepL.replicate {a : AV} {v : Value} (h : RepV w M ρ a v) : ∀ n, RepL w M ρ (List.replicate n a) (List.replicate n v)
  | 0 => .nil
  | n + 1 => .cons h (RepL.replicate h n)
end lists

/-- A reference to an object. -/
def isRef : AV → Bool
  | .own _ => true
  | .sub _ _ _ => true
  | .ptr _ _ => true
  | .aptr _ _ _ => true
  | .mapo _ => true
  | .vsl _ _ => true
  | _ => false

theorem pure_of_scalar {a : AV} (h : scalarLeaf a = true) : pureLeaf a = true := by cases a <;> simp_all [scalarLeaf, pureLeaf]

/-- What is read stays: a later world. -/
structure Later (w : World) (M : Nat → Prop) (w' : World) (M' : Nat → Prop) : Prop where
  size : w.heap.size ≤ w'.heap.size
  block : ∀ b, b < w.heap.size → ¬ M b → w'.heap[b]? = w.heap[b]?
  own : ∀ b, b < w.heap.size → M' b → M b

theorem Later.refl (w : World) (M : Nat → Prop) : Later w M w M := ⟨Nat.le_refl _, fun _ _ _ => rfl, fun _ _ h => h⟩

section transport
variable {w w' : World} {M M' : Nat → Prop} {ρ ρ' : List CObj}

theorem CellsAt.later (h : Later w M w' M') {b base : Nat} {us : List Value} (hb : ¬ M b) (hlt : b < w.heap.size) (hc : CellsAt w b base us) : CellsAt w' b base us := by
  intro j u hu
  have := hc j u hu
  rw [← this]
  exact World.cell?_of_block (h.block b hlt hb)

mutual
theorem RepV.pure (h : Later w M w' M') {a : AV} {v : Value} : RepV w M ρ a v → pureLeaf a = true → RepV w' M' ρ' a v
  | .bool b, _ => .bool b
  | .int hk, _ => .int hk
  | .str hs, _ => .str hs
  | .roN h0 hm hn, _ => .roN h0 hm hn
  | .ro hl hc hb hlt h1 hp hw hcap hm, _ => .ro (hl.pure h hp) (hc.later h hb hlt) (fun x => hb (h.own _ hlt x)) (Nat.lt_of_lt_of_le hlt h.size) h1 hp hw hcap hm
  | .tin .., hp => by cases hp
theorem RepL.pure (h : Later w M w' M') {l : List AV} {vs : List Value} : RepL w M ρ l vs → (∀ a ∈ l, pureLeaf a = true) → RepL w' M' ρ' l vs
  | .nil, _ => .nil
  | .cons hv t, hp => .cons (hv.pure h (hp _ (by simp))) (t.pure h fun a ha => hp a (by simp [ha]))
end

theorem mapv_pure (f : AV → AV) (n : Nat) {a : AV} (h : pureLeaf a = true) : mapv f n a = a := by
  cases a <;> simp [pureLeaf] at h <;> cases n <;> rfl

mutual
theorem RepV.mapv (f : AV → AV) (h : Later w M w' M') (hf : ∀ a v, isRef a = true → RepV w M ρ a v → RepV w' M' ρ' (f a) v) : ∀ (n : Nat) {a : AV} {v : Value}, RepV w M ρ a v → RepV w' M' ρ' (YtmkgmlgklggnlaaGm.mapv f n a) v
  | n, _, _, .top v => by cases n <;> exact .top v
  | n, _, _, .bool b => by cases n <;> exact .bool b
  | n, _, _, .int hk => by cases n <;> exact .int hk
  | n, _, _, .str hs => by cases n <;> exact .str hs
  | n + 1, _, _, .agg hl h1 => .agg (hl.mapv f h hf n) h1
  | 0, _, _, .agg _ _ => .top _
  | n, _, _, .arr hl h1 hp => by cases n <;> exact .arr (hl.pure h fun a ha => pure_of_scalar (hp a ha)) h1 hp
  | n + 1, _, _, .tup hl => .tup (hl.mapv f h hf n)
  | 0, _, _, .tup _ => .top _
  | n, _, _, .nilp => by cases n <;> exact .nilp
  | n, _, _, .ptr e => by cases n <;> exact hf _ _ rfl (.ptr e)
  | n, _, _, .aptr e hi => by cases n <;> exact hf _ _ rfl (.aptr e hi)
  | n, _, _, .eptr hl hc hb hlt h1 hp hw hi => by cases n <;> exact .eptr (hl.pure h hp) (hc.later h hb hlt) (fun x => hb (h.own _ hlt x)) (Nat.lt_of_lt_of_le hlt h.size) h1 hp hw hi
  | n, _, _, .nil => by cases n <;> exact .nil
  | n, _, _, .roN h0 hm hn => by cases n <;> exact .roN h0 hm hn
  | n, _, _, .ro hl hc hb hlt h1 hp hw hcap hm => by cases n <;> exact .ro (hl.pure h hp) (hc.later h hb hlt) (fun x => hb (h.own _ hlt x)) (Nat.lt_of_lt_of_le hlt h.size) h1 hp hw hcap hm
  | n, _, _, .rn hr => by
    have := hr.mapv f h hf n
    cases n <;> exact .rn this
  | n, _, _, .own e h1 => by cases n <;> exact hf _ _ rfl (.own e h1)
  | n, _, _, .subN e => by cases n <;> exact hf _ _ rfl (.subN e)
  | n, _, _, .sub e hle ha => by cases n <;> exact hf _ _ rfl (.sub e hle ha)
  | n + 1, _, _, .fn hl => .fn (hl.mapv f h hf n)
  | 0, _, _, .fn _ => .top _
  | n, _, _, .nilf => by cases n <;> exact .nilf
  | n, _, _, .nilm => by cases n <;> exact .nilm
  | n, _, _, .mapo e => by cases n <;> exact hf _ _ rfl (.mapo e)
  | n, _, _, .vsl e => by cases n <;> exact hf _ _ rfl (.vsl e)
  | n + 1, _, _, .iface hv => .iface (hv.mapv f h hf n)
  | 0, _, _, .iface _ => .top _
  | n, _, _, .nili => by cases n <;> exact .nili
  | n, _, _, .len h => by cases n <;> exact .len h
  | n, _, _, .tin hk hc hb hlt => by cases n <;> exact .tin hk ((h.block _ hlt hb).trans hc) (fun x => hb (h.own _ hlt x)) (Nat.lt_of_lt_of_le hlt h.size)
theorem RepL.mapv (f : AV → AV) (h : Later w M w' M') (hf : ∀ a v, isRef a = true → RepV w M ρ a v → RepV w' M' ρ' (f a) v) : ∀ (n : Nat) {l : List AV} {vs : List Value}, RepL w M ρ l vs → RepL w' M' ρ' (l.map (YtmkgmlgklggnlaaGm.mapv f n)) vs
  | _, _, _, .nil => .nil
  | n, _, _, .cons hv t => .cons (hv.mapv f h hf n) (t.mapv f h hf n)
end

mutual
/-- The same places, a later world. -/
theorem RepV.later (h : Later w M w' M') (hρ : ∀ (o : Nat) (c : CObj), ρ[o]? = some c → ρ'[o]? = some c) : ∀ {a : AV} {v : Value}, RepV w M ρ a v → RepV w' M' ρ' a v
  | _, _, .top v => .top v
  | _, _, .bool b => .bool b
  | _, _, .int hk => .int hk
  | _, _, .str hs => .str hs
  | _, _, .agg hl h1 => .agg (hl.later h hρ) h1
  | _, _, .arr hl h1 hp => .arr (hl.later h hρ) h1 hp
  | _, _, .tup hl => .tup (hl.later h hρ)
  | _, _, .nilp => .nilp
  | _, _, .ptr e => .ptr (hρ _ _ e)
  | _, _, .aptr e hi => .aptr (hρ _ _ e) hi
  | _, _, .eptr hl hc hb hlt h1 hp hw hi => .eptr (hl.later h hρ) (hc.later h hb hlt) (fun x => hb (h.own _ hlt x)) (Nat.lt_of_lt_of_le hlt h.size) h1 hp hw hi
  | _, _, .nil => .nil
  | _, _, .roN h0 hm hn => .roN h0 hm hn
  | _, _, .ro hl hc hb hlt h1 hp hw hcap hm => .ro (hl.later h hρ) (hc.later h hb hlt) (fun x => hb (h.own _ hlt x)) (Nat.lt_of_lt_of_le hlt h.size) h1 hp hw hcap hm
  | _, _, .rn hr => .rn (hr.later h hρ)
  | _, _, .own e h1 => .own (hρ _ _ e) h1
  | _, _, .subN e => .subN (hρ _ _ e)
  | _, _, .sub e hle ha => .sub (hρ _ _ e) hle ha
  | _, _, .fn hl => .fn (hl.later h hρ)
  | _, _, .nilf => .nilf
  | _, _, .nilm => .nilm
  | _, _, .mapo e => .mapo (hρ _ _ e)
  | _, _, .vsl e => .vsl (hρ _ _ e)
  | _, _, .iface hv => .iface (hv.later h hρ)
  | _, _, .nili => .nili
  | _, _, .len h => .len h
  | _, _, .tin hk hc hb hlt => .tin hk ((h.block _ hlt hb).trans hc) (fun x => hb (h.own _ hlt x)) (Nat.lt_of_lt_of_le hlt h.size)
theorem RepL.later (h : Later w M w' M') (hρ : ∀ (o : Nat) (c : CObj), ρ[o]? = some c → ρ'[o]? = some c) : ∀ {l : List AV} {vs : List Value}, RepL w M ρ l vs → RepL w' M' ρ' l vs
  | _, _, .nil => .nil
  | _, _, .cons hv t => .cons (hv.later h hρ) (t.later h hρ)
end
end transport

/-- An own object, where it lies. -/
inductive RepO (tt : Tab) (w : World) (M : Nat → Prop) (ρ : List CObj) : AObj → CObj → Prop
  | dead (c : CObj) (h : c.block? = none) : RepO tt w M ρ .dead c
  | var {T b : Nat} {cs : List AV} {us : List Value} (hb : w.heap[b]? = some (.cells us.toArray T (0, 0))) (hl : RepL w M ρ cs us) (h1 : ∀ u ∈ us, u.oneCell' = true) : RepO tt w M ρ (.var T cs) (.blk b)
  | vara {T b : Nat} {k : IntKind} {l : List Int} {us : List Value} (hb : w.heap[b]? = some (.cells us.toArray T (0, 0))) (hl : RepL w M ρ (l.map (AV.int k)) us) (h1 : ∀ u ∈ us, u.oneCell' = true) : RepO tt w M ρ (.vara T k l) (.blk b)
  | arr {E sz : Nat} {p : Pay AV} {v : Value} {us : List Value} (ho : w.ownsRow 0 E sz v p.len us) (hl : RepL w M ρ p.cells us) (h1 : ∀ u ∈ us, u.oneCell' = true)
      (hp : ∀ a ∈ p.cells, pureLeaf a = true) (hw : p.wf) (hs : p.sz = sz) (hE : kindOfPay (emptyPay tt E) p = true) : RepO tt w M ρ (.arr E p) (.row v sz)

def Mof (Mx : Nat → Prop) (ρ : List CObj) (b : Nat) : Prop := Mx b ∨ ∃ c ∈ ρ, c.block? = some b

/-- The own objects and the memory behind them. -/
structure Env (tt : Tab) (w : World) (Mx : Nat → Prop) (ρ : List CObj) (hp : List AObj) : Prop where
  len : ρ.length = hp.length
  obj : ∀ (i : Nat) (o : AObj) (c : CObj), hp[i]? = some o → ρ[i]? = some c → RepO tt w (Mof Mx ρ) ρ o c
  sep : ∀ (i j : Nat) (ci cj : CObj) (b : Nat), i ≠ j → ρ[i]? = some ci → ρ[j]? = some cj → ci.block? = some b → cj.block? ≠ some b
  mx : ∀ (i : Nat) (c : CObj) (b : Nat), ρ[i]? = some c → c.block? = some b → ¬ Mx b
  lt : ∀ b, Mx b → b < w.heap.size

/-- Of what was there, nothing has turned but in the blocks handed over. -/
structure Keeps (w0 w : World) (FP : Nat → Prop) : Prop where
  os : w.os = w0.os
  tape : w.tape = w0.tape
  output : w.output = w0.output
  size : w0.heap.size ≤ w.heap.size
  block : ∀ b, b < w0.heap.size → ¬ FP b → w.heap[b]? = w0.heap[b]?

theorem Keeps.refl (w : World) (FP : Nat → Prop) : Keeps w w FP := ⟨rfl, rfl, rfl, Nat.le_refl _, fun _ _ _ => rfl⟩

/-- The state of the reading and the machine's. -/
structure Rel (tt : Tab) (w0 : World) (FP Mx : Nat → Prop) (ρ0 ρ : List CObj) (s : St) (a : Act) (w : World) : Prop where
  env : Env tt w Mx ρ s.hp
  fr : RepL w (Mof Mx ρ) ρ s.fr a.tmps.toList
  defers : a.defers = []
  keeps : Keeps w0 w FP
  fresh : ∀ (i : Nat) (c : CObj) (b : Nat), ρ[i]? = some c → c.block? = some b → FP b ∨ w0.heap.size ≤ b
  hold : ∀ (i b : Nat), ρ0[i]? = some (.blk b) → ρ[i]? = some (.blk b)
  old : ρ0.length ≤ ρ.length
end Go.Proofs.YtmkgmlgklggnlaaGm

namespace Go.Proofs.YtmkgmlgklggnlaaGm

def absT : TypeDesc → AT
  | .bool => .bool
  | .int k => .int k
  | .string => .str
  | .pointer e => .ptr e
  | .slice e => .slice e
  | .array n e => .array n e
  | .struct fs => .struct (fs.toList.map fun f => (f.offset, f.type))
  | .map k e => .map k e
  | .func _ _ _ => .func
  | .interface _ => .iface
  | _ => .other

/-- A row of the table is the program's. -/
structure TyOk (P : Program) (t : Nat) (e : TyE) : Prop where
  info : (P.info? t).map (fun i => (i.zero, i.size, i.bytes)) = some (some e.zv, e.size, e.bytes)
  und : (P.underlying t).map absT = some e.d
  leaf : e.leaf.length = e.size
  zs : e.zv.cells.size = e.size
  eqf : (match P.underlying t with
    | some (.struct fs) => (fs.toList.all fun f => f.name != "_") && !(P.stoodInHeld t) && !(P.eqGuardType P.depth t)
    | some (.array _ _) => !(P.eqGuardType P.depth t)
    | _ => true) = true := by kernel_rfl

def TabOk (P : Program) (tt : Tab) : Prop := ∀ t e, tget tt t = some e → TyOk P t e

def TabAll (P : Program) : Tab → Prop
  | [] => True
  | (t, e) :: r => TyOk P t e ∧ TabAll P r

theorem tabOk_of_all {P : Program} : ∀ {tt : Tab}, TabAll P tt → TabOk P tt
  | [], _, t, e, h => by simp [tget] at h
  | (a, d) :: r, ⟨h1, h2⟩, t, e, h => by
    simp only [tget] at h
    cases hb : Nat.beq a t with
    | true =>
      simp only [hb, cond_true, Option.some.injEq] at h
      have := Nat.eq_of_beq_eq_true hb
      subst this; subst h
      exact h1
    | false =>
      simp only [hb, cond_false] at h
      exact tabOk_of_all h2 t e h

section ty
variable {P : Program} {t : Nat} {e : TyE}
theorem TyOk.info' (h : TyOk P t e) : ∃ i, P.info? t = some i ∧ i.zero = some e.zv ∧ i.size = e.size ∧ i.bytes = e.bytes := by
  have := h.info
  cases hi : P.info? t with
  | none => simp [hi] at this
  | some i => simp [hi] at this; exact ⟨i, rfl, this.1, this.2.1, this.2.2⟩
theorem TyOk.desc (h : TyOk P t e) : ∃ d, P.underlying t = some d ∧ absT d = e.d := by
  have := h.und
  cases hi : P.underlying t with
  | none => simp [hi] at this
  | some d => simp [hi] at this; exact ⟨d, rfl, this⟩
theorem TyOk.slice (h : TyOk P t e) {E : Nat} (hd : e.d = .slice E) : P.underlying t = some (.slice E) := by
  obtain ⟨d, h1, h2⟩ := h.desc
  rw [hd] at h2
  cases d <;> simp [absT] at h2
  subst h2; exact h1
theorem TyOk.bool (h : TyOk P t e) (hd : e.d = .bool) : P.underlying t = some .bool := by
  obtain ⟨d, h1, h2⟩ := h.desc
  rw [hd] at h2
  cases d <;> simp [absT] at h2
  exact h1
theorem TyOk.int (h : TyOk P t e) {k : IntKind} (hd : e.d = .int k) : P.underlying t = some (.int k) := by
  obtain ⟨d, h1, h2⟩ := h.desc
  rw [hd] at h2
  cases d <;> simp [absT] at h2
  subst h2; exact h1
theorem TyOk.str (h : TyOk P t e) (hd : e.d = .str) : P.underlying t = some .string := by
  obtain ⟨d, h1, h2⟩ := h.desc
  rw [hd] at h2
  cases d <;> simp [absT] at h2
  exact h1
theorem TyOk.ptr (h : TyOk P t e) {E : Nat} (hd : e.d = .ptr E) : P.underlying t = some (.pointer E) := by
  obtain ⟨d, h1, h2⟩ := h.desc
  rw [hd] at h2
  cases d <;> simp [absT] at h2
  subst h2; exact h1
theorem TyOk.array (h : TyOk P t e) {n E : Nat} (hd : e.d = .array n E) : P.underlying t = some (.array n E) := by
  obtain ⟨d, h1, h2⟩ := h.desc
  rw [hd] at h2
  cases d <;> simp [absT] at h2
  obtain ⟨rfl, rfl⟩ := h2; exact h1
theorem TyOk.map (h : TyOk P t e) {n E : Nat} (hd : e.d = .map n E) : P.underlying t = some (.map n E) := by
  obtain ⟨d, h1, h2⟩ := h.desc
  rw [hd] at h2
  cases d <;> simp [absT] at h2
  obtain ⟨rfl, rfl⟩ := h2; exact h1
theorem TyOk.func (h : TyOk P t e) (hd : e.d = .func) : ∃ a b c, P.underlying t = some (.func a b c) := by
  obtain ⟨d, h1, h2⟩ := h.desc
  rw [hd] at h2
  cases d <;> simp [absT] at h2
  exact ⟨_, _, _, h1⟩
theorem TyOk.struct (h : TyOk P t e) {fs : List (Nat × Nat)} (hd : e.d = .struct fs) : ∃ F, P.underlying t = some (.struct F) ∧ F.toList.map (fun f => (f.offset, f.type)) = fs := by
  obtain ⟨d, h1, h2⟩ := h.desc
  rw [hd] at h2
  cases d <;> simp [absT] at h2
  exact ⟨_, h1, h2⟩
end ty

theorem oneB_eq (v : Value) : oneB v = v.oneCell' := by cases v <;> rfl

section rep
variable {w : World} {M : Nat → Prop} {ρ : List CObj}

theorem has_of_hasB {k : IntKind} {n : Int} (h : hasB k n = true) : k.has n := by
  simp [hasB] at h; exact h

theorem aleaf_rep (v : Value) : RepV w M ρ (aleaf v) v := by
  unfold aleaf
  split
  · exact .bool _
  · rename_i k n
    cases h : hasB k n with
    | true => simp only [cond_true]; exact .int (has_of_hasB h)
    | false => simp only [cond_false]; exact .top _
  · rename_i s
    cases h : Nat.ble s.size maxLen with
    | true => simp only [cond_true]; exact .str (Nat.le_of_ble_eq_true h)
    | false => simp only [cond_false]; exact .top _
  · exact .nilp
  · exact .nil
  · exact .nilm
  · exact .nilf
  · exact .nili
  · exact .top _

theorem aleaf_repL : ∀ (l : List Value), RepL w M ρ (l.map aleaf) l
  | [] => .nil
  | v :: l => .cons (aleaf_rep v) (aleaf_repL l)

theorem aconst_rep (v : Value) : RepV w M ρ (aconst v) v := by
  unfold aconst
  split
  · rename_i cs
    cases h : cs.toList.all oneB with
    | true =>
      simp only [cond_true]
      exact .agg (vs := cs.toList) (aleaf_repL _) (fun u hu => by rw [← oneB_eq]; exact List.all_eq_true.1 h u hu)
    | false => simp only [cond_false]; exact .top _
  · rename_i vs
    split
    · rename_i h
      have : vs = #[] := by cases vs; simp_all
      subst this
      exact .tup .nil
    · exact .top _
  · exact aleaf_rep v

theorem aval_rep {fr : List AV} {a : Act} (h : RepL w M ρ fr a.tmps.toList) (x : Operand) : RepV w M ρ (aval fr x) (a.eval x) := by
  cases x with
  | tmp t =>
    have := h.nth t
    simp only [aval, Act.eval]
    have e : a.tmps.toList.getD t undef = a.tmps.getD t undef := by simp [List.getD, Array.getD_eq_getD_getElem?]
    rw [← e]; exact this
  | const v => exact aconst_rep v
  | global g => exact .top _
  | func f => exact .fn .nil
end rep

/-- The world has grown: nothing that was there has turned. -/
structure Grew (w w' : World) : Prop where
  os : w'.os = w.os
  tape : w'.tape = w.tape
  output : w'.output = w.output
  size : w.heap.size ≤ w'.heap.size
  block : ∀ b, b < w.heap.size → w'.heap[b]? = w.heap[b]?

theorem Grew.refl (w : World) : Grew w w := ⟨rfl, rfl, rfl, Nat.le_refl _, fun _ _ => rfl⟩
theorem Grew.trans {a b c : World} (h : Grew a b) (k : Grew b c) : Grew a c :=
  ⟨k.os.trans h.os, k.tape.trans h.tape, k.output.trans h.output, Nat.le_trans h.size k.size, fun i hi => (k.block i (Nat.lt_of_lt_of_le hi h.size)).trans (h.block i hi)⟩
theorem Grew.later {w w' : World} (h : Grew w w') (M : Nat → Prop) : Later w M w' M := ⟨h.size, fun b hb _ => h.block b hb, fun _ _ h => h⟩

/-- An operation's own value. -/
def Gives (P : Program) (w : World) (M : Nat → Prop) (ρ : List CObj) (e : Sem Value) (r : AV) : Prop :=
  ∃ u w', e.run P w = .ok u w' ∧ Grew w w' ∧ RepV w' M ρ r u

theorem Gives.same {P : Program} {w : World} {M : Nat → Prop} {ρ : List CObj} {e : Sem Value} {r : AV} {u : Value} (h : e.run P w = .ok u w) (hr : RepV w M ρ r u) : Gives P w M ρ e r :=
  ⟨u, w, h, .refl w, hr⟩

theorem RepV.deN {w : World} {M : Nat → Prop} {ρ : List CObj} {a : AV} {v : Value} (h : RepV w M ρ a v) : RepV w M ρ (YtmkgmlgklggnlaaGm.deN a) v := by
  cases h with
  | rn h => exact h
  | top => exact .top _
  | bool => exact .bool _
  | int h => exact .int h
  | str h => exact .str h
  | agg h h1 => exact .agg h h1
  | arr h h1 hp => exact .arr h h1 hp
  | tup h => exact .tup h
  | nilp => exact .nilp
  | ptr h => exact .ptr h
  | aptr h hi => exact .aptr h hi
  | eptr a b c d e f g i => exact .eptr a b c d e f g i
  | nil => exact .nil
  | roN a b c => exact .roN a b c
  | ro a b c d e f g i j => exact .ro a b c d e f g i j
  | own h h1 => exact .own h h1
  | subN h => exact .subN h
  | sub h a b => exact .sub h a b
  | fn h => exact .fn h
  | nilf => exact .nilf
  | nilm => exact .nilm
  | mapo h => exact .mapo h
  | vsl h => exact .vsl h
  | iface h => exact .iface h
  | nili => exact .nili
  | len h => exact .len h
  | tin a b c d => exact .tin a b c d

theorem RepL.deN {w : World} {M : Nat → Prop} {ρ : List CObj} : ∀ {l : List AV} {vs : List Value}, RepL w M ρ l vs → RepL w M ρ (l.map YtmkgmlgklggnlaaGm.deN) vs
  | _, _, .nil => .nil
  | _, _, .cons h t => .cons h.deN t.deN

section ints
theorem wrap_has (k : IntKind) (n : Int) : k.has (k.wrap n) := by
  cases k <;> simp [IntKind.has, IntKind.min, IntKind.max, IntKind.wrap, IntKind.signed, IntKind.bits] <;> (try split) <;> omega
theorem ikEq_eq {a b : IntKind} (h : ikEq a b = true) : a = b := by cases a <;> cases b <;> simp_all [ikEq]
theorem min_le (k : IntKind) : k.min ≤ 0 := by cases k <;> decide
theorem max_ge (k : IntKind) : 0 ≤ k.max := by cases k <;> decide
theorem tmod_has {k : IntKind} {a b : Int} (ha : k.has a) (h0 : b ≠ 0) : k.has (a.tmod b) := by
  have h1 := Int.tmod_lt_of_pos a (b := b)
  obtain ⟨l1, u1⟩ := ha
  unfold IntKind.has
  rcases Int.le_total 0 a with h | h
  · have e : a.tmod b = a % b := Int.tmod_eq_emod_of_nonneg h
    have h2 := Int.emod_nonneg a h0
    have h3 : a % b ≤ a := by
      rcases Int.lt_or_lt_of_ne h0 with hb | hb
      · have := Int.emod_neg a (-b); rw [Int.neg_neg] at this
        rw [this]
        rcases Int.lt_or_le a (-b) with hlt | hge
        · rw [Int.emod_eq_of_lt h hlt]; exact Int.le_refl _
        · have := Int.emod_lt_of_pos a (b := -b) (by omega); omega
      · rcases Int.lt_or_le a b with hlt | hge
        · rw [Int.emod_eq_of_lt h hlt]; exact Int.le_refl _
        · have := Int.emod_lt_of_pos a hb; omega
    have := min_le k
    rw [e]; omega
  · have e : a.tmod b = -((-a) % b) := by
      rw [← Int.tmod_eq_emod_of_nonneg (show 0 ≤ -a by omega), Int.neg_tmod, Int.neg_neg]
    have h2 := Int.emod_nonneg (-a) h0
    have h3 : (-a) % b ≤ -a := by
      rcases Int.lt_or_lt_of_ne h0 with hb | hb
      · have := Int.emod_neg (-a) (-b); rw [Int.neg_neg] at this
        rw [this]
        rcases Int.lt_or_le (-a) (-b) with hlt | hge
        · rw [Int.emod_eq_of_lt (by omega) hlt]; exact Int.le_refl _
        · have := Int.emod_lt_of_pos (-a) (b := -b) (by omega); omega
      · rcases Int.lt_or_le (-a) b with hlt | hge
        · rw [Int.emod_eq_of_lt (by omega) hlt]; exact Int.le_refl _
        · have := Int.emod_lt_of_pos (-a) hb; omega
    have := max_ge k
    rw [e]; omega
theorem fdiv_has {k : IntKind} {a : Int} (ha : k.has a) (n : Nat) : k.has (a.fdiv (2 ^ n)) := by
  obtain ⟨l, u⟩ := ha
  have hp : (0 : Int) < 2 ^ n := Int.pow_pos (by decide)
  rw [Int.fdiv_eq_ediv_of_nonneg _ (Int.le_of_lt hp)]
  have h0 := min_le k
  have h1 := max_ge k
  unfold IntKind.has
  rcases Int.le_total 0 a with h | h
  · have := Int.ediv_nonneg h (Int.le_of_lt hp)
    have := Int.ediv_le_self (2 ^ n) h
    omega
  · have h2 : a ≤ a / 2 ^ n := by
      rw [Int.le_ediv_iff_mul_le hp]
      have : a * 2 ^ n ≤ a * 1 := Int.mul_le_mul_of_nonpos_left h (by omega)
      omega
    have h3 : a / 2 ^ n ≤ 0 := by
      have := Int.ediv_le_ediv hp h
      simpa using this
    omega
end ints
end Go.Proofs.YtmkgmlgklggnlaaGm

namespace Go.Proofs.YtmkgmlgklggnlaaGm

theorem toListBytes (s : ByteArray) : s.toList = s.data.toList := ByteArray.toList_eq s

section
variable {P : Program} {tt : Tab} {w : World} {M : Nat → Prop} {ρ : List CObj}

theorem eqlIs_some {op : BinOp} {b : Bool} {r : AV} (h : eqlIs (R := Option AV) none op b some = some r) : (op = .eql ∧ r = .bool b) ∨ (op = .neq ∧ r = .bool (!b)) := by
  cases op <;> simp [eqlIs] at h <;> simp [h]

theorem isTy_get {t : Nat} {f : AT → Bool} (h : isTy tt t f = true) : ∃ e, tget tt t = some e ∧ f e.d = true := by
  unfold isTy at h
  cases he : tget tt t with
  | none => simp [he] at h
  | some e => simp only [he] at h; exact ⟨e, rfl, h⟩

theorem isTy_some {t : Nat} {f : AT → Bool} (hT : TabOk P tt) (h : isTy tt t f = true) : ∃ e, TyOk P t e ∧ f e.d = true := by
  unfold isTy at h
  cases he : tget tt t with
  | none => simp [he] at h
  | some e => simp only [he] at h; exact ⟨e, hT t e he, h⟩

theorem run_eqGuard_int (op : BinOp) (t : TypeId) (x y : Operand) (a b : Value) (ha : ∀ l, a ≠ .agg l) (hn : a ≠ .nilIface) : (eqGuard op t x y a b).run P w = .ok () w := by
  cases op <;> first | rfl | (cases a <;> first | rfl | exact absurd rfl (ha _) | exact absurd rfl hn)

theorem run_str (t : TypeId) (a b : ByteArray) :
    (binOp .eql t (.string a) (.string b)).run P w = .ok (.bool (eqS a.data.toList b.data.toList)) w ∧
    (binOp .neq t (.string a) (.string b)).run P w = .ok (.bool (!eqS a.data.toList b.data.toList)) w ∧
    (binOp .lss t (.string a) (.string b)).run P w = .ok (.bool (ltS a.data.toList b.data.toList)) w ∧
    (binOp .leq t (.string a) (.string b)).run P w = .ok (.bool (ltS a.data.toList b.data.toList || eqS a.data.toList b.data.toList)) w ∧
    (binOp .gtr t (.string a) (.string b)).run P w = .ok (.bool (!(ltS a.data.toList b.data.toList || eqS a.data.toList b.data.toList))) w ∧
    (binOp .geq t (.string a) (.string b)).run P w = .ok (.bool (!ltS a.data.toList b.data.toList)) w := by
  simp only [eqS, ltS, ← toListBytes]
  exact ⟨rfl, rfl, rfl, rfl, rfl, rfl⟩

theorem run_eql_of {t : Nat} {x y : Value} {b : Bool} (he : (Op.equal t x y).run P w = .ok b w) (hb : ∀ op, binOp op t x y = (match op with | .eql => do pure (.bool (← Op.equal t x y)) | .neq => do pure (.bool (!(← Op.equal t x y))) | op => binOp op t x y))
    {op : BinOp} {r : AV} (h : (op = .eql ∧ r = .bool b) ∨ (op = .neq ∧ r = .bool (!b))) : ∃ u, (binOp op t x y).run P w = .ok u w ∧ RepV w M ρ r u := by
  rcases h with ⟨rfl, rfl⟩ | ⟨rfl, rfl⟩
  · rw [hb]; exact ⟨_, by simp [he], .bool _⟩
  · rw [hb]; exact ⟨_, by simp [he], .bool _⟩

/-! ### Structs and arrays compared -/
def isAggT : AT → Bool
  | .struct _ => true
  | .array _ _ => true
  | _ => false

theorem TyOk.eqGuard {P : Program} {t : Nat} {e : TyE} (h : TyOk P t e) (hd : isAggT e.d = true) : P.eqGuardType P.depth t = false := by
  have h1 := h.eqf
  obtain ⟨d, hu, ha⟩ := h.desc
  rw [hu] at h1
  rw [← ha] at hd
  cases d <;> simp [absT, isAggT] at hd
  · simpa using h1
  · simp only [Bool.and_eq_true, Bool.not_eq_true'] at h1
    exact h1.2
theorem run_isAgg_of {P : Program} {w : World} {t : Nat} {e : TyE} (h : TyOk P t e) : (isAgg t).run P w = .ok (isAggT e.d) w := by
  obtain ⟨d, h1, h2⟩ := h.desc
  unfold isAgg
  simp only [Sem.run_bind, run_underlying h1, Result.andThen_ok]
  cases d <;> rw [← h2] <;> rfl
theorem run_sizeOf_of {P : Program} {w : World} {t : Nat} {e : TyE} (h : TyOk P t e) : (sizeOf t).run P w = .ok e.size w := by
  obtain ⟨i, h1, _, h2, _⟩ := h.info'
  simp [sizeOf, typeInfo, h1, h2]
theorem run_part_agg {P : Program} {w : World} {t : Nat} {e : TyE} (h : TyOk P t e) (hd : isAggT e.d = true) (us : List Value) (off : Nat) : (part t us.toArray off).run P w = .ok (.agg ((us.drop off).take e.size).toArray) w := by
  unfold part
  simp [run_isAgg_of (w := w) h, hd, run_sizeOf_of (w := w) h]
theorem run_part_one {P : Program} {w : World} {t : Nat} {e : TyE} (h : TyOk P t e) (hd : isAggT e.d = false) {us : List Value} {off : Nat} {u : Value} (hu : us[off]? = some u) : (part t us.toArray off).run P w = .ok u w := by
  unfold part
  simp [run_isAgg_of (w := w) h, hd, hu]

theorem eqLeaf_run {P : Program} {w : World} {M : Nat → Prop} {ρ : List CObj} {d t : Nat} {e : TyE} (hok : TyOk P t e) {a b : AV} {u v : Value} {r : Bool}
    (ha : RepV w M ρ a u) (hb : RepV w M ρ b v) (h : eqLeaf e.d a b = some r) : (Op.equalIn (d + 1) t u v).run P w = .ok r w := by
  unfold eqLeaf at h
  split at h
  · rename_i k2 k x k' y hk2
    cases ha with | int => cases hb with | int =>
    cases hkk : ikEq k k' <;> simp [hkk] at h
    have := ikEq_eq hkk; subst this
    subst h
    rw [run_equalIn_int w d t k k2 x y (hok.int hk2)]; rfl
  · rename_i hk2
    cases ha with | str => cases hb with | str =>
    cases h
    rw [run_equalIn_string w d t _ _ (hok.str hk2)]; simp [eqS, toListBytes]
  · rename_i hk2
    cases ha with | bool => cases hb with | bool =>
    cases h
    rw [run_equalIn_bool' w d t _ _ (hok.bool hk2)]
  · cases h

theorem eqLeaf_agg {d : AT} {a b : AV} {r : Bool} (h : eqLeaf d a b = some r) : isAggT d = false := by
  unfold eqLeaf at h
  split at h <;> first | rfl | cases h

theorem eqF_run (hT : TabOk P tt) {f : Nat → List AV → List AV → Option Bool} {d : Nat} {xs ys : List AV} {us vs : List Value} (hx : RepL w M ρ xs us) (hy : RepL w M ρ ys vs)
    (hf : ∀ {t : Nat} {e : TyE} {xs ys : List AV} {us vs : List Value} {r : Bool}, tget tt t = some e → RepL w M ρ xs us → RepL w M ρ ys vs → f t xs ys = some r → ∀ {U V : Value}, (isAggT e.d = true → U = .agg us.toArray ∧ V = .agg vs.toArray) →
      (isAggT e.d = false → us = [U] ∧ vs = [V]) → (Op.equalIn d t U V).run P w = .ok r w)
    (hsz : ∀ {t : Nat} {e : TyE} {xs ys : List AV} {r : Bool}, tget tt t = some e → f t xs ys = some r → isAggT e.d = false → xs.length = 1 ∧ ys.length = 1) :
    ∀ {F : List Field} {r : Bool}, (∀ g ∈ F, (g.name != "_") = true) → eqF tt f xs ys (F.map fun g => (g.offset, g.type)) = some r → (Op.eqFields d us.toArray vs.toArray F).run P w = .ok r w
  | [], r, _, h => by cases h; simp [Op.eqFields]
  | g :: F, r, hn, h => by
    simp only [List.map_cons, eqF] at h
    split at h
    case h_2 => cases h
    rename_i e he
    split at h
    case h_2 => cases h
    rename_i a b h1 h2
    cases h
    have hok := hT _ e he
    have hname : g.name ≠ "_" := by have := hn g (by simp); simpa using this
    have ih := eqF_run hT hx hy hf hsz (F := F) (fun g hg => hn g (by simp [hg])) h2
    have cx := (hx.drop g.offset).take e.size
    have cy := (hy.drop g.offset).take e.size
    have pts : ∃ U V, (part g.type us.toArray g.offset).run P w = .ok U w ∧ (part g.type vs.toArray g.offset).run P w = .ok V w ∧ (Op.equalIn d g.type U V).run P w = .ok a w := by
      cases hag : isAggT e.d with
      | true =>
        exact ⟨_, _, run_part_agg hok hag us g.offset, run_part_agg hok hag vs g.offset, hf he cx cy h1 (fun _ => ⟨rfl, rfl⟩) (fun hx => by rw [hag] at hx; cases hx)⟩
      | false =>
        have hl := hsz he h1 hag
        rw [cx.length, cy.length] at hl
        obtain ⟨U, hU⟩ := List.length_eq_one_iff.1 hl.1
        obtain ⟨V, hV⟩ := List.length_eq_one_iff.1 hl.2
        have get : ∀ {l : List Value} {x : Value}, (l.drop g.offset).take e.size = [x] → l[g.offset]? = some x := by
          intro l x hx
          have h0 : ((l.drop g.offset).take e.size)[0]? = some x := by rw [hx]; rfl
          rw [List.getElem?_take] at h0
          split at h0
          · simpa using h0
          · cases h0
        exact ⟨U, V, run_part_one hok hag (get hU), run_part_one hok hag (get hV), hf he cx cy h1 (fun hx => by rw [hag] at hx; cases hx) (fun _ => ⟨hU, hV⟩)⟩
    obtain ⟨U, V, p1, p2, p3⟩ := pts
    simp only [Op.eqFields, ne_eq, hname, not_false_eq_true, if_true, Sem.run_bind, p1, p2, p3, Result.andThen_ok]
    cases a with
    | false => simp
    | true => simpa using ih

theorem eqT_sound (hT : TabOk P tt) : ∀ (n : Nat) {t : Nat} {e : TyE} {xs ys : List AV} {us vs : List Value} {r : Bool}, tget tt t = some e → RepL w M ρ xs us → RepL w M ρ ys vs → eqT tt n t xs ys = some r →
    ∀ {d : Nat}, n ≤ d → ∀ {U V : Value}, (isAggT e.d = true → U = .agg us.toArray ∧ V = .agg vs.toArray) → (isAggT e.d = false → us = [U] ∧ vs = [V]) → (Op.equalIn d t U V).run P w = .ok r w
  | 0, t, e, xs, ys, us, vs, r, he, hx, hy, h, d, hd, U, V, hA, hB => by cases h
  | n + 1, t, e, xs, ys, us, vs, r, he, hx, hy, h, d, hd, U, V, hA, hB => by
    obtain ⟨d, rfl⟩ : ∃ k, d = k + 1 := ⟨d - 1, by omega⟩
    have hok := hT t e he
    simp only [eqT, he] at h
    split at h
    · rename_i fs hdd
      have hag : isAggT e.d = true := by rw [hdd]; rfl
      obtain ⟨rfl, rfl⟩ := hA hag
      obtain ⟨F, hF, hfs⟩ := hok.struct hdd
      have hq := hok.eqf
      rw [hF] at hq
      simp only [Bool.and_eq_true, Bool.not_eq_true', List.all_eq_true] at hq
      obtain ⟨⟨q1, q2⟩, q3⟩ := hq
      have hff : P.fieldsOf t = F := by unfold Program.fieldsOf; rw [hF]
      rw [run_equalIn_struct w d t us.toArray vs.toArray (by rw [hff]; exact hF) q2, hff]
      rw [← hfs] at h
      refine eqF_run hT hx hy (f := eqT tt n) (fun he hx hy h U V hA hB => eqT_sound hT n he hx hy h (by omega) hA hB) ?_ q1 h
      intro t e xs ys r he h hag
      cases n with
      | zero => cases h
      | succ n =>
        simp only [eqT, he] at h
        split at h
        · rename_i hd2; rw [hd2] at hag; cases hag
        · split at h
          · exact ⟨rfl, rfl⟩
          · cases h
    · rename_i hne
      split at h
      · rename_i a b
        have hag := eqLeaf_agg h
        obtain ⟨rfl, rfl⟩ := hB hag
        cases hx with | cons ha _ =>
        cases hy with | cons hb _ =>
        exact eqLeaf_run hok ha hb h
      · cases h

theorem eqAs_run {P : Program} {w : World} {M : Nat → Prop} {ρ : List CObj} {d E : Nat} {e : TyE} {kk : IntKind} (hok : TyOk P E e) (hk : e.d = .int kk) {xs ys : List AV} {us vs : List Value} (hx : RepL w M ρ xs us) (hy : RepL w M ρ ys vs)
    (h1 : ∀ a ∈ xs, isInt kk a = true) (h2 : ∀ a ∈ ys, isInt kk a = true) : ∀ (m i : Nat), i + m = xs.length → i + m = ys.length →
    (Op.eqItems (d + 1) E 1 us.toArray vs.toArray (List.range' i m)).run P w = .ok (eqAs (xs.drop i) (ys.drop i)) w
  | 0, i, hi, hj => by
    rw [List.drop_of_length_le (by omega), List.drop_of_length_le (by omega)]
    simp [Op.eqItems, eqAs]
  | m + 1, i, hi, hj => by
    have ih := eqAs_run (d := d) hok hk hx hy h1 h2 m (i + 1) (by omega) (by omega)
    have hxi : i < xs.length := by omega
    have hyi : i < ys.length := by omega
    obtain ⟨u, hu, ru⟩ := hx.get' i xs[i] (List.getElem?_eq_getElem hxi)
    obtain ⟨v, hv, rv⟩ := hy.get' i ys[i] (List.getElem?_eq_getElem hyi)
    have hag : isAggT e.d = false := by rw [hk]; rfl
    rw [List.drop_eq_getElem_cons hxi, List.drop_eq_getElem_cons hyi]
    have k1 := h1 xs[i] (List.getElem_mem hxi)
    have k2 := h2 ys[i] (List.getElem_mem hyi)
    generalize xs[i] = a at ru k1
    generalize ys[i] = b at rv k2
    have p3 : (Op.equalIn (d + 1) E u v).run P w = .ok (eqI (intOf a) (intOf b)) w := by
      cases a <;> simp only [isInt] at k1 <;> first | cases k1 | skip
      cases b <;> simp only [isInt] at k2 <;> first | cases k2 | skip
      have e1 := ikEq_eq k1
      have e2 := ikEq_eq k2
      subst e1; subst e2
      cases ru with | int => cases rv with | int =>
      rw [run_equalIn_int w d E kk kk _ _ (hok.int hk)]
      rfl
    simp only [List.range'_succ, Op.eqItems, Nat.mul_one, Sem.run_bind, run_part_one (w := w) hok hag hu, run_part_one (w := w) hok hag hv, p3, Result.andThen_ok, eqAs]
    cases eqI (intOf a) (intOf b) with
    | false => simp
    | true => simpa using ih

set_option maxHeartbeats 1000000 in
theorem abin_sound (hT : TabOk P tt) {t : Nat} {op : BinOp} {x y : AV} {r : AV} {u v : Value} (X Y : Operand)
    (hx : RepV w M ρ x u) (hy : RepV w M ρ y v) (h : abin (R := Option AV) none tt t op x y some = some r) :
    Gives P w M ρ (do eqGuard op t X Y u v; binOp op t u v) r := by
  suffices hs : ((∀ l, u ≠ .agg l) ∧ u ≠ .nilIface ∧ ∃ z, (binOp op t u v).run P w = .ok z w ∧ RepV w M ρ r z) ∨
      (∃ xs ys b, u = .agg xs ∧ v = .agg ys ∧ P.eqGuardType P.depth t = false ∧ (Op.equalIn 10000 t (.agg xs) (.agg ys)).run P w = .ok b w ∧ ((op = .eql ∧ r = .bool b) ∨ (op = .neq ∧ r = .bool (!b)))) by
    rcases hs with ⟨h1, h2, z, hz, hr⟩ | ⟨xs, ys, b, rfl, rfl, hg, he, hop⟩
    · exact .same (u := z) (by simp [run_eqGuard_int (P := P) (w := w) op t X Y u v h1 h2, hz]) hr
    · rcases hop with ⟨rfl, rfl⟩ | ⟨rfl, rfl⟩
      · exact .same (u := .bool b) (by simp [run_eqGuard_agg w .eql t X Y xs ys hg, run_eql_struct, he]) (.bool _)
      · exact .same (u := .bool (!b)) (by simp [run_eqGuard_agg w .neq t X Y xs ys hg, run_neq_struct, he]) (.bool _)
  unfold abin at h
  split at h
  case h_1 kx a ky b =>
    cases hx with | int ha => cases hy with | int hb =>
    refine .inl ⟨fun _ => by simp, by simp, ?_⟩
    split at h
    · cases hc : ltI b 0 <;> simp [hc] at h
      subst h
      have hb0 : ¬ b < 0 := by simpa [ltI] using hc
      exact ⟨_, by simp [binOp, Op.shift, hb0, ishl], .int (wrap_has _ _)⟩
    · cases hc : ltI b 0 <;> simp [hc] at h
      subst h
      have hb0 : ¬ b < 0 := by simpa [ltI] using hc
      exact ⟨_, by simp [binOp, Op.shift, hb0, ishr], .int (fdiv_has ha _)⟩
    · cases hk : ikEq kx ky <;> simp [hk] at h
      have := ikEq_eq hk; subst this
      split at h
      · simp at h; subst h; exact ⟨_, by simp [binOp, Op.intArith], .int (wrap_has _ _)⟩
      · simp at h; subst h; exact ⟨_, by simp [binOp, Op.intArith], .int (wrap_has _ _)⟩
      · simp at h; subst h; exact ⟨_, by simp [binOp, Op.intArith], .int (wrap_has _ _)⟩
      · cases hc : eqI b 0 <;> simp [hc] at h
        subst h
        have hb0 : ¬ b = 0 := by simpa [eqI] using hc
        exact ⟨_, by simp [binOp, Op.intDiv, hb0, iquo], .int (wrap_has _ _)⟩
      · cases hc : eqI b 0 <;> simp [hc] at h
        subst h
        have hb0 : ¬ b = 0 := by simpa [eqI] using hc
        exact ⟨_, by simp [binOp, Op.intDiv, hb0, irem], .int (tmod_has ha hb0)⟩
      · simp at h; subst h; exact ⟨_, by simp [binOp, Op.intBits, iand], .int (wrap_has _ _)⟩
      · simp at h; subst h; exact ⟨_, by simp [binOp, Op.intBits, ior], .int (wrap_has _ _)⟩
      · simp at h; subst h; exact ⟨_, by simp [binOp, Op.intBits, ixor], .int (wrap_has _ _)⟩
      · simp at h; subst h; exact ⟨_, by simp [binOp, Op.intBits, iandn], .int (wrap_has _ _)⟩
      · simp at h; subst h; exact ⟨_, by simp [binOp, Op.intCmp]; rfl, .bool _⟩
      · simp at h; subst h; exact ⟨_, by simp [binOp, Op.intCmp]; rfl, .bool _⟩
      · simp at h; subst h; exact ⟨_, by simp [binOp, Op.intCmp]; rfl, .bool _⟩
      · simp at h; subst h; exact ⟨_, by simp [binOp, Op.intCmp]; rfl, .bool _⟩
      · simp at h; subst h; exact ⟨_, by simp [binOp, Op.intCmp]; rfl, .bool _⟩
      · simp at h; subst h; exact ⟨_, by simp [binOp, Op.intCmp]; rfl, .bool _⟩
      · simp at h
  case h_2 a b =>
    cases hx with | str ha => cases hy with | str hb =>
    rename_i sa sb
    refine .inl ⟨fun _ => by simp, by simp, ?_⟩
    split at h
    · cases hc : Nat.ble (sa.data.toList.length + sb.data.toList.length) maxLen <;> simp only [hc, cond_true, cond_false] at h <;> simp at h
      subst h
      have hle := Nat.le_of_ble_eq_true hc
      have hsz : sa.size + sb.size ≤ maxLen := by simpa using hle
      have hn : ¬ (IntKind.i64.max < ((sa.size + sb.size : Nat) : Int)) := by
        simp only [maxLen] at hsz
        have : IntKind.i64.max = 9223372036854775807 := by decide
        omega
      refine ⟨.string (sa ++ sb), ?_, ?_⟩
      · simp only [binOp, Op.stringOp, gt_iff_lt]
        rw [if_neg hn]; rfl
      · have := RepV.str (w := w) (M := M) (ρ := ρ) (s := sa ++ sb) (by simpa using hsz)
        simpa using this
    · cases h; exact ⟨_, (run_str t sa sb).1, .bool _⟩
    · cases h; exact ⟨_, (run_str t sa sb).2.1, .bool _⟩
    · cases h; exact ⟨_, (run_str t sa sb).2.2.1, .bool _⟩
    · cases h; exact ⟨_, (run_str t sa sb).2.2.2.1, .bool _⟩
    · cases h; exact ⟨_, (run_str t sa sb).2.2.2.2.1, .bool _⟩
    · cases h; exact ⟨_, (run_str t sa sb).2.2.2.2.2, .bool _⟩
    · simp at h
  case h_3 a b =>
    cases hx with | bool => cases hy with | bool =>
    refine .inl ⟨fun _ => by simp, by simp, ?_⟩
    cases hc : isTy tt t isBoolTy <;> simp [hc] at h
    obtain ⟨e, he, hd⟩ := isTy_some hT hc
    have hd' : e.d = .bool := by cases hdd : e.d <;> simp [hdd, isBoolTy] at hd; rfl
    exact run_eql_of (run_equal_bool w t a b (he.bool hd')) (fun op => by cases op <;> rfl) (eqlIs_some h)
  case h_4 =>
    cases hx with | nil => cases hy with | nil =>
    refine .inl ⟨fun _ => by simp, by simp, ?_⟩
    cases hc : isTy tt t isSliceTy <;> simp [hc] at h
    obtain ⟨e, he, hd⟩ := isTy_some hT hc
    obtain ⟨E, hd'⟩ : ∃ E, e.d = .slice E := by cases hdd : e.d <;> simp [hdd, isSliceTy] at hd; exact ⟨_, rfl⟩
    exact run_eql_of (b := true) (by show (Op.equalIn (9999 + 1) t _ _).run P w = _; unfold Op.equalIn; simp [run_underlying (he.slice hd')]) (fun op => by cases op <;> rfl) (eqlIs_some h)
  case h_5 =>
    cases hx with | nilp => cases hy with | nilp =>
    refine .inl ⟨fun _ => by simp, by simp, ?_⟩
    cases hc : isTy tt t isPtrTy <;> simp [hc] at h
    obtain ⟨e, he, hd⟩ := isTy_some hT hc
    obtain ⟨E, hd'⟩ : ∃ E, e.d = .ptr E := by cases hdd : e.d <;> simp [hdd, isPtrTy] at hd; exact ⟨_, rfl⟩
    exact run_eql_of (b := true) (by show (Op.equalIn (9999 + 1) t _ _).run P w = _; unfold Op.equalIn; simp [run_underlying (he.ptr hd')]) (fun op => by cases op <;> rfl) (eqlIs_some h)
  case h_6 =>
    cases hx with | nilm => cases hy with | nilm =>
    refine .inl ⟨fun _ => by simp, by simp, ?_⟩
    cases hc : isTy tt t isMapTy <;> simp [hc] at h
    obtain ⟨e, he, hd⟩ := isTy_some hT hc
    obtain ⟨E, F, hd'⟩ : ∃ E F, e.d = .map E F := by cases hdd : e.d <;> simp [hdd, isMapTy] at hd; exact ⟨_, _, rfl⟩
    exact run_eql_of (b := true) (by show (Op.equalIn (9999 + 1) t _ _).run P w = _; unfold Op.equalIn; simp [run_underlying (he.map hd')]) (fun op => by cases op <;> rfl) (eqlIs_some h)
  case h_7 =>
    cases hx with | nilf => cases hy with | nilf =>
    refine .inl ⟨fun _ => by simp, by simp, ?_⟩
    cases hc : isTy tt t isFuncTy <;> simp [hc] at h
    obtain ⟨e, he, hd⟩ := isTy_some hT hc
    have hd' : e.d = .func := by cases hdd : e.d <;> simp [hdd, isFuncTy] at hd; rfl
    obtain ⟨_, _, _, hu⟩ := he.func hd'
    exact run_eql_of (b := true) (by show (Op.equalIn (9999 + 1) t _ _).run P w = _; unfold Op.equalIn; simp [run_underlying hu]) (fun op => by cases op <;> rfl) (eqlIs_some h)
  case h_8 =>
    cases hx with | ptr => cases hy with | nilp =>
    refine .inl ⟨fun _ => by simp, by simp, ?_⟩
    cases hc : isTy tt t isPtrTy <;> simp [hc] at h
    obtain ⟨e, he, hd⟩ := isTy_some hT hc
    obtain ⟨E, hd'⟩ : ∃ E, e.d = .ptr E := by cases hdd : e.d <;> simp [hdd, isPtrTy] at hd; exact ⟨_, rfl⟩
    exact run_eql_of (b := false) (by show (Op.equalIn (9999 + 1) t _ _).run P w = _; unfold Op.equalIn; simp [run_underlying (he.ptr hd')]) (fun op => by cases op <;> rfl) (eqlIs_some h)
  case h_9 =>
    cases hx with | nilp => cases hy with | ptr =>
    refine .inl ⟨fun _ => by simp, by simp, ?_⟩
    cases hc : isTy tt t isPtrTy <;> simp [hc] at h
    obtain ⟨e, he, hd⟩ := isTy_some hT hc
    obtain ⟨E, hd'⟩ : ∃ E, e.d = .ptr E := by cases hdd : e.d <;> simp [hdd, isPtrTy] at hd; exact ⟨_, rfl⟩
    exact run_eql_of (b := false) (by show (Op.equalIn (9999 + 1) t _ _).run P w = _; unfold Op.equalIn; simp [run_underlying (he.ptr hd')]) (fun op => by cases op <;> rfl) (eqlIs_some h)
  case h_10 =>
    cases hx with | fn => cases hy with | nilf =>
    refine .inl ⟨fun _ => by simp, by simp, ?_⟩
    cases hc : isTy tt t isFuncTy <;> simp [hc] at h
    obtain ⟨e, he, hd⟩ := isTy_some hT hc
    have hd' : e.d = .func := by cases hdd : e.d <;> simp [hdd, isFuncTy] at hd; rfl
    obtain ⟨_, _, _, hu⟩ := he.func hd'
    exact run_eql_of (b := false) (by show (Op.equalIn (9999 + 1) t _ _).run P w = _; unfold Op.equalIn; simp [run_underlying hu]) (fun op => by cases op <;> rfl) (eqlIs_some h)
  case h_11 =>
    cases hx with | mapo => cases hy with | nilm =>
    refine .inl ⟨fun _ => by simp, by simp, ?_⟩
    cases hc : isTy tt t isMapTy <;> simp [hc] at h
    obtain ⟨e, he, hd⟩ := isTy_some hT hc
    obtain ⟨E, F, hd'⟩ : ∃ E F, e.d = .map E F := by cases hdd : e.d <;> simp [hdd, isMapTy] at hd; exact ⟨_, _, rfl⟩
    exact run_eql_of (b := false) (by show (Op.equalIn (9999 + 1) t _ _).run P w = _; unfold Op.equalIn; simp [run_underlying (he.map hd')]) (fun op => by cases op <;> rfl) (eqlIs_some h)
  case h_12 p =>
    cases hc : isTy tt t isSliceTy <;> simp [hc] at h
    cases hl : Nat.blt 0 p.len <;> simp [hl] at h
    have hl' : 0 < p.len := by simp [Nat.blt] at hl; omega
    cases hy with | nil =>
    obtain ⟨e, he, hd⟩ := isTy_some hT hc
    obtain ⟨E, hd'⟩ : ∃ E, e.d = .slice E := by cases hdd : e.d <;> simp [hdd, isSliceTy] at hd; exact ⟨_, rfl⟩
    cases hx with
    | roN h0 => omega
    | ro =>
      refine .inl ⟨fun _ => by simp, by simp, ?_⟩
      exact run_eql_of (b := false) (by show (Op.equalIn (9999 + 1) t _ _).run P w = _; unfold Op.equalIn; simp [run_underlying (he.slice hd')]) (fun op => by cases op <;> rfl) (eqlIs_some h)
  case h_13 p =>
    cases hc : isTy tt t isSliceTy <;> simp [hc] at h
    cases hy with | nil =>
    obtain ⟨e, he, hd⟩ := isTy_some hT hc
    obtain ⟨E, hd'⟩ : ∃ E, e.d = .slice E := by cases hdd : e.d <;> simp [hdd, isSliceTy] at hd; exact ⟨_, rfl⟩
    cases hx with
    | rn hr =>
      refine .inl ⟨fun _ => by simp, by simp, ?_⟩
      exact run_eql_of (b := false) (by show (Op.equalIn (9999 + 1) t _ _).run P w = _; unfold Op.equalIn; simp [run_underlying (he.slice hd')]) (fun op => by cases op <;> rfl) (eqlIs_some h)
  case h_14 a b =>
    cases hx with | @agg _ us hl h1 =>
    cases hy with | @agg _ vs hl' h1' =>
    split at h
    · rename_i b hb
      cases hc : isTy tt t isStructTy <;> simp only [hc, cond_true, cond_false] at h
      · cases h
      obtain ⟨e, he', hd⟩ := isTy_get hc
      have he := hT t e he'
      have hag : isAggT e.d = true := by cases hdd : e.d <;> simp [hdd, isStructTy] at hd; rfl
      refine .inr ⟨us.toArray, vs.toArray, b, rfl, rfl, he.eqGuard hag, ?_, eqlIs_some h⟩
      exact eqT_sound hT 4 he' hl hl' hb (by decide) (fun _ => ⟨rfl, rfl⟩) (fun hx => by rw [hag] at hx; cases hx)
    · cases h
  case h_15 a b =>
    cases hx with | @arr _ us hl h1 =>
    cases hy with | @arr _ vs hl' h1' =>
    split at h
    · rename_i e he
      split at h
      · rename_i m E hd
        cases hi : isIntTy1 tt E <;> simp only [hi, cond_true, cond_false] at h
        · cases h
        cases hb : (Nat.beq a.length m && Nat.beq b.length m && a.all (isInt (kindIn tt E)) && b.all (isInt (kindIn tt E))) <;> simp only [hb, cond_true, cond_false] at h
        · cases h
        simp only [Bool.and_eq_true] at hb
        obtain ⟨⟨⟨b1, b2⟩, b3⟩, b4⟩ := hb
        have hok := hT t e he
        refine .inr ⟨us.toArray, vs.toArray, eqAs a b, rfl, rfl, hok.eqGuard (by rw [hd]; rfl), ?_, eqlIs_some h⟩
        unfold isIntTy1 at hi
        unfold kindIn at b3 b4
        split at hi
        · rename_i eE hE
          split at hi
          · rename_i kk hk
            rw [hE] at b3 b4
            dsimp only at b3 b4
            rw [hk] at b3 b4
            have hokE := hT E eE hE
            obtain ⟨info, hinfo, _, hsz, _⟩ := hokE.info'
            have hcells : P.cellsOf E = 1 := by
              simp only [Program.cellsOf, hinfo, Option.map_some, Option.getD_some, hsz]
              exact Nat.eq_of_beq_eq_true hi
            rw [show (10000 : Nat) = 9999 + 1 from rfl, run_equalIn_array (w := w) 9999 us.toArray vs.toArray (hok.array hd) hinfo, hcells]
            have := eqAs_run (d := 9998) hokE hk hl hl' (List.all_eq_true.1 b3) (List.all_eq_true.1 b4) m 0 (by have := Nat.eq_of_beq_eq_true b1; omega) (by have := Nat.eq_of_beq_eq_true b2; omega)
            simpa [List.range_eq_range'] using this
          · cases hi
        · cases hi
      · cases h
    · cases h
  case h_16 => simp at h

theorem aun_sound {op : UnOp} {x r : AV} {u : Value} (hx : RepV w M ρ x u) (h : aun (R := Option AV) none op x some = some r) : Gives P w M ρ (Op.unary op u) r := by
  unfold aun at h
  split at h
  · cases hx with | int ha => cases h; exact .same (u := .int _ (IntKind.wrap _ (0 - _))) (by rfl) (.int (wrap_has _ _))
  · cases hx with | int ha => cases h; exact .same (u := .int _ (ixor _ (iones _) _)) (by rfl) (.int (wrap_has _ _))
  · cases hx with | bool => cases h; exact .same (u := _) (by rfl) (.bool _)
  · simp at h
end
end Go.Proofs.YtmkgmlgklggnlaaGm

namespace Go.Proofs.YtmkgmlgklggnlaaGm

section pays
variable {p q r : Pay AV}

theorem flatten_len {s : Nat} : ∀ {l : List (List AV)}, (∀ x ∈ l, x.length = s) → l.flatten.length = l.length * s
  | [], _ => by simp
  | a :: l, h => by
    have := flatten_len (l := l) fun x hx => h x (by simp [hx])
    simp [this, h a (by simp), Nat.add_mul]; omega

theorem flatten_drop {s : Nat} : ∀ {l : List (List AV)} (n : Nat), (∀ x ∈ l, x.length = s) → (l.drop n).flatten = l.flatten.drop (n * s)
  | l, 0, _ => by simp
  | [], n + 1, _ => by simp
  | a :: l, n + 1, h => by
    have := flatten_drop (l := l) n fun x hx => h x (by simp [hx])
    have ha := h a (by simp)
    simp only [List.drop_succ_cons, List.flatten_cons, this]
    rw [show (n + 1) * s = a.length + n * s by rw [ha, Nat.add_mul]; omega, List.drop_append]
    simp

theorem flatten_take {s : Nat} : ∀ {l : List (List AV)} (n : Nat), (∀ x ∈ l, x.length = s) → (l.take n).flatten = l.flatten.take (n * s)
  | l, 0, _ => by simp
  | [], n + 1, _ => by simp
  | a :: l, n + 1, h => by
    have := flatten_take (l := l) n fun x hx => h x (by simp [hx])
    have ha := h a (by simp)
    simp only [List.take_succ_cons, List.flatten_cons, this]
    rw [show (n + 1) * s = a.length + n * s by rw [ha, Nat.add_mul]; omega, List.take_append, List.take_of_length_le (l := a) (by omega)]
    simp

theorem Pay.sz_pos (h : p.wf) : 0 < p.sz := by cases p <;> simp [Pay.wf, Pay.sz] at *; exact h.1

theorem Pay.cells_length (h : p.wf) : p.cells.length = p.len * p.sz := by
  cases p with
  | bytes l => simp [Pay.cells, Pay.len, Pay.sz]
  | ints k l => simp [Pay.cells, Pay.len, Pay.sz]
  | rows s l => simp only [Pay.cells, Pay.len, Pay.sz]; exact flatten_len h.2

theorem Pay.cut_wf (h : p.wf) (a n : Nat) : (p.cut a n).wf := by
  cases p with
  | bytes l => trivial
  | ints k l => trivial
  | rows s l => exact ⟨h.1, fun x hx => h.2 x (List.mem_of_mem_drop (List.mem_of_mem_take hx))⟩

theorem Pay.from_wf (h : p.wf) (a : Nat) : (p.from a).wf := by
  cases p with
  | bytes l => trivial
  | ints k l => trivial
  | rows s l => exact ⟨h.1, fun x hx => h.2 x (List.mem_of_mem_drop hx)⟩

theorem Pay.cut_sz (a n : Nat) : (p.cut a n).sz = p.sz := by cases p <;> rfl
theorem Pay.from_sz (a : Nat) : (p.from a).sz = p.sz := by cases p <;> rfl
theorem Pay.cut_len (a n : Nat) (h : a + n ≤ p.len) : (p.cut a n).len = n := by
  cases p <;> simp [Pay.cut, Pay.len] at * <;> omega
theorem Pay.from_len (a : Nat) : (p.from a).len = p.len - a := by cases p <;> simp [Pay.from, Pay.len]

theorem Pay.cells_cut (h : p.wf) (a n : Nat) : (p.cut a n).cells = (p.cells.drop (a * p.sz)).take (n * p.sz) := by
  cases p with
  | bytes l => simp [Pay.cut, Pay.cells, Pay.sz, List.map_take, List.map_drop]
  | ints k l => simp [Pay.cut, Pay.cells, Pay.sz, List.map_take, List.map_drop]
  | rows s l =>
    simp only [Pay.cut, Pay.cells, Pay.sz]
    rw [flatten_take (s := s) n fun x hx => h.2 x (List.mem_of_mem_drop hx), flatten_drop (s := s) a h.2]

theorem Pay.cells_from (h : p.wf) (a : Nat) : (p.from a).cells = p.cells.drop (a * p.sz) := by
  cases p with
  | bytes l => simp [Pay.from, Pay.cells, Pay.sz, List.map_drop]
  | ints k l => simp [Pay.from, Pay.cells, Pay.sz, List.map_drop]
  | rows s l =>
    simp only [Pay.from, Pay.cells, Pay.sz]
    rw [flatten_drop (s := s) a h.2]

theorem take_one_drop {α : Type} (l : List α) (i : Nat) (d : α) (h : i < l.length) : (l.drop i).take 1 = [l.getD i d] := by
  induction l generalizing i with
  | nil => simp at h
  | cons a l ih => cases i with
    | zero => simp
    | succ i => simpa using ih i (by simpa using h)

theorem Pay.leaves_eq (h : p.wf) (i : Nat) (hi : i < p.len) : p.leaves i = (p.cells.drop (i * p.sz)).take p.sz := by
  cases p with
  | bytes l =>
    simp only [Pay.len] at hi
    simp only [Pay.leaves, Pay.cells, Pay.sz, Nat.mul_one]
    rw [← List.map_drop, ← List.map_take, take_one_drop l i 0 hi]; rfl
  | ints k l =>
    simp only [Pay.len] at hi
    simp only [Pay.leaves, Pay.cells, Pay.sz, Nat.mul_one]
    rw [← List.map_drop, ← List.map_take, take_one_drop l i 0 hi]; rfl
  | rows s l =>
    simp only [Pay.len] at hi
    simp only [Pay.leaves, Pay.cells, Pay.sz]
    have e := flatten_take (s := s) (l := l.drop i) 1 fun x hx => h.2 x (List.mem_of_mem_drop hx)
    rw [Nat.one_mul] at e
    rw [← flatten_drop (s := s) i h.2, ← e, take_one_drop l i [] hi]
    simp

theorem nth_eq_getElem? (l : List AV) (i : Nat) : nth l i = (l[i]?).getD .top := by
  induction l generalizing i with
  | nil => rfl
  | cons a l ih => cases i with
    | zero => rfl
    | succ i => simpa [nth] using ih i

theorem Pay.leaf_eq (h : p.wf) (i off : Nat) (hi : i < p.len) (ho : off < p.sz) : p.leaf i off = nth (p.leaves i) off := by
  cases p with
  | bytes l => simp only [Pay.sz] at ho; obtain rfl : off = 0 := by omega
               rfl
  | ints k l => simp only [Pay.sz] at ho; obtain rfl : off = 0 := by omega
                rfl
  | rows s l => rfl

theorem ikEq_refl (k : IntKind) : ikEq k k = true := by cases k <;> rfl

theorem Pay.app_forms {r : Pay AV} (h : p.app q = some r) :
    (∃ l m, p = .bytes l ∧ q = .bytes m ∧ r = .bytes (l ++ m)) ∨ (∃ k l m, p = .ints k l ∧ q = .ints k m ∧ r = .ints k (l ++ m)) ∨
    (∃ s l m, p = .rows s l ∧ q = .rows s m ∧ r = .rows s (l ++ m)) := by
  cases p <;> cases q <;> simp only [Pay.app] at h <;> try cases h
  · exact .inl ⟨_, _, rfl, rfl, rfl⟩
  · rename_i k l k' m
    cases hk : ikEq k k' <;> simp only [hk, cond_true, cond_false] at h <;> cases h
    have := ikEq_eq hk; subst this
    exact .inr (.inl ⟨_, _, _, rfl, rfl, rfl⟩)
  · rename_i k l k' m
    cases hk : Nat.beq k k' <;> simp only [hk, cond_true, cond_false] at h <;> cases h
    have := Nat.eq_of_beq_eq_true hk; subst this
    exact .inr (.inr ⟨_, _, _, rfl, rfl, rfl⟩)

theorem Pay.app_some {r : Pay AV} (h : p.app q = some r) : r.cells = p.cells ++ q.cells ∧ r.len = p.len + q.len ∧ r.sz = p.sz ∧ q.sz = p.sz := by
  rcases Pay.app_forms h with ⟨l, m, rfl, rfl, rfl⟩ | ⟨k, l, m, rfl, rfl, rfl⟩ | ⟨s, l, m, rfl, rfl, rfl⟩ <;> simp [Pay.cells, Pay.len, Pay.sz]

theorem Pay.app_wf {r : Pay AV} (h : p.app q = some r) (hp : p.wf) (hq : q.wf) : r.wf := by
  rcases Pay.app_forms h with ⟨l, m, rfl, rfl, rfl⟩ | ⟨k, l, m, rfl, rfl, rfl⟩ | ⟨s, l, m, rfl, rfl, rfl⟩
  · trivial
  · trivial
  · exact ⟨hp.1, fun x hx => (List.mem_append.1 hx).elim (hp.2 x) (hq.2 x)⟩

theorem Pay.app_kind {r e : Pay AV} (h : p.app q = some r) (hk : kindOfPay e p = true) : kindOfPay e r = true := by
  rcases Pay.app_forms h with ⟨l, m, rfl, rfl, rfl⟩ | ⟨k, l, m, rfl, rfl, rfl⟩ | ⟨s, l, m, rfl, rfl, rfl⟩ <;> cases e <;> simp only [kindOfPay] at * <;> exact hk
end pays

/-- A slice value that holds 'p', to be read. -/
def Holds (w : World) (M : Nat → Prop) (ρ : List CObj) (u : Value) (p : Pay AV) : Prop :=
  ∃ a cap us, u = .slice a p.len cap ∧ p.len ≤ cap ∧ cap ≤ maxLen ∧ (a = none → cap = 0) ∧
    (p.len = 0 ∨ ∃ b base, a = some ⟨b, base, none⟩ ∧ b < w.heap.size ∧ RepL w M ρ p.cells us ∧ CellsAt w b base us ∧ (∀ u ∈ us, u.oneCell' = true) ∧ (∀ a ∈ p.cells, pureLeaf a = true) ∧ p.wf)

theorem hget_some {hp : List AObj} {o : Nat} {x : AObj} (h : hget hp o = x) (hx : x ≠ .dead) : hp[o]? = some x := by
  induction hp generalizing o with
  | nil => exact absurd h.symm hx
  | cons a l ih => cases o with
    | zero => simp [hget] at h; simp [h]
    | succ o => simpa using ih (o := o) h

section
variable {tt : Tab} {w : World} {Mx : Nat → Prop} {ρ : List CObj} {hp : List AObj} {P : Program}

theorem Env.at (hE : Env tt w Mx ρ hp) {o : Nat} {x : AObj} (h : hp[o]? = some x) : ∃ c, ρ[o]? = some c ∧ RepO tt w (Mof Mx ρ) ρ x c := by
  have hlt : o < hp.length := by
    rcases Nat.lt_or_ge o hp.length with h' | h'
    · exact h'
    · simp [List.getElem?_eq_none h'] at h
  have : ∃ c, ρ[o]? = some c := ⟨ρ[o]'(by rw [hE.len]; exact hlt), by simp [hE.len, hlt]⟩
  obtain ⟨c, hc⟩ := this
  exact ⟨c, hc, hE.obj o x c h hc⟩

theorem emptyPay_len (tt : Tab) (E : Nat) : (emptyPay tt E).len = 0 := by unfold emptyPay; split <;> rfl

theorem ownsRow_cells {w : World} {E sz n : Nat} {v : Value} {us : List Value} (h : w.ownsRow 0 E sz v n us) :
    (v = .slice none 0 0 ∧ n = 0) ∨ ∃ g cap, v = .slice (some ⟨g, 0, none⟩) n cap ∧ n ≤ cap ∧ cap ≤ maxLen ∧ g < w.heap.size ∧ CellsAt w g 0 us := by
  rcases h.2 with h0 | ⟨g, cap, cur, rfl, _, hg, hn, hm, hcs, htake⟩
  · exact .inl h0
  · refine .inr ⟨g, cap, rfl, hn, hm, (Array.getElem?_eq_some_iff.1 hg).1, ?_⟩
    intro j u hu
    have := World.ownsRow.cells h (g := g) rfl j u hu
    have hadd : (⟨g, 0, none⟩ : Addr).add j = ⟨g, 0 + j, none⟩ := by unfold Addr.add; split <;> simp_all
    rw [hadd] at this
    exact this

theorem CellsAt.drop {w : World} {b base : Nat} {us : List Value} (h : CellsAt w b base us) (n : Nat) : CellsAt w b (base + n) (us.drop n) := by
  intro j u hu
  rw [List.getElem?_drop] at hu
  have := h _ u hu
  rw [show base + n + j = base + (n + j) by omega]; exact this

theorem CellsAt.take {w : World} {b base : Nat} {us : List Value} (h : CellsAt w b base us) (n : Nat) : CellsAt w b base (us.take n) := by
  intro j u hu
  rw [List.getElem?_take] at hu
  split at hu
  · exact h j u hu
  · cases hu

theorem payOf_holds (hE : Env tt w Mx ρ hp) {E : Nat} {x : AV} {u : Value} {p : Pay AV} (hx : RepV w (Mof Mx ρ) ρ x u) (h : payOf tt E hp x = some p) : Holds w (Mof Mx ρ) ρ u p := by
  unfold payOf at h
  split at h
  · cases h
    cases hx with | nil =>
    exact ⟨none, 0, [], by rw [emptyPay_len], by rw [emptyPay_len]; exact Nat.le_refl _, by decide, fun _ => rfl, .inl (emptyPay_len _ _)⟩
  · cases h
    cases hx with
    | roN h0 hm hn => exact ⟨_, _, [], by rw [h0], by omega, hm, hn, .inl h0⟩
    | ro hl hc hb hlt h1 hp hw hcap hm => exact ⟨_, _, _, rfl, hcap, hm, by simp, .inr ⟨_, _, rfl, hlt, hl, hc, h1, hp, hw⟩⟩
  · cases h
    cases hx with | rn hx =>
    cases hx with
    | roN h0 hm hn => exact ⟨_, _, [], by rw [h0], by omega, hm, hn, .inl h0⟩
    | ro hl hc hb hlt h1 hp hw hcap hm => exact ⟨_, _, _, rfl, hcap, hm, by simp, .inr ⟨_, _, rfl, hlt, hl, hc, h1, hp, hw⟩⟩
  · rename_i o
    split at h
    · rename_i E' p' ho
      cases h
      obtain ⟨c, hc, hr⟩ := hE.at (hget_some ho (by simp))
      cases hx with | own h' =>
      rw [hc] at h'; cases h'
      cases hr with | arr hro hl h1 hpl hw hs hE' =>
      rcases ownsRow_cells hro with ⟨rfl, h0⟩ | ⟨g, cap, rfl, hn, hm, hlt, hcl⟩
      · exact ⟨none, 0, [], by rw [h0], by omega, by decide, fun _ => rfl, .inl h0⟩
      · exact ⟨_, _, _, rfl, hn, hm, by simp, .inr ⟨_, _, rfl, hlt, hl, hcl, h1, hpl, hw⟩⟩
    · cases h
  · rename_i o a n
    split at h
    · rename_i E' p' ho
      cases h
      obtain ⟨c, hc, hr⟩ := hE.at (hget_some ho (by simp))
      cases hx with
      | subN h' =>
        rw [hc] at h'; cases h'
        cases hr with | arr hro hl h1 hpl hw hs hE' =>
        have : (p'.cut 0 0).len = 0 := by rw [Pay.cut_len]; omega
        exact ⟨none, 0, [], by rw [this], by omega, by decide, fun _ => rfl, .inl this⟩
      | @sub _ _ _ g m cap sz addr h' hle ha =>
        rw [hc] at h'; cases h'
        cases hr with | @arr _ _ _ _ us hro hl h1 hpl hw hs hE' =>
        rcases ownsRow_cells hro with ⟨h0, _⟩ | ⟨g', cap', he, hn, hm, hlt, hcl⟩
        · cases h0
        · cases he
          have hlen : (p'.cut a n).len = n := Pay.cut_len a n hle
          refine ⟨some addr, cap - a, (us.drop (a * p'.sz)).take (n * p'.sz), by rw [hlen], by omega, by omega, by simp, ?_⟩
          rw [hlen]
          rcases Nat.eq_zero_or_pos n with h0 | h0
          · exact .inl h0
          · refine .inr ⟨g, a * p'.sz, ?_, hlt, ?_, ?_, ?_, ?_, Pay.cut_wf hw a n⟩
            · rw [ha (by omega), hs]
            · rw [Pay.cells_cut hw]; exact (hl.drop _).take _
            · have := (hcl.drop (a * p'.sz)).take (n * p'.sz)
              rw [Nat.zero_add] at this; exact this
            · exact fun u hu => h1 u (List.mem_of_mem_drop (List.mem_of_mem_take hu))
            · rw [Pay.cells_cut hw]; exact fun u hu => hpl u (List.mem_of_mem_drop (List.mem_of_mem_take hu))
    · cases h
  · cases h
end
end Go.Proofs.YtmkgmlgklggnlaaGm

namespace Go.Proofs.YtmkgmlgklggnlaaGm

section
variable {P : Program} {tt : Tab} {w : World} {Mx : Nat → Prop} {ρ : List CObj} {hp : List AObj}

theorem eta1_eq {t : Nat} {v r : AV} (h : eta1 (R := Option AV) none tt t v some = some r) : r = v := by
  unfold eta1 at h
  split at h
  · split at h
    · cases hc : isBool v <;> simp only [hc, cond_true, cond_false] at h <;> cases h
      cases v <;> simp [isBool] at hc; rfl
    · rename_i kk _
      cases hc : isInt kk v <;> simp only [hc, cond_true, cond_false] at h <;> cases h
      cases v <;> simp [isInt] at hc
      have := ikEq_eq hc; subst this; rfl
    · cases hc : isStr v <;> simp only [hc, cond_true, cond_false] at h <;> cases h
      cases v <;> simp [isStr] at hc; rfl
    · rename_i el _
      cases hc : isRo (emptyPay tt el) v <;> simp only [hc, cond_true, cond_false] at h <;> cases h
      cases v <;> simp [isRo] at hc
      rename_i p
      generalize emptyPay tt el = e at *
      cases e <;> cases p <;> simp only [kindOfPay] at hc <;> try (cases hc)
      · rfl
      · have := ikEq_eq hc; subst this; rfl
      · have := Nat.eq_of_beq_eq_true hc; subst this; rfl
    · cases h; rfl
  · cases h

theorem elim_some {α β : Type} {x : Option α} {f : α → Option β} {b : β} (h : x.elim none f = some b) : ∃ a, x = some a ∧ f a = some b := by
  cases x with
  | none => cases h
  | some a => exact ⟨a, rfl, h⟩

theorem etaL_eq : ∀ {ts : List Nat} {ls rs : List AV} {i : Nat}, etaL (R := Option (List AV)) none tt ls ts i some = some rs →
    rs.length = ts.length ∧ ∀ j, j < ts.length → rs[j]? = some (nth ls (i + j))
  | [], ls, rs, i, h => by simp only [etaL, Option.some.injEq] at h; subst h; simp
  | t :: ts, ls, rs, i, h => by
    simp only [etaL] at h
    rw [eta1_cps] at h
    obtain ⟨v, hv, h⟩ := elim_some h
    rw [etaL_cps] at h
    obtain ⟨vs, hvs, h⟩ := elim_some h
    cases h
    have := etaL_eq hvs
    have e := eta1_eq hv
    refine ⟨by simp [this.1], fun j hj => ?_⟩
    cases j with
    | zero => simp [e]
    | succ j =>
      simp only [List.getElem?_cons_succ]
      rw [this.2 j (by simpa using hj)]
      congr 2; omega

theorem addr_add (b o j : Nat) : (⟨b, o, none⟩ : Addr).add j = ⟨b, o + j, none⟩ := by unfold Addr.add; split <;> simp_all

/-- A scalar's load. -/
theorem run_loadVar_one {t : Nat} {e : TyE} (h : TyOk P t e) (hd : isAggT e.d = false) {b o : Nat} {u : Value}
    (hc : w.cell? ⟨b, o, none⟩ = some u) : (loadVar t ⟨b, o, none⟩).run P w = .ok u w := by
  simp [loadVar, run_isAgg_of h, hd, hc]

theorem run_loadVar_agg {t : Nat} {e : TyE} (h : TyOk P t e) (hd : isAggT e.d = true) {b o : Nat} {us : List Value}
    (hc : CellsAt w b o us) (hl : us.length = e.size) : (loadVar t ⟨b, o, none⟩).run P w = .ok (.agg us.toArray) w := by
  have := run_loadCells_list (P := P) w ⟨b, o, none⟩ us (fun j v hv => by rw [addr_add]; exact hc j v hv)
  rw [hl] at this
  simp [loadVar, run_isAgg_of h, hd, run_sizeOf_of h, this]

theorem take_drop_get {α : Type} (l : List α) (a n j : Nat) (hj : j < n) : ((l.drop a).take n)[j]? = l[a + j]? := by
  rw [List.getElem?_take, if_pos hj, List.getElem?_drop]

/-- What a row holds at a place is loaded. -/
theorem spanA_eq {k : IntKind} {l : List AV} {n : Nat} (h : l.length = n) (ha : l.all (isInt k) = true) : spanA k l n = l := by
  subst h
  unfold spanA
  apply List.ext_getElem?
  intro j
  rw [List.getElem?_map]
  rcases Nat.lt_or_ge j l.length with hj | hj
  · rw [List.getElem?_range hj, List.getElem?_eq_getElem hj]
    show some (AV.int k (intOf (nth l j))) = some l[j]
    have e : nth l j = l[j] := by rw [nth_eq_getElem?, List.getElem?_eq_getElem hj]; rfl
    rw [e]
    have := List.all_eq_true.1 ha l[j] (List.getElem_mem hj)
    cases hx : l[j] with
    | int k' m =>
      rw [hx] at this
      have hk : k = k' := by
        cases k <;> cases k' <;> first | rfl | (simp [isInt, ikEq] at this)
      subst hk; rfl
    | _ => rw [hx] at this; simp [isInt] at this
  · rw [List.getElem?_eq_none (by simp; omega), List.getElem?_eq_none hj]; rfl
theorem ldPay_sound (hT : TabOk P tt) {t i off : Nat} {p : Pay AV} {us : List Value} {b base : Nat} {r : AV} {M : Nat → Prop} (hl : RepL w M ρ p.cells us) (hc : CellsAt w b base us) (hw : p.wf) (hi : i < p.len)
    (h1 : ∀ u ∈ us, u.oneCell' = true)
    (h : ldPay (R := Option AV) none tt t p i off some = some r) : ∃ u, (loadVar t ⟨b, base + i * p.sz + off, none⟩).run P w = .ok u w ∧ RepV w M ρ r u := by
  unfold ldPay at h
  cases he : tget tt t with
  | none => simp only [he] at h; cases h
  | some e =>
    simp only [he] at h
    have hok := hT t e he
    cases hb : (Nat.ble (off + e.size) p.sz && Nat.blt 0 e.size) <;> simp only [hb, cond_true, cond_false] at h
    · unfold ldSpan at h
      split at h
      · rename_i n E l hd
        cases hc2 : (isTy tt E isU8 && Nat.beq off 0 && Nat.beq e.size n && Nat.ble (i + n) l.length) <;> simp only [hc2, cond_true, cond_false] at h <;> cases h
        simp only [Bool.and_eq_true] at hc2
        obtain ⟨⟨⟨_, k1⟩, k2⟩, k3⟩ := hc2
        have k1 := Nat.eq_of_beq_eq_true k1
        have k2 := Nat.eq_of_beq_eq_true k2
        have k3 := Nat.le_of_ble_eq_true k3
        subst k1
        have hlen : us.length = l.length := by rw [← hl.length]; show (l.map _).length = _; rw [List.length_map]
        have hcells : CellsAt w b (base + i * 1 + 0) ((us.drop i).take e.size) := by
          have := (hc.drop i).take e.size
          rw [show base + i * 1 + 0 = base + i by omega]; exact this
        have hlen2 : ((us.drop i).take e.size).length = e.size := by simp; omega
        have hsp : spanB l i n = (((Pay.bytes l : Pay AV).cells.drop i).take n) := by
          unfold spanB Pay.cells
          apply List.ext_getElem?
          intro j
          rw [List.getElem?_map]
          rcases Nat.lt_or_ge j n with hj | hj
          · rw [List.getElem?_range hj, List.getElem?_take_of_lt hj, List.getElem?_drop, List.getElem?_map, List.getElem?_eq_getElem (show i + j < l.length by omega)]
            show some (AV.int .u8 ((l.getD (i + j) 0).toNat : Int)) = some _
            rw [List.getD_eq_getElem?_getD, List.getElem?_eq_getElem (show i + j < l.length by omega)]; rfl
          · rw [List.getElem?_eq_none (by simp; omega), List.getElem?_eq_none (by simp; omega)]; rfl
        have hleaf : RepL w M ρ (spanB l i n) ((us.drop i).take e.size) := by
          rw [hsp, k2]
          exact (hl.drop i).take n
        exact ⟨.agg ((us.drop i).take e.size).toArray, run_loadVar_agg hok (by rw [hd]; rfl) hcells hlen2, .arr hleaf (fun u hu => h1 u (List.mem_of_mem_drop (List.mem_of_mem_take hu))) fun a ha => by
          unfold spanB at ha
          obtain ⟨j, _, rfl⟩ := List.mem_map.1 ha
          rfl⟩
      · cases h
    simp only [Bool.and_eq_true] at hb
    have hsz : off + e.size ≤ p.sz := Nat.le_of_ble_eq_true hb.1
    have hpos : 0 < e.size := by have := hb.2; simp [Nat.blt] at this; omega
    have hlen : us.length = p.len * p.sz := by rw [← hl.length]; exact Pay.cells_length hw
    have hin : i * p.sz + p.sz ≤ us.length := by
      rw [hlen, ← Nat.succ_mul]; exact Nat.mul_le_mul_right _ hi
    have hcells : CellsAt w b (base + i * p.sz + off) ((us.drop (i * p.sz + off)).take e.size) := by
      have := (hc.drop (i * p.sz + off)).take e.size
      rw [show base + i * p.sz + off = base + (i * p.sz + off) by omega]; exact this
    have hleaf : RepL w M ρ (((p.leaves i).drop off).take e.size) ((us.drop (i * p.sz + off)).take e.size) := by
      rw [Pay.leaves_eq hw i hi]
      have := (hl.drop (i * p.sz + off)).take e.size
      rw [List.drop_take, List.take_take, List.drop_drop, Nat.min_eq_left (by omega)]
      exact this
    have hlen2 : ((us.drop (i * p.sz + off)).take e.size).length = e.size := by simp; omega
    have h1' : ∀ u ∈ (us.drop (i * p.sz + off)).take e.size, u.oneCell' = true := fun u hu => h1 u (List.mem_of_mem_drop (List.mem_of_mem_take hu))
    have scalar : isAggT e.d = false → r = p.leaf i off → ∃ u, (loadVar t ⟨b, base + i * p.sz + off, none⟩).run P w = .ok u w ∧ RepV w M ρ r u := by
      intro hd hr
      obtain ⟨u, hu⟩ : ∃ u, us[i * p.sz + off]? = some u := ⟨us[i * p.sz + off]'(by omega), List.getElem?_eq_getElem (by omega)⟩
      refine ⟨u, run_loadVar_one hok hd (by rw [Nat.add_assoc]; exact hc _ _ hu), ?_⟩
      have hr2 := hl.get _ _ hu
      have e2 : nth p.cells (i * p.sz + off) = p.leaf i off := by
        rw [Pay.leaf_eq hw i off hi (by omega), Pay.leaves_eq hw i hi, nth_eq_getElem?, nth_eq_getElem?, take_drop_get _ _ _ _ (by omega)]
      rw [hr, ← e2]; exact hr2
    split at h
    · rename_i fs hfs
      rw [etaL_cps] at h
      obtain ⟨ls, hls, h⟩ := elim_some h
      cases h
      have := etaL_eq hls
      refine ⟨.agg ((us.drop (i * p.sz + off)).take e.size).toArray, run_loadVar_agg hok (by rw [hfs]; rfl) hcells hlen2, .agg ?_ h1'⟩
      refine RepL.of_get (by rw [this.1, hok.leaf, hlen2]) fun j a v ha hv => ?_
      have hj : j < e.leaf.length := by
        rcases Nat.lt_or_ge j e.leaf.length with hj | hj
        · exact hj
        · rw [List.getElem?_eq_none (by rw [this.1]; exact hj)] at ha; cases ha
      rw [this.2 j hj] at ha
      cases ha
      rw [Nat.zero_add]
      exact hleaf.get j v hv
    · rename_i n E hfs
      cases hit : isIntTy1 tt E with
      | true =>
        simp only [hit, cond_true] at h
        cases hc3 : (Nat.beq (((p.leaves i).drop off).take e.size).length n && (((p.leaves i).drop off).take e.size).all (isInt (kindIn tt E))) <;> simp only [hc3, cond_true, cond_false] at h <;> cases h
        rw [Bool.and_eq_true] at hc3
        have q1 := Nat.eq_of_beq_eq_true hc3.1
        rw [spanA_eq q1 hc3.2]
        exact ⟨.agg ((us.drop (i * p.sz + off)).take e.size).toArray, run_loadVar_agg hok (by rw [hfs]; rfl) hcells hlen2, .arr hleaf h1' fun a ha => by
          have := List.all_eq_true.1 hc3.2 a ha
          cases a <;> first | rfl | (simp [isInt] at this)⟩
      | false =>
      simp only [hit, cond_false] at h
      cases hsc : (((p.leaves i).drop off).take e.size).all scalarLeaf <;> simp only [hsc, cond_true, cond_false] at h <;> cases h
      exact ⟨.agg ((us.drop (i * p.sz + off)).take e.size).toArray, run_loadVar_agg hok (by rw [hfs]; rfl) hcells hlen2, .arr hleaf h1' fun a ha => List.all_eq_true.1 hsc a ha⟩
    · cases h
    · rename_i hns hna hno
      have hd : isAggT e.d = false := by
        cases hdd : e.d <;> simp_all [isAggT]
      split at h
      · exact scalar hd (eta1_eq h)
      · cases h; exact scalar hd rfl

theorem ldVar_sound (hT : TabOk P tt) {t off : Nat} {cs : List AV} {us : List Value} {b : Nat} {r : AV} {M : Nat → Prop} (hl : RepL w M ρ cs us) (hc : CellsAt w b 0 us)
    (h1 : ∀ u ∈ us, u.oneCell' = true) (h : ldVar (R := Option AV) none tt t cs off some = some r) : ∃ u, (loadVar t ⟨b, off, none⟩).run P w = .ok u w ∧ RepV w M ρ r u := by
  unfold ldVar at h
  cases he : tget tt t with
  | none => simp only [he] at h; cases h
  | some e =>
    simp only [he] at h
    have hok := hT t e he
    have scalar : isAggT e.d = false → r = nth cs off → r ≠ .top → ∃ u, (loadVar t ⟨b, off, none⟩).run P w = .ok u w ∧ RepV w M ρ r u := by
      intro hd hr hnt
      have hlt : off < us.length := by
        rcases Nat.lt_or_ge off us.length with hj | hj
        · exact hj
        · exfalso; apply hnt; rw [hr, nth_eq_getElem?, List.getElem?_eq_none (by rw [hl.length]; exact hj)]; rfl
      have hu : us[off]? = some us[off] := List.getElem?_eq_getElem hlt
      exact ⟨us[off], run_loadVar_one hok hd (by have := hc _ _ hu; rw [Nat.zero_add] at this; exact this), by rw [hr]; exact hl.get _ _ hu⟩
    have aggl : ∀ hle : off + e.size ≤ cs.length, RepL w M ρ ((cs.drop off).take e.size) ((us.drop off).take e.size) ∧ CellsAt w b off ((us.drop off).take e.size) ∧ ((us.drop off).take e.size).length = e.size ∧
        ∀ u ∈ (us.drop off).take e.size, u.oneCell' = true := by
      intro hle
      refine ⟨(hl.drop _).take _, ?_, by rw [hl.length] at hle; simp; omega, fun u hu => h1 u (List.mem_of_mem_drop (List.mem_of_mem_take hu))⟩
      have := (hc.drop off).take e.size
      rw [Nat.zero_add] at this; exact this
    have eta : eta1 (R := Option AV) none tt t (nth cs off) some = some r → (match e.d with | .int _ | .bool | .str => true | _ => false) = true → r = nth cs off ∧ r ≠ .top := by
      intro h hd
      have := eta1_eq h
      refine ⟨this, ?_⟩
      rintro rfl
      rw [← this] at h
      unfold eta1 at h
      simp only [he] at h
      cases hdd : e.d <;> simp [hdd, isInt, isBool, isStr] at h hd
    split at h
    · rename_i fs hfs
      cases hb : Nat.ble (off + e.size) cs.length <;> simp only [hb, cond_true, cond_false] at h <;> cases h
      obtain ⟨g1, g2, g3, g4⟩ := aggl (Nat.le_of_ble_eq_true hb)
      exact ⟨_, run_loadVar_agg hok (by rw [hfs]; rfl) g2 g3, .agg g1 g4⟩
    · rename_i n E hfs
      cases hb : (Nat.ble (off + e.size) cs.length && ((cs.drop off).take e.size).all scalarLeaf) <;> simp only [hb, cond_true, cond_false] at h <;> cases h
      simp only [Bool.and_eq_true] at hb
      obtain ⟨g1, g2, g3, g4⟩ := aggl (Nat.le_of_ble_eq_true hb.1)
      exact ⟨_, run_loadVar_agg hok (by rw [hfs]; rfl) g2 g3, .arr g1 g4 fun a ha => List.all_eq_true.1 hb.2 a ha⟩
    · rename_i k hfs
      obtain ⟨e1, e2⟩ := eta h (by rw [hfs])
      exact scalar (by rw [hfs]; rfl) e1 e2
    · rename_i hfs
      obtain ⟨e1, e2⟩ := eta h (by rw [hfs])
      exact scalar (by rw [hfs]; rfl) e1 e2
    · rename_i hfs
      obtain ⟨e1, e2⟩ := eta h (by rw [hfs])
      exact scalar (by rw [hfs]; rfl) e1 e2
    · cases h
    · have hd : isAggT e.d = false := by
        cases hdd : e.d <;> simp_all [isAggT]
      unfold notTop at h
      split at h
      · cases h
      · rename_i hnt
        cases h
        exact scalar hd rfl hnt

theorem cellsAt_block {b : Nat} {us : List Value} {T : Nat} {fz : Nat × Nat} (h : w.heap[b]? = some (.cells us.toArray T fz)) : CellsAt w b 0 us := by
  intro j u hu
  rw [Nat.zero_add, cell_of_row w b j _ T fz h]
  simpa using hu

theorem ldArr_sound (hT : TabOk P tt) {t off : Nat} {kk : IntKind} {l : List Int} {us : List Value} {b : Nat} {r : AV} {M : Nat → Prop} (hl : RepL w M ρ (l.map (AV.int kk)) us) (hc : CellsAt w b 0 us)
    (h1 : ∀ u ∈ us, u.oneCell' = true) (h : ldArr (R := Option AV) none tt t kk l off some = some r) : ∃ u, (loadVar t ⟨b, off, none⟩).run P w = .ok u w ∧ RepV w M ρ r u := by
  unfold ldArr at h
  have hlen : us.length = l.length := by rw [← hl.length, List.length_map]
  split at h
  · rename_i e he
    have hok := hT t e he
    split at h
    · rename_i k' hd
      cases hb : (ikEq kk k' && Nat.blt off l.length) <;> simp only [hb, cond_true, cond_false] at h <;> cases h
      simp only [Bool.and_eq_true] at hb
      have hlt : off < l.length := by have := hb.2; simp [Nat.blt] at this; omega
      obtain ⟨u, hu⟩ : ∃ u, us[off]? = some u := ⟨us[off]'(by omega), List.getElem?_eq_getElem (by omega)⟩
      refine ⟨u, run_loadVar_one hok (by rw [hd]; rfl) (by have := hc off u hu; rw [Nat.zero_add] at this; exact this), ?_⟩
      have := hl.get _ _ hu
      rw [nth_eq_getElem?, List.getElem?_map, List.getElem?_eq_getElem hlt] at this
      rw [List.getD_eq_getElem?_getD, List.getElem?_eq_getElem hlt]
      exact this
    · rename_i n E hd
      cases hb : (Nat.beq off 0 && Nat.beq e.size l.length) <;> simp only [hb, cond_true, cond_false] at h <;> cases h
      simp only [Bool.and_eq_true] at hb
      have h0 := Nat.eq_of_beq_eq_true hb.1
      have hs := Nat.eq_of_beq_eq_true hb.2
      subst h0
      refine ⟨.agg us.toArray, run_loadVar_agg hok (by rw [hd]; rfl) hc (by omega), .arr hl h1 fun a ha => ?_⟩
      obtain ⟨n, _, rfl⟩ := List.mem_map.1 ha
      rfl
    · cases h
  · cases h

theorem aload_sound (hT : TabOk P tt) (hE : Env tt w Mx ρ hp) {t : Nat} {a r : AV} {u : Value} (ha : RepV w (Mof Mx ρ) ρ a u) (h : aload (R := Option AV) none tt hp t a some = some r) :
    Gives P w (Mof Mx ρ) ρ (Instr.loadAt t u) r := by
  unfold aload at h
  split at h
  · rename_i o off
    split at h
    · rename_i T cs ho
      obtain ⟨c, hc, hr⟩ := hE.at (hget_some ho (by simp))
      cases ha with | ptr e =>
      rw [hc] at e; cases e
      cases hr with | var hb hl h1 =>
      obtain ⟨v, hv, hrv⟩ := ldVar_sound hT hl (cellsAt_block hb) h1 h
      exact .same (by simp [Instr.loadAt, Instr.sureAddr, hv]) hrv
    · rename_i T kk l ho
      obtain ⟨c, hc, hr⟩ := hE.at (hget_some ho (by simp))
      cases ha with | ptr e =>
      rw [hc] at e; cases e
      cases hr with | vara hb hl h1 =>
      obtain ⟨v, hv, hrv⟩ := ldArr_sound hT hl (cellsAt_block hb) h1 h
      exact .same (by simp [Instr.loadAt, Instr.sureAddr, hv]) hrv
    · cases h
  · rename_i p i off
    cases ha with | eptr hl hc hb hlt h1 hpl hw hi =>
    obtain ⟨v, hv, hrv⟩ := ldPay_sound hT hl hc hw hi h1 h
    exact .same (by simp [Instr.loadAt, Instr.sureAddr, hv]) hrv
  · rename_i o i off
    split at h
    · rename_i E p ho
      obtain ⟨c, hc, hr⟩ := hE.at (hget_some ho (by simp))
      cases ha with | aptr e hi =>
      rw [hc] at e; cases e
      cases hr with | arr hro hl h1 hpl hw hs hE' =>
      rcases ownsRow_cells hro with ⟨h0, _⟩ | ⟨g, cap, he, hn, hm, hlt, hcl⟩
      · cases h0
      · cases he
        obtain ⟨v, hv, hrv⟩ := ldPay_sound hT hl hcl hw hi h1 h
        rw [Nat.zero_add, hs] at hv
        exact .same (by simp [Instr.loadAt, Instr.sureAddr, hv]) hrv
    · cases h
  · cases h
end
end Go.Proofs.YtmkgmlgklggnlaaGm

namespace Go.Proofs.YtmkgmlgklggnlaaGm

section
variable {P : Program} {tt : Tab} {w : World} {Mx : Nat → Prop} {ρ : List CObj} {hp : List AObj}

theorem szOk_some (hT : TabOk P tt) {E n : Nat} (h : szOk tt E n = true) : ∃ e, TyOk P E e ∧ e.size = n ∧ (∀ w : World, (sizeOf E).run P w = .ok n w) := by
  unfold szOk at h
  cases he : tget tt E with
  | none => simp [he] at h
  | some e =>
    simp only [he] at h
    have := Nat.eq_of_beq_eq_true h
    exact ⟨e, hT E e he, this, fun w => by rw [run_sizeOf_of (hT E e he), this]⟩

theorem inB_spec {i : Int} {n : Nat} (h : inB i n = true) : 0 ≤ i ∧ i < n := by simpa [inB] using h

/-- An index address into a slice. -/
theorem run_indexAt_slice {t E n cap sz b o : Nat} {k : IntKind} {i : Int} (ht : P.underlying t = some (.slice E)) (hs : (sizeOf E).run P w = .ok sz w) (h0 : 0 ≤ i) (h1 : i < n) :
    (Instr.indexAt t (.slice (some ⟨b, o, none⟩) n cap) (.int k i)).run P w = .ok (.pointer (some ⟨b, o + i.toNat * sz, none⟩)) w := by
  simp [Instr.indexAt, asIntOf, run_underlying ht, h0, h1, hs, addr_add]

theorem aindexAddr_sound (hT : TabOk P tt) (hE : Env tt w Mx ρ hp) {t : Nat} {x i r : AV} {u v : Value} (hx : RepV w (Mof Mx ρ) ρ x u) (hi : RepV w (Mof Mx ρ) ρ i v)
    (h : aindexAddr (R := Option AV) none tt hp t x i some = some r) : Gives P w (Mof Mx ρ) ρ (Instr.indexAt t u v) r := by
  unfold aindexAddr at h
  split at h
  · rename_i e k i he
    have hok := hT t e he
    cases hi with | int hk =>
    split at h
    · rename_i E p hd
      cases hb : (szOk tt E p.sz && inB i p.len) <;> simp only [hb, cond_true, cond_false] at h <;> cases h
      simp only [Bool.and_eq_true] at hb
      obtain ⟨eE, hokE, _, hsz⟩ := szOk_some hT hb.1
      obtain ⟨h0, h1⟩ := inB_spec hb.2
      cases hx with
      | roN hn => omega
      | ro hl hc hbM hlt h1' hpl hw hcap hm =>
        refine .same (run_indexAt_slice (hok.slice hd) (hsz w) h0 h1) ?_
        exact .eptr hl hc hbM hlt h1' hpl hw (by omega)
    · rename_i E o hd
      split at h
      · rename_i E' p ho
        cases hb : (szOk tt E p.sz && inB i p.len) <;> simp only [hb, cond_true, cond_false] at h <;> cases h
        simp only [Bool.and_eq_true] at hb
        obtain ⟨eE, hokE, _, hsz⟩ := szOk_some hT hb.1
        obtain ⟨h0, h1⟩ := inB_spec hb.2
        obtain ⟨c, hc, hr⟩ := hE.at (hget_some ho (by simp))
        cases hx with | own h' =>
        rw [hc] at h'; cases h'
        cases hr with | arr hro hl h1' hpl hw hs hE' =>
        rcases ownsRow_cells hro with ⟨rfl, hz⟩ | ⟨g, cap, rfl, hn, hm, hlt, hcl⟩
        · omega
        · have := run_indexAt_slice (P := P) (w := w) (k := k) (n := p.len) (cap := cap) (b := g) (o := 0) (hok.slice hd) (hsz w) h0 h1
          refine .same this ?_
          rw [Nat.zero_add, hs]
          exact .aptr (off := 0) hc (by omega)
      · cases h
    · rename_i E o a n hd
      split at h
      · rename_i E' p ho
        cases hb : (szOk tt E p.sz && inB i n) <;> simp only [hb, cond_true, cond_false] at h <;> cases h
        simp only [Bool.and_eq_true] at hb
        obtain ⟨eE, hokE, _, hsz⟩ := szOk_some hT hb.1
        obtain ⟨h0, h1⟩ := inB_spec hb.2
        obtain ⟨c, hc, hr⟩ := hE.at (hget_some ho (by simp))
        cases hx with
        | subN h' => omega
        | @sub _ _ _ g m cap sz addr h' hle ha =>
          rw [hc] at h'; cases h'
          cases hr with | arr hro hl h1' hpl hw hs hE' =>
          rcases ownsRow_cells hro with ⟨h0', _⟩ | ⟨g', cap', he', hn, hm, hlt, hcl⟩
          · cases h0'
          · cases he'
            have hadr := ha (by omega)
            subst hadr
            have := run_indexAt_slice (P := P) (w := w) (k := k) (n := n) (cap := cap - a) (b := g) (o := a * sz) (hok.slice hd) (hsz w) h0 h1
            refine .same this ?_
            have e : a * sz + i.toNat * p.sz = (a + i.toNat) * sz + 0 := by rw [hs, Nat.add_mul]; rfl
            rw [e]
            exact .aptr hc (by omega)
      · cases h
    · rename_i n E o off hd
      split at h
      · rename_i eE heE
        cases hb : inB i n <;> simp only [hb, cond_true, cond_false] at h <;> cases h
        obtain ⟨h0, h1⟩ := inB_spec hb
        cases hx with | @ptr _ _ b hp' =>
        have := run_sizeOf_of (P := P) (w := w) (hT E eE heE)
        refine .same (u := .pointer (some ⟨b, off + i.toNat * eE.size, none⟩)) ?_ (.ptr hp')
        simp [Instr.indexAt, asIntOf, run_underlying (hok.array hd), Instr.sureAddr, h0, h1, this, addr_add]
      · cases h
    · rename_i n E p j off hd
      split at h
      · rename_i eE heE
        cases hb : inB i n <;> simp only [hb, cond_true, cond_false] at h <;> cases h
        obtain ⟨h0, h1⟩ := inB_spec hb
        cases hx with | @eptr _ us b base _ _ hl hc hbM hlt h1' hpl hw hj =>
        have := run_sizeOf_of (P := P) (w := w) (hT E eE heE)
        refine .same (u := .pointer (some ⟨b, base + j * p.sz + off + i.toNat * eE.size, none⟩)) ?_ (by rw [Nat.add_assoc]; exact .eptr hl hc hbM hlt h1' hpl hw hj)
        simp [Instr.indexAt, asIntOf, run_underlying (hok.array hd), Instr.sureAddr, h0, h1, this, addr_add]
      · cases h
    · rename_i n E o j off hd
      split at h
      · rename_i eE heE
        cases hb : inB i n <;> simp only [hb, cond_true, cond_false] at h <;> cases h
        obtain ⟨h0, h1⟩ := inB_spec hb
        cases hx with | @aptr _ _ _ g m cap sz e hj =>
        have := run_sizeOf_of (P := P) (w := w) (hT E eE heE)
        refine .same (u := .pointer (some ⟨g, j * sz + off + i.toNat * eE.size, none⟩)) ?_ (by rw [Nat.add_assoc]; exact .aptr e hj)
        simp [Instr.indexAt, asIntOf, run_underlying (hok.array hd), Instr.sureAddr, h0, h1, this, addr_add]
      · cases h
    · cases h
  · cases h

theorem aindex_sound (hT : TabOk P tt) {M : Nat → Prop} {t : Nat} {x i r : AV} {u v : Value} (hx : RepV w M ρ x u) (hi : RepV w M ρ i v)
    (h : aindex (R := Option AV) none tt t x i some = some r) : Gives P w M ρ (Instr.index t u v) r := by
  unfold aindex at h
  split at h
  · rename_i e k i he
    have hok := hT t e he
    cases hi with | int hk =>
    split at h
    · rename_i s hd
      cases hb : inB i s.length <;> simp only [hb, cond_true, cond_false] at h <;> cases h
      obtain ⟨h0, h1⟩ := inB_spec hb
      cases hx with | @str s hs =>
      have hlt : i.toNat < s.size := by simp at h1; omega
      have hget : s[i.toNat]? = some s[i.toNat] := by simp [getElem?_pos, hlt]
      refine .same (u := .int .u8 s[i.toNat].toNat) ?_ ?_
      · simp [Instr.index, asIntOf, run_underlying (hok.str hd), h0, hget]
      · have e : s.data.toList.getD i.toNat 0 = s[i.toNat] := by
          have hlt' : i.toNat < s.data.size := hlt
          simp only [List.getD, Array.getElem?_toList]
          rw [Array.getElem?_eq_getElem hlt']
          rfl
        rw [e]
        refine .int ?_
        have := s[i.toNat].toNat_lt
        simp [IntKind.has, IntKind.min, IntKind.max, IntKind.signed, IntKind.bits]
        omega
    · rename_i n E l hd
      split at h
      · rename_i k' sz by' zv lf heE
        cases hb : (Nat.beq sz 1 && inB i n) <;> simp only [hb, cond_true, cond_false] at h
        · cases h
        simp only [Bool.and_eq_true] at hb
        have hs1 := Nat.eq_of_beq_eq_true hb.1
        subst hs1
        obtain ⟨h0, h1⟩ := inB_spec hb.2
        have hr := eta1_eq h
        have hokE := hT E _ heE
        cases hx with | @arr _ vs hl h1' hp' =>
        have hlt : i.toNat < vs.length := by
          rcases Nat.lt_or_ge i.toNat vs.length with hj | hj
          · exact hj
          · exfalso
            have : nth l i.toNat = .top := by rw [nth_eq_getElem?, List.getElem?_eq_none (by rw [hl.length]; exact hj)]; rfl
            rw [this] at h
            unfold eta1 at h
            simp [heE, isInt] at h
        have hg : vs[i.toNat]? = some vs[i.toNat] := List.getElem?_eq_getElem hlt
        have hsz := run_sizeOf_of (P := P) (w := w) hokE
        have hag := run_isAgg_of (P := P) (w := w) hokE
        refine .same (u := vs[i.toNat]) ?_ (by rw [hr]; exact hl.get _ _ hg)
        simp [Instr.index, asIntOf, run_underlying (hok.array hd), h0, h1, hsz, part, hag, hg, isAggT]
      · cases h
    · cases h
  · cases h

theorem fieldOff_some (hT : TabOk P tt) {s f fo ft : Nat} (h : fieldOff tt s f = some (fo, ft)) : ∃ (F : Array Field) (g : Field), P.underlying s = some (.struct F) ∧ F[f]? = some g ∧ g.offset = fo ∧ g.type = ft := by
  unfold fieldOff at h
  split at h
  · rename_i fs _ _ _ _ he
    obtain ⟨F, hF, hm⟩ := (hT s _ he).struct rfl
    rw [← hm] at h
    simp only [List.getElem?_map, Option.map_eq_some_iff] at h
    obtain ⟨g, hg, e⟩ := h
    cases e
    exact ⟨F, g, hF, by simpa using hg, rfl, rfl⟩
  · cases h

theorem asap_sound (hT : TabOk P tt) (hE : Env tt w Mx ρ hp) {t : Nat} {x r : AV} {u : Value} (hx : RepV w (Mof Mx ρ) ρ x u)
    (h : asap (R := Option AV) none tt hp t x some = some r) : Gives P w (Mof Mx ρ) ρ (Instr.arrayAt t u) r := by
  unfold asap at h
  split at h
  · rename_i n E _ _ _ _ he
    have hok := hT t _ he
    split at h
    · rename_i p
      cases hb : (Nat.blt 0 n && Nat.ble n p.len) <;> simp only [hb, cond_true, cond_false] at h <;> cases h
      simp only [Bool.and_eq_true] at hb
      have h0 : 0 < n := by have := hb.1; simp [Nat.blt] at this; omega
      have h1 : n ≤ p.len := Nat.le_of_ble_eq_true hb.2
      cases hx with
      | roN hn => omega
      | @ro _ us b base cap hl hc hbM hlt h1' hpl hw hcap hm =>
        refine .same (u := .pointer (some ⟨b, base, none⟩)) ?_ ?_
        · simp [Instr.arrayAt, run_underlying (hok.array rfl)]
          omega
        · have := RepV.eptr (i := 0) (off := 0) hl hc hbM hlt h1' hpl hw (by omega)
          rw [Nat.zero_mul, Nat.add_zero] at this
          exact this
    · rename_i o
      split at h
      · rename_i E' p ho
        cases hb : (Nat.blt 0 n && Nat.ble n p.len) <;> simp only [hb, cond_true, cond_false] at h <;> cases h
        simp only [Bool.and_eq_true] at hb
        have h0 : 0 < n := by have := hb.1; simp [Nat.blt] at this; omega
        have h1 : n ≤ p.len := Nat.le_of_ble_eq_true hb.2
        obtain ⟨c, hc, hr⟩ := hE.at (hget_some ho (by simp))
        cases hx with | own h' =>
        rw [hc] at h'; cases h'
        cases hr with | @arr _ sz _ _ _ hro hl h1' hpl hw hs hE' =>
        rcases ownsRow_cells hro with ⟨rfl, hz⟩ | ⟨g, cap, rfl, hn, hm, hlt, hcl⟩
        · omega
        · refine .same (u := .pointer (some ⟨g, 0, none⟩)) ?_ ?_
          · simp [Instr.arrayAt, run_underlying (hok.array rfl)]
            omega
          · have := RepV.aptr (w := w) (M := Mof Mx ρ) (i := 0) (off := 0) hc (by omega)
            rw [Nat.zero_mul, Nat.add_zero] at this
            exact this
      · cases h
    · rename_i o a m
      split at h
      · rename_i E' p ho
        cases hb : (Nat.blt 0 n && Nat.ble n m) <;> simp only [hb, cond_true, cond_false] at h <;> cases h
        simp only [Bool.and_eq_true] at hb
        have h0 : 0 < n := by have := hb.1; simp [Nat.blt] at this; omega
        have h1 : n ≤ m := Nat.le_of_ble_eq_true hb.2
        obtain ⟨c, hc, hr⟩ := hE.at (hget_some ho (by simp))
        cases hx with
        | subN h' => omega
        | @sub _ _ _ g m' cap sz addr h' hle ha =>
          rw [hc] at h'; cases h'
          cases hr with | arr hro hl h1' hpl hw hs hE' =>
          rcases ownsRow_cells hro with ⟨h0', _⟩ | ⟨g', cap', he', hn, hm, hlt, hcl⟩
          · cases h0'
          · cases he'
            have hadr := ha (by omega)
            subst hadr
            refine .same (u := .pointer (some ⟨g, a * sz, none⟩)) ?_ ?_
            · simp [Instr.arrayAt, run_underlying (hok.array rfl)]
              omega
            · have := RepV.aptr (w := w) (M := Mof Mx ρ) (i := a) (off := 0) hc (by omega)
              rw [Nat.add_zero] at this
              exact this
      · cases h
    · cases h
  · cases h

theorem afieldAddr_sound (hT : TabOk P tt) {M : Nat → Prop} {s f : Nat} {x r : AV} {u : Value} (hx : RepV w M ρ x u)
    (h : afieldAddr (R := Option AV) none tt s f x some = some r) : Gives P w M ρ (Instr.fieldAt s u f) r := by
  unfold afieldAddr at h
  split at h
  · rename_i fo ft hf
    obtain ⟨F, g, hF, hg, ho, hty⟩ := fieldOff_some hT hf
    split at h
    · rename_i e he
      cases hb : Nat.blt 0 e.size <;> simp only [hb, cond_true, cond_false] at h
      · cases h
      have hpos : ¬ e.size = 0 := by simp [Nat.blt] at hb; omega
      have hsz : (sizeOf g.type).run P w = .ok e.size w := by rw [hty]; exact run_sizeOf_of (hT ft e he)
      have run : ∀ b o : Nat, (Instr.fieldAt s (.pointer (some ⟨b, o, none⟩)) f).run P w = .ok (.pointer (some ⟨b, o + fo, none⟩)) w := by
        intro b o
        simp [Instr.fieldAt, run_underlying hF, hg, Instr.sureAddr, fieldPlace, hsz, hpos, addr_add, ho]
      split at h
      · cases h; cases hx with | ptr e => exact .same (run _ _) (.ptr e)
      · cases h; cases hx with | eptr hl hc hb hlt h1 hp hw hi => exact .same (run _ _) (by rw [Nat.add_assoc]; exact .eptr hl hc hb hlt h1 hp hw hi)
      · cases h; cases hx with | aptr e hi => exact .same (run _ _) (by rw [Nat.add_assoc]; exact .aptr e hi)
      · cases h
    · cases h
  · cases h

theorem afield_sound (hT : TabOk P tt) {M : Nat → Prop} {s f : Nat} {x r : AV} {u : Value} (hx : RepV w M ρ x u)
    (h : afield (R := Option AV) none tt s f x some = some r) : Gives P w M ρ (Instr.field s u f) r := by
  unfold afield at h
  split at h
  · rename_i fo ft l hf
    obtain ⟨F, g, hF, hg, ho, hty⟩ := fieldOff_some hT hf
    cases hx with | @agg _ vs hl h1 =>
    split at h
    · rename_i e he
      have hok := hT ft e he
      have hsz := run_sizeOf_of (P := P) (w := w) hok
      have hag := run_isAgg_of (P := P) (w := w) hok
      have hag2 : ∀ b, isAggT e.d = b → (isAgg ft).run P w = .ok b w := fun b hb => by rw [hag, hb]
      have cut : RepL w M ρ ((l.drop fo).take e.size) ((vs.drop fo).take e.size) := (hl.drop _).take _
      have c1 : ∀ u ∈ (vs.drop fo).take e.size, u.oneCell' = true := fun u hu => h1 u (List.mem_of_mem_drop (List.mem_of_mem_take hu))
      subst hty
      split at h
      · rename_i fs hd
        cases h
        refine .same (u := .agg ((vs.drop fo).take e.size).toArray) ?_ (.agg cut c1)
        simp [Instr.field, run_underlying hF, hg, asAgg, part, hag2 true (by rw [hd]; rfl), hsz, ho]
      · rename_i n E hd
        cases hb : ((l.drop fo).take e.size).all scalarLeaf <;> simp only [hb, cond_true, cond_false] at h <;> cases h
        refine .same (u := .agg ((vs.drop fo).take e.size).toArray) ?_ (.arr cut c1 fun a ha => List.all_eq_true.1 hb a ha)
        simp [Instr.field, run_underlying hF, hg, asAgg, part, hag2 true (by rw [hd]; rfl), hsz, ho]
      · rename_i hns hna
        have hd : isAggT e.d = false := by
          cases hdd : e.d <;> simp_all [isAggT]
        unfold notTop at h
        split at h
        · cases h
        · rename_i hnt
          cases h
          have hlt : fo < vs.length := by
            rcases Nat.lt_or_ge fo vs.length with hj | hj
            · exact hj
            · exfalso; apply hnt; rw [nth_eq_getElem?, List.getElem?_eq_none (by rw [hl.length]; exact hj)]; rfl
          have hgv : vs[fo]? = some vs[fo] := List.getElem?_eq_getElem hlt
          refine .same (u := vs[fo]) ?_ (hl.get _ _ hgv)
          simp [Instr.field, run_underlying hF, hg, asAgg, part, hag2 false hd, ho, hgv]
    · cases h
  · cases h

theorem optI_int {d n : Int} {o : Option AV} (h : optI d o = some n) : (o = none ∧ n = d) ∨ ∃ k, o = some (.int k n) := by
  unfold optI at h
  split at h
  · cases h; exact .inl ⟨rfl, rfl⟩
  · cases h; exact .inr ⟨_, rfl⟩
  · cases h

/-- The bounds' values. -/
def OptRep (w : World) (M : Nat → Prop) (ρ : List CObj) : Option AV → Option Value → Prop
  | none, none => True
  | some a, some v => RepV w M ρ a v
  | _, _ => False

theorem run_bounds {M : Nat → Prop} {isS : Bool} {len cap : Nat} {lo hi : Option AV} {lov hiv : Option Value} {l h : Int} (hlo : OptRep w M ρ lo lov) (hhi : OptRep w M ρ hi hiv)
    (e1 : optI 0 lo = some l) (e2 : optI len hi = some h) (h0 : 0 ≤ l) (h1 : l ≤ h) (h2 : h ≤ cap) (_hlc : len ≤ cap) :
    (Instr.sliceBounds isS len cap lov hiv none).run P w = .ok (l.toNat, h.toNat, cap) w := by
  have eh : (h.toNat : Int) = h := Int.toNat_of_nonneg (by omega)
  rcases optI_int e2 with ⟨rfl, rfl⟩ | ⟨k, rfl⟩
  · cases hiv with
    | some v => simp [OptRep] at hhi
    | none =>
      rcases optI_int e1 with ⟨rfl, rfl⟩ | ⟨k, rfl⟩
      · cases lov with
        | some v => simp [OptRep] at hlo
        | none => simp [Instr.sliceBounds]
      · cases lov with
        | none => simp [OptRep] at hlo
        | some v =>
          simp only [OptRep] at hlo
          cases hlo with | int =>
          simp [Instr.sliceBounds, run_sliceBound, h0, h1]
  · cases hiv with
    | none => simp [OptRep] at hhi
    | some v =>
      simp only [OptRep] at hhi
      cases hhi with | int =>
      have h0' : 0 ≤ h := by omega
      rcases optI_int e1 with ⟨rfl, rfl⟩ | ⟨k, rfl⟩
      · cases lov with
        | some v => simp [OptRep] at hlo
        | none => simp [Instr.sliceBounds, run_sliceBound, h0', h2]
      · cases lov with
        | none => simp [OptRep] at hlo
        | some v =>
          simp only [OptRep] at hlo
          cases hlo with | int =>
          simp [Instr.sliceBounds, run_sliceBound, h0, h0', h2, eh, h1]

theorem leI_spec {a b : Int} (h : leI a b = true) : a ≤ b := by simpa [leI] using h

theorem RepV.roCut {M : Nat → Prop} {p : Pay AV} {us : List Value} {b base cap a n c' : Nat} (hl : RepL w M ρ p.cells us) (hc : CellsAt w b base us) (hb : ¬ M b) (hlt : b < w.heap.size)
    (h1 : ∀ u ∈ us, u.oneCell' = true) (hp : ∀ a ∈ p.cells, pureLeaf a = true) (hw : p.wf) (hcap : p.len ≤ cap) (hm : cap ≤ maxLen) (hle : a + n ≤ p.len) (hc' : c' = cap - a) {ad : Option Addr}
    (had : ad = (if cap = a then some ⟨b, base, none⟩ else some ⟨b, base + a * p.sz, none⟩)) {q : Pay AV} (hq : q = p.cut a n) : RepV w M ρ (.ro q) (.slice ad n c') := by
  subst hq; subst hc'
  have hlen : (p.cut a n).len = n := Pay.cut_len a n hle
  rcases Nat.eq_zero_or_pos n with h0 | h0
  · subst h0
    refine .roN hlen (by omega) ?_
    intro h; rw [had] at h; split at h <;> cases h
  · rw [if_neg (by omega)] at had
    subst had
    have key : RepV w M ρ (.ro (p.cut a n)) (.slice (some ⟨b, base + a * p.sz, none⟩) (p.cut a n).len (cap - a)) := by
      refine .ro (us := (us.drop (a * p.sz)).take (n * p.sz)) ?_ ((hc.drop _).take _) hb hlt ?_ ?_ (Pay.cut_wf hw a n) (by omega) (by omega)
      · rw [Pay.cells_cut hw]; exact (hl.drop _).take _
      · exact fun u hu => h1 u (List.mem_of_mem_drop (List.mem_of_mem_take hu))
      · rw [Pay.cells_cut hw]; exact fun u hu => hp u (List.mem_of_mem_drop (List.mem_of_mem_take hu))
    rw [hlen] at key; exact key

theorem Pay.from_cut {p : Pay AV} (a : Nat) (h : a ≤ p.len) : p.from a = p.cut a (p.len - a) := by
  cases p <;> simp only [Pay.from, Pay.cut, Pay.len] at * <;> rw [List.take_of_length_le (by simp)]

theorem Pay.cut_zero_len {p : Pay AV} (h : p.len = 0) (a n : Nat) : (p.cut a n).len = 0 := by
  cases p <;> simp [Pay.cut, Pay.len] at * <;> subst h <;> simp

theorem aslice_sound (hT : TabOk P tt) (hE : Env tt w Mx ρ hp) {t : Nat} {x r : AV} {lo hi : Option AV} {u : Value} {lov hiv : Option Value} (hx : RepV w (Mof Mx ρ) ρ x u)
    (hlo : OptRep w (Mof Mx ρ) ρ lo lov) (hhi : OptRep w (Mof Mx ρ) ρ hi hiv)
    (h : aslice (R := Option AV) none tt hp t x lo hi some = some r) : Gives P w (Mof Mx ρ) ρ (Instr.sliceAt t u lov hiv none) r := by
  unfold aslice at h
  split at h
  case h_2 => cases h
  rename_i e he
  have hok := hT t e he
  split at h
  · rename_i s hd
    split at h
    case h_2 => cases h
    rename_i l hh e1 e2
    cases hb : (leI 0 l && leI l hh && leI hh s.length) <;> simp only [hb, cond_true, cond_false] at h <;> cases h
    simp only [Bool.and_eq_true] at hb
    obtain ⟨⟨b1, b2⟩, b3⟩ := hb
    have b1 := leI_spec b1; have b2 := leI_spec b2; have b3 := leI_spec b3
    cases hx with | @str s hs =>
    have hlen : s.data.toList.length = s.size := by simp
    rw [hlen] at b3 e2
    have hr := run_bounds (P := P) (w := w) (isS := false) (cap := s.size) hlo hhi e1 e2 b1 b2 b3 (Nat.le_refl _)
    refine .same (u := .string (s.extract l.toNat hh.toNat)) ?_ ?_
    · simp [Instr.sliceAt, run_underlying (hok.str hd), Instr.slice, hr]
    · have hsz : (s.extract l.toNat hh.toNat).size ≤ maxLen := by simp; omega
      have key := RepV.str (w := w) (M := Mof Mx ρ) (ρ := ρ) hsz
      have e3 : (s.extract l.toNat hh.toNat).data.toList = (s.data.toList.drop l.toNat).take (hh.toNat - l.toNat) := by
        simp [List.extract_eq_take_drop]
      rw [e3] at key
      cases hs' : isSome? hi with
      | true => simpa using key
      | false =>
        have : hi = none := by cases hi <;> simp [isSome?] at hs' ⊢
        subst this
        simp only [optI, Option.some.injEq] at e2
        subst e2
        rw [List.take_of_length_le (by simp)] at key
        simpa using key
  · rename_i E p hd
    split at h
    case h_2 => cases h
    rename_i l hh e1 e2
    cases hb : (szOk tt E p.sz && leI 0 l && leI l hh && leI hh p.len) <;> simp only [hb, cond_true, cond_false] at h <;> cases h
    simp only [Bool.and_eq_true] at hb
    obtain ⟨⟨⟨b0, b1⟩, b2⟩, b3⟩ := hb
    have b1 := leI_spec b1; have b2 := leI_spec b2; have b3 := leI_spec b3
    obtain ⟨eE, hokE, _, hsz⟩ := szOk_some hT b0
    have hcut : (bif isSome? hi then p.cut l.toNat (hh.toNat - l.toNat) else p.from l.toNat) = p.cut l.toNat (hh.toNat - l.toNat) := by
      cases hs' : isSome? hi with
      | true => rfl
      | false =>
        have : hi = none := by cases hi <;> simp [isSome?] at hs' ⊢
        subst this
        simp only [optI, Option.some.injEq] at e2
        subst e2
        rw [cond_false, Pay.from_cut _ (by omega)]; simp
    rw [hcut]
    cases hx with
    | @roN _ a cap hn hm hnn =>
      have hl0 : l = 0 := by omega
      have hh0 : hh = 0 := by omega
      subst hl0; subst hh0
      rw [hn] at e2
      have hr := run_bounds (P := P) (w := w) (isS := true) (len := 0) (cap := cap) hlo hhi e1 e2 (by omega) (by omega) (by omega) (by omega)
      refine .same (u := .slice (if cap = 0 then a else a.map (·.add (0 * p.sz))) 0 cap) ?_ (.roN (Pay.cut_zero_len hn _ _) hm ?_)
      · simp [Instr.sliceAt, run_underlying (hok.slice hd), Instr.slice, hr, hsz]
      · intro hq
        split at hq
        · assumption
        · cases a with
          | none => exact hnn rfl
          | some a => cases hq
    | @ro _ us b base cap hl hc hbM hlt h1 hpl hw hcap hm =>
      have hr := run_bounds (P := P) (w := w) (isS := true) (len := p.len) (cap := cap) hlo hhi e1 e2 b1 b2 (by omega) hcap
      refine .same (u := .slice (if cap = l.toNat then some ⟨b, base, none⟩ else some ⟨b, base + l.toNat * p.sz, none⟩) (hh.toNat - l.toNat) (cap - l.toNat)) ?_ ?_
      · simp only [Instr.sliceAt, run_underlying (hok.slice hd), Instr.slice, hr, hsz, Sem.run_bind, Result.andThen_ok, Sem.run_pure, Option.map_some, addr_add]
      · exact RepV.roCut hl hc hbM hlt h1 hpl hw hcap hm (by omega) rfl rfl rfl
  · rename_i E o hd
    split at h
    case h_2 => cases h
    rename_i E' p ho
    split at h
    case h_2 => cases h
    rename_i l hh e1 e2
    cases hb : (szOk tt E p.sz && leI 0 l && leI l hh && leI hh p.len) <;> simp only [hb, cond_true, cond_false] at h <;> cases h
    simp only [Bool.and_eq_true] at hb
    obtain ⟨⟨⟨b0, b1⟩, b2⟩, b3⟩ := hb
    have b1 := leI_spec b1; have b2 := leI_spec b2; have b3 := leI_spec b3
    obtain ⟨eE, hokE, _, hsz⟩ := szOk_some hT b0
    obtain ⟨c, hc, hr⟩ := hE.at (hget_some ho (by simp))
    cases hx with | own h' =>
    rw [hc] at h'; cases h'
    cases hr with | arr hro hl h1 hpl hw hs hE' =>
    rcases ownsRow_cells hro with ⟨rfl, hz⟩ | ⟨g, cap, rfl, hn, hm, hlt, hcl⟩
    · have hl0 : l = 0 := by omega
      have hh0 : hh = 0 := by omega
      subst hl0; subst hh0
      rw [hz] at e2
      have hr := run_bounds (P := P) (w := w) (isS := true) (len := 0) (cap := 0) hlo hhi e1 e2 (by omega) (by omega) (by omega) (by omega)
      refine .same (u := .slice none 0 0) ?_ (.subN hc)
      simp [Instr.sliceAt, run_underlying (hok.slice hd), Instr.slice, hr, hsz]
    · have hr := run_bounds (P := P) (w := w) (isS := true) (len := p.len) (cap := cap) hlo hhi e1 e2 b1 b2 (by omega) hn
      refine .same (u := .slice (some (if cap = l.toNat then ⟨g, 0, none⟩ else ⟨g, 0 + l.toNat * p.sz, none⟩)) (hh.toNat - l.toNat) (cap - l.toNat)) ?_ (.sub hc (by omega) ?_)
      · simp only [Instr.sliceAt, run_underlying (hok.slice hd), Instr.slice, hr, hsz, Sem.run_bind, Result.andThen_ok, Sem.run_pure, Option.map_some, addr_add]
        split <;> rfl
      · intro hne
        rw [if_neg (by omega), hs, Nat.zero_add]
  · rename_i E o a n hd
    split at h
    case h_2 => cases h
    rename_i E' p ho
    split at h
    case h_2 => cases h
    rename_i l hh e1 e2
    cases hb : (szOk tt E p.sz && leI 0 l && leI l hh && leI hh n) <;> simp only [hb, cond_true, cond_false] at h <;> cases h
    simp only [Bool.and_eq_true] at hb
    obtain ⟨⟨⟨b0, b1⟩, b2⟩, b3⟩ := hb
    have b1 := leI_spec b1; have b2 := leI_spec b2; have b3 := leI_spec b3
    obtain ⟨eE, hokE, _, hsz⟩ := szOk_some hT b0
    obtain ⟨c, hc, hr⟩ := hE.at (hget_some ho (by simp))
    cases hx with
    | subN h' =>
      rw [hc] at h'; cases h'
      have hl0 : l = 0 := by omega
      have hh0 : hh = 0 := by omega
      subst hl0; subst hh0
      have hr := run_bounds (P := P) (w := w) (isS := true) (len := 0) (cap := 0) hlo hhi e1 e2 (by omega) (by omega) (by omega) (by omega)
      refine .same (u := .slice none 0 0) ?_ (.subN hc)
      simp [Instr.sliceAt, run_underlying (hok.slice hd), Instr.slice, hr, hsz]
    | @sub _ _ _ g m cap sz addr h' hle ha =>
      rw [hc] at h'; cases h'
      cases hr with | arr hro hl h1 hpl hw hs hE' =>
      rcases ownsRow_cells hro with ⟨h0', _⟩ | ⟨g', cap', he', hn, hm, hlt, hcl⟩
      · cases h0'
      · cases he'
        have hr := run_bounds (P := P) (w := w) (isS := true) (len := n) (cap := cap - a) hlo hhi e1 e2 b1 b2 (by omega) (by omega)
        refine .same (u := .slice (some (if cap - a = l.toNat then addr else addr.add (l.toNat * p.sz))) (hh.toNat - l.toNat) (cap - (a + l.toNat))) ?_ (.sub hc (by omega) ?_)
        · simp only [Instr.sliceAt, run_underlying (hok.slice hd), Instr.slice, hr, hsz, Sem.run_bind, Result.andThen_ok, Sem.run_pure, Option.map_some]
          rw [show cap - a - l.toNat = cap - (a + l.toNat) by omega]
          split <;> rfl
        · intro hne
          have := ha (by omega)
          subst this
          rw [if_neg (by omega), addr_add, hs, Nat.add_mul]
  · rename_i n E o off hd
    split at h
    case h_2 => cases h
    cases hb : (Nat.beq off 0 && Nat.ble n 281474976710656 && isTy tt E (fun _ => true)) <;> simp only [hb, cond_true, cond_false] at h <;> cases h
    simp only [Bool.and_eq_true] at hb
    obtain ⟨⟨b0, b1⟩, b2⟩ := hb
    have b0 := Nat.eq_of_beq_eq_true b0
    subst b0
    obtain ⟨eE, hokE, _⟩ := isTy_some hT b2
    have hsz := run_sizeOf_of (P := P) (w := w) hokE
    cases lov with
    | some v => simp [OptRep] at hlo
    | none =>
      cases hiv with
      | some v => simp [OptRep] at hhi
      | none =>
        cases hx with | @ptr _ _ b hp' =>
        refine .same (u := .slice (some ⟨b, 0, none⟩) n n) ?_ (.vsl hp')
        simp [Instr.sliceAt, run_underlying (hok.array hd), Instr.sureAddr, Instr.sliceBounds, hsz, addr_add]
  · rename_i E hd
    split at h
    case h_2 => cases h
    rename_i l hh e1 e2
    cases hb : (isTy tt E (fun _ => true) && leI 0 l && leI l hh && leI hh 0) <;> simp only [hb, cond_true, cond_false] at h <;> cases h
    simp only [Bool.and_eq_true] at hb
    obtain ⟨⟨⟨b0, b1⟩, b2⟩, b3⟩ := hb
    have b1 := leI_spec b1; have b2 := leI_spec b2; have b3 := leI_spec b3
    have hl0 : l = 0 := by omega
    have hh0 : hh = 0 := by omega
    subst hl0; subst hh0
    cases hx with | nil =>
    obtain ⟨eE, hokE, _⟩ := isTy_some hT b0
    have hsz := run_sizeOf_of (P := P) (w := w) hokE
    have hr := run_bounds (P := P) (w := w) (isS := true) (len := 0) (cap := 0) hlo hhi e1 e2 (by omega) (by omega) (by omega) (by omega)
    refine .same (u := .slice none 0 0) ?_ .nil
    simp [Instr.sliceAt, run_underlying (hok.slice hd), Instr.slice, hr, hsz]
  · cases h
end
end Go.Proofs.YtmkgmlgklggnlaaGm

namespace Go.Proofs.YtmkgmlgklggnlaaGm

section
variable {P : Program} {tt : Tab} {w : World} {Mx : Nat → Prop} {ρ : List CObj} {hp : List AObj}

theorem emptyPay_bytes (hT : TabOk P tt) {E : Nat} {l : List UInt8} (h : emptyPay tt E = .bytes l) : P.underlying E = some (.int .u8) ∧ l = [] := by
  unfold emptyPay at h
  split at h
  · rename_i he
    cases h
    exact ⟨(hT E _ he).int rfl, rfl⟩
  · cases h
  · cases h
  · cases h

theorem repL_bytes {M : Nat → Prop} : ∀ {l : List UInt8} {us : List Value}, RepL w M ρ (l.map fun b => AV.int .u8 b.toNat) us → us = l.map fun b => .int .u8 b.toNat
  | [], _, .nil => rfl
  | b :: l, _, .cons h t => by
    cases h
    simp [repL_bytes t]

theorem bytes_repL {M : Nat → Prop} : ∀ (l : List UInt8), RepL w M ρ (l.map fun b => AV.int .u8 b.toNat) (l.map fun b => .int .u8 b.toNat)
  | [] => .nil
  | b :: l => .cons (.int (by have := b.toNat_lt; simp [IntKind.has, IntKind.min, IntKind.max, IntKind.signed, IntKind.bits]; omega)) (bytes_repL l)

theorem foldl_push_bytes : ∀ (l : List UInt8) (s : ByteArray), ((l.map fun b => (b.toNat : Int)).foldl (fun r n => r.push (UInt8.ofNat n.toNat)) s).data.toList = s.data.toList ++ l
  | [], s => by simp
  | b :: l, s => by
    simp only [List.map_cons, List.foldl_cons]
    rw [foldl_push_bytes l]
    simp

theorem grew_alloc (o : Obj) : Grew w (w.alloc o) := ⟨rfl, rfl, rfl, by simp, fun b hb => Go.RowKit.Below.heap_alloc w o b hb⟩
theorem grew_drew : Grew w w.drew := ⟨rfl, rfl, rfl, Nat.le_refl _, fun _ _ => rfl⟩

theorem grew_bytesWorld (E : Nat) (s : ByteArray) : Grew w (Lib.bytesWorld w E s) := by
  refine ⟨?_, ?_, ?_, by rw [Lib.bytesWorld_size]; omega, fun b hb => Lib.bytesWorld_at_old w E s b hb⟩
  all_goals
    unfold Lib.bytesWorld World.freeze
    split <;> rfl

theorem aconv_sound (hT : TabOk P tt) (hE : Env tt w Mx ρ hp) {s d : Nat} {x r : AV} {u : Value} (hx : RepV w (Mof Mx ρ) ρ x u) (hM : ∀ b, Mof Mx ρ b → b < w.heap.size)
    (h : aconv (R := Option AV) none tt hp s d x some = some r) : Gives P w (Mof Mx ρ) ρ (convert s d u) r := by
  unfold aconv at h
  split at h
  case h_2 => cases h
  rename_i es ed hes hed
  have hos := hT s es hes
  have hod := hT d ed hed
  split at h
  · rename_i k' kk kx n e1 e2
    cases h
    cases hx with | int hk =>
    refine .same (u := .int kk (kk.wrap n)) ?_ (.int (wrap_has _ _))
    simp [convert, run_underlying (hos.int e1), run_underlying (hod.int e2), Conv.intToInt]
  · rename_i a e1 e2
    cases h
    cases hx with | @str z hs =>
    refine .same (u := .string z) ?_ (.str hs)
    simp [convert, run_underlying (hos.str e1), run_underlying (hod.str e2)]
  · rename_i E e1 e2
    split at h
    case h_2 => cases h
    rename_i l0 l hb hp'
    cases h
    obtain ⟨hu8, rfl⟩ := emptyPay_bytes hT hb
    obtain ⟨a, cap, us, rfl, hlc, hm, _, hcs⟩ := payOf_holds hE hx hp'
    simp only [Pay.len] at *
    have run : ∀ z : ByteArray, z.data.toList = l → (Conv.bytesToString (.slice a l.length cap)).run P w = .ok (.string z) w → Gives P w (Mof Mx ρ) ρ (convert s d (.slice a l.length cap)) (.str l) := by
      intro z hz hr
      refine .same (u := .string z) ?_ ?_
      · rw [run_convert_bytes_string w s d E a _ _ (hos.slice e1) hu8 (hod.str e2), hr]
      · have hzl : z.size = l.length := by rw [← hz]; simp
        have := RepV.str (w := w) (M := Mof Mx ρ) (ρ := ρ) (s := z) (by omega)
        rw [hz] at this; exact this
    rcases hcs with h0 | ⟨b, base, rfl, hlt, hl, hc, h1, hpl, hw⟩
    · have hnil : l = [] := List.eq_nil_of_length_eq_zero h0
      subst hnil
      refine run .empty rfl ?_
      cases a with
      | none => rfl
      | some a => exact run_bytesToString (P := P) w a 0 cap [] (by simp [loadCells, loadCellsFrom])
    · have hus := repL_bytes hl
      have hload := run_loadCells_list (P := P) w ⟨b, base, none⟩ us (fun j v hv => by rw [addr_add]; exact hc j v hv)
      have hul : us.length = l.length := by rw [hus]; simp
      rw [hul] at hload
      have := run_bytesToString (P := P) w ⟨b, base, none⟩ l.length cap (l.map fun b => (b.toNat : Int)) (by rw [hload, hus]; simp)
      exact run _ (by rw [foldl_push_bytes]; rfl) this
  · rename_i E a e1 e2
    split at h
    case h_2 => cases h
    rename_i l0 hb
    cases h
    obtain ⟨hu8, rfl⟩ := emptyPay_bytes hT hb
    cases hx with | @str z hs =>
    have hc1 : z.size ≤ grownCap w z.size 0 E := grownCap_ge w z.size 0 E
    have hc2 : grownCap w z.size 0 E ≤ maxLen := grownCap_le_maxLen w z.size 0 E hs
    have hrun := Lib.run_convert_string_bytes (P := P) w s d E z (hos.str e1) (hod.slice e2) hu8
    refine ⟨_, _, hrun, grew_bytesWorld E z, ?_⟩
    have hnew : ¬ Mof Mx ρ w.heap.size := fun h => absurd (hM _ h) (Nat.lt_irrefl _)
    rcases Nat.eq_zero_or_pos z.size with h0 | h0
    · rw [h0]
      refine .roN (show z.data.toList.length = 0 from by rw [Array.length_toList]; exact h0) (by rw [h0] at hc2; exact hc2) (by simp)
    · have key : RepV (Lib.bytesWorld w E z) (Mof Mx ρ) ρ (.ro (.bytes z.data.toList)) (.slice (some ⟨w.heap.size, 0, none⟩) (Pay.len (.bytes z.data.toList)) (grownCap w z.size 0 E)) := by
        refine .ro (us := z.data.toList.map fun b => .int .u8 b.toNat) (bytes_repL _) ?_ hnew (by rw [Lib.bytesWorld_size]; omega) ?_ ?_ trivial ?_ hc2
        · intro j u hu
          simp only [List.getElem?_map, Option.map_eq_some_iff] at hu
          obtain ⟨b, hb, rfl⟩ := hu
          have hj : j < z.size := by
            rcases Nat.lt_or_ge j z.data.toList.length with hj | hj
            · simpa using hj
            · rw [List.getElem?_eq_none hj] at hb; cases hb
          rw [Nat.zero_add, Lib.bytesWorld_cell w E z j hj]
          simp [List.getD, hb]
        · intro u hu
          obtain ⟨b, _, rfl⟩ := List.mem_map.1 hu
          rfl
        · intro a ha
          obtain ⟨b, _, rfl⟩ := List.mem_map.1 ha
          rfl
        · simpa [Pay.len] using hc1
      have e : Pay.len (.bytes z.data.toList) = z.size := by simp [Pay.len]
      rw [e] at key
      exact key
  · cases h

theorem alen_sound (hT : TabOk P tt) (hE : Env tt w Mx ρ hp) {t ty : Nat} {x r : AV} {u : Value} (hx : RepV w (Mof Mx ρ) ρ x u)
    (h : alen (R := Option AV) none tt hp t x some = some r) : Gives P w (Mof Mx ρ) ρ (Builtin.len_ #[t] ty #[u]) r := by
  unfold alen at h
  split at h
  case h_2 => cases h
  rename_i e he
  have hok := hT t e he
  have has : ∀ n : Nat, n ≤ maxLen → IntKind.i64.has n := by
    intro n hn
    simp only [maxLen] at hn
    simp [IntKind.has, IntKind.min, IntKind.max, IntKind.signed, IntKind.bits]
    omega
  split at h
  · rename_i s hd
    cases h
    cases hx with | @str z hs =>
    refine .same (u := .int .i64 z.size) ?_ ?_
    · simp [Builtin.len_, run_underlying (hok.str hd), goInt]
    · have : z.data.toList.length = z.size := by simp
      rw [this]
      exact .int (has _ hs)
  · rename_i E n hd
    cases h
    cases hx with | len hn =>
    refine .same (u := .int .i64 n) ?_ (.int (has _ hn))
    simp [Builtin.len_, run_underlying (hok.slice hd), goInt]
  · rename_i E hd _
    split at h
    · rename_i p hp'
      cases h
      obtain ⟨a, cap, us, rfl, hlc, hm, _, _⟩ := payOf_holds hE hx hp'
      refine .same (u := .int .i64 p.len) ?_ (.int (has _ (by omega)))
      simp [Builtin.len_, run_underlying (hok.slice hd), goInt]
    · cases h
  · rename_i n E hd
    cases hb : hasB .i64 n <;> simp only [hb, cond_true, cond_false] at h <;> cases h
    refine .same (u := .int .i64 n) ?_ (.int (has_of_hasB hb))
    simp [Builtin.len_, run_underlying (hok.array hd), goInt]
  · cases h

theorem amin2_sound {M : Nat → Prop} {x y r : AV} {u v : Value} (hx : RepV w M ρ x u) (hy : RepV w M ρ y v) (h : amin2 (R := Option AV) none x y some = some r) :
    ∃ z, (Builtin.min2 u v).run P w = .ok z w ∧ RepV w M ρ r z := by
  unfold amin2 at h
  split at h
  · rename_i kk a k' b
    cases hk : ikEq kk k' <;> simp only [hk, cond_true, cond_false] at h <;> cases h
    have := ikEq_eq hk; subst this
    cases hx with | int ha => cases hy with | int hb =>
    exact ⟨_, rfl, .int (by split <;> assumption)⟩
  · cases h

theorem amax2_sound {M : Nat → Prop} {x y r : AV} {u v : Value} (hx : RepV w M ρ x u) (hy : RepV w M ρ y v) (h : amax2 (R := Option AV) none x y some = some r) :
    ∃ z, (Builtin.max2 u v).run P w = .ok z w ∧ RepV w M ρ r z := by
  unfold amax2 at h
  split at h
  · rename_i kk a k' b
    cases hk : ikEq kk k' <;> simp only [hk, cond_true, cond_false] at h <;> cases h
    have := ikEq_eq hk; subst this
    cases hx with | int ha => cases hy with | int hb =>
    exact ⟨_, rfl, .int (by split <;> assumption)⟩
  · cases h

theorem afoldm_sound {M : Nat → Prop} {f : {R : Type} → R → AV → AV → (AV → R) → R} {g : Value → Value → Sem Value}
    (hcps : ∀ {R : Type} (stk : R) (x y : AV) (k : AV → R), f stk x y k = (f (R := Option AV) none x y some).elim stk k)
    (hf : ∀ {x y r : AV} {u v : Value}, RepV w M ρ x u → RepV w M ρ y v → f (R := Option AV) none x y some = some r → ∃ z, (g u v).run P w = .ok z w ∧ RepV w M ρ r z) :
    ∀ {l : List AV} {vs : List Value} {x r : AV} {u : Value}, RepV w M ρ x u → RepL w M ρ l vs → afoldm (f (R := Option AV) none) x l some = some r →
      ∃ z, (vs.foldlM g u).run P w = .ok z w ∧ RepV w M ρ r z
  | [], _, x, r, u, hx, .nil, h => by
    cases h
    exact ⟨u, rfl, hx⟩
  | y :: l, _, x, r, u, hx, .cons (v := v) hy t, h => by
    simp only [afoldm] at h
    rw [hcps] at h
    obtain ⟨a, ha, h⟩ := elim_some h
    obtain ⟨z, hz, hr⟩ := hf hx hy ha
    obtain ⟨z2, hz2, hr2⟩ := afoldm_sound hcps hf hr t h
    exact ⟨z2, by simp [hz, hz2], hr2⟩

theorem apick_sound {M : Nat → Prop} {c a b r : AV} {uc ua ub : Value} (hc : RepV w M ρ c uc) (ha : RepV w M ρ a ua) (hb : RepV w M ρ b ub)
    (h : apick (R := Option AV) none c a b some = some r) : Gives P w M ρ (do pure (if ← asBool uc then ua else ub)) r := by
  unfold apick at h
  split at h
  · rename_i t
    cases hc with | bool =>
    cases t with
    | true => cases h; exact .same (u := ua) (by simp [asBool]) ha
    | false => cases h; exact .same (u := ub) (by simp [asBool]) hb
  · cases h

theorem cells_one {v : Value} (h : v.oneCell' = true) : v.cells = #[v] := by cases v <;> first | rfl | cases h

theorem one_rep {M : Nat → Prop} {v : AV} {u : Value} (h : RepV w M ρ v u) (hv : leavesOf v = [v]) (h1 : u.oneCell' = true) : RepL w M ρ (leavesOf v) u.cells.toList ∧ ∀ c ∈ u.cells.toList, c.oneCell' = true := by
  rw [hv, cells_one h1]
  exact ⟨.cons h .nil, by simpa using h1⟩

theorem leaves_rep {M : Nat → Prop} {v : AV} {u : Value} (h : RepV w M ρ v u) (hl : leavesOk v = true) : RepL w M ρ (leavesOf v) u.cells.toList ∧ ∀ c ∈ u.cells.toList, c.oneCell' = true := by
  cases v with
  | agg l => cases h with | agg hl' h1 => exact ⟨by simpa [leavesOf, Value.cells] using hl', by simpa [Value.cells] using h1⟩
  | arr l => cases h with | arr hl' h1 _ => exact ⟨by simpa [leavesOf, Value.cells] using hl', by simpa [Value.cells] using h1⟩
  | top => cases hl
  | tup l => cases hl
  | own o => exact one_rep h rfl (by cases h; assumption)
  | _ => exact one_rep h rfl (by cases h <;> rfl)

theorem setRange_rep {M : Nat → Prop} : ∀ {ls : List AV} {us : List Value} {cs : List AV} {vs : List Value} (off : Nat), RepL w M ρ cs vs → RepL w M ρ ls us →
    RepL w M ρ (setRange cs off ls) (us.zipIdx.foldl (fun c x => c.set (off + x.2) x.1) vs) := by
  have key : ∀ {ls : List AV} {us : List Value} {cs : List AV} {vs : List Value} (off n : Nat), RepL w M ρ cs vs → RepL w M ρ ls us →
      RepL w M ρ (setRange cs (off + n) ls) ((us.zipIdx n).foldl (fun c x => c.set (off + x.2) x.1) vs) := by
    intro ls us cs vs off n hc hl
    induction ls generalizing us cs vs n with
    | nil => cases hl; exact hc
    | cons l ls ih =>
      cases hl with | cons h t =>
      simp only [setRange, List.zipIdx_cons, List.foldl_cons]
      exact ih (n + 1) (hc.set (off + n) h) t
  intro ls us cs vs off hc hl
  exact key off 0 hc hl

theorem foldl_set_mem {α : Type} (off : Nat) : ∀ (l : List (α × Nat)) (vs : List α) (p : α → Prop), (∀ v ∈ vs, p v) → (∀ x ∈ l, p x.1) → ∀ v ∈ l.foldl (fun c x => c.set (off + x.2) x.1) vs, p v
  | [], _, _, h, _ => h
  | x :: l, vs, p, h, hl => by
    simp only [List.foldl_cons]
    refine foldl_set_mem off l _ p (fun v hv => ?_) fun y hy => hl y (by simp [hy])
    rcases List.mem_or_eq_of_mem_set hv with hv | rfl
    · exact h v hv
    · exact hl x (by simp)

theorem foldl_set_length {α : Type} (off : Nat) : ∀ (l : List (α × Nat)) (vs : List α), (l.foldl (fun c x => c.set (off + x.2) x.1) vs).length = vs.length
  | [], _ => rfl
  | x :: l, vs => by simp only [List.foldl_cons]; rw [foldl_set_length off l]; simp

theorem foldl_set_toList {off : Nat} : ∀ (l : List (Value × Nat)) (vs : Array Value), (l.foldl (fun c x => c.setIfInBounds (off + x.2) x.1) vs).toList = l.foldl (fun c x => c.set (off + x.2) x.1) vs.toList
  | [], _ => rfl
  | x :: l, vs => by simp only [List.foldl_cons]; rw [foldl_set_toList l]; simp

theorem setRange_length : ∀ (ls cs : List AV) (off : Nat), (setRange cs off ls).length = cs.length
  | [], _, _ => rfl
  | v :: ls, cs, off => by
    have : ∀ (cs : List AV) (n : Nat), (setN cs n v).length = cs.length := by
      intro cs n
      induction cs generalizing n with
      | nil => rfl
      | cons a cs ih => cases n <;> simp [setN, ih]
    simp only [setRange]
    rw [setRange_length ls, this]

/-- The parts of a literal, named and valued. -/
inductive RepP (w : World) (M : Nat → Prop) (ρ : List CObj) : List (Nat × AV) → List (Nat × Value) → Prop
  | nil : RepP w M ρ [] []
  | cons {i : Nat} {a : AV} {v : Value} {l : List (Nat × AV)} {vs : List (Nat × Value)} (h : RepV w M ρ a v) (t : RepP w M ρ l vs) : RepP w M ρ ((i, a) :: l) ((i, v) :: vs)

theorem fillParts_sound {M : Nat → Prop} {place place' : Nat → Option (Nat × Nat)} (hpl : ∀ i x, place i = some x → place' i = some x) : ∀ {parts : List (Nat × AV)} {pv : List (Nat × Value)} {cs r : List AV} {vs : List Value},
    RepP w M ρ parts pv → RepL w M ρ cs vs → (∀ v ∈ vs, v.oneCell' = true) → fillParts place cs parts = some r →
    ∃ vs', Instr.fill place' vs.toArray pv = some vs'.toArray ∧ RepL w M ρ r vs' ∧ ∀ v ∈ vs', v.oneCell' = true
  | [], _, cs, r, vs, .nil, hc, h1, h => by
    cases h
    exact ⟨vs, rfl, hc, h1⟩
  | (i, a) :: parts, _, cs, r, vs, .cons (v := u) ha t, hc, h1, h => by
    simp only [fillParts] at h
    split at h
    · cases h
    · rename_i off size hp'
      cases hb : (leavesOk a && Nat.beq (leavesOf a).length size && Nat.ble (off + size) cs.length) <;> simp only [hb, cond_true, cond_false] at h
      · cases h
      simp only [Bool.and_eq_true] at hb
      obtain ⟨⟨b1, b2⟩, b3⟩ := hb
      obtain ⟨hl, ho⟩ := leaves_rep ha b1
      have hsz : u.cells.size = size := by
        have := Nat.eq_of_beq_eq_true b2
        have e := hl.length
        simp at e; omega
      have hle : off + u.cells.size ≤ vs.toArray.size := by
        have := Nat.le_of_ble_eq_true b3
        have e := hc.length
        simp; omega
      have step := setRange_rep off hc hl
      have mem : ∀ v ∈ u.cells.toList.zipIdx.foldl (fun c x => c.set (off + x.2) x.1) vs, v.oneCell' = true := by
        refine foldl_set_mem off _ vs (fun v => v.oneCell' = true) h1 ?_
        rintro ⟨x, j⟩ hx
        exact ho x (List.fst_mem_of_mem_zipIdx hx)
      obtain ⟨vs', f1, f2, f3⟩ := fillParts_sound hpl t step mem h
      refine ⟨vs', ?_, f2, f3⟩
      unfold Instr.fill
      simp only [hpl i _ hp']
      rw [if_neg (by simp [hsz]; simp at hle; omega), ← f1]
      congr 1
      apply Array.ext'
      rw [← Array.foldl_toList, foldl_set_toList]
      simp

theorem placesOf_sound (hT : TabOk P tt) : ∀ {F : List Field} {i : Nat} {x : Nat × Nat}, placesOf tt (F.map fun f => (f.offset, f.type)) i = some x →
    ∃ f, F[i]? = some f ∧ x.1 = f.offset ∧ ∃ e, TyOk P f.type e ∧ e.size = x.2
  | [], i, x, h => by simp [placesOf] at h
  | f :: F, 0, x, h => by
    simp only [List.map_cons, placesOf] at h
    split at h
    · rename_i e he
      cases h
      exact ⟨f, rfl, rfl, e, hT _ e he, rfl⟩
    · cases h
  | f :: F, i + 1, x, h => by
    simp only [List.map_cons, placesOf] at h
    simpa using placesOf_sound hT h

theorem run_zeroValue_of {t : Nat} {e : TyE} (h : TyOk P t e) : (zeroValue t).run P w = .ok e.zv w := by
  obtain ⟨i, h1, h2, _, _⟩ := h.info'
  simp [zeroValue, typeInfo, h1, h2]

theorem zero_rep {M : Nat → Prop} {e : TyE} (h : leavesOk e.zero = true) : RepL w M ρ (leavesOf e.zero) e.zv.cells.toList ∧ ∀ c ∈ e.zv.cells.toList, c.oneCell' = true :=
  leaves_rep (aconst_rep e.zv) h

theorem run_places (hT : TabOk P tt) : ∀ (F : List Field), (∀ f ∈ F, isTy tt f.type (fun _ => true) = true) →
    (F.mapM fun f => (do pure (f.offset, ← sizeOf f.type) : Sem (Nat × Nat))).run P w = .ok (F.map fun f => (f.offset, P.cellsOf f.type)) w
  | [], _ => rfl
  | f :: F, h => by
    obtain ⟨e, he, _⟩ := isTy_some hT (h f (by simp))
    obtain ⟨i, h1, _, h2, _⟩ := he.info'
    have := run_places hT F fun g hg => h g (by simp [hg])
    have hs : (sizeOf f.type).run P w = .ok (P.cellsOf f.type) w := by simp [sizeOf, typeInfo, h1, Program.cellsOf]
    simp only [List.mapM_cons, Sem.run_bind, hs, Result.andThen_ok, Sem.run_pure, this, List.map_cons]

theorem abuild_sound (hT : TabOk P tt) {M : Nat → Prop} {t : Nat} {parts : List (Nat × AV)} {pv : Array (Nat × Value)} {r : AV} (hp' : RepP w M ρ parts pv.toList)
    (h : abuild (R := Option AV) none tt t parts some = some r) : Gives P w M ρ (Instr.build t pv) r := by
  unfold abuild at h
  split at h
  case h_2 => cases h
  rename_i e he
  have hok := hT t e he
  split at h
  · rename_i fs hd
    cases hb : (leavesOk e.zero && fs.all (fun x => isTy tt x.2 fun _ => true)) <;> simp only [hb, cond_true, cond_false] at h
    · cases h
    simp only [Bool.and_eq_true] at hb
    split at h
    case h_2 => cases h
    rename_i cs hf
    cases h
    obtain ⟨F, hF, hm⟩ := hok.struct hd
    obtain ⟨z1, z2⟩ := zero_rep (w := w) (M := M) (ρ := ρ) hb.1
    subst hm
    have hall : ∀ f ∈ F.toList, isTy tt f.type (fun _ => true) = true := by
      intro f hf'
      exact List.all_eq_true.1 hb.2 (f.offset, f.type) (List.mem_map.2 ⟨f, hf', rfl⟩)
    have hpl := run_places (P := P) (w := w) hT F.toList hall
    obtain ⟨vs', f1, f2, f3⟩ := fillParts_sound (place' := fun i => (F.toList.map fun f => (f.offset, P.cellsOf f.type)).toArray[i]?) (fun i x hx => by
      obtain ⟨f, g1, g2, e', g3, g4⟩ := placesOf_sound hT hx
      obtain ⟨i', h1, _, h2, _⟩ := g3.info'
      have : P.cellsOf f.type = x.2 := by simp [Program.cellsOf, h1, h2, g4]
      rw [List.getElem?_toArray, List.getElem?_map, g1]
      simp [this, ← g2]) hp' z1 z2 hf
    refine .same (u := .agg vs'.toArray) ?_ (.agg f2 f3)
    have hmap : (F.mapM fun f => (do pure (f.offset, ← sizeOf f.type) : Sem (Nat × Nat))).run P w = .ok (F.toList.map fun f => (f.offset, P.cellsOf f.type)).toArray w := by
      rw [Array.mapM_eq_mapM_toList]
      simp only [map_eq_pure_bind, Sem.run_bind, hpl, Result.andThen_ok, Sem.run_pure]
    simp only [Instr.build, Sem.run_bind, run_zeroValue_of hok, Result.andThen_ok, run_underlying hF, hmap]
    simp only [Array.toArray_toList] at f1
    rw [f1]
    rfl
  · rename_i n E hd
    split at h
    case h_2 => cases h
    rename_i eE hE
    cases hb : leavesOk e.zero <;> simp only [hb, cond_true, cond_false] at h
    · cases h
    split at h
    case h_2 => cases h
    rename_i cs hf
    cases hpu : cs.all scalarLeaf <;> simp only [hpu, cond_true, cond_false] at h <;> cases h
    obtain ⟨z1, z2⟩ := zero_rep (w := w) (M := M) (ρ := ρ) hb
    have hsz : ∀ w, (sizeOf E).run P w = .ok eE.size w := fun w => run_sizeOf_of (hT E eE hE)
    obtain ⟨vs', f1, f2, f3⟩ := fillParts_sound (place' := fun i => some (i * eE.size, eE.size)) (fun i x hx => by
      cases hlt : Nat.blt i n <;> simp only [hlt, cond_true, cond_false] at hx <;> cases hx
      rfl) hp' z1 z2 hf
    refine .same (u := .agg vs'.toArray) ?_ (.arr f2 f3 fun a ha => List.all_eq_true.1 hpu a ha)
    simp only [Array.toArray_toList] at f1
    simp only [Instr.build, Sem.run_bind, run_zeroValue_of hok, Result.andThen_ok, run_underlying (hok.array hd), hsz w]
    rw [f1]
    rfl
  · cases h

theorem optRep_map {M : Nat → Prop} {fr : List AV} {a : Act} (hf : RepL w M ρ fr a.tmps.toList) (o : Option Operand) : OptRep w M ρ (o.map (aval fr)) (o.map a.eval) := by
  cases o with
  | none => trivial
  | some x => exact aval_rep hf x

theorem repL_map {M : Nat → Prop} {fr : List AV} {a : Act} (hf : RepL w M ρ fr a.tmps.toList) : ∀ (l : List Operand), RepL w M ρ (l.map (aval fr)) (l.map a.eval)
  | [] => .nil
  | x :: l => .cons (aval_rep hf x) (repL_map hf l)

theorem repP_map {M : Nat → Prop} {fr : List AV} {a : Act} (hf : RepL w M ρ fr a.tmps.toList) : ∀ (l : List (Nat × Operand)), RepP w M ρ (l.map fun x => (x.1, aval fr x.2)) (l.map fun x => (x.1, a.eval x.2))
  | [] => .nil
  | (_, x) :: l => .cons (aval_rep hf x) (repP_map hf l)

theorem run_value {s : Sem Value} {u : Value} {w' : World} (h : s.run P w = .ok u w') : (do pure (Next.value (← s)) : Sem Next).run P w = .ok (.value u) w' := by
  simp [h]

/-- AN OPERATION THAT LEAVES THE OBJECTS AS THEY ARE. -/
theorem rop_sound (hT : TabOk P tt) (hE : Env tt w Mx ρ hp) {fr : List AV} {a : Act} (hf : RepL w (Mof Mx ρ) ρ fr a.tmps.toList) (hM : ∀ b, Mof Mx ρ b → b < w.heap.size) (o : Oper) {r : AV}
    (h : rop (R := Option AV) none tt hp (aval fr) o.op some = some r) :
    ∃ u w', (execOp a.eval o).run P w = .ok (.value u) w' ∧ Grew w w' ∧ RepV w' (Mof Mx ρ) ρ r u := by
  have ev := aval_rep hf
  have fin : ∀ {s : Sem Value}, Gives P w (Mof Mx ρ) ρ s r → (execOp a.eval o).run P w = (do pure (Next.value (← s)) : Sem Next).run P w →
      ∃ u w', (execOp a.eval o).run P w = .ok (.value u) w' ∧ Grew w w' ∧ RepV w' (Mof Mx ρ) ρ r u := by
    rintro s ⟨u, w', h1, h2, h3⟩ he
    exact ⟨u, w', by rw [he, run_value h1], h2, h3⟩
  unfold rop at h
  split at h
  · rename_i x ho
    cases h
    exact ⟨a.eval x, w, by simp [execOp, ho], .refl w, ev x⟩
  · rename_i x ho
    cases h
    exact ⟨a.eval x, w, by simp [execOp, ho], .refl w, ev x⟩
  · rename_i c x y ho
    obtain ⟨u, w', h1, h2, h3⟩ := apick_sound (P := P) (ev c) (ev x) (ev y) h
    refine ⟨u, w', ?_, h2, h3⟩
    have : (execOp a.eval o) = (do pure (Next.value (if ← asBool (a.eval c) then a.eval x else a.eval y)) : Sem Next) := by simp [execOp, ho]
    rw [this]
    cases hb : (asBool (a.eval c)).run P w with
    | ok b w1 => simp [hb] at h1 ⊢; exact h1
    | halt e w1 => simp [hb, Result.andThen] at h1
  · rename_i x ho
    have hx := ev x
    have key : ∀ b : Option Addr, a.eval x = .pointer b → b ≠ none → (execOp a.eval o).run P w = .ok (.value (a.eval x)) w := by
      intro b hb hn
      cases b with
      | none => exact absurd rfl hn
      | some b => simp [execOp, ho, hb]
    split at h
    · rename_i e
      cases h
      rw [e] at hx
      generalize hv : a.eval x = v at hx key
      cases hx with | ptr hh => exact ⟨_, w, key _ rfl (by simp), .refl w, .ptr hh⟩
    · rename_i e
      cases h
      rw [e] at hx
      generalize hv : a.eval x = v at hx key
      cases hx with | aptr hh hi => exact ⟨_, w, key _ rfl (by simp), .refl w, .aptr hh hi⟩
    · rename_i e
      cases h
      rw [e] at hx
      generalize hv : a.eval x = v at hx key
      cases hx with | eptr hl hc hb hlt h1 hp hw hi => exact ⟨_, w, key _ rfl (by simp), .refl w, .eptr hl hc hb hlt h1 hp hw hi⟩
    · cases h
  · rename_i op t x y ty ho
    exact fin (abin_sound hT x y (ev x) (ev y) h) (by simp only [execOp, ho])
  · rename_i op t x ho
    exact fin (aun_sound (ev x) h) (by simp only [execOp, ho])
  · rename_i s d x ho
    exact fin (aconv_sound hT hE (ev x) hM h) (by simp only [execOp, ho])
  · rename_i f first caps ho
    split at h
    · rename_i hfi
      cases h
      have hfirst : first = #[] := by cases first; simp_all
      refine ⟨.func (.func f) #[] (caps.map a.eval), w, ?_, .refl w, ?_⟩
      · simp [execOp, ho, Instr.makeFunc, hfirst]
      · have := repL_map hf caps.toList
        have key := RepV.fn (f := f) this
        have e : (caps.toList.map a.eval).toArray = caps.map a.eval := by apply Array.ext'; simp
        rw [e] at key; exact key
    · cases h
  · rename_i t x lo hi ho
    refine fin (aslice_sound hT hE (ev x).deN (optRep_map hf lo) (optRep_map hf hi) h) ?_
    simp only [execOp, ho, Option.map_none]
  · rename_i t x ho
    exact fin (asap_sound hT hE (ev x).deN h) (by simp only [execOp, ho])
  · rename_i s x f ho
    exact fin (afieldAddr_sound hT (ev x) h) (by simp only [execOp, ho])
  · rename_i t x f ho
    exact fin (afield_sound hT (ev x) h) (by simp only [execOp, ho])
  · rename_i t x i ho
    exact fin (aindexAddr_sound hT hE (ev x).deN (ev i) h) (by simp only [execOp, ho])
  · rename_i t x i ho
    exact fin (aindex_sound hT (ev x) (ev i) h) (by simp only [execOp, ho])
  · rename_i t x ho
    exact fin (aload_sound hT hE (ev x) h) (by simp only [execOp, ho])
  · rename_i x i ho
    have hx := ev x
    split at h
    · rename_i l e
      cases hb : Nat.blt i l.length <;> simp only [hb, cond_true, cond_false] at h <;> cases h
      rw [e] at hx
      generalize hv : a.eval x = v at hx
      cases hx with | @tup _ vs hl =>
      have hi : i < vs.length := by
        have := hl.length
        simp [Nat.blt] at hb; omega
      have hg : vs[i]? = some vs[i] := List.getElem?_eq_getElem hi
      refine ⟨vs[i], w, ?_, .refl w, hl.get i _ hg⟩
      simp [execOp, ho, hv, Instr.extract, hg]
    · cases h
  · rename_i t parts ho
    refine fin (abuild_sound (pv := parts.map fun x => (x.1, a.eval x.2)) hT ?_ h) (by simp only [execOp, ho])
    have := repP_map hf parts.toList
    simpa using this
  · rename_i c ho
    split at h
    · rename_i hcal
      split at h
      · rename_i x t hx ht
        refine fin (alen_sound (ty := o.type) hT hE (ev x).deN h) ?_
        have e1 : c.args = #[x] := by cases hc : c.args; simp_all
        have e2 : c.argTypes = #[t] := by cases hc : c.argTypes; simp_all
        simp [execOp, ho, resolve, hcal, invoke, builtin, e1, e2]
      · cases h
    · rename_i hcal
      split at h
      · rename_i x l hx
        have e1 : c.args = (x :: l).toArray := by cases hc : c.args; simp_all
        obtain ⟨z, hz, hr⟩ := afoldm_sound (P := P) (f := @amin2) (g := Builtin.min2) amin2_cps amin2_sound (ev x) (repL_map hf l) h
        refine ⟨z, w, ?_, .refl w, hr⟩
        simp [execOp, ho, resolve, hcal, invoke, builtin, e1, Builtin.min_, hz]
      · cases h
    · rename_i hcal
      split at h
      · rename_i x l hx
        have e1 : c.args = (x :: l).toArray := by cases hc : c.args; simp_all
        obtain ⟨z, hz, hr⟩ := afoldm_sound (P := P) (f := @amax2) (g := Builtin.max2) amax2_cps amax2_sound (ev x) (repL_map hf l) h
        refine ⟨z, w, ?_, .refl w, hr⟩
        simp [execOp, ho, resolve, hcal, invoke, builtin, e1, Builtin.max_, hz]
      · cases h
    · cases h
  · cases h
end
end Go.Proofs.YtmkgmlgklggnlaaGm
