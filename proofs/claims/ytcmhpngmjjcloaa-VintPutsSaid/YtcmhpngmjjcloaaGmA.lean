/- A part of a reader of loaded code that is proved sound; no condition. -/
import Derived.Laws.AppendOwn
import Derived.ProofKit
import Derived.WalkKit
namespace Go.Proofs.YtcmhpngmjjcloaaGm

/-! A symbolic reading of loaded code: values without memory, a small heap of the call's own objects, and a reader of code in continuation form that the kernel can run. -/

/-- What a row of elements holds. -/
inductive Pay (α : Type) where
  | bytes (l : List UInt8)
  | ints (k : IntKind) (l : List Int)
  | rows (sz : Nat) (l : List (List α))

/-- Values as the reading has them. -/
inductive AV where
  | top
  | bool (b : Bool)
  | int (k : IntKind) (n : Int)
  | str (s : List UInt8)
  | agg (l : List AV)
  | arr (l : List AV)
  | tup (l : List AV)
  | nilp
  | ptr (o off : Nat)
  | aptr (o i off : Nat)
  | eptr (p : Pay AV) (i off : Nat)
  | nil
  | ro (p : Pay AV)
  | rn (p : Pay AV)
  | own (o : Nat)
  | sub (o off len : Nat)
  | fn (f : Nat) (caps : List AV)
  | nilf
  | mapo (o : Nat)
  | nilm
  | iface (t : Nat) (v : AV)
  | nili

/-- An object of the call's own. -/
inductive AObj where
  | dead
  | var (T : Nat) (cells : List AV)
  | arr (E : Nat) (p : Pay AV)

structure St where
  fr : List AV
  hp : List AObj

/-- What a type is, as far as the reading asks. -/
inductive AT where
  | bool | int (k : IntKind) | str | ptr (e : Nat) | slice (e : Nat) | array (n e : Nat) | struct (fs : List (Nat × Nat)) | map (k e : Nat) | func | iface | other

structure TyE where
  d : AT
  size : Nat
  bytes : Nat
  zv : Value
  leaf : List Nat

abbrev Tab := List (Nat × TyE)

def tget : Tab → Nat → Option TyE
  | [], _ => none
  | (a, e) :: r, t => bif Nat.beq a t then some e else tget r t

def nth : List AV → Nat → AV
  | [], _ => .top
  | a :: _, 0 => a
  | _ :: r, n + 1 => nth r n

def setN : List AV → Nat → AV → List AV
  | [], _, _ => []
  | _ :: r, 0, v => v :: r
  | a :: r, n + 1, v => a :: setN r n v

def hget : List AObj → Nat → AObj
  | [], _ => .dead
  | a :: _, 0 => a
  | _ :: r, n + 1 => hget r n

def hset : List AObj → Nat → AObj → List AObj
  | [], _, _ => []
  | _ :: r, 0, v => v :: r
  | a :: r, n + 1, v => a :: hset r n v

def ikEq : IntKind → IntKind → Bool
  | .i8, .i8 | .i16, .i16 | .i32, .i32 | .i64, .i64 | .u8, .u8 | .u16, .u16 | .u32, .u32 | .u64, .u64 => true
  | _, _ => false

def hasB (k : IntKind) (n : Int) : Bool := decide (k.min ≤ n) && decide (n ≤ k.max)

/-- A constant of the code. -/
def aleaf : Value → AV
  | .bool b => .bool b
  | .int k n => bif hasB k n then .int k n else .top
  | .string s => bif Nat.ble s.size maxLen then .str s.data.toList else .top
  | .pointer none => .nilp
  | .slice none 0 0 => .nil
  | .map none => .nilm
  | .nilFunc => .nilf
  | .nilIface => .nili
  | _ => .top

def oneB : Value → Bool
  | .agg _ => false
  | .tuple _ => false
  | _ => true

def aconst : Value → AV
  | .agg cs => bif cs.toList.all oneB then .agg (cs.toList.map aleaf) else .top
  | .tuple vs => match vs.toList with | [] => .tup [] | _ => .top
  | v => aleaf v

def TyE.zero (e : TyE) : AV := aconst e.zv

def aval (fr : List AV) : Operand → AV
  | .tmp t => nth fr t
  | .const v => aconst v
  | .global _ => .top
  | .func f => .fn f []

def ltI (a b : Int) : Bool := decide (a < b)
def leI (a b : Int) : Bool := decide (a ≤ b)
def eqI (a b : Int) : Bool := decide (a = b)

def iand (k : IntKind) (a b : Int) : Int := k.wrap (BitVec.ofInt k.bits a &&& BitVec.ofInt k.bits b).toNat
def ior (k : IntKind) (a b : Int) : Int := k.wrap (BitVec.ofInt k.bits a ||| BitVec.ofInt k.bits b).toNat
def ixor (k : IntKind) (a b : Int) : Int := k.wrap (BitVec.ofInt k.bits a ^^^ BitVec.ofInt k.bits b).toNat
def iandn (k : IntKind) (a b : Int) : Int := k.wrap (BitVec.ofInt k.bits a &&& ~~~ BitVec.ofInt k.bits b).toNat
def ishl (k : IntKind) (a b : Int) : Int := k.wrap (a * 2 ^ min b.toNat k.bits)
def ishr (k : IntKind) (a b : Int) : Int := a.fdiv (2 ^ min b.toNat k.bits)
def iquo (k : IntKind) (a b : Int) : Int := k.wrap (a.tdiv b)
def irem (a b : Int) : Int := a.tmod b
def iones (k : IntKind) : Int := if k.signed then -1 else k.max

def eqS (a b : List UInt8) : Bool := a == b
def ltS (a b : List UInt8) : Bool := Op.bytesLess a b

section pay
variable (p q : Pay AV)
def Pay.len : Pay AV → Nat
  | .bytes l => l.length
  | .ints _ l => l.length
  | .rows _ l => l.length
def Pay.sz : Pay AV → Nat
  | .bytes _ => 1
  | .ints _ _ => 1
  | .rows n _ => n
/-- From 'a' on, 'n' elements. -/
def Pay.cut (a n : Nat) : Pay AV → Pay AV
  | .bytes l => .bytes ((l.drop a).take n)
  | .ints k l => .ints k ((l.drop a).take n)
  | .rows s l => .rows s ((l.drop a).take n)
def Pay.from (a : Nat) : Pay AV → Pay AV
  | .bytes l => .bytes (l.drop a)
  | .ints k l => .ints k (l.drop a)
  | .rows s l => .rows s (l.drop a)
def Pay.leaf (i off : Nat) : Pay AV → AV
  | .bytes l => .int .u8 (l.getD i 0).toNat
  | .ints k l => .int k (l.getD i 0)
  | .rows _ l => nth (l.getD i []) off
def Pay.leaves (i : Nat) : Pay AV → List AV
  | .bytes l => [.int .u8 (l.getD i 0).toNat]
  | .ints k l => [.int k (l.getD i 0)]
  | .rows _ l => l.getD i []
/-- All cells, one behind the other. -/
def Pay.cells : Pay AV → List AV
  | .bytes l => l.map fun b => .int .u8 b.toNat
  | .ints k l => l.map (.int k)
  | .rows _ l => l.flatten
def Pay.app : Pay AV → Pay AV → Option (Pay AV)
  | .bytes l, .bytes m => some (.bytes (l ++ m))
  | .ints k l, .ints k' m => bif ikEq k k' then some (.ints k (l ++ m)) else none
  | .rows s l, .rows s' m => bif Nat.beq s s' then some (.rows s (l ++ m)) else none
  | _, _ => none
end pay

def emptyPay (tt : Tab) (E : Nat) : Pay AV :=
  match tget tt E with
  | some ⟨.int .u8, _, _, _, _⟩ => .bytes []
  | some ⟨.int k, _, _, _, _⟩ => .ints k []
  | some e => .rows e.size []
  | none => .rows 0 []

def leavesOf : AV → List AV
  | .agg l => l
  | .arr l => l
  | v => [v]

def isInt (k : IntKind) : AV → Bool
  | .int k' _ => ikEq k k'
  | _ => false
def intOf : AV → Int
  | .int _ n => n
  | _ => 0
def isBool : AV → Bool
  | .bool _ => true
  | _ => false
def boolOf : AV → Bool
  | .bool b => b
  | _ => false
def isStr : AV → Bool
  | .str _ => true
  | _ => false
def strOf : AV → List UInt8
  | .str s => s
  | _ => []
def kindOfPay : Pay AV → Pay AV → Bool
  | .bytes _, .bytes _ => true
  | .ints k _, .ints k' _ => ikEq k k'
  | .rows s _, .rows s' _ => Nat.beq s s'
  | _, _ => false
def isRo (e : Pay AV) : AV → Bool
  | .ro p => kindOfPay e p
  | _ => false
def bytesOf : AV → List UInt8
  | .ro (.bytes l) => l
  | _ => []
def intsOf : AV → List Int
  | .ro (.ints _ l) => l
  | _ => []
def rowsOf : AV → List (List AV)
  | .ro (.rows _ l) => l
  | _ => []
def roOf (e : Pay AV) (v : AV) : Pay AV :=
  match e with
  | .bytes _ => .bytes (bytesOf v)
  | .ints k _ => .ints k (intsOf v)
  | .rows s _ => .rows s (rowsOf v)

section cps
variable {R : Type} (stk : R)

/-- A value out of a row, in the form that its type has. -/
def eta1 (tt : Tab) (t : Nat) (v : AV) (k : AV → R) : R :=
  match tget tt t with
  | some e => match e.d with
    | .bool => bif isBool v then k (.bool (boolOf v)) else stk
    | .int kk => bif isInt kk v then k (.int kk (intOf v)) else stk
    | .str => bif isStr v then k (.str (strOf v)) else stk
    | .slice el => bif isRo (emptyPay tt el) v then k (.ro (roOf (emptyPay tt el) v)) else stk
    | _ => k v
  | none => stk

/-- A struct's leaves, each in its form. -/
def etaL (tt : Tab) (ls : List AV) : List Nat → Nat → (List AV → R) → R
  | [], _, k => k []
  | t :: ts, i, k => eta1 stk tt t (nth ls i) fun v => etaL tt ls ts (i + 1) fun vs => k (v :: vs)

end cps
end Go.Proofs.YtcmhpngmjjcloaaGm
