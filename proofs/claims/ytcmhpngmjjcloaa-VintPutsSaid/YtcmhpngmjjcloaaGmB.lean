/- A part of a reader of loaded code that is proved sound; no condition. -/
import Derived.Test.YtcmhpngmjjcloaaGmA
namespace Go.Proofs.YtcmhpngmjjcloaaGm

/-- A value with 'f' at each of its references (three levels deep). -/
def mapv (f : AV → AV) : Nat → AV → AV
  | n + 1, .agg l => .agg (l.map (mapv f n))
  | n + 1, .tup l => .tup (l.map (mapv f n))
  | n + 1, .fn g l => .fn g (l.map (mapv f n))
  | n + 1, .iface t v => .iface t (mapv f n v)
  | 0, .agg _ => .top
  | 0, .tup _ => .top
  | 0, .fn _ _ => .top
  | 0, .iface _ _ => .top
  | _, .own o => f (.own o)
  | _, .sub o a n => f (.sub o a n)
  | _, .ptr o a => f (.ptr o a)
  | _, .aptr o i a => f (.aptr o i a)
  | _, .mapo o => f (.mapo o)
  | _, v => v

def mapObj (f : AV → AV) : AObj → AObj
  | .var T cs => .var T (cs.map (mapv f 3))
  | o => o

def St.mapRefs (f : AV → AV) (s : St) : St := ⟨s.fr.map (mapv f 4), s.hp.map (mapObj f)⟩

def isOf (o : Nat) : AV → Bool
  | .own a => Nat.beq a o
  | .sub a _ _ => Nat.beq a o
  | .aptr a _ _ => Nat.beq a o
  | .ptr a _ => Nat.beq a o
  | .mapo a => Nat.beq a o
  | _ => false

/-- No reference to object 'o' any more. -/
def lose (o : Nat) (v : AV) : AV := bif isOf o v then .top else v

/-- Object 'o' holds 'p' for good. -/
def frozenAs (o : Nat) (p : Pay AV) : AV → AV
  | .own a => bif Nat.beq a o then .ro p else .own a
  | .sub a i n => bif Nat.beq a o then .ro (p.cut i n) else .sub a i n
  | .aptr a i off => bif Nat.beq a o then .eptr p i off else .aptr a i off
  | v => lose o v

def St.freeze (s : St) (o : Nat) : St :=
  match hget s.hp o with
  | .arr _ p => let s' := s.mapRefs (frozenAs o p); ⟨s'.fr, hset s'.hp o .dead⟩
  | _ => s

def St.freezeAll (s : St) : List Nat → St
  | [] => s
  | o :: r => (s.freeze o).freezeAll r

/-- That a slice is not nil: forgotten. -/
def deN : AV → AV
  | .rn p => .ro p
  | v => v

/-- What a slice value holds. -/
def payOf (tt : Tab) (E : Nat) (hp : List AObj) : AV → Option (Pay AV)
  | .nil => some (emptyPay tt E)
  | .ro p => some p
  | .rn p => some p
  | .own o => match hget hp o with
    | .arr _ p => some p
    | _ => none
  | .sub o a n => match hget hp o with
    | .arr _ p => some (p.cut a n)
    | _ => none
  | _ => none

def memN : List Nat → Nat → Bool
  | [], _ => false
  | a :: r, n => bif Nat.beq a n then true else memN r n

/-- As it is lent to what is called: a row of the call's own as what it holds; another object not at all. -/
def lendL (L : List Nat) (hp : List AObj) : AV → AV
  | .own o => bif memN L o then (match hget hp o with
    | .arr _ p => .ro p
    | _ => .top) else .top
  | .sub o a n => bif memN L o then (match hget hp o with
    | .arr _ p => .ro (p.cut a n)
    | _ => .top) else .top
  | .aptr _ _ _ => .top
  | .ptr _ _ => .top
  | .mapo _ => .top
  | v => v

def ownIn : Nat → AV → List Nat
  | _, .own o => [o]
  | _, .sub o _ _ => [o]
  | n + 1, .agg l => l.flatMap (ownIn n)
  | n + 1, .tup l => l.flatMap (ownIn n)
  | n + 1, .fn _ l => l.flatMap (ownIn n)
  | n + 1, .iface _ v => ownIn n v
  | _, _ => []

/-- May it lead to a row that is read? -/
def hasRo : Nat → AV → Bool
  | _, .ro _ => true
  | _, .rn _ => true
  | _, .eptr _ _ _ => true
  | _, .top => true
  | n + 1, .agg l => l.any (hasRo n)
  | n + 1, .tup l => l.any (hasRo n)
  | 0, .agg _ => true
  | 0, .tup _ => true
  | _, .fn _ _ => true
  | _, .iface _ _ => true
  | _, _ => false

/-- A leaf that leads to no object. -/
def pureLeaf : AV → Bool
  | .bool _ => true
  | .int _ _ => true
  | .str _ => true
  | .ro _ => true
  | _ => false

/-- A leaf that leads nowhere. -/
def scalarLeaf : AV → Bool
  | .bool _ => true
  | .int _ _ => true
  | .str _ => true
  | _ => false

/-- Leaves as they lie in a row: what is the call's own is frozen, what is nil is an empty row. -/
def rowLeaves (tt : Tab) (hp : List AObj) : List Nat → List AV → List AV
  | t :: ts, v :: vs =>
    (match v with
      | .nil => (match tget tt t with
        | some ⟨.slice E, _, _, _, _⟩ => .ro (emptyPay tt E)
        | _ => .top)
      | v => mapv (lendL (ownIn 0 v) hp) 0 v) :: rowLeaves tt hp ts vs
  | _, vs => vs

def St.put (s : St) (d : Option Nat) (v : AV) : St :=
  match d with
  | some t => ⟨setN s.fr t v, s.hp⟩
  | none => s

def setRange (cs : List AV) (off : Nat) : List AV → List AV
  | [] => cs
  | v :: vs => setRange (setN cs off v) (off + 1) vs

def zerosOf (tt : Tab) (E n : Nat) : Pay AV :=
  match tget tt E with
  | some ⟨.int .u8, _, _, _, _⟩ => .bytes (List.replicate n 0)
  | some ⟨.int k, _, _, _, _⟩ => .ints k (List.replicate n 0)
  | some e => .rows e.size (List.replicate n (rowLeaves tt [] e.leaf (leavesOf e.zero)))
  | none => .rows 0 []

/-- A value whose cells are told. -/
def leavesOk : AV → Bool
  | .top => false
  | .tup _ => false
  | _ => true

/-- The elements' zero value can be told. -/
def zeroOk (tt : Tab) (E : Nat) : Bool :=
  match tget tt E with
  | some ⟨.int k, sz, _, .int k' z, _⟩ => ikEq k k' && decide (z = 0) && Nat.beq sz 1
  | some ⟨.int _, _, _, _, _⟩ => false
  | some e => leavesOk e.zero && (rowLeaves tt [] e.leaf (leavesOf e.zero)).all pureLeaf && Nat.blt 0 e.size
  | none => false

def Pay.setAt (i off : Nat) (ls : List AV) : Pay AV → Option (Pay AV)
  | .bytes l => match ls with
    | [.int .u8 n] => some (.bytes (l.set i (UInt8.ofNat n.toNat)))
    | _ => none
  | .ints k l => match ls with
    | [.int k' n] => bif ikEq k k' then some (.ints k (l.set i n)) else none
    | _ => none
  | .rows s l => some (.rows s (l.set i (setRange (l.getD i []) off ls)))

def isTy (tt : Tab) (t : Nat) (f : AT → Bool) : Bool :=
  match tget tt t with
  | some e => f e.d
  | none => false

section cps
variable {R : Type} (stk : R)

def isNilTy : AT → Bool
  | .slice _ => true
  | .ptr _ => true
  | .map _ _ => true
  | .func => true
  | _ => false

def isSliceTy : AT → Bool
  | .slice _ => true
  | _ => false
def isPtrTy : AT → Bool
  | .ptr _ => true
  | _ => false
def isMapTy : AT → Bool
  | .map _ _ => true
  | _ => false
def isFuncTy : AT → Bool
  | .func => true
  | _ => false
def isBoolTy : AT → Bool
  | .bool => true
  | _ => false

/-- '==' or '!=', the answer known. -/
def eqlIs (op : BinOp) (b : Bool) (k : AV → R) : R :=
  match op with
  | .eql => k (.bool b)
  | .neq => k (.bool (!b))
  | _ => stk

def abin (tt : Tab) (t : Nat) (op : BinOp) (x y : AV) (k : AV → R) : R :=
  match x, y with
  | .int kx a, .int ky b =>
    match op with
    | .shl => bif ltI b 0 then stk else k (.int kx (ishl kx a b))
    | .shr => bif ltI b 0 then stk else k (.int kx (ishr kx a b))
    | op => bif ikEq kx ky then (match op with
      | .add => k (.int kx (kx.wrap (a + b)))
      | .sub => k (.int kx (kx.wrap (a - b)))
      | .mul => k (.int kx (kx.wrap (a * b)))
      | .quo => bif eqI b 0 then stk else k (.int kx (iquo kx a b))
      | .rem => bif eqI b 0 then stk else k (.int kx (irem a b))
      | .and => k (.int kx (iand kx a b))
      | .or => k (.int kx (ior kx a b))
      | .xor => k (.int kx (ixor kx a b))
      | .andNot => k (.int kx (iandn kx a b))
      | .eql => k (.bool (eqI a b))
      | .neq => k (.bool (!eqI a b))
      | .lss => k (.bool (ltI a b))
      | .leq => k (.bool (leI a b))
      | .gtr => k (.bool (ltI b a))
      | .geq => k (.bool (leI b a))
      | _ => stk) else stk
  | .str a, .str b =>
    match op with
    | .add => bif Nat.ble (a.length + b.length) maxLen then k (.str (a ++ b)) else stk
    | .eql => k (.bool (eqS a b))
    | .neq => k (.bool (!eqS a b))
    | .lss => k (.bool (ltS a b))
    | .leq => k (.bool (ltS a b || eqS a b))
    | .gtr => k (.bool (!(ltS a b || eqS a b)))
    | .geq => k (.bool (!ltS a b))
    | _ => stk
  | .bool a, .bool b => bif isTy tt t isBoolTy then eqlIs stk op (a == b) k else stk
  | .nil, .nil => bif isTy tt t isSliceTy then eqlIs stk op true k else stk
  | .nilp, .nilp => bif isTy tt t isPtrTy then eqlIs stk op true k else stk
  | .nilm, .nilm => bif isTy tt t isMapTy then eqlIs stk op true k else stk
  | .nilf, .nilf => bif isTy tt t isFuncTy then eqlIs stk op true k else stk
  | .ptr _ _, .nilp => bif isTy tt t isPtrTy then eqlIs stk op false k else stk
  | .nilp, .ptr _ _ => bif isTy tt t isPtrTy then eqlIs stk op false k else stk
  | .fn _ _, .nilf => bif isTy tt t isFuncTy then eqlIs stk op false k else stk
  | .mapo _, .nilm => bif isTy tt t isMapTy then eqlIs stk op false k else stk
  | .ro p, .nil => bif isTy tt t isSliceTy && Nat.blt 0 p.len then eqlIs stk op false k else stk
  | .rn _, .nil => bif isTy tt t isSliceTy then eqlIs stk op false k else stk
  | _, _ => stk

def aun (op : UnOp) (x : AV) (k : AV → R) : R :=
  match op, x with
  | .neg, .int kk n => k (.int kk (kk.wrap (0 - n)))
  | .xor, .int kk n => k (.int kk (ixor kk (iones kk) n))
  | .not, .bool b => k (.bool (!b))
  | _, _ => stk

def aconv (tt : Tab) (hp : List AObj) (src dst : Nat) (x : AV) (k : AV → R) : R :=
  match tget tt src, tget tt dst with
  | some s, some d =>
    match s.d, d.d, x with
    | .int _, .int kk, .int _ n => k (.int kk (kk.wrap n))
    | .str, .str, .str a => k (.str a)
    | .slice E, .str, x => (match emptyPay tt E, payOf tt E hp x with
      | .bytes _, some (.bytes l) => k (.str l)
      | _, _ => stk)
    | .str, .slice E, .str a => (match emptyPay tt E with
      | .bytes _ => k (.ro (.bytes a))
      | _ => stk)
    | _, _, _ => stk
  | _, _ => stk

/-- The type has values of so many cells. -/
def szOk (tt : Tab) (E n : Nat) : Bool :=
  match tget tt E with
  | some e => Nat.beq e.size n
  | none => false

/-- An index that lies below. -/
def inB (i : Int) (n : Nat) : Bool := decide (0 ≤ i) && decide (i < n)

def aindexAddr (tt : Tab) (hp : List AObj) (t : Nat) (x i : AV) (k : AV → R) : R :=
  match tget tt t, i with
  | some e, .int _ i =>
    match e.d, x with
    | .slice E, .ro p => bif szOk tt E p.sz && inB i p.len then k (.eptr p i.toNat 0) else stk
    | .slice E, .own o => (match hget hp o with
      | .arr _ p => bif szOk tt E p.sz && inB i p.len then k (.aptr o i.toNat 0) else stk
      | _ => stk)
    | .slice E, .sub o a n => (match hget hp o with
      | .arr _ p => bif szOk tt E p.sz && inB i n then k (.aptr o (a + i.toNat) 0) else stk
      | _ => stk)
    | .array n E, .ptr o off => (match tget tt E with
      | some eE => bif inB i n then k (.ptr o (off + i.toNat * eE.size)) else stk
      | none => stk)
    | _, _ => stk
  | _, _ => stk

def aindex (tt : Tab) (t : Nat) (x i : AV) (k : AV → R) : R :=
  match tget tt t, i with
  | some e, .int _ i =>
    match e.d, x with
    | .str, .str s => bif inB i s.length then k (.int .u8 (s.getD i.toNat 0).toNat) else stk
    | .array n E, .arr l => (match tget tt E with
      | some ⟨.int _, sz, _, _, _⟩ => bif Nat.beq sz 1 && inB i n then eta1 stk tt E (nth l i.toNat) k else stk
      | _ => stk)
    | _, _ => stk
  | _, _ => stk

def isArrTy (tt : Tab) (n E : Nat) : Bool :=
  match tget tt E with
  | some ⟨.int _, _, _, _, _⟩ => Nat.blt 0 n
  | _ => false

def notTop (v : AV) (k : AV → R) : R :=
  match v with
  | .top => stk
  | v => k v

/-- A variable's value out of an own object's cells. -/
def ldVar (tt : Tab) (t : Nat) (cs : List AV) (off : Nat) (k : AV → R) : R :=
  match tget tt t with
  | some e =>
    match e.d with
    | .struct _ => bif Nat.ble (off + e.size) cs.length then k (.agg ((cs.drop off).take e.size)) else stk
    | .array _ _ => bif Nat.ble (off + e.size) cs.length && ((cs.drop off).take e.size).all scalarLeaf then k (.arr ((cs.drop off).take e.size)) else stk
    | .int _ => eta1 stk tt t (nth cs off) k
    | .bool => eta1 stk tt t (nth cs off) k
    | .str => eta1 stk tt t (nth cs off) k
    | .other => stk
    | _ => notTop stk (nth cs off) k
  | none => stk

/-- A variable's value out of a row. -/
def ldPay (tt : Tab) (t : Nat) (p : Pay AV) (i off : Nat) (k : AV → R) : R :=
  match tget tt t with
  | some e =>
    bif Nat.ble (off + e.size) p.sz && Nat.blt 0 e.size then
    (match e.d with
    | .struct _ => etaL stk tt (((p.leaves i).drop off).take e.size) e.leaf 0 fun ls => k (.agg ls)
    | .array _ _ => bif (((p.leaves i).drop off).take e.size).all scalarLeaf then k (.arr (((p.leaves i).drop off).take e.size)) else stk
    | .other => stk
    | _ => (match p with
      | .rows _ _ => eta1 stk tt t (p.leaf i off) k
      | p => k (p.leaf i off))) else stk
  | none => stk

def aload (tt : Tab) (hp : List AObj) (t : Nat) (a : AV) (k : AV → R) : R :=
  match a with
  | .ptr o off => (match hget hp o with
    | .var _ cs => ldVar stk tt t cs off k
    | _ => stk)
  | .eptr p i off => ldPay stk tt t p i off k
  | .aptr o i off => (match hget hp o with
    | .arr _ p => ldPay stk tt t p i off k
    | _ => stk)
  | _ => stk

def fieldOff (tt : Tab) (s f : Nat) : Option (Nat × Nat) :=
  match tget tt s with
  | some ⟨.struct fs, _, _, _, _⟩ => fs[f]?
  | _ => none

def afieldAddr (tt : Tab) (s f : Nat) (x : AV) (k : AV → R) : R :=
  match fieldOff tt s f with
  | some (fo, ft) =>
    (match tget tt ft with
    | some e => bif Nat.blt 0 e.size then (match x with
      | .ptr o off => k (.ptr o (off + fo))
      | .eptr p i off => k (.eptr p i (off + fo))
      | .aptr o i off => k (.aptr o i (off + fo))
      | _ => stk) else stk
    | none => stk)
  | none => stk

def afield (tt : Tab) (s f : Nat) (x : AV) (k : AV → R) : R :=
  match fieldOff tt s f, x with
  | some (fo, ft), .agg l =>
    (match tget tt ft with
    | some e => (match e.d with
      | .struct _ => k (.agg ((l.drop fo).take e.size))
      | .array _ _ => bif ((l.drop fo).take e.size).all scalarLeaf then k (.arr ((l.drop fo).take e.size)) else stk
      | _ => notTop stk (nth l fo) k)
    | none => stk)
  | _, _ => stk

def optI (d : Int) : Option AV → Option Int
  | none => some d
  | some (.int _ n) => some n
  | some _ => none

def isSome? : Option AV → Bool
  | some _ => true
  | none => false

def aslice (tt : Tab) (hp : List AObj) (t : Nat) (x : AV) (lo hi : Option AV) (k : AV → R) : R :=
  match tget tt t with
  | some e =>
    match e.d, x with
    | .str, .str s => (match optI 0 lo, optI s.length hi with
      | some l, some h => bif (leI 0 l && leI l h && leI h s.length) then
          k (.str (bif isSome? hi then (s.drop l.toNat).take (h.toNat - l.toNat) else s.drop l.toNat)) else stk
      | _, _ => stk)
    | .slice E, .ro p => (match optI 0 lo, optI p.len hi with
      | some l, some h => bif (szOk tt E p.sz && leI 0 l && leI l h && leI h p.len) then
          k (.ro (bif isSome? hi then p.cut l.toNat (h.toNat - l.toNat) else p.from l.toNat)) else stk
      | _, _ => stk)
    | .slice E, .own o => (match hget hp o with
      | .arr _ p => (match optI 0 lo, optI p.len hi with
        | some l, some h => bif (szOk tt E p.sz && leI 0 l && leI l h && leI h p.len) then k (.sub o l.toNat (h.toNat - l.toNat)) else stk
        | _, _ => stk)
      | _ => stk)
    | .slice E, .sub o a n => (match hget hp o with
      | .arr _ p => (match optI 0 lo, optI n hi with
        | some l, some h => bif (szOk tt E p.sz && leI 0 l && leI l h && leI h n) then k (.sub o (a + l.toNat) (h.toNat - l.toNat)) else stk
        | _, _ => stk)
      | _ => stk)
    | .slice E, .nil => (match optI 0 lo, optI 0 hi with
      | some l, some h => bif (isTy tt E (fun _ => true) && leI 0 l && leI l h && leI h 0) then k .nil else stk
      | _, _ => stk)
    | _, _ => stk
  | none => stk

def alen (tt : Tab) (hp : List AObj) (t : Nat) (x : AV) (k : AV → R) : R :=
  match tget tt t with
  | some e =>
    match e.d, x with
    | .str, .str s => k (.int .i64 s.length)
    | .slice E, x => (match payOf tt E hp x with
      | some p => k (.int .i64 p.len)
      | none => stk)
    | .array n _, _ => bif hasB .i64 n then k (.int .i64 n) else stk
    | _, _ => stk
  | none => stk

def amin2 (x y : AV) (k : AV → R) : R :=
  match x, y with
  | .int kk a, .int k' b => bif ikEq kk k' then k (.int kk (if b < a then b else a)) else stk
  | _, _ => stk
def amax2 (x y : AV) (k : AV → R) : R :=
  match x, y with
  | .int kk a, .int k' b => bif ikEq kk k' then k (.int kk (if b > a then b else a)) else stk
  | _, _ => stk
def afoldm (f : AV → AV → (AV → R) → R) : AV → List AV → (AV → R) → R
  | x, [], k => k x
  | x, y :: l, k => f x y fun z => afoldm f z l k

def apick (c a b : AV) (k : AV → R) : R :=
  match c with
  | .bool c => bif c then k a else k b
  | _ => stk

/-- A struct's or an array's leaves put in their places. -/
def fillParts (place : Nat → Option (Nat × Nat)) (cells : List AV) : List (Nat × AV) → Option (List AV)
  | [] => some cells
  | (i, v) :: rest =>
    match place i with
    | none => none
    | some (off, size) =>
      bif leavesOk v && Nat.beq (leavesOf v).length size && Nat.ble (off + size) cells.length then fillParts place (setRange cells off (leavesOf v)) rest else none

def placesOf (tt : Tab) : List (Nat × Nat) → Nat → Option (Nat × Nat)
  | [], _ => none
  | (o, t) :: _, 0 => match tget tt t with
    | some e => some (o, e.size)
    | none => none
  | _ :: r, n + 1 => placesOf tt r n

def abuild (tt : Tab) (t : Nat) (parts : List (Nat × AV)) (k : AV → R) : R :=
  match tget tt t with
  | some e =>
    match e.d with
    | .struct fs => bif leavesOk e.zero && fs.all (fun x => isTy tt x.2 fun _ => true) then (match fillParts (placesOf tt fs) (leavesOf e.zero) parts with
      | some cs => k (.agg cs)
      | none => stk) else stk
    | .array n E => bif leavesOk e.zero && szOk tt E 1 then
      (match fillParts (fun i => bif Nat.blt i n then some (i, 1) else none) (leavesOf e.zero) parts with
        | some cs => bif cs.all scalarLeaf then k (.arr cs) else stk
        | none => stk) else stk
    | _ => stk
  | none => stk

end cps
end Go.Proofs.YtcmhpngmjjcloaaGm
