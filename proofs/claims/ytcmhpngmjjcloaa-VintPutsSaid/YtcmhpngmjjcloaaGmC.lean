/- A part of a reader of loaded code that is proved sound; no condition. -/
import Derived.Test.YtcmhpngmjjcloaaGmB
namespace Go.Proofs.YtcmhpngmjjcloaaGm

/-- What is known of a function that is called. 'pure': it reads and answers; 'eff': it may change the objects that it is handed ('own': the parameters at which a row is handed over). -/
abbrev Ans := (R : Type) → R → List AV → (AV → List AObj → R) → R

inductive Spec where
  | pure (go : Ans)
  | eff (own : List Nat) (go : (R : Type) → R → List AV → List AObj → (AV → List AObj → R) → R)

structure Mask where
  keep : List Nat
  own : List (Nat × Nat)

structure Cfg where
  tt : Tab
  sg : List (Nat × Spec)
  F : Nat
  lm : List (Nat × Mask)
  jm : List (Nat × Mask)
  h0 : Nat

def sget : List (Nat × Spec) → Nat → Option Spec
  | [], _ => none
  | (a, e) :: r, f => bif Nat.beq a f then some e else sget r f

def mget : List (Nat × Mask) → Nat → Option Mask
  | [], _ => none
  | (a, e) :: r, f => bif Nat.beq a f then some e else mget r f

def posN : List Nat → Nat → Option Nat
  | [], _ => none
  | a :: r, n => bif Nat.beq a n then some 0 else (match posN r n with | some i => some (i + 1) | none => none)

def refsIn : Nat → AV → List Nat
  | _, .own o => [o]
  | _, .sub o _ _ => [o]
  | _, .ptr o _ => [o]
  | _, .aptr o _ _ => [o]
  | _, .mapo o => [o]
  | n + 1, .agg l => l.flatMap (refsIn n)
  | n + 1, .tup l => l.flatMap (refsIn n)
  | n + 1, .fn _ l => l.flatMap (refsIn n)
  | n + 1, .iface _ v => refsIn n v
  | _, _ => []

def objRefs : AObj → List Nat
  | .var _ cs => cs.flatMap (refsIn 3)
  | _ => []

/-- Which objects are led to, each once, in the order in which they are met. -/
def reach (hp : List AObj) : Nat → List Nat → List Nat → List Nat
  | 0, _, acc => acc
  | _ + 1, [], acc => acc
  | n + 1, o :: todo, acc => bif memN acc o then reach hp n todo acc else reach hp n (todo ++ objRefs (hget hp o)) (acc ++ [o])

def renum (ids : List Nat) : AV → AV
  | .own o => match posN ids o with | some i => .own i | none => .top
  | .sub o a n => match posN ids o with | some i => .sub i a n | none => .top
  | .ptr o a => match posN ids o with | some i => .ptr i a | none => .top
  | .aptr o i a => match posN ids o with | some j => .aptr j i a | none => .top
  | .mapo o => match posN ids o with | some i => .mapo i | none => .top
  | v => v

def keepF (keep : List Nat) : List AV → Nat → List AV
  | [], _ => []
  | v :: r, i => (bif memN keep i then v else .top) :: keepF keep r (i + 1)

def upto : Nat → List Nat
  | 0 => []
  | n + 1 => upto n ++ [n]

def St.gc (s : St) (h0 : Nat) : St :=
  let ids := reach s.hp 200 (s.fr.flatMap (refsIn 4) ++ (upto h0).flatMap fun i => objRefs (hget s.hp i)) (upto h0)
  ⟨s.fr.map (mapv (renum ids) 4), ids.map fun o => mapObj (renum ids) (hget s.hp o)⟩

def St.owned (tt : Tab) (s : St) : List (Nat × Nat) → St
  | [] => s
  | (t, E) :: r =>
    (match nth s.fr t with
      | .nil => bif Nat.blt 0 (emptyPay tt E).sz then St.owned tt ⟨setN s.fr t (.own s.hp.length), s.hp ++ [.arr E (emptyPay tt E)]⟩ r else St.owned tt s r
      | _ => St.owned tt s r)

def maskSt (tt : Tab) (h0 : Nat) (m : Mask) (s : St) : St :=
  let s1 := s.owned tt m.own
  St.gc ⟨keepF m.keep s1.fr 0, s1.hp⟩ h0

def maskAt (tt : Tab) (h0 : Nat) (ms : List (Nat × Mask)) (key : Nat) (s : St) : St :=
  match mget ms key with
  | some m => maskSt tt h0 m s
  | none => s

/-- A value's leaves as they lie in a row. -/
def rowOf (tt : Tab) (hp : List AObj) (ts : List Nat) (v : AV) : List AV :=
  match v with
  | .arr l => l
  | v => rowLeaves tt hp ts (leavesOf v)
def rowPure (tt : Tab) (hp : List AObj) (ts : List Nat) (v : AV) : Bool :=
  match v with
  | .arr _ => true
  | v => (rowLeaves tt hp ts (leavesOf v)).all pureLeaf
def leafOwn (v : AV) : List Nat :=
  match v with
  | .arr _ => []
  | v => (leavesOf v).flatMap (ownIn 0)

def setParts (tt : Tab) (hp : List AObj) (leaf : List Nat) (p : Pay AV) : List (Nat × AV) → Option (Pay AV)
  | [] => some p
  | (i, v) :: r =>
    bif leavesOk v && rowPure tt hp leaf v && Nat.blt i p.len && Nat.beq (rowOf tt hp leaf v).length p.sz then (match p.setAt i 0 (rowOf tt hp leaf v) with
      | some p' => setParts tt hp leaf p' r
      | none => none) else none

def ownsOf (l : List (Nat × AV)) : List Nat := l.flatMap fun x => leafOwn x.2

section cps
variable {R : Type} (stk : R)

/-- An operation that leaves all objects as they are. -/
def rop (tt : Tab) (hp : List AObj) (ev : Operand → AV) (op : Op) (k : AV → R) : R :=
  match op with
  | .move x => k (ev x)
  | .assign x => k (ev x)
  | .pick c a b => apick stk (ev c) (ev a) (ev b) k
  | .nilCheck x => (match ev x with
    | .ptr o a => k (.ptr o a)
    | .aptr o i a => k (.aptr o i a)
    | .eptr p i a => k (.eptr p i a)
    | _ => stk)
  | .binOp op t x y _ => abin stk tt t op (ev x) (ev y) k
  | .unOp op _ x => aun stk op (ev x) k
  | .convert s d x => aconv stk tt hp s d (ev x) k
  | .makeFunc (.func f) first caps => (match first.toList with
    | [] => k (.fn f (caps.toList.map ev))
    | _ => stk)
  | .slice t x lo hi none => aslice stk tt hp t (deN (ev x)) (lo.map ev) (hi.map ev) k
  | .fieldAddr s x f => afieldAddr stk tt s f (ev x) k
  | .field t x f => afield stk tt t f (ev x) k
  | .indexAddr t x i => aindexAddr stk tt hp t (deN (ev x)) (ev i) k
  | .index t x i => aindex stk tt t (ev x) (ev i) k
  | .load t a => aload stk tt hp t (ev a) k
  | .extract x i => (match ev x with
    | .tup l => bif Nat.blt i l.length then k (nth l i) else stk
    | _ => stk)
  | .build t parts => abuild stk tt t (parts.toList.map fun x => (x.1, ev x.2)) k
  | .call c => (match c.callee with
    | .builtin .len => (match c.args.toList, c.argTypes.toList with
      | [x], [t] => alen stk tt hp t (deN (ev x)) k
      | _, _ => stk)
    | .builtin .min => (match c.args.toList with
      | x :: l => afoldm (amin2 stk) (ev x) (l.map ev) k
      | [] => stk)
    | .builtin .max => (match c.args.toList with
      | x :: l => afoldm (amax2 stk) (ev x) (l.map ev) k
      | [] => stk)
    | _ => stk)
  | _ => stk

/-- What is called: its number, and what it captured. -/
def target (v : AV) : Option (Nat × List AV) :=
  match v with
  | .fn f caps => some (f, caps)
  | _ => none

/-- Objects that lie behind others. -/
def shiftR (n : Nat) : AV → AV
  | .own o => .own (n + o)
  | .sub o a l => .sub (n + o) a l
  | .ptr o a => .ptr (n + o) a
  | .aptr o i a => .aptr (n + o) i a
  | .mapo o => .mapo (n + o)
  | v => v
def objRo : AObj → Bool
  | .arr _ (.rows _ _) => true
  | .var _ cs => cs.any (hasRo 3)
  | _ => false
def objFits (tt : Tab) : AObj → Bool
  | .arr E p => kindOfPay (emptyPay tt E) p
  | _ => true

/-- A call of what only reads and answers: the answer, and which own rows it may have handed on. -/
def callPure (tt : Tab) (hp : List AObj) (go : Ans) (args : List AV) (k : AV → List AObj → List Nat → R) : R :=
  go R stk (args.map (mapv (lendL (args.flatMap (ownIn 3)) hp) 3)) fun r objs =>
    bif objs.all (objFits tt) then k r objs (bif hasRo 3 r || objs.any objRo then args.flatMap (ownIn 3) else []) else stk

/-- The same answer, its own rows as who calls may read them. -/
def lentGo (go : Ans) : Ans := fun R stk args k => go R stk args fun r objs => k (mapv (lendL (ownIn 3 r) objs) 3 r) []

def isSrcTy : AT → Bool
  | .slice _ => true
  | .str => true
  | _ => false

def appOk (e : TyE) (p : Pay AV) : Bool := Nat.beq p.sz e.size && Nat.blt 0 e.size && Nat.blt 0 e.bytes

/-- The bytes fit. -/
def appFits (e : TyE) (p : Pay AV) : Bool := Nat.ble (p.len * e.bytes) 140737488355328

def aappend (tt : Tab) (t : Nat) (d : Option Nat) (b x : AV) (s : St) (k : St → R) : R :=
  match tget tt t with
  | some ⟨.slice E, _, _, _, _⟩ =>
    (match tget tt E with
    | some e =>
      (match (match x with
        | .str m => some (Pay.bytes m)
        | x => payOf tt E s.hp x) with
      | some q =>
        (match b with
        | .nil => (match (emptyPay tt E).app q with
          | some p => bif appOk e p && appFits e p then k (St.put ⟨s.fr, s.hp ++ [.arr E p]⟩ d (.own s.hp.length)) else stk
          | none => stk)
        | .own o => (match hget s.hp o with
          | .arr E0 p0 => (match p0.app q with
            | some p => bif Nat.beq E0 E && appOk e p && !(memN (refsIn 0 x) o) && appFits e p then
                (let s' := s.mapRefs (lose o); k (St.put ⟨s'.fr, hset s'.hp o (.arr E p)⟩ d (.own o))) else stk
            | none => stk)
          | _ => stk)
        | _ => stk)
      | none => stk)
    | none => stk)
  | _ => stk

def undefA : AV := .tup []

/-- What a call answers, with the objects that are its own. -/
def St.joined (s : St) (objs : List AObj) (d : Option Nat) (r : AV) : St :=
  St.put ⟨s.fr, s.hp ++ objs.map (mapObj (shiftR s.hp.length))⟩ d (mapv (shiftR s.hp.length) 3 r)

/-- One operation. -/
def astep (c : Cfg) (o : Oper) (s : St) (k : St → R) : R :=
  match o.op with
  | .alloc T => (match tget c.tt T with
    | some e => bif leavesOk e.zero then k (St.put ⟨s.fr, s.hp ++ [.var T (leavesOf e.zero)]⟩ o.dst (.ptr s.hp.length 0)) else stk
    | none => stk)
  | .box T x => (match tget c.tt T with
    | some e => bif leavesOk (aval s.fr x) && Nat.beq (leavesOf (aval s.fr x)).length e.size then
        k (St.put ⟨s.fr, s.hp ++ [.var T (leavesOf (aval s.fr x))]⟩ o.dst (.ptr s.hp.length 0)) else stk
    | none => stk)
  | .buildSlice t len parts => (match tget c.tt t with
    | some ⟨.slice E, _, _, _, _⟩ => (match tget c.tt E with
      | some e =>
        let ps := parts.toList.map fun x => (x.1, aval s.fr x.2)
        (match setParts c.tt s.hp e.leaf (zerosOf c.tt E len) ps with
        | some p => bif zeroOk c.tt E && Nat.ble (len * e.size) 16777216 then
            (let s' := s.freezeAll (ownsOf ps); k (St.put ⟨s'.fr, s'.hp ++ [.arr E p]⟩ o.dst (.own s'.hp.length))) else stk
        | none => stk)
      | none => stk)
    | _ => stk)
  | .makeSlice t l m => (match tget c.tt t, aval s.fr l, aval s.fr m with
    | some ⟨.slice E, _, _, _, _⟩, .int _ l, .int _ m => (match tget c.tt E with
      | some e => bif (zeroOk c.tt E && leI 0 l && leI l m && leI (m * e.bytes) 140737488355328 && Nat.blt 0 e.bytes) then
          k (St.put ⟨s.fr, s.hp ++ [.arr E (zerosOf c.tt E l.toNat)]⟩ o.dst (.own s.hp.length)) else stk
      | none => stk)
    | _, _, _ => stk)
  | .store t a x => (match tget c.tt t with
    | some e =>
      let v := aval s.fr x
      bif leavesOk v && Nat.beq (leavesOf v).length e.size then (match aval s.fr a with
        | .ptr b off => (match hget s.hp b with
          | .var T cs => bif Nat.ble (off + e.size) cs.length then k (St.put ⟨s.fr, hset s.hp b (.var T (setRange cs off (leavesOf v)))⟩ o.dst undefA) else stk
          | _ => stk)
        | .aptr b i off => (match hget s.hp b with
          | .arr E p =>
            bif rowPure c.tt s.hp e.leaf v && Nat.blt i p.len && Nat.ble (off + e.size) p.sz && Nat.beq (rowOf c.tt s.hp e.leaf v).length e.size && !(memN (leafOwn v) b) then
              (match p.setAt i off (rowOf c.tt s.hp e.leaf v) with
              | some p' => (let s' := s.freezeAll (leafOwn v); k (St.put ⟨s'.fr, hset s'.hp b (.arr E p')⟩ o.dst undefA))
              | none => stk) else stk
          | _ => stk)
        | _ => stk) else stk
    | none => stk)
  | .call cl => (match cl.callee with
    | .builtin .append => (match cl.args.toList, cl.argTypes.toList with
      | [b, x], [t, tx] => bif isTy c.tt tx isSrcTy then aappend stk c.tt t o.dst (aval s.fr b) (aval s.fr x) s k else stk
      | _, _ => stk)
    | .value f => (match target (aval s.fr f) with
      | some (f, caps) => (match sget c.sg f with
        | some (.pure go) => callPure stk c.tt s.hp go ((cl.args.toList.map (aval s.fr)).map deN ++ caps) fun r objs frz => k (St.joined (s.freezeAll frz) objs o.dst r)
        | _ => stk)
      | none => stk)
    | _ => rop stk c.tt s.hp (aval s.fr) o.op fun v => k (s.put o.dst v))
  | op => rop stk c.tt s.hp (aval s.fr) op fun v => k (s.put o.dst v)

def dstOf : List Oper → Nat → Option Nat
  | [], _ => none
  | o :: _, 0 => o.dst
  | _ :: r, n + 1 => dstOf r n

def aops (c : Cfg) (all : List Oper) : List Oper → St → (St → R) → R
  | [], s, k => k s
  | o :: r, s, k =>
    match o.guard with
    | none => astep stk c o s fun s' => aops c all r s' k
    | some (j, want) => (match dstOf all j with
      | some t => (match nth s.fr t with
        | .bool b => bif b then
            (match want with
              | true => astep stk c o ⟨setN s.fr t (.bool true), s.hp⟩ fun s' => aops c all r s' k
              | false => aops c all r (St.put ⟨setN s.fr t (.bool true), s.hp⟩ o.dst undefA) k)
          else
            (match want with
              | true => aops c all r (St.put ⟨setN s.fr t (.bool false), s.hp⟩ o.dst undefA) k
              | false => astep stk c o ⟨setN s.fr t (.bool false), s.hp⟩ fun s' => aops c all r s' k)
        | .tup [] => aops c all r (s.put o.dst undefA) k
        | _ => stk)
      | none => stk)

inductive Ex where
  | normal | exit (id : Nat) | ret

def aiter (n : Nat) (f : St → (St → R) → R) (m : St → St) : St → R :=
  Nat.rec (fun _ => stk) (fun _ ih s => f s fun s' => ih (m s')) n

def keyOf : Code → Option Nat
  | .seq (.region i _ _) (.cond _ _ _) => some i
  | .block i _ => some (1000000 + i)
  | _ => none

def refine (fr : List AV) (c : Operand) (b : Bool) : List AV :=
  match c with
  | .tmp t => setN fr t (.bool b)
  | _ => fr

/-- An operation that leaves all objects as they are, or a call that hands on none of them. -/
def qstep (c : Cfg) (hp : List AObj) (ev : Operand → AV) (op : Op) (k : AV → R) : R :=
  match op with
  | .call cl => (match cl.callee with
    | .value f => (match target (ev f) with
      | some (f, caps) => (match sget c.sg f with
        | some (.pure go) => callPure stk c.tt hp (lentGo go) ((cl.args.toList.map ev).map deN ++ caps) fun r objs frz => (match objs, frz with
          | [], [] => k (mapv (shiftR hp.length) 3 r)
          | _, _ => stk)
        | _ => stk)
      | none => stk)
    | _ => rop stk c.tt hp ev op k)
  | op => rop stk c.tt hp ev op k

/-- The operations of a region of which the order is drawn. -/
def aopsQ (c : Cfg) (all : List Oper) : List Oper → St → (St → R) → R
  | [], s, k => k s
  | o :: r, s, k =>
    match o.guard with
    | none => qstep stk c s.hp (aval s.fr) o.op fun v => aopsQ c all r (s.put o.dst v) k
    | some (j, want) => (match dstOf all j with
      | some t => (match nth s.fr t with
        | .bool b => bif b then
            (match want with
              | true => qstep stk c s.hp (aval (setN s.fr t (.bool true))) o.op fun v => aopsQ c all r (St.put ⟨setN s.fr t (.bool true), s.hp⟩ o.dst v) k
              | false => aopsQ c all r (St.put ⟨setN s.fr t (.bool true), s.hp⟩ o.dst undefA) k)
          else
            (match want with
              | true => aopsQ c all r (St.put ⟨setN s.fr t (.bool false), s.hp⟩ o.dst undefA) k
              | false => qstep stk c s.hp (aval (setN s.fr t (.bool false))) o.op fun v => aopsQ c all r (St.put ⟨setN s.fr t (.bool false), s.hp⟩ o.dst v) k)
        | .tup [] => aopsQ c all r (s.put o.dst undefA) k
        | _ => stk)
      | none => stk)

/-- Which operations stand ahead of each, as the bits of a number. -/
def bindsA (e : Edge) : Bool :=
  match e.ground with
  | .textOnly _ => false
  | .gcOnly _ => false
  | _ => true
def nthN : List Nat → Nat → Nat
  | [], _ => 0
  | a :: _, 0 => a
  | _ :: r, n + 1 => nthN r n
def bitN (m i : Nat) : Bool := Nat.beq (Nat.land (Nat.shiftRight m i) 1) 1
def befOf (acc : List Nat) : List Edge → Nat
  | [] => 0
  | e :: r => bif bindsA e then Nat.lor (Nat.lor (Nat.pow 2 e.on) (nthN acc e.on)) (befOf acc r) else befOf acc r
def befs : List Oper → List Nat → List Nat
  | [], acc => acc
  | o :: r, acc => befs r (acc ++ [befOf acc o.after.toList])
def slotOf (all : List Oper) (o : Oper) : List Nat :=
  match o.guard with
  | some (j, _) => (match dstOf all j with
    | some t => [t]
    | none => [])
  | none => []
def tmpOf : Operand → List Nat
  | .tmp t => [t]
  | _ => []
def readsOf (all : List Oper) (o : Oper) : List Nat := slotOf all o ++ o.op.operands.toList.flatMap tmpOf
def namesOf (all : List Oper) (o : Oper) : List Nat :=
  match o.dst with
  | some d => d :: readsOf all o
  | none => readsOf all o
def apartN (B : List Nat) (names : List Nat) (j : Nat) : List Oper → Nat → Bool
  | [], _ => true
  | o :: r, i => (match o.dst with
    | some d => bif memN names d then bif Nat.beq i j then true else bif Nat.blt i j then bitN (nthN B j) i else bitN (nthN B i) j else true
    | none => true) && apartN B names j r (i + 1)
def backN (j : Nat) : List Edge → Bool
  | [] => true
  | e :: r => (bif bindsA e then Nat.blt e.on j else true) && backN j r
def drawAll (B : List Nat) (all : List Oper) : List Oper → Nat → Bool
  | [], _ => true
  | o :: r, j => backN j o.after.toList && apartN B (namesOf all o) j all 0 && drawAll B all r (j + 1)
def drawOk (ops : List Oper) : Bool := drawAll (befs ops []) ops ops 0

def acode (c : Cfg) : Code → Nat → St → (Ex → St → R) → R
  | .skip, _, s, k => k .normal s
  | .region _ ops draw, _, s, k => bif draw then bif drawOk ops.toList then aopsQ stk c ops.toList ops.toList s (fun s' => k .normal s') else stk else aops stk c ops.toList ops.toList s fun s' => k .normal s'
  | .seq a b, n, s, k => acode c a n s fun e s' =>
      match e with
      | .normal => acode c b n (match keyOf a with | some i => maskAt c.tt c.h0 c.jm i s' | none => s') k
      | e => k e s'
  | .cond x a b, n, s, k =>
    (match aval s.fr x with
    | .bool t => bif t then acode c a n ⟨refine s.fr x true, s.hp⟩ k else acode c b n ⟨refine s.fr x false, s.hp⟩ k
    | _ => stk)
  | .block id b, _, s, k => acode c b id s fun e s' =>
      match e with
      | .exit j => bif Nat.beq j id then k .normal s' else k (.exit j) s'
      | e => k e s'
  | .loop b, n, s, k => aiter stk c.F (fun s kn => acode c b n s fun e s' =>
      match e with
      | .normal => kn s'
      | e => k e s') (maskAt c.tt c.h0 c.lm n) (maskAt c.tt c.h0 c.lm n s)
  | .scope b, n, s, k => acode c b n s k
  | .exit id, _, s, k => k (.exit id) s
  | .ret, _, s, k => k .ret s
  | _, _, _, _ => stk

/-- The round of the loop in block 'id', with what follows behind it; 'fs': how many rounds the loops around it have left. -/
def loopIn (c : Cfg) (id : Nat) : Code → Nat → List Nat → (Ex → St → R) → Option (St → (St → R) → R)
  | .seq a b, n, fs, k =>
    (match loopIn c id a n fs (fun e s' =>
      match e with
      | .normal => acode stk c b n (match keyOf a with | some i => maskAt c.tt c.h0 c.jm i s' | none => s') k
      | e => k e s') with
    | some f => some f
    | none => loopIn c id b n fs k)
  | .cond _ a b, n, fs, k =>
    (match loopIn c id a n fs k with
    | some f => some f
    | none => loopIn c id b n fs k)
  | .block j b, _, fs, k => loopIn c id b j fs fun e s' =>
      match e with
      | .exit i => bif Nat.beq i j then k .normal s' else k (.exit i) s'
      | e => k e s'
  | .loop b, n, fs, k =>
    let f : St → (St → R) → R := fun s kn => acode stk c b n s fun e s' =>
      match e with
      | .normal => kn s'
      | e => k e s'
    bif Nat.beq n id then some f else (match fs with
      | [] => none
      | g :: gs => loopIn c id b n gs fun e s' =>
        match e with
        | .normal => aiter stk g f (maskAt c.tt c.h0 c.lm n) (maskAt c.tt c.h0 c.lm n s')
        | e => k e s')
  | .scope b, n, fs, k => loopIn c id b n fs k
  | _, _, _, _ => none

end cps

inductive Res where
  | stuck
  | ret (v : AV) (hp : List AObj)

def resVals (fr : List AV) : List ResultVar → Option (List AV)
  | [] => some []
  | .tmp t :: r => match resVals fr r with
    | some l => some (nth fr t :: l)
    | none => none
  | _ => none

def resVal (fr : List AV) (rs : List ResultVar) : Option AV :=
  match resVals fr rs with
  | some [v] => some v
  | some l => some (.tup l)
  | none => none

def padTo : Nat → List AV → List AV
  | 0, _ => []
  | n + 1, [] => undefA :: padTo n []
  | n + 1, a :: r => a :: padTo n r

/-- The end of a function. -/
def aend (fn : Func) (e : Ex) (s : St) : Res :=
  match e with
  | .exit _ => .stuck
  | _ => match resVal s.fr fn.results.toList with
    | some v => .ret v s.hp
    | none => .stuck

/-- What a function comes to. -/
def afun (c : Cfg) (fn : Func) (args : List AV) (hp : List AObj) : Res :=
  match fn.body with
  | some body => bif Nat.ble args.length fn.ntmps then acode Res.stuck c body 0 ⟨padTo fn.ntmps args, hp⟩ (aend fn) else .stuck
  | none => .stuck

/-- The function from the head of a loop on, 'k' rounds left. -/
def aloop (c : Cfg) (fn : Func) (id : Nat) (fs : List Nat) (k : Nat) (s : St) : Res :=
  match fn.body with
  | some body => (match loopIn Res.stuck c id body 0 fs (aend fn) with
    | some f => aiter Res.stuck k f (maskAt c.tt c.h0 c.lm id) s
    | none => .stuck)
  | none => .stuck

/-- What a function that only reads and answers comes to: the answer, and its own objects that the answer leads to. -/
def apure (c : Cfg) (fn : Func) (args : List AV) : Option (AV × List AObj) :=
  match afun c fn args [] with
  | .ret v hp => let s := St.gc ⟨[v], hp⟩ 0; some (nth s.fr 0, s.hp)
  | .stuck => none
end Go.Proofs.YtcmhpngmjjcloaaGm
