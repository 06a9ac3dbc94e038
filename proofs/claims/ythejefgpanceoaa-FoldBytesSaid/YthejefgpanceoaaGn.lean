/- A part of the proof: plain laws, and what functions of the given program come to; no condition. -/
import Derived.Test.YthejefgpanceoaaGmYfold
import Derived.Test.YthejefgpanceoaaGl
namespace Go.Proofs.YthejefgpanceoaaG
open Go Go.Proofs.YthejefgpanceoaaGm
set_option maxRecDepth 100000

abbrev vlA (v : Vl) : AV := .agg [.int .u8 v.1, .int .i64 v.2.1, .str v.2.2]
abbrev ptA (p : Pt) : AV := .agg [.int .u8 p.1.1, .int .i64 p.1.2.1, .str p.1.2.2, .int .i64 p.2]
def go108 (R : Type) (stk : R) (args : List AV) (k : AV → List AObj → R) : R :=
  match args with
  | [.str a, .str b] => k (.int .i64 (cmpB a b)) []
  | _ => stk
def go100 (R : Type) (stk : R) (args : List AV) (k : AV → List AObj → R) : R :=
  match args with
  | [.int .i64 _] => k (.bool false) []
  | _ => stk
def go86 (R : Type) (stk : R) (args : List AV) (k : AV → List AObj → R) : R :=
  match args with
  | [.int .i64 a, .int .i64 b] => k (.int .i64 (cmpI a b)) []
  | _ => stk
def go68 (R : Type) (stk : R) (args : List AV) (k : AV → List AObj → R) : R :=
  match args with
  | [.str a, .str b] => k (.bool (lessB a b)) []
  | _ => stk
def go43 (R : Type) (stk : R) (args : List AV) (k : AV → List AObj → R) : R :=
  match args with
  | [.int .i64 n] => k (.agg [.int .u8 0, .int .i64 n, .str []]) []
  | _ => stk
def go44 (R : Type) (stk : R) (args : List AV) (k : AV → List AObj → R) : R :=
  match args with
  | [.str s] => k (.agg [.int .u8 1, .int .i64 0, .str s]) []
  | _ => stk
def go67 (R : Type) (stk : R) (args : List AV) (k : AV → List AObj → R) : R :=
  match args with
  | [.agg [.int .u8 p, .int .i64 n, .str s], .agg [.int .u8 q, .int .i64 m, .str t]] => k (.int .i64 (vOrd p n s q m t)) []
  | _ => stk
def go40V (R : Type) (stk : R) (args : List AV) (k : AV → List AObj → R) : R :=
  match args with
  | [.agg [.int .u8 p, .int .i64 n, .str s], .agg [.int .u8 q, .int .i64 m, .str t]] => k (.bool (eqI (vOrd p n s q m t) 0)) []
  | _ => stk
def go19 (R : Type) (stk : R) (args : List AV) (k : AV → List AObj → R) : R :=
  match args with
  | [.int .i64 f, .agg [.int .u8 p, .int .i64 n, .str s]] => k (ptA (oneP f (p, n, s))) []
  | _ => stk
def go41 (R : Type) (stk : R) (args : List AV) (k : AV → List AObj → R) : R :=
  match args with
  | [.int .i64 f, .agg [.int .u8 p, .int .i64 n, .str s], .agg [.int .u8 q, .int .i64 m, .str t]] =>
    bif Nat.ble s.length roomB then bif Nat.ble t.length roomB then k (.tup [vlA (accP f (p, n, s) (q, m, t)).1, .int .i64 (accP f (p, n, s) (q, m, t)).2]) [] else stk else stk
  | _ => stk
def go17 (R : Type) (stk : R) (args : List AV) (k : AV → List AObj → R) : R :=
  match args with
  | [.int .i64 f, .agg [.int .u8 p, .int .i64 n, .str s, .int .i64 c], .agg [.int .u8 q, .int .i64 m, .str t, .int .i64 d]] =>
    bif Nat.ble s.length roomB then bif Nat.ble t.length roomB then k (.tup [ptA (joinP f ((p, n, s), c) ((q, m, t), d)).1, .int .i64 (joinP f ((p, n, s), c) ((q, m, t), d)).2]) [] else stk else stk
  | _ => stk
def go13 (R : Type) (stk : R) (args : List AV) (k : AV → List AObj → R) : R :=
  match args with
  | [.int .i64 f, .ro (.rows 3 l)] => bif allVal l then k (.tup [ptA (allP f ((0, 0, []), 0) (decVals l)).1, .int .i64 (allP f ((0, 0, []), 0) (decVals l)).2]) [] else stk
  | _ => stk
def go15 (R : Type) (stk : R) (args : List AV) (k : AV → List AObj → R) : R :=
  match args with
  | [.agg [.int .u8 p, .int .i64 n, .str s, .int .i64 c], .agg [.int .u8 q, .int .i64 m, .str t, .int .i64 d]] => k (.bool (sameP ((p, n, s), c) ((q, m, t), d))) []
  | _ => stk
def go11 (R : Type) (stk : R) (args : List AV) (k : AV → List AObj → R) : R :=
  match args with
  | [.ro (.rows 3 l)] => bif allVal l then k (.bool (longV (decVals l) 0 0)) [] else stk
  | _ => stk
def go12 (R : Type) (stk : R) (args : List AV) (k : AV → List AObj → R) : R :=
  match args with
  | [] => k (.bool true) []
  | _ => stk
def go16 (R : Type) (stk : R) (args : List AV) (k : AV → List AObj → R) : R :=
  match args with
  | [.int .i64 n] => k (.int .i64 n) []
  | _ => stk
end Go.Proofs.YthejefgpanceoaaG
