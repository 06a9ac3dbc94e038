/- What functions of the given program come to: the check sum; no condition. -/
import Derived.Test.YtmkgmlgklggnlaaGl
namespace Go.Proofs.YtmkgmlgklggnlaaG
open Go Go.Proofs.YtmkgmlgklggnlaaGm
set_option maxRecDepth 100000

def go104 (R : Type) (stk : R) (args : List AV) (k : AV → List AObj → R) : R :=
  match args with
  | [.int .u32 s, .int .u8 c] => k (.int .u32 (crcB s c)) []
  | _ => stk
def go103 (R : Type) (stk : R) (args : List AV) (hp : List AObj) (k : AV → List AObj → R) : R :=
  match args, hp with
  | [.int .u8 c, .ptr 0 0], [.var 39 [.int .u32 s]] => k (.tup []) [.var 39 [.int .u32 (crcB s c)]]
  | _, _ => stk
def go102 (R : Type) (stk : R) (args : List AV) (k : AV → List AObj → R) : R :=
  match args with
  | [.int .u32 s, .ro (.bytes l)] => k (.int .u32 (crcMore s l)) []
  | _ => stk
def go98 (R : Type) (stk : R) (args : List AV) (k : AV → List AObj → R) : R :=
  match args with
  | [.ro (.bytes l)] => k (.int .u32 (crcOf l)) []
  | _ => stk
def go82 (R : Type) (stk : R) (args : List AV) (k : AV → List AObj → R) : R :=
  match args with
  | [.ro (.bytes l)] => bif Nat.ble (l.length + 4) 140737488355328 then k (.own 0) [.arr 5 (.bytes (crcPut l))] else stk
  | _ => stk
def go95 (R : Type) (stk : R) (args : List AV) (k : AV → List AObj → R) : R :=
  match args with
  | [.ro (.bytes l), .ro (.bytes m)] => k (.bool (eqS l m)) []
  | _ => stk
def go77 (R : Type) (stk : R) (args : List AV) (k : AV → List AObj → R) : R :=
  match args with
  | [.ro (.bytes l)] => bif Nat.ble (l.length + 4) 140737488355328 then k (.tup [.ro (.bytes (crcGot l)), .int .i64 (crcTake l)]) [] else stk
  | _ => stk
end Go.Proofs.YtmkgmlgklggnlaaG
