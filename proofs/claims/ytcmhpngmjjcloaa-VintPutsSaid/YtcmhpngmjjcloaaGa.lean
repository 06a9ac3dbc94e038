/- A part of the proof: what functions of the given program come to; no condition. -/
import Derived.Test.YtcmhpngmjjcloaaGTy
namespace Go.Proofs.YtcmhpngmjjcloaaG
open Go.Proofs.YtcmhpngmjjcloaaGm
/-- How many bytes a number has. -/
def len9 (n : Int) : Int := if n < 128 then 1 else if n < 16384 then 2 else if n < 2097152 then 3 else if n < 268435456 then 4 else if n < 34359738368 then 5 else if n < 4398046511104 then 6 else if n < 562949953421312 then 7 else if n < 72057594037927936 then 8 else 9
def pow2 (n : Int) : Int := 2 ^ n.toNat % 18446744073709551616
def go21 (R : Type) (stk : R) (args : List AV) (k : AV → List AObj → R) : R :=
  match args with
  | [.int .u64 n] => k (.int .i64 (len9 n)) []
  | _ => stk
def go41 (R : Type) (stk : R) (args : List AV) (k : AV → List AObj → R) : R :=
  match args with
  | [.int .i64 n] => k (.int .u64 (pow2 n)) []
  | _ => stk
def go40 (R : Type) (stk : R) (args : List AV) (k : AV → List AObj → R) : R :=
  match args with
  | [.ro (.bytes l)] => bif appFits ty5 (.bytes l) then k (.own 0) [.arr 5 (.bytes l)] else stk
  | [.nil] => k .nil []
  | _ => stk
end Go.Proofs.YtcmhpngmjjcloaaG
