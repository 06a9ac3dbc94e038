/- A part of the proof: plain laws, and what functions of the given program come to; no condition. -/
import Derived.Test.YtmkgmlgklggnlaaGTy
namespace Go.Proofs.YtmkgmlgklggnlaaG
open Go.Proofs.YtmkgmlgklggnlaaGm
def go83 (R : Type) (stk : R) (args : List AV) (k : AV → List AObj → R) : R :=
  match args with
  | [.int .u64 n] => k (.int .i64 (len9 n)) []
  | _ => stk
def go90 (R : Type) (stk : R) (args : List AV) (k : AV → List AObj → R) : R :=
  match args with
  | [.int .i64 n] => k (.int .u64 (pow2 n)) []
  | _ => stk
def go78 (R : Type) (stk : R) (args : List AV) (k : AV → List AObj → R) : R :=
  match args with
  | [.ro (.bytes l)] => bif appFits ty5 (.bytes l) then k (.own 0) [.arr 5 (.bytes l)] else stk
  | [.nil] => k .nil []
  | _ => stk
end Go.Proofs.YtmkgmlgklggnlaaG
