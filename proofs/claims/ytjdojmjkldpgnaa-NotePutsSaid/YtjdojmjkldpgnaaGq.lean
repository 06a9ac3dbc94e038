/- A part of the proof: plain laws, and what functions of the given program come to; no condition. -/
import Derived.Test.YtjdojmjkldpgnaaGp
namespace Go.Proofs.YtjdojmjkldpgnaaG
open Go Go.Proofs.YtjdojmjkldpgnaaGm
set_option maxRecDepth 100000
set_option maxHeartbeats 0

def putN (n : NoteV) : Txt × Int := if n.Right then (encNote n, 0) else ([], 3)
def go12 (R : Type) (stk : R) (args : List AV) (ret : AV → List AObj → R) : R :=
  match args with
  | [.agg [.int .i64 k, .int .i64 t, .int .i64 y, .int .i64 p, .ro (.ints .i64 w), .ro (.bytes a), .ro (.bytes b)]] => bif Nat.ble (9 * w.length + a.length + b.length + 100) 140737488355328 then ret (.tup [.ro (.bytes (putN (⟨k, t, y, p, w, a, b⟩ : NoteV)).1), .int .i64 (putN (⟨k, t, y, p, w, a, b⟩ : NoteV)).2]) [] else stk
  | _ => stk

def go6 (R : Type) (stk : R) (args : List AV) (ret : AV → List AObj → R) : R :=
  match args with
  | [.ro (.bytes b)] => ret (.tup [(getNote b).1.av, .int .i64 (getNote b).2]) []
  | _ => stk

def tt6 : Tab := [(0, ty0), (1, ty1), (2, ty2), (3, ty3), (4, ty4), (5, ty5), (6, ty6), (22, ty22), (24, ty24), (26, ty26), (27, ty27), (42, ty42), (44, ty44)]
theorem tt6_ok : TabOk Try.prog tt6 := tabOk_of_all ⟨ty0_ok, ty1_ok, ty2_ok, ty3_ok, ty4_ok, ty5_ok, ty6_ok, ty22_ok, ty24_ok, ty26_ok, ty27_ok, ty42_ok, ty44_ok, trivial⟩
def c6 (F : Nat) : Cfg := ⟨tt6, [(18, .eff go18), (19, .eff go19), (14, .pure (normGo [.agg [.keep, .keep, .keep, .keep, .ints .i64, .bytes, .bytes]] go14))], F, [(0, ⟨[0, 2, 4, 5, 6, 7], []⟩)], [], 0⟩
noncomputable def f6_0 (F k : Nat) (x0 : List UInt8) (x6 : Int) (x7 : Int) (xh0 : Int) (xh0_1 : Int) (xh0_2 : Int) (xh0_3 : Int) (xh1 : List UInt8) (xh1_1 : Int) (xh1_2 : Int) (xh2 : Int) (xh2_1 : Int) (xh2_2 : Int) (xh2_3 : Int) : Res := aloop (c6 F) Try.f6 0 [] k (St.mk [AV.ro (Pay.bytes x0), AV.top, AV.ptr 0 0, AV.top, AV.ptr 1 0, AV.ptr 2 0, AV.int IntKind.i64 x6, AV.int IntKind.i64 x7, AV.top, AV.top, AV.top, AV.top, AV.top, AV.top, AV.top, AV.top, AV.top, AV.top, AV.top, AV.top, AV.top, AV.top, AV.top, AV.top, AV.top, AV.top, AV.top, AV.top, AV.top, AV.top, AV.top, AV.top, AV.top, AV.top, AV.top, AV.top, AV.top, AV.top, AV.top, AV.top, AV.top, AV.top, AV.top, AV.top, AV.top, AV.top, AV.top, AV.top, AV.top, AV.top, AV.top, AV.top, AV.top, AV.top, AV.top, AV.top, AV.top, AV.top, AV.top, AV.top, AV.top, AV.top, AV.top, AV.top, AV.top, AV.top, AV.top, AV.top, AV.top, AV.top, AV.top, AV.top, AV.top, AV.top, AV.top, AV.top, AV.top, AV.top, AV.top, AV.top, AV.top, AV.top, AV.top, AV.top, AV.top, AV.top, AV.top, AV.top, AV.top, AV.top, AV.top, AV.top] [AObj.var 26 [AV.int IntKind.i64 xh0, AV.int IntKind.i64 xh0_1, AV.int IntKind.i64 xh0_2, AV.int IntKind.i64 xh0_3, AV.nil, AV.nil, AV.nil], AObj.var 44 [AV.ro (Pay.bytes xh1), AV.int IntKind.i64 xh1_1, AV.int IntKind.i64 xh1_2], AObj.var 26 [AV.int IntKind.i64 xh2, AV.int IntKind.i64 xh2_1, AV.int IntKind.i64 xh2_2, AV.int IntKind.i64 xh2_3, AV.nil, AV.nil, AV.nil]])
noncomputable def f6_0_1 (F k : Nat) (x0 : List UInt8) (x6 : Int) (x7 : Int) (xh0 : Int) (xh0_1 : Int) (xh0_2 : Int) (xh0_3 : Int) (xh1 : List UInt8) (xh1_1 : Int) (xh1_2 : Int) (xh2 : Int) (xh2_1 : Int) (xh2_2 : Int) (xh2_3 : Int) (xh3 : List Int) : Res := aloop (c6 F) Try.f6 0 [] k (St.mk [AV.ro (Pay.bytes x0), AV.top, AV.ptr 0 0, AV.top, AV.ptr 1 0, AV.ptr 2 0, AV.int IntKind.i64 x6, AV.int IntKind.i64 x7, AV.top, AV.top, AV.top, AV.top, AV.top, AV.top, AV.top, AV.top, AV.top, AV.top, AV.top, AV.top, AV.top, AV.top, AV.top, AV.top, AV.top, AV.top, AV.top, AV.top, AV.top, AV.top, AV.top, AV.top, AV.top, AV.top, AV.top, AV.top, AV.top, AV.top, AV.top, AV.top, AV.top, AV.top, AV.top, AV.top, AV.top, AV.top, AV.top, AV.top, AV.top, AV.top, AV.top, AV.top, AV.top, AV.top, AV.top, AV.top, AV.top, AV.top, AV.top, AV.top, AV.top, AV.top, AV.top, AV.top, AV.top, AV.top, AV.top, AV.top, AV.top, AV.top, AV.top, AV.top, AV.top, AV.top, AV.top, AV.top, AV.top, AV.top, AV.top, AV.top, AV.top, AV.top, AV.top, AV.top, AV.top, AV.top, AV.top, AV.top, AV.top, AV.top, AV.top, AV.top] [AObj.var 26 [AV.int IntKind.i64 xh0, AV.int IntKind.i64 xh0_1, AV.int IntKind.i64 xh0_2, AV.int IntKind.i64 xh0_3, AV.nil, AV.nil, AV.nil], AObj.var 44 [AV.ro (Pay.bytes xh1), AV.int IntKind.i64 xh1_1, AV.int IntKind.i64 xh1_2], AObj.var 26 [AV.int IntKind.i64 xh2, AV.int IntKind.i64 xh2_1, AV.int IntKind.i64 xh2_2, AV.int IntKind.i64 xh2_3, AV.own 3, AV.nil, AV.nil], AObj.arr 3 (Pay.ints IntKind.i64 xh3)])
theorem f6_eq (F : Nat) (a0 : List UInt8) : afun (c6 F) Try.f6 [AV.ro (Pay.bytes a0)] [] =
  bif ltI 65536 (rdN a0 ((rdN a0 ((rdN a0 ((rdN a0 ((rdN a0 (0, 0)).snd.fst, (rdN a0 (0, 0)).snd.snd)).snd.fst, (rdN a0 ((rdN a0 (0, 0)).snd.fst, (rdN a0 (0, 0)).snd.snd)).snd.snd)).snd.fst, (rdN a0 ((rdN a0 ((rdN a0 (0, 0)).snd.fst, (rdN a0 (0, 0)).snd.snd)).snd.fst, (rdN a0 ((rdN a0 (0, 0)).snd.fst, (rdN a0 (0, 0)).snd.snd)).snd.snd)).snd.snd)).snd.fst, (rdN a0 ((rdN a0 ((rdN a0 ((rdN a0 (0, 0)).snd.fst, (rdN a0 (0, 0)).snd.snd)).snd.fst, (rdN a0 ((rdN a0 (0, 0)).snd.fst, (rdN a0 (0, 0)).snd.snd)).snd.snd)).snd.fst, (rdN a0 ((rdN a0 ((rdN a0 (0, 0)).snd.fst, (rdN a0 (0, 0)).snd.snd)).snd.fst, (rdN a0 ((rdN a0 (0, 0)).snd.fst, (rdN a0 (0, 0)).snd.snd)).snd.snd)).snd.snd)).snd.snd)).fst then
    bif eqI (intOf (AV.int IntKind.i64 (rdN a0 ((rdN a0 ((rdN a0 ((rdN a0 ((rdN a0 (0, 0)).snd.fst, (rdN a0 (0, 0)).snd.snd)).snd.fst, (rdN a0 ((rdN a0 (0, 0)).snd.fst, (rdN a0 (0, 0)).snd.snd)).snd.snd)).snd.fst, (rdN a0 ((rdN a0 ((rdN a0 (0, 0)).snd.fst, (rdN a0 (0, 0)).snd.snd)).snd.fst, (rdN a0 ((rdN a0 (0, 0)).snd.fst, (rdN a0 (0, 0)).snd.snd)).snd.snd)).snd.snd)).snd.fst, (rdN a0 ((rdN a0 ((rdN a0 ((rdN a0 (0, 0)).snd.fst, (rdN a0 (0, 0)).snd.snd)).snd.fst, (rdN a0 ((rdN a0 (0, 0)).snd.fst, (rdN a0 (0, 0)).snd.snd)).snd.snd)).snd.fst, (rdN a0 ((rdN a0 ((rdN a0 (0, 0)).snd.fst, (rdN a0 (0, 0)).snd.snd)).snd.fst, (rdN a0 ((rdN a0 (0, 0)).snd.fst, (rdN a0 (0, 0)).snd.snd)).snd.snd)).snd.snd)).snd.snd)).snd.snd)) 0 then
      f6_0 F F a0 ((rdN a0 ((rdN a0 ((rdN a0 ((rdN a0 ((rdN a0 (0, 0)).snd.fst, (rdN a0 (0, 0)).snd.snd)).snd.fst, (rdN a0 ((rdN a0 (0, 0)).snd.fst, (rdN a0 (0, 0)).snd.snd)).snd.snd)).snd.fst, (rdN a0 ((rdN a0 ((rdN a0 (0, 0)).snd.fst, (rdN a0 (0, 0)).snd.snd)).snd.fst, (rdN a0 ((rdN a0 (0, 0)).snd.fst, (rdN a0 (0, 0)).snd.snd)).snd.snd)).snd.snd)).snd.fst, (rdN a0 ((rdN a0 ((rdN a0 ((rdN a0 (0, 0)).snd.fst, (rdN a0 (0, 0)).snd.snd)).snd.fst, (rdN a0 ((rdN a0 (0, 0)).snd.fst, (rdN a0 (0, 0)).snd.snd)).snd.snd)).snd.fst, (rdN a0 ((rdN a0 ((rdN a0 (0, 0)).snd.fst, (rdN a0 (0, 0)).snd.snd)).snd.fst, (rdN a0 ((rdN a0 (0, 0)).snd.fst, (rdN a0 (0, 0)).snd.snd)).snd.snd)).snd.snd)).snd.snd)).fst) 0 0 0 0 0 a0 ((rdN a0 ((rdN a0 ((rdN a0 ((rdN a0 ((rdN a0 (0, 0)).snd.fst, (rdN a0 (0, 0)).snd.snd)).snd.fst, (rdN a0 ((rdN a0 (0, 0)).snd.fst, (rdN a0 (0, 0)).snd.snd)).snd.snd)).snd.fst, (rdN a0 ((rdN a0 ((rdN a0 (0, 0)).snd.fst, (rdN a0 (0, 0)).snd.snd)).snd.fst, (rdN a0 ((rdN a0 (0, 0)).snd.fst, (rdN a0 (0, 0)).snd.snd)).snd.snd)).snd.snd)).snd.fst, (rdN a0 ((rdN a0 ((rdN a0 ((rdN a0 (0, 0)).snd.fst, (rdN a0 (0, 0)).snd.snd)).snd.fst, (rdN a0 ((rdN a0 (0, 0)).snd.fst, (rdN a0 (0, 0)).snd.snd)).snd.snd)).snd.fst, (rdN a0 ((rdN a0 ((rdN a0 (0, 0)).snd.fst, (rdN a0 (0, 0)).snd.snd)).snd.fst, (rdN a0 ((rdN a0 (0, 0)).snd.fst, (rdN a0 (0, 0)).snd.snd)).snd.snd)).snd.snd)).snd.snd)).snd.fst) 3 ((rdN a0 (0, 0)).fst) ((rdN a0 ((rdN a0 (0, 0)).snd.fst, (rdN a0 (0, 0)).snd.snd)).fst) ((rdN a0 ((rdN a0 ((rdN a0 (0, 0)).snd.fst, (rdN a0 (0, 0)).snd.snd)).snd.fst, (rdN a0 ((rdN a0 (0, 0)).snd.fst, (rdN a0 (0, 0)).snd.snd)).snd.snd)).fst) ((rdN a0 ((rdN a0 ((rdN a0 ((rdN a0 (0, 0)).snd.fst, (rdN a0 (0, 0)).snd.snd)).snd.fst, (rdN a0 ((rdN a0 (0, 0)).snd.fst, (rdN a0 (0, 0)).snd.snd)).snd.snd)).snd.fst, (rdN a0 ((rdN a0 ((rdN a0 (0, 0)).snd.fst, (rdN a0 (0, 0)).snd.snd)).snd.fst, (rdN a0 ((rdN a0 (0, 0)).snd.fst, (rdN a0 (0, 0)).snd.snd)).snd.snd)).snd.snd)).fst)
    else
      f6_0 F F a0 ((rdN a0 ((rdN a0 ((rdN a0 ((rdN a0 ((rdN a0 (0, 0)).snd.fst, (rdN a0 (0, 0)).snd.snd)).snd.fst, (rdN a0 ((rdN a0 (0, 0)).snd.fst, (rdN a0 (0, 0)).snd.snd)).snd.snd)).snd.fst, (rdN a0 ((rdN a0 ((rdN a0 (0, 0)).snd.fst, (rdN a0 (0, 0)).snd.snd)).snd.fst, (rdN a0 ((rdN a0 (0, 0)).snd.fst, (rdN a0 (0, 0)).snd.snd)).snd.snd)).snd.snd)).snd.fst, (rdN a0 ((rdN a0 ((rdN a0 ((rdN a0 (0, 0)).snd.fst, (rdN a0 (0, 0)).snd.snd)).snd.fst, (rdN a0 ((rdN a0 (0, 0)).snd.fst, (rdN a0 (0, 0)).snd.snd)).snd.snd)).snd.fst, (rdN a0 ((rdN a0 ((rdN a0 (0, 0)).snd.fst, (rdN a0 (0, 0)).snd.snd)).snd.fst, (rdN a0 ((rdN a0 (0, 0)).snd.fst, (rdN a0 (0, 0)).snd.snd)).snd.snd)).snd.snd)).snd.snd)).fst) 0 0 0 0 0 a0 ((rdN a0 ((rdN a0 ((rdN a0 ((rdN a0 ((rdN a0 (0, 0)).snd.fst, (rdN a0 (0, 0)).snd.snd)).snd.fst, (rdN a0 ((rdN a0 (0, 0)).snd.fst, (rdN a0 (0, 0)).snd.snd)).snd.snd)).snd.fst, (rdN a0 ((rdN a0 ((rdN a0 (0, 0)).snd.fst, (rdN a0 (0, 0)).snd.snd)).snd.fst, (rdN a0 ((rdN a0 (0, 0)).snd.fst, (rdN a0 (0, 0)).snd.snd)).snd.snd)).snd.snd)).snd.fst, (rdN a0 ((rdN a0 ((rdN a0 ((rdN a0 (0, 0)).snd.fst, (rdN a0 (0, 0)).snd.snd)).snd.fst, (rdN a0 ((rdN a0 (0, 0)).snd.fst, (rdN a0 (0, 0)).snd.snd)).snd.snd)).snd.fst, (rdN a0 ((rdN a0 ((rdN a0 (0, 0)).snd.fst, (rdN a0 (0, 0)).snd.snd)).snd.fst, (rdN a0 ((rdN a0 (0, 0)).snd.fst, (rdN a0 (0, 0)).snd.snd)).snd.snd)).snd.snd)).snd.snd)).snd.fst) ((rdN a0 ((rdN a0 ((rdN a0 ((rdN a0 ((rdN a0 (0, 0)).snd.fst, (rdN a0 (0, 0)).snd.snd)).snd.fst, (rdN a0 ((rdN a0 (0, 0)).snd.fst, (rdN a0 (0, 0)).snd.snd)).snd.snd)).snd.fst, (rdN a0 ((rdN a0 ((rdN a0 (0, 0)).snd.fst, (rdN a0 (0, 0)).snd.snd)).snd.fst, (rdN a0 ((rdN a0 (0, 0)).snd.fst, (rdN a0 (0, 0)).snd.snd)).snd.snd)).snd.snd)).snd.fst, (rdN a0 ((rdN a0 ((rdN a0 ((rdN a0 (0, 0)).snd.fst, (rdN a0 (0, 0)).snd.snd)).snd.fst, (rdN a0 ((rdN a0 (0, 0)).snd.fst, (rdN a0 (0, 0)).snd.snd)).snd.snd)).snd.fst, (rdN a0 ((rdN a0 ((rdN a0 (0, 0)).snd.fst, (rdN a0 (0, 0)).snd.snd)).snd.fst, (rdN a0 ((rdN a0 (0, 0)).snd.fst, (rdN a0 (0, 0)).snd.snd)).snd.snd)).snd.snd)).snd.snd)).snd.snd) ((rdN a0 (0, 0)).fst) ((rdN a0 ((rdN a0 (0, 0)).snd.fst, (rdN a0 (0, 0)).snd.snd)).fst) ((rdN a0 ((rdN a0 ((rdN a0 (0, 0)).snd.fst, (rdN a0 (0, 0)).snd.snd)).snd.fst, (rdN a0 ((rdN a0 (0, 0)).snd.fst, (rdN a0 (0, 0)).snd.snd)).snd.snd)).fst) ((rdN a0 ((rdN a0 ((rdN a0 ((rdN a0 (0, 0)).snd.fst, (rdN a0 (0, 0)).snd.snd)).snd.fst, (rdN a0 ((rdN a0 (0, 0)).snd.fst, (rdN a0 (0, 0)).snd.snd)).snd.snd)).snd.fst, (rdN a0 ((rdN a0 ((rdN a0 (0, 0)).snd.fst, (rdN a0 (0, 0)).snd.snd)).snd.fst, (rdN a0 ((rdN a0 (0, 0)).snd.fst, (rdN a0 (0, 0)).snd.snd)).snd.snd)).snd.snd)).fst)
  else
    f6_0 F F a0 ((rdN a0 ((rdN a0 ((rdN a0 ((rdN a0 ((rdN a0 (0, 0)).snd.fst, (rdN a0 (0, 0)).snd.snd)).snd.fst, (rdN a0 ((rdN a0 (0, 0)).snd.fst, (rdN a0 (0, 0)).snd.snd)).snd.snd)).snd.fst, (rdN a0 ((rdN a0 ((rdN a0 (0, 0)).snd.fst, (rdN a0 (0, 0)).snd.snd)).snd.fst, (rdN a0 ((rdN a0 (0, 0)).snd.fst, (rdN a0 (0, 0)).snd.snd)).snd.snd)).snd.snd)).snd.fst, (rdN a0 ((rdN a0 ((rdN a0 ((rdN a0 (0, 0)).snd.fst, (rdN a0 (0, 0)).snd.snd)).snd.fst, (rdN a0 ((rdN a0 (0, 0)).snd.fst, (rdN a0 (0, 0)).snd.snd)).snd.snd)).snd.fst, (rdN a0 ((rdN a0 ((rdN a0 (0, 0)).snd.fst, (rdN a0 (0, 0)).snd.snd)).snd.fst, (rdN a0 ((rdN a0 (0, 0)).snd.fst, (rdN a0 (0, 0)).snd.snd)).snd.snd)).snd.snd)).snd.snd)).fst) 0 0 0 0 0 a0 ((rdN a0 ((rdN a0 ((rdN a0 ((rdN a0 ((rdN a0 (0, 0)).snd.fst, (rdN a0 (0, 0)).snd.snd)).snd.fst, (rdN a0 ((rdN a0 (0, 0)).snd.fst, (rdN a0 (0, 0)).snd.snd)).snd.snd)).snd.fst, (rdN a0 ((rdN a0 ((rdN a0 (0, 0)).snd.fst, (rdN a0 (0, 0)).snd.snd)).snd.fst, (rdN a0 ((rdN a0 (0, 0)).snd.fst, (rdN a0 (0, 0)).snd.snd)).snd.snd)).snd.snd)).snd.fst, (rdN a0 ((rdN a0 ((rdN a0 ((rdN a0 (0, 0)).snd.fst, (rdN a0 (0, 0)).snd.snd)).snd.fst, (rdN a0 ((rdN a0 (0, 0)).snd.fst, (rdN a0 (0, 0)).snd.snd)).snd.snd)).snd.fst, (rdN a0 ((rdN a0 ((rdN a0 (0, 0)).snd.fst, (rdN a0 (0, 0)).snd.snd)).snd.fst, (rdN a0 ((rdN a0 (0, 0)).snd.fst, (rdN a0 (0, 0)).snd.snd)).snd.snd)).snd.snd)).snd.snd)).snd.fst) ((rdN a0 ((rdN a0 ((rdN a0 ((rdN a0 ((rdN a0 (0, 0)).snd.fst, (rdN a0 (0, 0)).snd.snd)).snd.fst, (rdN a0 ((rdN a0 (0, 0)).snd.fst, (rdN a0 (0, 0)).snd.snd)).snd.snd)).snd.fst, (rdN a0 ((rdN a0 ((rdN a0 (0, 0)).snd.fst, (rdN a0 (0, 0)).snd.snd)).snd.fst, (rdN a0 ((rdN a0 (0, 0)).snd.fst, (rdN a0 (0, 0)).snd.snd)).snd.snd)).snd.snd)).snd.fst, (rdN a0 ((rdN a0 ((rdN a0 ((rdN a0 (0, 0)).snd.fst, (rdN a0 (0, 0)).snd.snd)).snd.fst, (rdN a0 ((rdN a0 (0, 0)).snd.fst, (rdN a0 (0, 0)).snd.snd)).snd.snd)).snd.fst, (rdN a0 ((rdN a0 ((rdN a0 (0, 0)).snd.fst, (rdN a0 (0, 0)).snd.snd)).snd.fst, (rdN a0 ((rdN a0 (0, 0)).snd.fst, (rdN a0 (0, 0)).snd.snd)).snd.snd)).snd.snd)).snd.snd)).snd.snd) ((rdN a0 (0, 0)).fst) ((rdN a0 ((rdN a0 (0, 0)).snd.fst, (rdN a0 (0, 0)).snd.snd)).fst) ((rdN a0 ((rdN a0 ((rdN a0 (0, 0)).snd.fst, (rdN a0 (0, 0)).snd.snd)).snd.fst, (rdN a0 ((rdN a0 (0, 0)).snd.fst, (rdN a0 (0, 0)).snd.snd)).snd.snd)).fst) ((rdN a0 ((rdN a0 ((rdN a0 ((rdN a0 (0, 0)).snd.fst, (rdN a0 (0, 0)).snd.snd)).snd.fst, (rdN a0 ((rdN a0 (0, 0)).snd.fst, (rdN a0 (0, 0)).snd.snd)).snd.snd)).snd.fst, (rdN a0 ((rdN a0 ((rdN a0 (0, 0)).snd.fst, (rdN a0 (0, 0)).snd.snd)).snd.fst, (rdN a0 ((rdN a0 (0, 0)).snd.fst, (rdN a0 (0, 0)).snd.snd)).snd.snd)).snd.snd)).fst) := by kernel_rfl
theorem f6_0_eq (F k : Nat) (x0 : List UInt8) (x6 : Int) (x7 : Int) (xh0 : Int) (xh0_1 : Int) (xh0_2 : Int) (xh0_3 : Int) (xh1 : List UInt8) (xh1_1 : Int) (xh1_2 : Int) (xh2 : Int) (xh2_1 : Int) (xh2_2 : Int) (xh2_3 : Int) : f6_0 F (k + 1) x0 x6 x7 xh0 xh0_1 xh0_2 xh0_3 xh1 xh1_1 xh1_2 xh2 xh2_1 xh2_2 xh2_3 =
  bif ltI x7 x6 then
    bif eqI xh1_2 0 then
      f6_0_1 F k x0 x6 (IntKind.i64.wrap (x7 + 1)) xh0 xh0_1 xh0_2 xh0_3 xh1 ((rdN xh1 (xh1_1, xh1_2)).snd.fst) ((rdN xh1 (xh1_1, xh1_2)).snd.snd) xh2 xh2_1 xh2_2 xh2_3 ([] ++ [(rdN xh1 (xh1_1, xh1_2)).fst])
    else
      bif eqI (intOf (AV.int IntKind.i64 (rdT xh1 ((rdT xh1 (xh1_1, xh1_2)).snd.fst, (rdT xh1 (xh1_1, xh1_2)).snd.snd)).snd.snd)) 0 then
        bif ltI (intOf (AV.int IntKind.i64 (rdT xh1 ((rdT xh1 (xh1_1, xh1_2)).snd.fst, (rdT xh1 (xh1_1, xh1_2)).snd.snd)).snd.fst)) ↑x0.length then
          .ret (AV.tup [AV.agg [AV.int IntKind.i64 0, AV.int IntKind.i64 0, AV.int IntKind.i64 0, AV.int IntKind.i64 0, AV.nil, AV.nil, AV.nil], AV.int IntKind.i64 (Int.ofNat 3)]) [AObj.var 26 [AV.int IntKind.i64 0, AV.int IntKind.i64 0, AV.int IntKind.i64 0, AV.int IntKind.i64 0, AV.nil, AV.nil, AV.nil], AObj.var 44 [AV.ro (Pay.bytes xh1), AV.int IntKind.i64 (rdT xh1 ((rdT xh1 (xh1_1, xh1_2)).snd.fst, (rdT xh1 (xh1_1, xh1_2)).snd.snd)).snd.fst, AV.int IntKind.i64 3], AObj.var 26 [AV.int IntKind.i64 xh2, AV.int IntKind.i64 xh2_1, AV.int IntKind.i64 xh2_2, AV.int IntKind.i64 xh2_3, AV.nil, AV.ro (Pay.bytes (rdT xh1 (xh1_1, xh1_2)).fst), AV.ro (Pay.bytes (rdT xh1 ((rdT xh1 (xh1_1, xh1_2)).snd.fst, (rdT xh1 (xh1_1, xh1_2)).snd.snd)).fst)]]
        else
          bif !decide (NoteV.mk xh2 xh2_1 xh2_2 xh2_3 [] (rdT xh1 (xh1_1, xh1_2)).fst (rdT xh1 ((rdT xh1 (xh1_1, xh1_2)).snd.fst, (rdT xh1 (xh1_1, xh1_2)).snd.snd)).fst).Right then
            .ret (AV.tup [AV.agg [AV.int IntKind.i64 0, AV.int IntKind.i64 0, AV.int IntKind.i64 0, AV.int IntKind.i64 0, AV.nil, AV.nil, AV.nil], AV.int IntKind.i64 (Int.ofNat 3)]) [AObj.var 26 [AV.int IntKind.i64 0, AV.int IntKind.i64 0, AV.int IntKind.i64 0, AV.int IntKind.i64 0, AV.nil, AV.nil, AV.nil], AObj.var 44 [AV.ro (Pay.bytes xh1), AV.int IntKind.i64 (rdT xh1 ((rdT xh1 (xh1_1, xh1_2)).snd.fst, (rdT xh1 (xh1_1, xh1_2)).snd.snd)).snd.fst, AV.int IntKind.i64 3], AObj.var 26 [AV.int IntKind.i64 xh2, AV.int IntKind.i64 xh2_1, AV.int IntKind.i64 xh2_2, AV.int IntKind.i64 xh2_3, AV.nil, AV.ro (Pay.bytes (rdT xh1 (xh1_1, xh1_2)).fst), AV.ro (Pay.bytes (rdT xh1 ((rdT xh1 (xh1_1, xh1_2)).snd.fst, (rdT xh1 (xh1_1, xh1_2)).snd.snd)).fst)]]
          else
            bif !eqI (intOf (AV.int IntKind.i64 (rdT xh1 ((rdT xh1 (xh1_1, xh1_2)).snd.fst, (rdT xh1 (xh1_1, xh1_2)).snd.snd)).snd.snd)) 0 then
              .ret (AV.tup [AV.agg [AV.int IntKind.i64 0, AV.int IntKind.i64 0, AV.int IntKind.i64 0, AV.int IntKind.i64 0, AV.nil, AV.nil, AV.nil], AV.int IntKind.i64 (intOf (AV.int IntKind.i64 (rdT xh1 ((rdT xh1 (xh1_1, xh1_2)).snd.fst, (rdT xh1 (xh1_1, xh1_2)).snd.snd)).snd.snd))]) [AObj.var 26 [AV.int IntKind.i64 0, AV.int IntKind.i64 0, AV.int IntKind.i64 0, AV.int IntKind.i64 0, AV.nil, AV.nil, AV.nil], AObj.var 44 [AV.ro (Pay.bytes xh1), AV.int IntKind.i64 (rdT xh1 ((rdT xh1 (xh1_1, xh1_2)).snd.fst, (rdT xh1 (xh1_1, xh1_2)).snd.snd)).snd.fst, AV.int IntKind.i64 (rdT xh1 ((rdT xh1 (xh1_1, xh1_2)).snd.fst, (rdT xh1 (xh1_1, xh1_2)).snd.snd)).snd.snd], AObj.var 26 [AV.int IntKind.i64 xh2, AV.int IntKind.i64 xh2_1, AV.int IntKind.i64 xh2_2, AV.int IntKind.i64 xh2_3, AV.nil, AV.ro (Pay.bytes (rdT xh1 (xh1_1, xh1_2)).fst), AV.ro (Pay.bytes (rdT xh1 ((rdT xh1 (xh1_1, xh1_2)).snd.fst, (rdT xh1 (xh1_1, xh1_2)).snd.snd)).fst)]]
            else
              .ret (AV.tup [AV.agg [AV.int IntKind.i64 xh2, AV.int IntKind.i64 xh2_1, AV.int IntKind.i64 xh2_2, AV.int IntKind.i64 xh2_3, AV.nil, AV.ro (Pay.bytes (rdT xh1 (xh1_1, xh1_2)).fst), AV.ro (Pay.bytes (rdT xh1 ((rdT xh1 (xh1_1, xh1_2)).snd.fst, (rdT xh1 (xh1_1, xh1_2)).snd.snd)).fst)], AV.int IntKind.i64 0]) [AObj.var 26 [AV.int IntKind.i64 xh2, AV.int IntKind.i64 xh2_1, AV.int IntKind.i64 xh2_2, AV.int IntKind.i64 xh2_3, AV.nil, AV.ro (Pay.bytes (rdT xh1 (xh1_1, xh1_2)).fst), AV.ro (Pay.bytes (rdT xh1 ((rdT xh1 (xh1_1, xh1_2)).snd.fst, (rdT xh1 (xh1_1, xh1_2)).snd.snd)).fst)], AObj.var 44 [AV.ro (Pay.bytes xh1), AV.int IntKind.i64 (rdT xh1 ((rdT xh1 (xh1_1, xh1_2)).snd.fst, (rdT xh1 (xh1_1, xh1_2)).snd.snd)).snd.fst, AV.int IntKind.i64 (rdT xh1 ((rdT xh1 (xh1_1, xh1_2)).snd.fst, (rdT xh1 (xh1_1, xh1_2)).snd.snd)).snd.snd], AObj.var 26 [AV.int IntKind.i64 xh2, AV.int IntKind.i64 xh2_1, AV.int IntKind.i64 xh2_2, AV.int IntKind.i64 xh2_3, AV.nil, AV.ro (Pay.bytes (rdT xh1 (xh1_1, xh1_2)).fst), AV.ro (Pay.bytes (rdT xh1 ((rdT xh1 (xh1_1, xh1_2)).snd.fst, (rdT xh1 (xh1_1, xh1_2)).snd.snd)).fst)]]
      else
        bif !eqI (intOf (AV.int IntKind.i64 (rdT xh1 ((rdT xh1 (xh1_1, xh1_2)).snd.fst, (rdT xh1 (xh1_1, xh1_2)).snd.snd)).snd.snd)) 0 then
          .ret (AV.tup [AV.agg [AV.int IntKind.i64 0, AV.int IntKind.i64 0, AV.int IntKind.i64 0, AV.int IntKind.i64 0, AV.nil, AV.nil, AV.nil], AV.int IntKind.i64 (intOf (AV.int IntKind.i64 (rdT xh1 ((rdT xh1 (xh1_1, xh1_2)).snd.fst, (rdT xh1 (xh1_1, xh1_2)).snd.snd)).snd.snd))]) [AObj.var 26 [AV.int IntKind.i64 0, AV.int IntKind.i64 0, AV.int IntKind.i64 0, AV.int IntKind.i64 0, AV.nil, AV.nil, AV.nil], AObj.var 44 [AV.ro (Pay.bytes xh1), AV.int IntKind.i64 (rdT xh1 ((rdT xh1 (xh1_1, xh1_2)).snd.fst, (rdT xh1 (xh1_1, xh1_2)).snd.snd)).snd.fst, AV.int IntKind.i64 (rdT xh1 ((rdT xh1 (xh1_1, xh1_2)).snd.fst, (rdT xh1 (xh1_1, xh1_2)).snd.snd)).snd.snd], AObj.var 26 [AV.int IntKind.i64 xh2, AV.int IntKind.i64 xh2_1, AV.int IntKind.i64 xh2_2, AV.int IntKind.i64 xh2_3, AV.nil, AV.ro (Pay.bytes (rdT xh1 (xh1_1, xh1_2)).fst), AV.ro (Pay.bytes (rdT xh1 ((rdT xh1 (xh1_1, xh1_2)).snd.fst, (rdT xh1 (xh1_1, xh1_2)).snd.snd)).fst)]]
        else
          .ret (AV.tup [AV.agg [AV.int IntKind.i64 xh2, AV.int IntKind.i64 xh2_1, AV.int IntKind.i64 xh2_2, AV.int IntKind.i64 xh2_3, AV.nil, AV.ro (Pay.bytes (rdT xh1 (xh1_1, xh1_2)).fst), AV.ro (Pay.bytes (rdT xh1 ((rdT xh1 (xh1_1, xh1_2)).snd.fst, (rdT xh1 (xh1_1, xh1_2)).snd.snd)).fst)], AV.int IntKind.i64 0]) [AObj.var 26 [AV.int IntKind.i64 xh2, AV.int IntKind.i64 xh2_1, AV.int IntKind.i64 xh2_2, AV.int IntKind.i64 xh2_3, AV.nil, AV.ro (Pay.bytes (rdT xh1 (xh1_1, xh1_2)).fst), AV.ro (Pay.bytes (rdT xh1 ((rdT xh1 (xh1_1, xh1_2)).snd.fst, (rdT xh1 (xh1_1, xh1_2)).snd.snd)).fst)], AObj.var 44 [AV.ro (Pay.bytes xh1), AV.int IntKind.i64 (rdT xh1 ((rdT xh1 (xh1_1, xh1_2)).snd.fst, (rdT xh1 (xh1_1, xh1_2)).snd.snd)).snd.fst, AV.int IntKind.i64 (rdT xh1 ((rdT xh1 (xh1_1, xh1_2)).snd.fst, (rdT xh1 (xh1_1, xh1_2)).snd.snd)).snd.snd], AObj.var 26 [AV.int IntKind.i64 xh2, AV.int IntKind.i64 xh2_1, AV.int IntKind.i64 xh2_2, AV.int IntKind.i64 xh2_3, AV.nil, AV.ro (Pay.bytes (rdT xh1 (xh1_1, xh1_2)).fst), AV.ro (Pay.bytes (rdT xh1 ((rdT xh1 (xh1_1, xh1_2)).snd.fst, (rdT xh1 (xh1_1, xh1_2)).snd.snd)).fst)]]
  else
    bif eqI (intOf (AV.int IntKind.i64 (rdT xh1 ((rdT xh1 (xh1_1, xh1_2)).snd.fst, (rdT xh1 (xh1_1, xh1_2)).snd.snd)).snd.snd)) 0 then
      bif ltI (intOf (AV.int IntKind.i64 (rdT xh1 ((rdT xh1 (xh1_1, xh1_2)).snd.fst, (rdT xh1 (xh1_1, xh1_2)).snd.snd)).snd.fst)) ↑x0.length then
        .ret (AV.tup [AV.agg [AV.int IntKind.i64 0, AV.int IntKind.i64 0, AV.int IntKind.i64 0, AV.int IntKind.i64 0, AV.nil, AV.nil, AV.nil], AV.int IntKind.i64 (Int.ofNat 3)]) [AObj.var 26 [AV.int IntKind.i64 0, AV.int IntKind.i64 0, AV.int IntKind.i64 0, AV.int IntKind.i64 0, AV.nil, AV.nil, AV.nil], AObj.var 44 [AV.ro (Pay.bytes xh1), AV.int IntKind.i64 (rdT xh1 ((rdT xh1 (xh1_1, xh1_2)).snd.fst, (rdT xh1 (xh1_1, xh1_2)).snd.snd)).snd.fst, AV.int IntKind.i64 3], AObj.var 26 [AV.int IntKind.i64 xh2, AV.int IntKind.i64 xh2_1, AV.int IntKind.i64 xh2_2, AV.int IntKind.i64 xh2_3, AV.nil, AV.ro (Pay.bytes (rdT xh1 (xh1_1, xh1_2)).fst), AV.ro (Pay.bytes (rdT xh1 ((rdT xh1 (xh1_1, xh1_2)).snd.fst, (rdT xh1 (xh1_1, xh1_2)).snd.snd)).fst)]]
      else
        bif !decide (NoteV.mk xh2 xh2_1 xh2_2 xh2_3 [] (rdT xh1 (xh1_1, xh1_2)).fst (rdT xh1 ((rdT xh1 (xh1_1, xh1_2)).snd.fst, (rdT xh1 (xh1_1, xh1_2)).snd.snd)).fst).Right then
          .ret (AV.tup [AV.agg [AV.int IntKind.i64 0, AV.int IntKind.i64 0, AV.int IntKind.i64 0, AV.int IntKind.i64 0, AV.nil, AV.nil, AV.nil], AV.int IntKind.i64 (Int.ofNat 3)]) [AObj.var 26 [AV.int IntKind.i64 0, AV.int IntKind.i64 0, AV.int IntKind.i64 0, AV.int IntKind.i64 0, AV.nil, AV.nil, AV.nil], AObj.var 44 [AV.ro (Pay.bytes xh1), AV.int IntKind.i64 (rdT xh1 ((rdT xh1 (xh1_1, xh1_2)).snd.fst, (rdT xh1 (xh1_1, xh1_2)).snd.snd)).snd.fst, AV.int IntKind.i64 3], AObj.var 26 [AV.int IntKind.i64 xh2, AV.int IntKind.i64 xh2_1, AV.int IntKind.i64 xh2_2, AV.int IntKind.i64 xh2_3, AV.nil, AV.ro (Pay.bytes (rdT xh1 (xh1_1, xh1_2)).fst), AV.ro (Pay.bytes (rdT xh1 ((rdT xh1 (xh1_1, xh1_2)).snd.fst, (rdT xh1 (xh1_1, xh1_2)).snd.snd)).fst)]]
        else
          bif !eqI (intOf (AV.int IntKind.i64 (rdT xh1 ((rdT xh1 (xh1_1, xh1_2)).snd.fst, (rdT xh1 (xh1_1, xh1_2)).snd.snd)).snd.snd)) 0 then
            .ret (AV.tup [AV.agg [AV.int IntKind.i64 0, AV.int IntKind.i64 0, AV.int IntKind.i64 0, AV.int IntKind.i64 0, AV.nil, AV.nil, AV.nil], AV.int IntKind.i64 (intOf (AV.int IntKind.i64 (rdT xh1 ((rdT xh1 (xh1_1, xh1_2)).snd.fst, (rdT xh1 (xh1_1, xh1_2)).snd.snd)).snd.snd))]) [AObj.var 26 [AV.int IntKind.i64 0, AV.int IntKind.i64 0, AV.int IntKind.i64 0, AV.int IntKind.i64 0, AV.nil, AV.nil, AV.nil], AObj.var 44 [AV.ro (Pay.bytes xh1), AV.int IntKind.i64 (rdT xh1 ((rdT xh1 (xh1_1, xh1_2)).snd.fst, (rdT xh1 (xh1_1, xh1_2)).snd.snd)).snd.fst, AV.int IntKind.i64 (rdT xh1 ((rdT xh1 (xh1_1, xh1_2)).snd.fst, (rdT xh1 (xh1_1, xh1_2)).snd.snd)).snd.snd], AObj.var 26 [AV.int IntKind.i64 xh2, AV.int IntKind.i64 xh2_1, AV.int IntKind.i64 xh2_2, AV.int IntKind.i64 xh2_3, AV.nil, AV.ro (Pay.bytes (rdT xh1 (xh1_1, xh1_2)).fst), AV.ro (Pay.bytes (rdT xh1 ((rdT xh1 (xh1_1, xh1_2)).snd.fst, (rdT xh1 (xh1_1, xh1_2)).snd.snd)).fst)]]
          else
            .ret (AV.tup [AV.agg [AV.int IntKind.i64 xh2, AV.int IntKind.i64 xh2_1, AV.int IntKind.i64 xh2_2, AV.int IntKind.i64 xh2_3, AV.nil, AV.ro (Pay.bytes (rdT xh1 (xh1_1, xh1_2)).fst), AV.ro (Pay.bytes (rdT xh1 ((rdT xh1 (xh1_1, xh1_2)).snd.fst, (rdT xh1 (xh1_1, xh1_2)).snd.snd)).fst)], AV.int IntKind.i64 0]) [AObj.var 26 [AV.int IntKind.i64 xh2, AV.int IntKind.i64 xh2_1, AV.int IntKind.i64 xh2_2, AV.int IntKind.i64 xh2_3, AV.nil, AV.ro (Pay.bytes (rdT xh1 (xh1_1, xh1_2)).fst), AV.ro (Pay.bytes (rdT xh1 ((rdT xh1 (xh1_1, xh1_2)).snd.fst, (rdT xh1 (xh1_1, xh1_2)).snd.snd)).fst)], AObj.var 44 [AV.ro (Pay.bytes xh1), AV.int IntKind.i64 (rdT xh1 ((rdT xh1 (xh1_1, xh1_2)).snd.fst, (rdT xh1 (xh1_1, xh1_2)).snd.snd)).snd.fst, AV.int IntKind.i64 (rdT xh1 ((rdT xh1 (xh1_1, xh1_2)).snd.fst, (rdT xh1 (xh1_1, xh1_2)).snd.snd)).snd.snd], AObj.var 26 [AV.int IntKind.i64 xh2, AV.int IntKind.i64 xh2_1, AV.int IntKind.i64 xh2_2, AV.int IntKind.i64 xh2_3, AV.nil, AV.ro (Pay.bytes (rdT xh1 (xh1_1, xh1_2)).fst), AV.ro (Pay.bytes (rdT xh1 ((rdT xh1 (xh1_1, xh1_2)).snd.fst, (rdT xh1 (xh1_1, xh1_2)).snd.snd)).fst)]]
    else
      bif !eqI (intOf (AV.int IntKind.i64 (rdT xh1 ((rdT xh1 (xh1_1, xh1_2)).snd.fst, (rdT xh1 (xh1_1, xh1_2)).snd.snd)).snd.snd)) 0 then
        .ret (AV.tup [AV.agg [AV.int IntKind.i64 0, AV.int IntKind.i64 0, AV.int IntKind.i64 0, AV.int IntKind.i64 0, AV.nil, AV.nil, AV.nil], AV.int IntKind.i64 (intOf (AV.int IntKind.i64 (rdT xh1 ((rdT xh1 (xh1_1, xh1_2)).snd.fst, (rdT xh1 (xh1_1, xh1_2)).snd.snd)).snd.snd))]) [AObj.var 26 [AV.int IntKind.i64 0, AV.int IntKind.i64 0, AV.int IntKind.i64 0, AV.int IntKind.i64 0, AV.nil, AV.nil, AV.nil], AObj.var 44 [AV.ro (Pay.bytes xh1), AV.int IntKind.i64 (rdT xh1 ((rdT xh1 (xh1_1, xh1_2)).snd.fst, (rdT xh1 (xh1_1, xh1_2)).snd.snd)).snd.fst, AV.int IntKind.i64 (rdT xh1 ((rdT xh1 (xh1_1, xh1_2)).snd.fst, (rdT xh1 (xh1_1, xh1_2)).snd.snd)).snd.snd], AObj.var 26 [AV.int IntKind.i64 xh2, AV.int IntKind.i64 xh2_1, AV.int IntKind.i64 xh2_2, AV.int IntKind.i64 xh2_3, AV.nil, AV.ro (Pay.bytes (rdT xh1 (xh1_1, xh1_2)).fst), AV.ro (Pay.bytes (rdT xh1 ((rdT xh1 (xh1_1, xh1_2)).snd.fst, (rdT xh1 (xh1_1, xh1_2)).snd.snd)).fst)]]
      else
        .ret (AV.tup [AV.agg [AV.int IntKind.i64 xh2, AV.int IntKind.i64 xh2_1, AV.int IntKind.i64 xh2_2, AV.int IntKind.i64 xh2_3, AV.nil, AV.ro (Pay.bytes (rdT xh1 (xh1_1, xh1_2)).fst), AV.ro (Pay.bytes (rdT xh1 ((rdT xh1 (xh1_1, xh1_2)).snd.fst, (rdT xh1 (xh1_1, xh1_2)).snd.snd)).fst)], AV.int IntKind.i64 0]) [AObj.var 26 [AV.int IntKind.i64 xh2, AV.int IntKind.i64 xh2_1, AV.int IntKind.i64 xh2_2, AV.int IntKind.i64 xh2_3, AV.nil, AV.ro (Pay.bytes (rdT xh1 (xh1_1, xh1_2)).fst), AV.ro (Pay.bytes (rdT xh1 ((rdT xh1 (xh1_1, xh1_2)).snd.fst, (rdT xh1 (xh1_1, xh1_2)).snd.snd)).fst)], AObj.var 44 [AV.ro (Pay.bytes xh1), AV.int IntKind.i64 (rdT xh1 ((rdT xh1 (xh1_1, xh1_2)).snd.fst, (rdT xh1 (xh1_1, xh1_2)).snd.snd)).snd.fst, AV.int IntKind.i64 (rdT xh1 ((rdT xh1 (xh1_1, xh1_2)).snd.fst, (rdT xh1 (xh1_1, xh1_2)).snd.snd)).snd.snd], AObj.var 26 [AV.int IntKind.i64 xh2, AV.int IntKind.i64 xh2_1, AV.int IntKind.i64 xh2_2, AV.int IntKind.i64 xh2_3, AV.nil, AV.ro (Pay.bytes (rdT xh1 (xh1_1, xh1_2)).fst), AV.ro (Pay.bytes (rdT xh1 ((rdT xh1 (xh1_1, xh1_2)).snd.fst, (rdT xh1 (xh1_1, xh1_2)).snd.snd)).fst)]] := by kernel_rfl
theorem f6_0_1_eq (F k : Nat) (x0 : List UInt8) (x6 : Int) (x7 : Int) (xh0 : Int) (xh0_1 : Int) (xh0_2 : Int) (xh0_3 : Int) (xh1 : List UInt8) (xh1_1 : Int) (xh1_2 : Int) (xh2 : Int) (xh2_1 : Int) (xh2_2 : Int) (xh2_3 : Int) (xh3 : List Int) : f6_0_1 F (k + 1) x0 x6 x7 xh0 xh0_1 xh0_2 xh0_3 xh1 xh1_1 xh1_2 xh2 xh2_1 xh2_2 xh2_3 xh3 =
  bif ltI x7 x6 then
    bif eqI xh1_2 0 then
      bif appFits ty3 (Pay.ints IntKind.i64 (xh3 ++ [(rdN xh1 (xh1_1, xh1_2)).fst])) then
        f6_0_1 F k x0 x6 (IntKind.i64.wrap (x7 + 1)) xh0 xh0_1 xh0_2 xh0_3 xh1 ((rdN xh1 (xh1_1, xh1_2)).snd.fst) ((rdN xh1 (xh1_1, xh1_2)).snd.snd) xh2 xh2_1 xh2_2 xh2_3 (xh3 ++ [(rdN xh1 (xh1_1, xh1_2)).fst])
      else
        .stuck
    else
      bif eqI (intOf (AV.int IntKind.i64 (rdT xh1 ((rdT xh1 (xh1_1, xh1_2)).snd.fst, (rdT xh1 (xh1_1, xh1_2)).snd.snd)).snd.snd)) 0 then
        bif ltI (intOf (AV.int IntKind.i64 (rdT xh1 ((rdT xh1 (xh1_1, xh1_2)).snd.fst, (rdT xh1 (xh1_1, xh1_2)).snd.snd)).snd.fst)) ↑x0.length then
          .ret (AV.tup [AV.agg [AV.int IntKind.i64 0, AV.int IntKind.i64 0, AV.int IntKind.i64 0, AV.int IntKind.i64 0, AV.nil, AV.nil, AV.nil], AV.int IntKind.i64 (Int.ofNat 3)]) [AObj.var 26 [AV.int IntKind.i64 0, AV.int IntKind.i64 0, AV.int IntKind.i64 0, AV.int IntKind.i64 0, AV.nil, AV.nil, AV.nil], AObj.var 44 [AV.ro (Pay.bytes xh1), AV.int IntKind.i64 (rdT xh1 ((rdT xh1 (xh1_1, xh1_2)).snd.fst, (rdT xh1 (xh1_1, xh1_2)).snd.snd)).snd.fst, AV.int IntKind.i64 3], AObj.var 26 [AV.int IntKind.i64 xh2, AV.int IntKind.i64 xh2_1, AV.int IntKind.i64 xh2_2, AV.int IntKind.i64 xh2_3, AV.own 3, AV.ro (Pay.bytes (rdT xh1 (xh1_1, xh1_2)).fst), AV.ro (Pay.bytes (rdT xh1 ((rdT xh1 (xh1_1, xh1_2)).snd.fst, (rdT xh1 (xh1_1, xh1_2)).snd.snd)).fst)], AObj.arr 3 (Pay.ints IntKind.i64 xh3)]
        else
          bif !decide (NoteV.mk xh2 xh2_1 xh2_2 xh2_3 xh3 (rdT xh1 (xh1_1, xh1_2)).fst (rdT xh1 ((rdT xh1 (xh1_1, xh1_2)).snd.fst, (rdT xh1 (xh1_1, xh1_2)).snd.snd)).fst).Right then
            .ret (AV.tup [AV.agg [AV.int IntKind.i64 0, AV.int IntKind.i64 0, AV.int IntKind.i64 0, AV.int IntKind.i64 0, AV.nil, AV.nil, AV.nil], AV.int IntKind.i64 (Int.ofNat 3)]) [AObj.var 26 [AV.int IntKind.i64 0, AV.int IntKind.i64 0, AV.int IntKind.i64 0, AV.int IntKind.i64 0, AV.nil, AV.nil, AV.nil], AObj.var 44 [AV.ro (Pay.bytes xh1), AV.int IntKind.i64 (rdT xh1 ((rdT xh1 (xh1_1, xh1_2)).snd.fst, (rdT xh1 (xh1_1, xh1_2)).snd.snd)).snd.fst, AV.int IntKind.i64 3], AObj.var 26 [AV.int IntKind.i64 xh2, AV.int IntKind.i64 xh2_1, AV.int IntKind.i64 xh2_2, AV.int IntKind.i64 xh2_3, AV.own 3, AV.ro (Pay.bytes (rdT xh1 (xh1_1, xh1_2)).fst), AV.ro (Pay.bytes (rdT xh1 ((rdT xh1 (xh1_1, xh1_2)).snd.fst, (rdT xh1 (xh1_1, xh1_2)).snd.snd)).fst)], AObj.arr 3 (Pay.ints IntKind.i64 xh3)]
          else
            bif !eqI (intOf (AV.int IntKind.i64 (rdT xh1 ((rdT xh1 (xh1_1, xh1_2)).snd.fst, (rdT xh1 (xh1_1, xh1_2)).snd.snd)).snd.snd)) 0 then
              .ret (AV.tup [AV.agg [AV.int IntKind.i64 0, AV.int IntKind.i64 0, AV.int IntKind.i64 0, AV.int IntKind.i64 0, AV.nil, AV.nil, AV.nil], AV.int IntKind.i64 (intOf (AV.int IntKind.i64 (rdT xh1 ((rdT xh1 (xh1_1, xh1_2)).snd.fst, (rdT xh1 (xh1_1, xh1_2)).snd.snd)).snd.snd))]) [AObj.var 26 [AV.int IntKind.i64 0, AV.int IntKind.i64 0, AV.int IntKind.i64 0, AV.int IntKind.i64 0, AV.nil, AV.nil, AV.nil], AObj.var 44 [AV.ro (Pay.bytes xh1), AV.int IntKind.i64 (rdT xh1 ((rdT xh1 (xh1_1, xh1_2)).snd.fst, (rdT xh1 (xh1_1, xh1_2)).snd.snd)).snd.fst, AV.int IntKind.i64 (rdT xh1 ((rdT xh1 (xh1_1, xh1_2)).snd.fst, (rdT xh1 (xh1_1, xh1_2)).snd.snd)).snd.snd], AObj.var 26 [AV.int IntKind.i64 xh2, AV.int IntKind.i64 xh2_1, AV.int IntKind.i64 xh2_2, AV.int IntKind.i64 xh2_3, AV.own 3, AV.ro (Pay.bytes (rdT xh1 (xh1_1, xh1_2)).fst), AV.ro (Pay.bytes (rdT xh1 ((rdT xh1 (xh1_1, xh1_2)).snd.fst, (rdT xh1 (xh1_1, xh1_2)).snd.snd)).fst)], AObj.arr 3 (Pay.ints IntKind.i64 xh3)]
            else
              .ret (AV.tup [AV.agg [AV.int IntKind.i64 xh2, AV.int IntKind.i64 xh2_1, AV.int IntKind.i64 xh2_2, AV.int IntKind.i64 xh2_3, AV.own 3, AV.ro (Pay.bytes (rdT xh1 (xh1_1, xh1_2)).fst), AV.ro (Pay.bytes (rdT xh1 ((rdT xh1 (xh1_1, xh1_2)).snd.fst, (rdT xh1 (xh1_1, xh1_2)).snd.snd)).fst)], AV.int IntKind.i64 0]) [AObj.var 26 [AV.int IntKind.i64 xh2, AV.int IntKind.i64 xh2_1, AV.int IntKind.i64 xh2_2, AV.int IntKind.i64 xh2_3, AV.own 3, AV.ro (Pay.bytes (rdT xh1 (xh1_1, xh1_2)).fst), AV.ro (Pay.bytes (rdT xh1 ((rdT xh1 (xh1_1, xh1_2)).snd.fst, (rdT xh1 (xh1_1, xh1_2)).snd.snd)).fst)], AObj.var 44 [AV.ro (Pay.bytes xh1), AV.int IntKind.i64 (rdT xh1 ((rdT xh1 (xh1_1, xh1_2)).snd.fst, (rdT xh1 (xh1_1, xh1_2)).snd.snd)).snd.fst, AV.int IntKind.i64 (rdT xh1 ((rdT xh1 (xh1_1, xh1_2)).snd.fst, (rdT xh1 (xh1_1, xh1_2)).snd.snd)).snd.snd], AObj.var 26 [AV.int IntKind.i64 xh2, AV.int IntKind.i64 xh2_1, AV.int IntKind.i64 xh2_2, AV.int IntKind.i64 xh2_3, AV.own 3, AV.ro (Pay.bytes (rdT xh1 (xh1_1, xh1_2)).fst), AV.ro (Pay.bytes (rdT xh1 ((rdT xh1 (xh1_1, xh1_2)).snd.fst, (rdT xh1 (xh1_1, xh1_2)).snd.snd)).fst)], AObj.arr 3 (Pay.ints IntKind.i64 xh3)]
      else
        bif !eqI (intOf (AV.int IntKind.i64 (rdT xh1 ((rdT xh1 (xh1_1, xh1_2)).snd.fst, (rdT xh1 (xh1_1, xh1_2)).snd.snd)).snd.snd)) 0 then
          .ret (AV.tup [AV.agg [AV.int IntKind.i64 0, AV.int IntKind.i64 0, AV.int IntKind.i64 0, AV.int IntKind.i64 0, AV.nil, AV.nil, AV.nil], AV.int IntKind.i64 (intOf (AV.int IntKind.i64 (rdT xh1 ((rdT xh1 (xh1_1, xh1_2)).snd.fst, (rdT xh1 (xh1_1, xh1_2)).snd.snd)).snd.snd))]) [AObj.var 26 [AV.int IntKind.i64 0, AV.int IntKind.i64 0, AV.int IntKind.i64 0, AV.int IntKind.i64 0, AV.nil, AV.nil, AV.nil], AObj.var 44 [AV.ro (Pay.bytes xh1), AV.int IntKind.i64 (rdT xh1 ((rdT xh1 (xh1_1, xh1_2)).snd.fst, (rdT xh1 (xh1_1, xh1_2)).snd.snd)).snd.fst, AV.int IntKind.i64 (rdT xh1 ((rdT xh1 (xh1_1, xh1_2)).snd.fst, (rdT xh1 (xh1_1, xh1_2)).snd.snd)).snd.snd], AObj.var 26 [AV.int IntKind.i64 xh2, AV.int IntKind.i64 xh2_1, AV.int IntKind.i64 xh2_2, AV.int IntKind.i64 xh2_3, AV.own 3, AV.ro (Pay.bytes (rdT xh1 (xh1_1, xh1_2)).fst), AV.ro (Pay.bytes (rdT xh1 ((rdT xh1 (xh1_1, xh1_2)).snd.fst, (rdT xh1 (xh1_1, xh1_2)).snd.snd)).fst)], AObj.arr 3 (Pay.ints IntKind.i64 xh3)]
        else
          .ret (AV.tup [AV.agg [AV.int IntKind.i64 xh2, AV.int IntKind.i64 xh2_1, AV.int IntKind.i64 xh2_2, AV.int IntKind.i64 xh2_3, AV.own 3, AV.ro (Pay.bytes (rdT xh1 (xh1_1, xh1_2)).fst), AV.ro (Pay.bytes (rdT xh1 ((rdT xh1 (xh1_1, xh1_2)).snd.fst, (rdT xh1 (xh1_1, xh1_2)).snd.snd)).fst)], AV.int IntKind.i64 0]) [AObj.var 26 [AV.int IntKind.i64 xh2, AV.int IntKind.i64 xh2_1, AV.int IntKind.i64 xh2_2, AV.int IntKind.i64 xh2_3, AV.own 3, AV.ro (Pay.bytes (rdT xh1 (xh1_1, xh1_2)).fst), AV.ro (Pay.bytes (rdT xh1 ((rdT xh1 (xh1_1, xh1_2)).snd.fst, (rdT xh1 (xh1_1, xh1_2)).snd.snd)).fst)], AObj.var 44 [AV.ro (Pay.bytes xh1), AV.int IntKind.i64 (rdT xh1 ((rdT xh1 (xh1_1, xh1_2)).snd.fst, (rdT xh1 (xh1_1, xh1_2)).snd.snd)).snd.fst, AV.int IntKind.i64 (rdT xh1 ((rdT xh1 (xh1_1, xh1_2)).snd.fst, (rdT xh1 (xh1_1, xh1_2)).snd.snd)).snd.snd], AObj.var 26 [AV.int IntKind.i64 xh2, AV.int IntKind.i64 xh2_1, AV.int IntKind.i64 xh2_2, AV.int IntKind.i64 xh2_3, AV.own 3, AV.ro (Pay.bytes (rdT xh1 (xh1_1, xh1_2)).fst), AV.ro (Pay.bytes (rdT xh1 ((rdT xh1 (xh1_1, xh1_2)).snd.fst, (rdT xh1 (xh1_1, xh1_2)).snd.snd)).fst)], AObj.arr 3 (Pay.ints IntKind.i64 xh3)]
  else
    bif eqI (intOf (AV.int IntKind.i64 (rdT xh1 ((rdT xh1 (xh1_1, xh1_2)).snd.fst, (rdT xh1 (xh1_1, xh1_2)).snd.snd)).snd.snd)) 0 then
      bif ltI (intOf (AV.int IntKind.i64 (rdT xh1 ((rdT xh1 (xh1_1, xh1_2)).snd.fst, (rdT xh1 (xh1_1, xh1_2)).snd.snd)).snd.fst)) ↑x0.length then
        .ret (AV.tup [AV.agg [AV.int IntKind.i64 0, AV.int IntKind.i64 0, AV.int IntKind.i64 0, AV.int IntKind.i64 0, AV.nil, AV.nil, AV.nil], AV.int IntKind.i64 (Int.ofNat 3)]) [AObj.var 26 [AV.int IntKind.i64 0, AV.int IntKind.i64 0, AV.int IntKind.i64 0, AV.int IntKind.i64 0, AV.nil, AV.nil, AV.nil], AObj.var 44 [AV.ro (Pay.bytes xh1), AV.int IntKind.i64 (rdT xh1 ((rdT xh1 (xh1_1, xh1_2)).snd.fst, (rdT xh1 (xh1_1, xh1_2)).snd.snd)).snd.fst, AV.int IntKind.i64 3], AObj.var 26 [AV.int IntKind.i64 xh2, AV.int IntKind.i64 xh2_1, AV.int IntKind.i64 xh2_2, AV.int IntKind.i64 xh2_3, AV.own 3, AV.ro (Pay.bytes (rdT xh1 (xh1_1, xh1_2)).fst), AV.ro (Pay.bytes (rdT xh1 ((rdT xh1 (xh1_1, xh1_2)).snd.fst, (rdT xh1 (xh1_1, xh1_2)).snd.snd)).fst)], AObj.arr 3 (Pay.ints IntKind.i64 xh3)]
      else
        bif !decide (NoteV.mk xh2 xh2_1 xh2_2 xh2_3 xh3 (rdT xh1 (xh1_1, xh1_2)).fst (rdT xh1 ((rdT xh1 (xh1_1, xh1_2)).snd.fst, (rdT xh1 (xh1_1, xh1_2)).snd.snd)).fst).Right then
          .ret (AV.tup [AV.agg [AV.int IntKind.i64 0, AV.int IntKind.i64 0, AV.int IntKind.i64 0, AV.int IntKind.i64 0, AV.nil, AV.nil, AV.nil], AV.int IntKind.i64 (Int.ofNat 3)]) [AObj.var 26 [AV.int IntKind.i64 0, AV.int IntKind.i64 0, AV.int IntKind.i64 0, AV.int IntKind.i64 0, AV.nil, AV.nil, AV.nil], AObj.var 44 [AV.ro (Pay.bytes xh1), AV.int IntKind.i64 (rdT xh1 ((rdT xh1 (xh1_1, xh1_2)).snd.fst, (rdT xh1 (xh1_1, xh1_2)).snd.snd)).snd.fst, AV.int IntKind.i64 3], AObj.var 26 [AV.int IntKind.i64 xh2, AV.int IntKind.i64 xh2_1, AV.int IntKind.i64 xh2_2, AV.int IntKind.i64 xh2_3, AV.own 3, AV.ro (Pay.bytes (rdT xh1 (xh1_1, xh1_2)).fst), AV.ro (Pay.bytes (rdT xh1 ((rdT xh1 (xh1_1, xh1_2)).snd.fst, (rdT xh1 (xh1_1, xh1_2)).snd.snd)).fst)], AObj.arr 3 (Pay.ints IntKind.i64 xh3)]
        else
          bif !eqI (intOf (AV.int IntKind.i64 (rdT xh1 ((rdT xh1 (xh1_1, xh1_2)).snd.fst, (rdT xh1 (xh1_1, xh1_2)).snd.snd)).snd.snd)) 0 then
            .ret (AV.tup [AV.agg [AV.int IntKind.i64 0, AV.int IntKind.i64 0, AV.int IntKind.i64 0, AV.int IntKind.i64 0, AV.nil, AV.nil, AV.nil], AV.int IntKind.i64 (intOf (AV.int IntKind.i64 (rdT xh1 ((rdT xh1 (xh1_1, xh1_2)).snd.fst, (rdT xh1 (xh1_1, xh1_2)).snd.snd)).snd.snd))]) [AObj.var 26 [AV.int IntKind.i64 0, AV.int IntKind.i64 0, AV.int IntKind.i64 0, AV.int IntKind.i64 0, AV.nil, AV.nil, AV.nil], AObj.var 44 [AV.ro (Pay.bytes xh1), AV.int IntKind.i64 (rdT xh1 ((rdT xh1 (xh1_1, xh1_2)).snd.fst, (rdT xh1 (xh1_1, xh1_2)).snd.snd)).snd.fst, AV.int IntKind.i64 (rdT xh1 ((rdT xh1 (xh1_1, xh1_2)).snd.fst, (rdT xh1 (xh1_1, xh1_2)).snd.snd)).snd.snd], AObj.var 26 [AV.int IntKind.i64 xh2, AV.int IntKind.i64 xh2_1, AV.int IntKind.i64 xh2_2, AV.int IntKind.i64 xh2_3, AV.own 3, AV.ro (Pay.bytes (rdT xh1 (xh1_1, xh1_2)).fst), AV.ro (Pay.bytes (rdT xh1 ((rdT xh1 (xh1_1, xh1_2)).snd.fst, (rdT xh1 (xh1_1, xh1_2)).snd.snd)).fst)], AObj.arr 3 (Pay.ints IntKind.i64 xh3)]
          else
            .ret (AV.tup [AV.agg [AV.int IntKind.i64 xh2, AV.int IntKind.i64 xh2_1, AV.int IntKind.i64 xh2_2, AV.int IntKind.i64 xh2_3, AV.own 3, AV.ro (Pay.bytes (rdT xh1 (xh1_1, xh1_2)).fst), AV.ro (Pay.bytes (rdT xh1 ((rdT xh1 (xh1_1, xh1_2)).snd.fst, (rdT xh1 (xh1_1, xh1_2)).snd.snd)).fst)], AV.int IntKind.i64 0]) [AObj.var 26 [AV.int IntKind.i64 xh2, AV.int IntKind.i64 xh2_1, AV.int IntKind.i64 xh2_2, AV.int IntKind.i64 xh2_3, AV.own 3, AV.ro (Pay.bytes (rdT xh1 (xh1_1, xh1_2)).fst), AV.ro (Pay.bytes (rdT xh1 ((rdT xh1 (xh1_1, xh1_2)).snd.fst, (rdT xh1 (xh1_1, xh1_2)).snd.snd)).fst)], AObj.var 44 [AV.ro (Pay.bytes xh1), AV.int IntKind.i64 (rdT xh1 ((rdT xh1 (xh1_1, xh1_2)).snd.fst, (rdT xh1 (xh1_1, xh1_2)).snd.snd)).snd.fst, AV.int IntKind.i64 (rdT xh1 ((rdT xh1 (xh1_1, xh1_2)).snd.fst, (rdT xh1 (xh1_1, xh1_2)).snd.snd)).snd.snd], AObj.var 26 [AV.int IntKind.i64 xh2, AV.int IntKind.i64 xh2_1, AV.int IntKind.i64 xh2_2, AV.int IntKind.i64 xh2_3, AV.own 3, AV.ro (Pay.bytes (rdT xh1 (xh1_1, xh1_2)).fst), AV.ro (Pay.bytes (rdT xh1 ((rdT xh1 (xh1_1, xh1_2)).snd.fst, (rdT xh1 (xh1_1, xh1_2)).snd.snd)).fst)], AObj.arr 3 (Pay.ints IntKind.i64 xh3)]
    else
      bif !eqI (intOf (AV.int IntKind.i64 (rdT xh1 ((rdT xh1 (xh1_1, xh1_2)).snd.fst, (rdT xh1 (xh1_1, xh1_2)).snd.snd)).snd.snd)) 0 then
        .ret (AV.tup [AV.agg [AV.int IntKind.i64 0, AV.int IntKind.i64 0, AV.int IntKind.i64 0, AV.int IntKind.i64 0, AV.nil, AV.nil, AV.nil], AV.int IntKind.i64 (intOf (AV.int IntKind.i64 (rdT xh1 ((rdT xh1 (xh1_1, xh1_2)).snd.fst, (rdT xh1 (xh1_1, xh1_2)).snd.snd)).snd.snd))]) [AObj.var 26 [AV.int IntKind.i64 0, AV.int IntKind.i64 0, AV.int IntKind.i64 0, AV.int IntKind.i64 0, AV.nil, AV.nil, AV.nil], AObj.var 44 [AV.ro (Pay.bytes xh1), AV.int IntKind.i64 (rdT xh1 ((rdT xh1 (xh1_1, xh1_2)).snd.fst, (rdT xh1 (xh1_1, xh1_2)).snd.snd)).snd.fst, AV.int IntKind.i64 (rdT xh1 ((rdT xh1 (xh1_1, xh1_2)).snd.fst, (rdT xh1 (xh1_1, xh1_2)).snd.snd)).snd.snd], AObj.var 26 [AV.int IntKind.i64 xh2, AV.int IntKind.i64 xh2_1, AV.int IntKind.i64 xh2_2, AV.int IntKind.i64 xh2_3, AV.own 3, AV.ro (Pay.bytes (rdT xh1 (xh1_1, xh1_2)).fst), AV.ro (Pay.bytes (rdT xh1 ((rdT xh1 (xh1_1, xh1_2)).snd.fst, (rdT xh1 (xh1_1, xh1_2)).snd.snd)).fst)], AObj.arr 3 (Pay.ints IntKind.i64 xh3)]
      else
        .ret (AV.tup [AV.agg [AV.int IntKind.i64 xh2, AV.int IntKind.i64 xh2_1, AV.int IntKind.i64 xh2_2, AV.int IntKind.i64 xh2_3, AV.own 3, AV.ro (Pay.bytes (rdT xh1 (xh1_1, xh1_2)).fst), AV.ro (Pay.bytes (rdT xh1 ((rdT xh1 (xh1_1, xh1_2)).snd.fst, (rdT xh1 (xh1_1, xh1_2)).snd.snd)).fst)], AV.int IntKind.i64 0]) [AObj.var 26 [AV.int IntKind.i64 xh2, AV.int IntKind.i64 xh2_1, AV.int IntKind.i64 xh2_2, AV.int IntKind.i64 xh2_3, AV.own 3, AV.ro (Pay.bytes (rdT xh1 (xh1_1, xh1_2)).fst), AV.ro (Pay.bytes (rdT xh1 ((rdT xh1 (xh1_1, xh1_2)).snd.fst, (rdT xh1 (xh1_1, xh1_2)).snd.snd)).fst)], AObj.var 44 [AV.ro (Pay.bytes xh1), AV.int IntKind.i64 (rdT xh1 ((rdT xh1 (xh1_1, xh1_2)).snd.fst, (rdT xh1 (xh1_1, xh1_2)).snd.snd)).snd.fst, AV.int IntKind.i64 (rdT xh1 ((rdT xh1 (xh1_1, xh1_2)).snd.fst, (rdT xh1 (xh1_1, xh1_2)).snd.snd)).snd.snd], AObj.var 26 [AV.int IntKind.i64 xh2, AV.int IntKind.i64 xh2_1, AV.int IntKind.i64 xh2_2, AV.int IntKind.i64 xh2_3, AV.own 3, AV.ro (Pay.bytes (rdT xh1 (xh1_1, xh1_2)).fst), AV.ro (Pay.bytes (rdT xh1 ((rdT xh1 (xh1_1, xh1_2)).snd.fst, (rdT xh1 (xh1_1, xh1_2)).snd.snd)).fst)], AObj.arr 3 (Pay.ints IntKind.i64 xh3)] := by kernel_rfl


def OutW (tt : Tab) (r : Res) (z : AV × List AObj) : Prop := ∃ x, outR r = some x ∧ Weak tt x z
def noteA (x : NoteV × Int) : AV × List AObj := (.tup [x.1.av, .int .i64 x.2], [])
theorem fits3 (l : List Int) (h : l.length ≤ 1000000) : appFits ty3 (.ints .i64 l) = true := by
  unfold appFits
  rw [ble_iff]
  show l.length * 8 ≤ _
  omega

theorem f6_end (F k : Nat) (b : Txt) (m j z0 z1 z2 z3 i e q t y p : Int) (h : ¬ j < m ∨ e ≠ 0) : OutW tt6 (f6_0 F (k + 1) b m j z0 z1 z2 z3 b i e q t y p) (noteA (finN b q t y p [] (i, e))) := by
  rw [f6_0_eq]
  by_cases hj : j < m
  · rw [bif_pos (ltI_iff.2 hj), bif_neg (by rw [eqI_iff]; omega)]
    unfold finN
    generalize rdT b (i, e) = r1
    obtain ⟨a, i1, e1⟩ := r1
    dsimp only [intOf]
    generalize rdT b (i1, e1) = r2
    obtain ⟨c, i2, e2⟩ := r2
    dsimp only
    by_cases h1 : e2 = 0
    · rw [if_pos h1, bif_pos (eqI_iff.2 h1)]
      by_cases h2 : i2 < b.length
      · rw [if_pos h2, bif_pos (ltI_iff.2 h2)]; exact ⟨_, rfl, .tup (.agg (.same (.same (.same (.same (.empty rfl (.empty rfl (.empty rfl .nil))))))) (.same .nil))⟩
      · rw [if_neg h2, bif_neg (by rw [ltI_iff]; exact h2)]
        by_cases h3 : (⟨q, t, y, p, [], a, c⟩ : NoteV).Right
        · rw [if_pos h3, decide_eq_true h3, Bool.not_true, cond_false, eqI_iff.2 h1, Bool.not_true, cond_false]; exact ⟨_, rfl, .tup (.agg (.same (.same (.same (.same (.empty rfl (.same (.same .nil))))))) (.same .nil))⟩
        · rw [if_neg h3, decide_eq_false h3, Bool.not_false, cond_true]; exact ⟨_, rfl, .tup (.agg (.same (.same (.same (.same (.empty rfl (.empty rfl (.empty rfl .nil))))))) (.same .nil))⟩
    · rw [if_neg h1, eqI_f.2 h1, cond_false, Bool.not_false, cond_true]; exact ⟨_, rfl, .tup (.agg (.same (.same (.same (.same (.empty rfl (.empty rfl (.empty rfl .nil))))))) (.same .nil))⟩
  · rw [bif_neg (by rw [ltI_iff]; exact hj)]
    unfold finN
    generalize rdT b (i, e) = r1
    obtain ⟨a, i1, e1⟩ := r1
    dsimp only [intOf]
    generalize rdT b (i1, e1) = r2
    obtain ⟨c, i2, e2⟩ := r2
    dsimp only
    by_cases h1 : e2 = 0
    · rw [if_pos h1, bif_pos (eqI_iff.2 h1)]
      by_cases h2 : i2 < b.length
      · rw [if_pos h2, bif_pos (ltI_iff.2 h2)]; exact ⟨_, rfl, .tup (.agg (.same (.same (.same (.same (.empty rfl (.empty rfl (.empty rfl .nil))))))) (.same .nil))⟩
      · rw [if_neg h2, bif_neg (by rw [ltI_iff]; exact h2)]
        by_cases h3 : (⟨q, t, y, p, [], a, c⟩ : NoteV).Right
        · rw [if_pos h3, decide_eq_true h3, Bool.not_true, cond_false, eqI_iff.2 h1, Bool.not_true, cond_false]; exact ⟨_, rfl, .tup (.agg (.same (.same (.same (.same (.empty rfl (.same (.same .nil))))))) (.same .nil))⟩
        · rw [if_neg h3, decide_eq_false h3, Bool.not_false, cond_true]; exact ⟨_, rfl, .tup (.agg (.same (.same (.same (.same (.empty rfl (.empty rfl (.empty rfl .nil))))))) (.same .nil))⟩
    · rw [if_neg h1, eqI_f.2 h1, cond_false, Bool.not_false, cond_true]; exact ⟨_, rfl, .tup (.agg (.same (.same (.same (.same (.empty rfl (.empty rfl (.empty rfl .nil))))))) (.same .nil))⟩

theorem f6_end1 (F k : Nat) (b : Txt) (m j z0 z1 z2 z3 i e q t y p : Int) (w : List Int) (h : ¬ j < m ∨ e ≠ 0) : OutW tt6 (f6_0_1 F (k + 1) b m j z0 z1 z2 z3 b i e q t y p w) (noteA (finN b q t y p w (i, e))) := by
  rw [f6_0_1_eq]
  by_cases hj : j < m
  · rw [bif_pos (ltI_iff.2 hj), bif_neg (by rw [eqI_iff]; omega)]
    unfold finN
    generalize rdT b (i, e) = r1
    obtain ⟨a, i1, e1⟩ := r1
    dsimp only [intOf]
    generalize rdT b (i1, e1) = r2
    obtain ⟨c, i2, e2⟩ := r2
    dsimp only
    by_cases h1 : e2 = 0
    · rw [if_pos h1, bif_pos (eqI_iff.2 h1)]
      by_cases h2 : i2 < b.length
      · rw [if_pos h2, bif_pos (ltI_iff.2 h2)]; exact ⟨_, rfl, .tup (.agg (.same (.same (.same (.same (.empty rfl (.empty rfl (.empty rfl .nil))))))) (.same .nil))⟩
      · rw [if_neg h2, bif_neg (by rw [ltI_iff]; exact h2)]
        by_cases h3 : (⟨q, t, y, p, w, a, c⟩ : NoteV).Right
        · rw [if_pos h3, decide_eq_true h3, Bool.not_true, cond_false, eqI_iff.2 h1, Bool.not_true, cond_false]; exact ⟨_, rfl, .lend⟩
        · rw [if_neg h3, decide_eq_false h3, Bool.not_false, cond_true]; exact ⟨_, rfl, .tup (.agg (.same (.same (.same (.same (.empty rfl (.empty rfl (.empty rfl .nil))))))) (.same .nil))⟩
    · rw [if_neg h1, eqI_f.2 h1, cond_false, Bool.not_false, cond_true]; exact ⟨_, rfl, .tup (.agg (.same (.same (.same (.same (.empty rfl (.empty rfl (.empty rfl .nil))))))) (.same .nil))⟩
  · rw [bif_neg (by rw [ltI_iff]; exact hj)]
    unfold finN
    generalize rdT b (i, e) = r1
    obtain ⟨a, i1, e1⟩ := r1
    dsimp only [intOf]
    generalize rdT b (i1, e1) = r2
    obtain ⟨c, i2, e2⟩ := r2
    dsimp only
    by_cases h1 : e2 = 0
    · rw [if_pos h1, bif_pos (eqI_iff.2 h1)]
      by_cases h2 : i2 < b.length
      · rw [if_pos h2, bif_pos (ltI_iff.2 h2)]; exact ⟨_, rfl, .tup (.agg (.same (.same (.same (.same (.empty rfl (.empty rfl (.empty rfl .nil))))))) (.same .nil))⟩
      · rw [if_neg h2, bif_neg (by rw [ltI_iff]; exact h2)]
        by_cases h3 : (⟨q, t, y, p, w, a, c⟩ : NoteV).Right
        · rw [if_pos h3, decide_eq_true h3, Bool.not_true, cond_false, eqI_iff.2 h1, Bool.not_true, cond_false]; exact ⟨_, rfl, .lend⟩
        · rw [if_neg h3, decide_eq_false h3, Bool.not_false, cond_true]; exact ⟨_, rfl, .tup (.agg (.same (.same (.same (.same (.empty rfl (.empty rfl (.empty rfl .nil))))))) (.same .nil))⟩
    · rw [if_neg h1, eqI_f.2 h1, cond_false, Bool.not_false, cond_true]; exact ⟨_, rfl, .tup (.agg (.same (.same (.same (.same (.empty rfl (.empty rfl (.empty rfl .nil))))))) (.same .nil))⟩

theorem f6_run (F : Nat) (b : Txt) (m z0 z1 z2 z3 q t y p : Int) (hm : m ≤ 65536) : ∀ (n k : Nat) (j i e : Int) (w : List Int), j + n = m → n < k → 0 ≤ j → (w.length : Int) = j → OutW tt6 (f6_0_1 F k b m j z0 z1 z2 z3 b i e q t y p w) (noteA (finN b q t y p (w ++ (rdL b n (i, e)).1) (rdL b n (i, e)).2))
  | 0, k + 1, j, i, e, w, h1, h2, h3, h4 => by
    unfold rdL
    rw [List.append_nil]
    exact f6_end1 F k b m j z0 z1 z2 z3 i e q t y p w (.inl (by omega))
  | n + 1, k + 1, j, i, e, w, h1, h2, h3, h4 => by
    by_cases he : e = 0
    · subst he
      rw [f6_0_1_eq, bif_pos (by rw [ltI_iff]; omega), bif_pos (eqI_iff.2 rfl), bif_pos (fits3 _ (by rw [List.length_append, List.length_singleton]; omega)), wrap64 (by omega) (by omega)]
      have ih := f6_run F b m z0 z1 z2 z3 q t y p hm n k (j + 1) (rdN b (i, 0)).2.1 (rdN b (i, 0)).2.2 (w ++ [(rdN b (i, 0)).1]) (by omega) (by omega) (by omega) (by rw [List.length_append, List.length_singleton]; omega)
      unfold rdL
      rw [if_pos rfl]
      rw [List.append_assoc] at ih
      exact ih
    · rw [rdL_err b (n + 1) (s := (i, e)) he, List.append_nil]
      exact f6_end1 F k b m j z0 z1 z2 z3 i e q t y p w (.inr he)
theorem f6_all (F : Nat) (b : Txt) (m z0 z1 z2 z3 q t y p i e : Int) (h0 : 0 ≤ m) (hm : e = 0 → m ≤ 65536) (k : Nat) (hk : 65537 < k) : OutW tt6 (f6_0 F k b m 0 z0 z1 z2 z3 b i e q t y p) (noteA (finN b q t y p (rdL b m.toNat (i, e)).1 (rdL b m.toNat (i, e)).2)) := by
  obtain ⟨k, rfl⟩ : ∃ j, k = j + 1 := ⟨k - 1, by omega⟩
  by_cases he : e = 0
  · by_cases h1 : m = 0
    · subst h1
      exact f6_end F k b 0 0 z0 z1 z2 z3 i e q t y p (.inl (by omega))
    · subst he
      have hm := hm rfl
      rw [f6_0_eq, bif_pos (by rw [ltI_iff]; omega), bif_pos (eqI_iff.2 rfl), wrap64 (by omega) (by omega), List.nil_append]
      have ih := f6_run F b m z0 z1 z2 z3 q t y p hm (m.toNat - 1) k (0 + 1) (rdN b (i, 0)).2.1 (rdN b (i, 0)).2.2 [(rdN b (i, 0)).1] (by omega) (by omega) (by omega) rfl
      rw [show m.toNat = (m.toNat - 1) + 1 by omega]
      unfold rdL
      rw [if_pos rfl]
      exact ih
  · rw [rdL_err b m.toNat (s := (i, e)) he]
    exact f6_end F k b m 0 z0 z1 z2 z3 i e q t y p (.inr he)

theorem ok6 : PureOk Try.prog 6 go6 := by
  refine pureOk_of (c6 rounds) tt6_ok (.consE ok18 (.consE ok19 (.cons (ok14.norm _) .nil))) follows rfl Try.func6 (by kernel_rfl) (by kernel_rfl) ?_ ?_
  · intro R stk args ret
    unfold go6
    split
    · rfl
    · rfl
  · intro args r objs h hr
    unfold go6 at h
    split at h
    · rename_i b
      cases h
      rw [apure_out]
      show OutW tt6 _ (noteA (getNote b))
      rw [f6_eq]
      simp only [Prod.eta, intOf]
      unfold getNote gN0 gN1 gN2 gN3 gN4
      generalize rdN b (0, 0) = k
      generalize rdN b k.2 = t
      generalize rdN b t.2 = y
      generalize rdN b y.2 = p
      have hm : 0 ≤ (rdN b p.2).1 := by
        unfold rdN
        have := getV_fits b p.2.1
        split
        · dsimp only; omega
        · exact Int.le_refl _
      generalize rdN b p.2 = m at hm
      obtain ⟨m, i, e⟩ := m
      dsimp only at hm ⊢
      by_cases h1 : 65536 < m
      · rw [bif_pos (ltI_iff.2 h1)]
        by_cases h2 : e = 0
        · rw [bif_pos (eqI_iff.2 h2), show manyS (m, i, e) = (i, 3) from if_pos ⟨h1, h2⟩]
          exact f6_all _ b m _ _ _ _ _ _ _ _ i 3 hm (by omega) _ (by unfold rounds; omega)
        · rw [bif_neg (by rw [eqI_iff]; exact h2), show manyS (m, i, e) = (i, e) from if_neg fun x => h2 x.2]
          exact f6_all _ b m _ _ _ _ _ _ _ _ i e hm (by omega) _ (by unfold rounds; omega)
      · rw [bif_neg (by rw [ltI_iff]; exact h1), show manyS (m, i, e) = (i, e) from if_neg fun x => h1 x.1]
        exact f6_all _ b m _ _ _ _ _ _ _ _ i e hm (by omega) _ (by unfold rounds; omega)
    · cases h

end Go.Proofs.YtjdojmjkldpgnaaG
