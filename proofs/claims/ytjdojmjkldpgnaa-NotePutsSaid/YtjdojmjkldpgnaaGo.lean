/- A part of the proof: plain laws, and what functions of the given program come to; no condition. -/
import Derived.Test.YtjdojmjkldpgnaaGn
namespace Go.Proofs.YtjdojmjkldpgnaaG
open Go Go.Proofs.YtjdojmjkldpgnaaGm
set_option maxRecDepth 100000
set_option maxHeartbeats 0

def go14 (R : Type) (stk : R) (args : List AV) (ret : AV → List AObj → R) : R :=
  match args with
  | [.agg [.int .i64 k, .int .i64 t, .int .i64 y, .int .i64 p, .ro (.ints .i64 w), .ro (.bytes a), .ro (.bytes b)]] => ret (.bool (decide (⟨k, t, y, p, w, a, b⟩ : NoteV).Right)) []
  | _ => stk

def go16 (R : Type) (stk : R) (args : List AV) (ret : AV → List AObj → R) : R :=
  match args with
  | [.agg [.int .i64 k, .int .i64 t, .int .i64 y, .int .i64 p, .ro (.ints .i64 w), .ro (.bytes a), .ro (.bytes b)], .agg [.int .i64 k1, .int .i64 t1, .int .i64 y1, .int .i64 p1, .ro (.ints .i64 w1), .ro (.bytes a1), .ro (.bytes b1)]] => ret (.bool (decide ((⟨k, t, y, p, w, a, b⟩ : NoteV) = (⟨k1, t1, y1, p1, w1, a1, b1⟩ : NoteV)))) []
  | _ => stk

def go23 (R : Type) (stk : R) (args : List AV) (ret : AV → List AObj → R) : R :=
  match args with
  | [.ro (.bytes l), .ro (.ints .i64 x)] => bif Nat.ble (l.length + 9 * x.length) 140737488355328 then ret (.ro (.bytes (l ++ encs x))) [] else stk
  | _ => stk

def go17 (R : Type) (stk : R) (args : List AV) (ret : AV → List AObj → R) : R :=
  match args with
  | [.agg [.int .i64 k, .int .i64 t, .int .i64 y, .int .i64 p, .ro (.ints .i64 w), .ro (.bytes a), .ro (.bytes b)]] => bif Nat.ble (9 * w.length + a.length + b.length + 100) 140737488355328 then ret (.own 0) [.arr 5 (.bytes (encNote (⟨k, t, y, p, w, a, b⟩ : NoteV)))] else stk
  | _ => stk

def go18 (R : Type) (stk : R) (args : List AV) (hp : List AObj) (k : AV → List AObj → R) : R :=
  match args, hp with
  | [.ptr 0 0], [.var 44 [.ro (.bytes b), .int .i64 i, .int .i64 e]] => k (.int .i64 (rdN b (i, e)).1) [.var 44 [.ro (.bytes b), .int .i64 (rdN b (i, e)).2.1, .int .i64 (rdN b (i, e)).2.2]]
  | _, _ => stk

def go19 (R : Type) (stk : R) (args : List AV) (hp : List AObj) (k : AV → List AObj → R) : R :=
  match args, hp with
  | [.ptr 0 0], [.var 44 [.ro (.bytes b), .int .i64 i, .int .i64 e]] => k (.ro (.bytes (rdT b (i, e)).1)) [.var 44 [.ro (.bytes b), .int .i64 (rdT b (i, e)).2.1, .int .i64 (rdT b (i, e)).2.2]]
  | _, _ => stk

def tt14 : Tab := [(0, ty0), (1, ty1), (2, ty2), (3, ty3), (4, ty4), (5, ty5), (6, ty6), (22, ty22), (24, ty24), (26, ty26)]
theorem tt14_ok : TabOk Try.prog tt14 := tabOk_of_all ⟨ty0_ok, ty1_ok, ty2_ok, ty3_ok, ty4_ok, ty5_ok, ty6_ok, ty22_ok, ty24_ok, ty26_ok, trivial⟩
def c14 (F : Nat) : Cfg := ⟨tt14, [(25, .pure go25)], F, [], [], 0⟩
theorem f14_eq (F : Nat) (a0_0 : Int) (a0_1 : Int) (a0_2 : Int) (a0_3 : Int) (a0_4 : List Int) (a0_5 : List UInt8) (a0_6 : List UInt8) : afun (c14 F) Try.f14 [AV.agg [AV.int IntKind.i64 a0_0, AV.int IntKind.i64 a0_1, AV.int IntKind.i64 a0_2, AV.int IntKind.i64 a0_3, AV.ro (Pay.ints IntKind.i64 a0_4), AV.ro (Pay.bytes a0_5), AV.ro (Pay.bytes a0_6)]] [] =
  bif ltI a0_0 0 then
    .ret (AV.bool false) [AObj.var 26 [AV.int IntKind.i64 a0_0, AV.int IntKind.i64 a0_1, AV.int IntKind.i64 a0_2, AV.int IntKind.i64 a0_3, AV.ro (Pay.ints IntKind.i64 a0_4), AV.ro (Pay.bytes a0_5), AV.ro (Pay.bytes a0_6)]]
  else
    bif leI 11 a0_0 then
      .ret (AV.bool false) [AObj.var 26 [AV.int IntKind.i64 a0_0, AV.int IntKind.i64 a0_1, AV.int IntKind.i64 a0_2, AV.int IntKind.i64 a0_3, AV.ro (Pay.ints IntKind.i64 a0_4), AV.ro (Pay.bytes a0_5), AV.ro (Pay.bytes a0_6)]]
    else
      bif !(([a0_1, 0, 0].set (1, Operand.tmp 18).fst a0_2).set (2, Operand.tmp 20).fst a0_3).all inM then
        .ret (AV.bool false) [AObj.var 26 [AV.int IntKind.i64 a0_0, AV.int IntKind.i64 a0_1, AV.int IntKind.i64 a0_2, AV.int IntKind.i64 a0_3, AV.ro (Pay.ints IntKind.i64 a0_4), AV.ro (Pay.bytes a0_5), AV.ro (Pay.bytes a0_6)], AObj.arr 3 (Pay.ints IntKind.i64 (([a0_1, 0, 0].set (1, Operand.tmp 18).fst a0_2).set (2, Operand.tmp 20).fst a0_3))]
      else
        bif !a0_4.all inM then
          .ret (AV.bool false) [AObj.var 26 [AV.int IntKind.i64 a0_0, AV.int IntKind.i64 a0_1, AV.int IntKind.i64 a0_2, AV.int IntKind.i64 a0_3, AV.ro (Pay.ints IntKind.i64 a0_4), AV.ro (Pay.bytes a0_5), AV.ro (Pay.bytes a0_6)], AObj.arr 3 (Pay.ints IntKind.i64 (([a0_1, 0, 0].set (1, Operand.tmp 18).fst a0_2).set (2, Operand.tmp 20).fst a0_3))]
        else
          bif eqI a0_0 3 then
            bif leI (↑a0_4.length) 65536 then
              bif leI (↑a0_5.length) 0 then
                .ret (AV.bool (leI (↑a0_6.length) 0)) [AObj.var 26 [AV.int IntKind.i64 a0_0, AV.int IntKind.i64 a0_1, AV.int IntKind.i64 a0_2, AV.int IntKind.i64 a0_3, AV.ro (Pay.ints IntKind.i64 a0_4), AV.ro (Pay.bytes a0_5), AV.ro (Pay.bytes a0_6)], AObj.arr 3 (Pay.ints IntKind.i64 (([a0_1, 0, 0].set (1, Operand.tmp 18).fst a0_2).set (2, Operand.tmp 20).fst a0_3))]
              else
                .ret (AV.bool false) [AObj.var 26 [AV.int IntKind.i64 a0_0, AV.int IntKind.i64 a0_1, AV.int IntKind.i64 a0_2, AV.int IntKind.i64 a0_3, AV.ro (Pay.ints IntKind.i64 a0_4), AV.ro (Pay.bytes a0_5), AV.ro (Pay.bytes a0_6)], AObj.arr 3 (Pay.ints IntKind.i64 (([a0_1, 0, 0].set (1, Operand.tmp 18).fst a0_2).set (2, Operand.tmp 20).fst a0_3))]
            else
              .ret (AV.bool false) [AObj.var 26 [AV.int IntKind.i64 a0_0, AV.int IntKind.i64 a0_1, AV.int IntKind.i64 a0_2, AV.int IntKind.i64 a0_3, AV.ro (Pay.ints IntKind.i64 a0_4), AV.ro (Pay.bytes a0_5), AV.ro (Pay.bytes a0_6)], AObj.arr 3 (Pay.ints IntKind.i64 (([a0_1, 0, 0].set (1, Operand.tmp 18).fst a0_2).set (2, Operand.tmp 20).fst a0_3))]
          else
            bif eqI a0_0 8 then
              bif leI (↑a0_4.length) 0 then
                bif leI (↑a0_5.length) 1048576 then
                  .ret (AV.bool (leI (↑a0_6.length) 1048576)) [AObj.var 26 [AV.int IntKind.i64 a0_0, AV.int IntKind.i64 a0_1, AV.int IntKind.i64 a0_2, AV.int IntKind.i64 a0_3, AV.ro (Pay.ints IntKind.i64 a0_4), AV.ro (Pay.bytes a0_5), AV.ro (Pay.bytes a0_6)], AObj.arr 3 (Pay.ints IntKind.i64 (([a0_1, 0, 0].set (1, Operand.tmp 18).fst a0_2).set (2, Operand.tmp 20).fst a0_3))]
                else
                  .ret (AV.bool false) [AObj.var 26 [AV.int IntKind.i64 a0_0, AV.int IntKind.i64 a0_1, AV.int IntKind.i64 a0_2, AV.int IntKind.i64 a0_3, AV.ro (Pay.ints IntKind.i64 a0_4), AV.ro (Pay.bytes a0_5), AV.ro (Pay.bytes a0_6)], AObj.arr 3 (Pay.ints IntKind.i64 (([a0_1, 0, 0].set (1, Operand.tmp 18).fst a0_2).set (2, Operand.tmp 20).fst a0_3))]
              else
                .ret (AV.bool false) [AObj.var 26 [AV.int IntKind.i64 a0_0, AV.int IntKind.i64 a0_1, AV.int IntKind.i64 a0_2, AV.int IntKind.i64 a0_3, AV.ro (Pay.ints IntKind.i64 a0_4), AV.ro (Pay.bytes a0_5), AV.ro (Pay.bytes a0_6)], AObj.arr 3 (Pay.ints IntKind.i64 (([a0_1, 0, 0].set (1, Operand.tmp 18).fst a0_2).set (2, Operand.tmp 20).fst a0_3))]
            else
              bif eqI a0_0 5 then
                bif leI (↑a0_4.length) 0 then
                  bif leI (↑a0_5.length) 1048576 then
                    .ret (AV.bool (leI (↑a0_6.length) 0)) [AObj.var 26 [AV.int IntKind.i64 a0_0, AV.int IntKind.i64 a0_1, AV.int IntKind.i64 a0_2, AV.int IntKind.i64 a0_3, AV.ro (Pay.ints IntKind.i64 a0_4), AV.ro (Pay.bytes a0_5), AV.ro (Pay.bytes a0_6)], AObj.arr 3 (Pay.ints IntKind.i64 (([a0_1, 0, 0].set (1, Operand.tmp 18).fst a0_2).set (2, Operand.tmp 20).fst a0_3))]
                  else
                    .ret (AV.bool false) [AObj.var 26 [AV.int IntKind.i64 a0_0, AV.int IntKind.i64 a0_1, AV.int IntKind.i64 a0_2, AV.int IntKind.i64 a0_3, AV.ro (Pay.ints IntKind.i64 a0_4), AV.ro (Pay.bytes a0_5), AV.ro (Pay.bytes a0_6)], AObj.arr 3 (Pay.ints IntKind.i64 (([a0_1, 0, 0].set (1, Operand.tmp 18).fst a0_2).set (2, Operand.tmp 20).fst a0_3))]
                else
                  .ret (AV.bool false) [AObj.var 26 [AV.int IntKind.i64 a0_0, AV.int IntKind.i64 a0_1, AV.int IntKind.i64 a0_2, AV.int IntKind.i64 a0_3, AV.ro (Pay.ints IntKind.i64 a0_4), AV.ro (Pay.bytes a0_5), AV.ro (Pay.bytes a0_6)], AObj.arr 3 (Pay.ints IntKind.i64 (([a0_1, 0, 0].set (1, Operand.tmp 18).fst a0_2).set (2, Operand.tmp 20).fst a0_3))]
              else
                bif leI (↑a0_4.length) 0 then
                  bif leI (↑a0_5.length) 0 then
                    .ret (AV.bool (leI (↑a0_6.length) 0)) [AObj.var 26 [AV.int IntKind.i64 a0_0, AV.int IntKind.i64 a0_1, AV.int IntKind.i64 a0_2, AV.int IntKind.i64 a0_3, AV.ro (Pay.ints IntKind.i64 a0_4), AV.ro (Pay.bytes a0_5), AV.ro (Pay.bytes a0_6)], AObj.arr 3 (Pay.ints IntKind.i64 (([a0_1, 0, 0].set (1, Operand.tmp 18).fst a0_2).set (2, Operand.tmp 20).fst a0_3))]
                  else
                    .ret (AV.bool false) [AObj.var 26 [AV.int IntKind.i64 a0_0, AV.int IntKind.i64 a0_1, AV.int IntKind.i64 a0_2, AV.int IntKind.i64 a0_3, AV.ro (Pay.ints IntKind.i64 a0_4), AV.ro (Pay.bytes a0_5), AV.ro (Pay.bytes a0_6)], AObj.arr 3 (Pay.ints IntKind.i64 (([a0_1, 0, 0].set (1, Operand.tmp 18).fst a0_2).set (2, Operand.tmp 20).fst a0_3))]
                else
                  .ret (AV.bool false) [AObj.var 26 [AV.int IntKind.i64 a0_0, AV.int IntKind.i64 a0_1, AV.int IntKind.i64 a0_2, AV.int IntKind.i64 a0_3, AV.ro (Pay.ints IntKind.i64 a0_4), AV.ro (Pay.bytes a0_5), AV.ro (Pay.bytes a0_6)], AObj.arr 3 (Pay.ints IntKind.i64 (([a0_1, 0, 0].set (1, Operand.tmp 18).fst a0_2).set (2, Operand.tmp 20).fst a0_3))] := by kernel_rfl


def tt15 : Tab := [(0, ty0), (1, ty1), (2, ty2), (3, ty3), (4, ty4), (5, ty5), (6, ty6), (22, ty22), (24, ty24), (26, ty26)]
theorem tt15_ok : TabOk Try.prog tt15 := tabOk_of_all ⟨ty0_ok, ty1_ok, ty2_ok, ty3_ok, ty4_ok, ty5_ok, ty6_ok, ty22_ok, ty24_ok, ty26_ok, trivial⟩
def c15 (F : Nat) : Cfg := ⟨tt15, [(26, .pure go26)], F, [(0, ⟨[1, 3], []⟩)], [], 0⟩
noncomputable def f15_0 (F k : Nat) (x3 : Int) (xh0 : Int) (xh0_1 : Int) (xh0_2 : Int) (xh0_3 : Int) (xh0_4 : List Int) (xh0_5 : List UInt8) (xh0_6 : List UInt8) : Res := aloop (c15 F) Try.f15 0 [] k (St.mk [AV.top, AV.ptr 0 0, AV.top, AV.int IntKind.i64 x3, AV.top, AV.top, AV.top, AV.top, AV.top, AV.top, AV.top, AV.top, AV.top, AV.top, AV.top, AV.top, AV.top, AV.top, AV.top, AV.top, AV.top, AV.top, AV.top, AV.top, AV.top, AV.top, AV.top, AV.top, AV.top, AV.top, AV.top, AV.top, AV.top, AV.top, AV.top, AV.top, AV.top, AV.top, AV.top, AV.top, AV.top, AV.top, AV.top, AV.top, AV.top, AV.top, AV.top, AV.top, AV.top, AV.top, AV.top, AV.top, AV.top, AV.top, AV.top, AV.top, AV.top, AV.top, AV.top, AV.top, AV.top, AV.top, AV.top, AV.top, AV.top, AV.top, AV.top, AV.top, AV.top, AV.top, AV.top, AV.top, AV.top, AV.top, AV.top, AV.top, AV.top, AV.top, AV.top, AV.top, AV.top, AV.top, AV.top, AV.top, AV.top, AV.top, AV.top, AV.top, AV.top, AV.top, AV.top, AV.top, AV.top, AV.top] [AObj.var 26 [AV.int IntKind.i64 xh0, AV.int IntKind.i64 xh0_1, AV.int IntKind.i64 xh0_2, AV.int IntKind.i64 xh0_3, AV.ro (Pay.ints IntKind.i64 xh0_4), AV.ro (Pay.bytes xh0_5), AV.ro (Pay.bytes xh0_6)]])
theorem f15_eq (F : Nat) (a0_0 : Int) (a0_1 : Int) (a0_2 : Int) (a0_3 : Int) (a0_4 : List Int) (a0_5 : List UInt8) (a0_6 : List UInt8) : afun (c15 F) Try.f15 [AV.agg [AV.int IntKind.i64 a0_0, AV.int IntKind.i64 a0_1, AV.int IntKind.i64 a0_2, AV.int IntKind.i64 a0_3, AV.ro (Pay.ints IntKind.i64 a0_4), AV.ro (Pay.bytes a0_5), AV.ro (Pay.bytes a0_6)]] [] =
  bif ltI a0_0 0 then
    .ret (AV.bool false) [AObj.var 26 [AV.int IntKind.i64 a0_0, AV.int IntKind.i64 a0_1, AV.int IntKind.i64 a0_2, AV.int IntKind.i64 a0_3, AV.ro (Pay.ints IntKind.i64 a0_4), AV.ro (Pay.bytes a0_5), AV.ro (Pay.bytes a0_6)]]
  else
    bif ltI 10 a0_0 then
      .ret (AV.bool false) [AObj.var 26 [AV.int IntKind.i64 a0_0, AV.int IntKind.i64 a0_1, AV.int IntKind.i64 a0_2, AV.int IntKind.i64 a0_3, AV.ro (Pay.ints IntKind.i64 a0_4), AV.ro (Pay.bytes a0_5), AV.ro (Pay.bytes a0_6)]]
    else
      bif !inM a0_1 then
        .ret (AV.bool false) [AObj.var 26 [AV.int IntKind.i64 a0_0, AV.int IntKind.i64 a0_1, AV.int IntKind.i64 a0_2, AV.int IntKind.i64 a0_3, AV.ro (Pay.ints IntKind.i64 a0_4), AV.ro (Pay.bytes a0_5), AV.ro (Pay.bytes a0_6)]]
      else
        bif !inM a0_2 then
          .ret (AV.bool false) [AObj.var 26 [AV.int IntKind.i64 a0_0, AV.int IntKind.i64 a0_1, AV.int IntKind.i64 a0_2, AV.int IntKind.i64 a0_3, AV.ro (Pay.ints IntKind.i64 a0_4), AV.ro (Pay.bytes a0_5), AV.ro (Pay.bytes a0_6)]]
        else
          bif !inM a0_3 then
            .ret (AV.bool false) [AObj.var 26 [AV.int IntKind.i64 a0_0, AV.int IntKind.i64 a0_1, AV.int IntKind.i64 a0_2, AV.int IntKind.i64 a0_3, AV.ro (Pay.ints IntKind.i64 a0_4), AV.ro (Pay.bytes a0_5), AV.ro (Pay.bytes a0_6)]]
          else
            f15_0 F F 0 a0_0 a0_1 a0_2 a0_3 a0_4 a0_5 a0_6 := by kernel_rfl
theorem f15_0_eq (F k : Nat) (x3 : Int) (xh0 : Int) (xh0_1 : Int) (xh0_2 : Int) (xh0_3 : Int) (xh0_4 : List Int) (xh0_5 : List UInt8) (xh0_6 : List UInt8) : f15_0 F (k + 1) x3 xh0 xh0_1 xh0_2 xh0_3 xh0_4 xh0_5 xh0_6 =
  bif ltI x3 ↑xh0_4.length then
    bif inB x3 xh0_4.length then
      bif !inM (xh0_4.getD x3.toNat 0) then
        .ret (AV.bool false) [AObj.var 26 [AV.int IntKind.i64 xh0, AV.int IntKind.i64 xh0_1, AV.int IntKind.i64 xh0_2, AV.int IntKind.i64 xh0_3, AV.ro (Pay.ints IntKind.i64 xh0_4), AV.ro (Pay.bytes xh0_5), AV.ro (Pay.bytes xh0_6)]]
      else
        f15_0 F k (IntKind.i64.wrap (x3 + 1)) xh0 xh0_1 xh0_2 xh0_3 xh0_4 xh0_5 xh0_6
    else
      .stuck
  else
    bif ltI 65536 ↑xh0_4.length then
      .ret (AV.bool false) [AObj.var 26 [AV.int IntKind.i64 xh0, AV.int IntKind.i64 xh0_1, AV.int IntKind.i64 xh0_2, AV.int IntKind.i64 xh0_3, AV.ro (Pay.ints IntKind.i64 xh0_4), AV.ro (Pay.bytes xh0_5), AV.ro (Pay.bytes xh0_6)]]
    else
      bif ltI 0 ↑xh0_4.length then
        bif !eqI xh0 3 then
          .ret (AV.bool false) [AObj.var 26 [AV.int IntKind.i64 xh0, AV.int IntKind.i64 xh0_1, AV.int IntKind.i64 xh0_2, AV.int IntKind.i64 xh0_3, AV.ro (Pay.ints IntKind.i64 xh0_4), AV.ro (Pay.bytes xh0_5), AV.ro (Pay.bytes xh0_6)]]
        else
          bif ltI 1048576 ↑xh0_5.length then
            .ret (AV.bool false) [AObj.var 26 [AV.int IntKind.i64 xh0, AV.int IntKind.i64 xh0_1, AV.int IntKind.i64 xh0_2, AV.int IntKind.i64 xh0_3, AV.ro (Pay.ints IntKind.i64 xh0_4), AV.ro (Pay.bytes xh0_5), AV.ro (Pay.bytes xh0_6)]]
          else
            bif ltI 0 ↑xh0_5.length then
              bif !eqI xh0 5 then
                bif !eqI xh0 8 then
                  .ret (AV.bool false) [AObj.var 26 [AV.int IntKind.i64 xh0, AV.int IntKind.i64 xh0_1, AV.int IntKind.i64 xh0_2, AV.int IntKind.i64 xh0_3, AV.ro (Pay.ints IntKind.i64 xh0_4), AV.ro (Pay.bytes xh0_5), AV.ro (Pay.bytes xh0_6)]]
                else
                  bif leI (↑xh0_6.length) 1048576 then
                    bif eqI (↑xh0_6.length) 0 then
                      .ret (AV.bool true) [AObj.var 26 [AV.int IntKind.i64 xh0, AV.int IntKind.i64 xh0_1, AV.int IntKind.i64 xh0_2, AV.int IntKind.i64 xh0_3, AV.ro (Pay.ints IntKind.i64 xh0_4), AV.ro (Pay.bytes xh0_5), AV.ro (Pay.bytes xh0_6)]]
                    else
                      .ret (AV.bool (eqI xh0 8)) [AObj.var 26 [AV.int IntKind.i64 xh0, AV.int IntKind.i64 xh0_1, AV.int IntKind.i64 xh0_2, AV.int IntKind.i64 xh0_3, AV.ro (Pay.ints IntKind.i64 xh0_4), AV.ro (Pay.bytes xh0_5), AV.ro (Pay.bytes xh0_6)]]
                  else
                    .ret (AV.bool false) [AObj.var 26 [AV.int IntKind.i64 xh0, AV.int IntKind.i64 xh0_1, AV.int IntKind.i64 xh0_2, AV.int IntKind.i64 xh0_3, AV.ro (Pay.ints IntKind.i64 xh0_4), AV.ro (Pay.bytes xh0_5), AV.ro (Pay.bytes xh0_6)]]
              else
                bif leI (↑xh0_6.length) 1048576 then
                  bif eqI (↑xh0_6.length) 0 then
                    .ret (AV.bool true) [AObj.var 26 [AV.int IntKind.i64 xh0, AV.int IntKind.i64 xh0_1, AV.int IntKind.i64 xh0_2, AV.int IntKind.i64 xh0_3, AV.ro (Pay.ints IntKind.i64 xh0_4), AV.ro (Pay.bytes xh0_5), AV.ro (Pay.bytes xh0_6)]]
                  else
                    .ret (AV.bool (eqI xh0 8)) [AObj.var 26 [AV.int IntKind.i64 xh0, AV.int IntKind.i64 xh0_1, AV.int IntKind.i64 xh0_2, AV.int IntKind.i64 xh0_3, AV.ro (Pay.ints IntKind.i64 xh0_4), AV.ro (Pay.bytes xh0_5), AV.ro (Pay.bytes xh0_6)]]
                else
                  .ret (AV.bool false) [AObj.var 26 [AV.int IntKind.i64 xh0, AV.int IntKind.i64 xh0_1, AV.int IntKind.i64 xh0_2, AV.int IntKind.i64 xh0_3, AV.ro (Pay.ints IntKind.i64 xh0_4), AV.ro (Pay.bytes xh0_5), AV.ro (Pay.bytes xh0_6)]]
            else
              bif leI (↑xh0_6.length) 1048576 then
                bif eqI (↑xh0_6.length) 0 then
                  .ret (AV.bool true) [AObj.var 26 [AV.int IntKind.i64 xh0, AV.int IntKind.i64 xh0_1, AV.int IntKind.i64 xh0_2, AV.int IntKind.i64 xh0_3, AV.ro (Pay.ints IntKind.i64 xh0_4), AV.ro (Pay.bytes xh0_5), AV.ro (Pay.bytes xh0_6)]]
                else
                  .ret (AV.bool (eqI xh0 8)) [AObj.var 26 [AV.int IntKind.i64 xh0, AV.int IntKind.i64 xh0_1, AV.int IntKind.i64 xh0_2, AV.int IntKind.i64 xh0_3, AV.ro (Pay.ints IntKind.i64 xh0_4), AV.ro (Pay.bytes xh0_5), AV.ro (Pay.bytes xh0_6)]]
              else
                .ret (AV.bool false) [AObj.var 26 [AV.int IntKind.i64 xh0, AV.int IntKind.i64 xh0_1, AV.int IntKind.i64 xh0_2, AV.int IntKind.i64 xh0_3, AV.ro (Pay.ints IntKind.i64 xh0_4), AV.ro (Pay.bytes xh0_5), AV.ro (Pay.bytes xh0_6)]]
      else
        bif ltI 1048576 ↑xh0_5.length then
          .ret (AV.bool false) [AObj.var 26 [AV.int IntKind.i64 xh0, AV.int IntKind.i64 xh0_1, AV.int IntKind.i64 xh0_2, AV.int IntKind.i64 xh0_3, AV.ro (Pay.ints IntKind.i64 xh0_4), AV.ro (Pay.bytes xh0_5), AV.ro (Pay.bytes xh0_6)]]
        else
          bif ltI 0 ↑xh0_5.length then
            bif !eqI xh0 5 then
              bif !eqI xh0 8 then
                .ret (AV.bool false) [AObj.var 26 [AV.int IntKind.i64 xh0, AV.int IntKind.i64 xh0_1, AV.int IntKind.i64 xh0_2, AV.int IntKind.i64 xh0_3, AV.ro (Pay.ints IntKind.i64 xh0_4), AV.ro (Pay.bytes xh0_5), AV.ro (Pay.bytes xh0_6)]]
              else
                bif leI (↑xh0_6.length) 1048576 then
                  bif eqI (↑xh0_6.length) 0 then
                    .ret (AV.bool true) [AObj.var 26 [AV.int IntKind.i64 xh0, AV.int IntKind.i64 xh0_1, AV.int IntKind.i64 xh0_2, AV.int IntKind.i64 xh0_3, AV.ro (Pay.ints IntKind.i64 xh0_4), AV.ro (Pay.bytes xh0_5), AV.ro (Pay.bytes xh0_6)]]
                  else
                    .ret (AV.bool (eqI xh0 8)) [AObj.var 26 [AV.int IntKind.i64 xh0, AV.int IntKind.i64 xh0_1, AV.int IntKind.i64 xh0_2, AV.int IntKind.i64 xh0_3, AV.ro (Pay.ints IntKind.i64 xh0_4), AV.ro (Pay.bytes xh0_5), AV.ro (Pay.bytes xh0_6)]]
                else
                  .ret (AV.bool false) [AObj.var 26 [AV.int IntKind.i64 xh0, AV.int IntKind.i64 xh0_1, AV.int IntKind.i64 xh0_2, AV.int IntKind.i64 xh0_3, AV.ro (Pay.ints IntKind.i64 xh0_4), AV.ro (Pay.bytes xh0_5), AV.ro (Pay.bytes xh0_6)]]
            else
              bif leI (↑xh0_6.length) 1048576 then
                bif eqI (↑xh0_6.length) 0 then
                  .ret (AV.bool true) [AObj.var 26 [AV.int IntKind.i64 xh0, AV.int IntKind.i64 xh0_1, AV.int IntKind.i64 xh0_2, AV.int IntKind.i64 xh0_3, AV.ro (Pay.ints IntKind.i64 xh0_4), AV.ro (Pay.bytes xh0_5), AV.ro (Pay.bytes xh0_6)]]
                else
                  .ret (AV.bool (eqI xh0 8)) [AObj.var 26 [AV.int IntKind.i64 xh0, AV.int IntKind.i64 xh0_1, AV.int IntKind.i64 xh0_2, AV.int IntKind.i64 xh0_3, AV.ro (Pay.ints IntKind.i64 xh0_4), AV.ro (Pay.bytes xh0_5), AV.ro (Pay.bytes xh0_6)]]
              else
                .ret (AV.bool false) [AObj.var 26 [AV.int IntKind.i64 xh0, AV.int IntKind.i64 xh0_1, AV.int IntKind.i64 xh0_2, AV.int IntKind.i64 xh0_3, AV.ro (Pay.ints IntKind.i64 xh0_4), AV.ro (Pay.bytes xh0_5), AV.ro (Pay.bytes xh0_6)]]
          else
            bif leI (↑xh0_6.length) 1048576 then
              bif eqI (↑xh0_6.length) 0 then
                .ret (AV.bool true) [AObj.var 26 [AV.int IntKind.i64 xh0, AV.int IntKind.i64 xh0_1, AV.int IntKind.i64 xh0_2, AV.int IntKind.i64 xh0_3, AV.ro (Pay.ints IntKind.i64 xh0_4), AV.ro (Pay.bytes xh0_5), AV.ro (Pay.bytes xh0_6)]]
              else
                .ret (AV.bool (eqI xh0 8)) [AObj.var 26 [AV.int IntKind.i64 xh0, AV.int IntKind.i64 xh0_1, AV.int IntKind.i64 xh0_2, AV.int IntKind.i64 xh0_3, AV.ro (Pay.ints IntKind.i64 xh0_4), AV.ro (Pay.bytes xh0_5), AV.ro (Pay.bytes xh0_6)]]
            else
              .ret (AV.bool false) [AObj.var 26 [AV.int IntKind.i64 xh0, AV.int IntKind.i64 xh0_1, AV.int IntKind.i64 xh0_2, AV.int IntKind.i64 xh0_3, AV.ro (Pay.ints IntKind.i64 xh0_4), AV.ro (Pay.bytes xh0_5), AV.ro (Pay.bytes xh0_6)]] := by kernel_rfl


def tt16 : Tab := [(0, ty0), (1, ty1), (2, ty2), (3, ty3), (4, ty4), (5, ty5), (6, ty6), (22, ty22), (24, ty24), (26, ty26)]
theorem tt16_ok : TabOk Try.prog tt16 := tabOk_of_all ⟨ty0_ok, ty1_ok, ty2_ok, ty3_ok, ty4_ok, ty5_ok, ty6_ok, ty22_ok, ty24_ok, ty26_ok, trivial⟩
def c16 (F : Nat) : Cfg := ⟨tt16, [(27, .pure go22), (28, .pure go28)], F, [], [], 0⟩
theorem f16_eq (F : Nat) (a0_0 : Int) (a0_1 : Int) (a0_2 : Int) (a0_3 : Int) (a0_4 : List Int) (a0_5 : List UInt8) (a0_6 : List UInt8) (a1_0 : Int) (a1_1 : Int) (a1_2 : Int) (a1_3 : Int) (a1_4 : List Int) (a1_5 : List UInt8) (a1_6 : List UInt8) : afun (c16 F) Try.f16 [AV.agg [AV.int IntKind.i64 a0_0, AV.int IntKind.i64 a0_1, AV.int IntKind.i64 a0_2, AV.int IntKind.i64 a0_3, AV.ro (Pay.ints IntKind.i64 a0_4), AV.ro (Pay.bytes a0_5), AV.ro (Pay.bytes a0_6)], AV.agg [AV.int IntKind.i64 a1_0, AV.int IntKind.i64 a1_1, AV.int IntKind.i64 a1_2, AV.int IntKind.i64 a1_3, AV.ro (Pay.ints IntKind.i64 a1_4), AV.ro (Pay.bytes a1_5), AV.ro (Pay.bytes a1_6)]] [] =
  bif eqI a0_0 a1_0 then
    bif eqI a0_1 a1_1 then
      bif eqI a0_2 a1_2 then
        bif eqI a0_3 a1_3 then
          bif decide (a0_4 = a1_4) then
            bif eqS a0_5 a1_5 then
              .ret (AV.bool (eqS a0_6 a1_6)) [AObj.var 26 [AV.int IntKind.i64 a0_0, AV.int IntKind.i64 a0_1, AV.int IntKind.i64 a0_2, AV.int IntKind.i64 a0_3, AV.ro (Pay.ints IntKind.i64 a0_4), AV.ro (Pay.bytes a0_5), AV.ro (Pay.bytes a0_6)], AObj.var 26 [AV.int IntKind.i64 a1_0, AV.int IntKind.i64 a1_1, AV.int IntKind.i64 a1_2, AV.int IntKind.i64 a1_3, AV.ro (Pay.ints IntKind.i64 a1_4), AV.ro (Pay.bytes a1_5), AV.ro (Pay.bytes a1_6)]]
            else
              .ret (AV.bool false) [AObj.var 26 [AV.int IntKind.i64 a0_0, AV.int IntKind.i64 a0_1, AV.int IntKind.i64 a0_2, AV.int IntKind.i64 a0_3, AV.ro (Pay.ints IntKind.i64 a0_4), AV.ro (Pay.bytes a0_5), AV.ro (Pay.bytes a0_6)], AObj.var 26 [AV.int IntKind.i64 a1_0, AV.int IntKind.i64 a1_1, AV.int IntKind.i64 a1_2, AV.int IntKind.i64 a1_3, AV.ro (Pay.ints IntKind.i64 a1_4), AV.ro (Pay.bytes a1_5), AV.ro (Pay.bytes a1_6)]]
          else
            .ret (AV.bool false) [AObj.var 26 [AV.int IntKind.i64 a0_0, AV.int IntKind.i64 a0_1, AV.int IntKind.i64 a0_2, AV.int IntKind.i64 a0_3, AV.ro (Pay.ints IntKind.i64 a0_4), AV.ro (Pay.bytes a0_5), AV.ro (Pay.bytes a0_6)], AObj.var 26 [AV.int IntKind.i64 a1_0, AV.int IntKind.i64 a1_1, AV.int IntKind.i64 a1_2, AV.int IntKind.i64 a1_3, AV.ro (Pay.ints IntKind.i64 a1_4), AV.ro (Pay.bytes a1_5), AV.ro (Pay.bytes a1_6)]]
        else
          .ret (AV.bool false) [AObj.var 26 [AV.int IntKind.i64 a0_0, AV.int IntKind.i64 a0_1, AV.int IntKind.i64 a0_2, AV.int IntKind.i64 a0_3, AV.ro (Pay.ints IntKind.i64 a0_4), AV.ro (Pay.bytes a0_5), AV.ro (Pay.bytes a0_6)], AObj.var 26 [AV.int IntKind.i64 a1_0, AV.int IntKind.i64 a1_1, AV.int IntKind.i64 a1_2, AV.int IntKind.i64 a1_3, AV.ro (Pay.ints IntKind.i64 a1_4), AV.ro (Pay.bytes a1_5), AV.ro (Pay.bytes a1_6)]]
      else
        .ret (AV.bool false) [AObj.var 26 [AV.int IntKind.i64 a0_0, AV.int IntKind.i64 a0_1, AV.int IntKind.i64 a0_2, AV.int IntKind.i64 a0_3, AV.ro (Pay.ints IntKind.i64 a0_4), AV.ro (Pay.bytes a0_5), AV.ro (Pay.bytes a0_6)], AObj.var 26 [AV.int IntKind.i64 a1_0, AV.int IntKind.i64 a1_1, AV.int IntKind.i64 a1_2, AV.int IntKind.i64 a1_3, AV.ro (Pay.ints IntKind.i64 a1_4), AV.ro (Pay.bytes a1_5), AV.ro (Pay.bytes a1_6)]]
    else
      .ret (AV.bool false) [AObj.var 26 [AV.int IntKind.i64 a0_0, AV.int IntKind.i64 a0_1, AV.int IntKind.i64 a0_2, AV.int IntKind.i64 a0_3, AV.ro (Pay.ints IntKind.i64 a0_4), AV.ro (Pay.bytes a0_5), AV.ro (Pay.bytes a0_6)], AObj.var 26 [AV.int IntKind.i64 a1_0, AV.int IntKind.i64 a1_1, AV.int IntKind.i64 a1_2, AV.int IntKind.i64 a1_3, AV.ro (Pay.ints IntKind.i64 a1_4), AV.ro (Pay.bytes a1_5), AV.ro (Pay.bytes a1_6)]]
  else
    .ret (AV.bool false) [AObj.var 26 [AV.int IntKind.i64 a0_0, AV.int IntKind.i64 a0_1, AV.int IntKind.i64 a0_2, AV.int IntKind.i64 a0_3, AV.ro (Pay.ints IntKind.i64 a0_4), AV.ro (Pay.bytes a0_5), AV.ro (Pay.bytes a0_6)], AObj.var 26 [AV.int IntKind.i64 a1_0, AV.int IntKind.i64 a1_1, AV.int IntKind.i64 a1_2, AV.int IntKind.i64 a1_3, AV.ro (Pay.ints IntKind.i64 a1_4), AV.ro (Pay.bytes a1_5), AV.ro (Pay.bytes a1_6)]] := by kernel_rfl


def tt9 : Tab := [(0, ty0), (1, ty1), (2, ty2), (3, ty3), (4, ty4), (5, ty5), (6, ty6), (9, ty9), (22, ty22), (24, ty24), (26, ty26)]
theorem tt9_ok : TabOk Try.prog tt9 := tabOk_of_all ⟨ty0_ok, ty1_ok, ty2_ok, ty3_ok, ty4_ok, ty5_ok, ty6_ok, ty9_ok, ty22_ok, ty24_ok, ty26_ok, trivial⟩
def c9 (F : Nat) : Cfg := ⟨tt9, [(22, .pure go22)], F, [], [], 0⟩
theorem f9_eq (F : Nat) (a0_0 : Int) (a0_1 : Int) (a0_2 : Int) (a0_3 : Int) (a0_4 : List Int) (a0_5 : List UInt8) (a0_6 : List UInt8) (a1_0 : Int) (a1_1 : Int) (a1_2 : Int) (a1_3 : Int) (a1_4 : List Int) (a1_5 : List UInt8) (a1_6 : List UInt8) : afun (c9 F) Try.f9 [AV.agg [AV.int IntKind.i64 a0_0, AV.int IntKind.i64 a0_1, AV.int IntKind.i64 a0_2, AV.int IntKind.i64 a0_3, AV.ro (Pay.ints IntKind.i64 a0_4), AV.ro (Pay.bytes a0_5), AV.ro (Pay.bytes a0_6)], AV.agg [AV.int IntKind.i64 a1_0, AV.int IntKind.i64 a1_1, AV.int IntKind.i64 a1_2, AV.int IntKind.i64 a1_3, AV.ro (Pay.ints IntKind.i64 a1_4), AV.ro (Pay.bytes a1_5), AV.ro (Pay.bytes a1_6)]] [] =
  bif eqI a0_0 a1_0 then
    bif eqI a0_1 a1_1 then
      bif eqI a0_2 a1_2 then
        bif eqI a0_3 a1_3 then
          bif decide (a0_4 = a1_4) then
            bif eqS a0_5 a1_5 then
              .ret (AV.bool (eqS a0_6 a1_6)) [AObj.var 26 [AV.int IntKind.i64 a0_0, AV.int IntKind.i64 a0_1, AV.int IntKind.i64 a0_2, AV.int IntKind.i64 a0_3, AV.ro (Pay.ints IntKind.i64 a0_4), AV.ro (Pay.bytes a0_5), AV.ro (Pay.bytes a0_6)], AObj.var 26 [AV.int IntKind.i64 a1_0, AV.int IntKind.i64 a1_1, AV.int IntKind.i64 a1_2, AV.int IntKind.i64 a1_3, AV.ro (Pay.ints IntKind.i64 a1_4), AV.ro (Pay.bytes a1_5), AV.ro (Pay.bytes a1_6)]]
            else
              .ret (AV.bool false) [AObj.var 26 [AV.int IntKind.i64 a0_0, AV.int IntKind.i64 a0_1, AV.int IntKind.i64 a0_2, AV.int IntKind.i64 a0_3, AV.ro (Pay.ints IntKind.i64 a0_4), AV.ro (Pay.bytes a0_5), AV.ro (Pay.bytes a0_6)], AObj.var 26 [AV.int IntKind.i64 a1_0, AV.int IntKind.i64 a1_1, AV.int IntKind.i64 a1_2, AV.int IntKind.i64 a1_3, AV.ro (Pay.ints IntKind.i64 a1_4), AV.ro (Pay.bytes a1_5), AV.ro (Pay.bytes a1_6)]]
          else
            .ret (AV.bool false) [AObj.var 26 [AV.int IntKind.i64 a0_0, AV.int IntKind.i64 a0_1, AV.int IntKind.i64 a0_2, AV.int IntKind.i64 a0_3, AV.ro (Pay.ints IntKind.i64 a0_4), AV.ro (Pay.bytes a0_5), AV.ro (Pay.bytes a0_6)], AObj.var 26 [AV.int IntKind.i64 a1_0, AV.int IntKind.i64 a1_1, AV.int IntKind.i64 a1_2, AV.int IntKind.i64 a1_3, AV.ro (Pay.ints IntKind.i64 a1_4), AV.ro (Pay.bytes a1_5), AV.ro (Pay.bytes a1_6)]]
        else
          .ret (AV.bool false) [AObj.var 26 [AV.int IntKind.i64 a0_0, AV.int IntKind.i64 a0_1, AV.int IntKind.i64 a0_2, AV.int IntKind.i64 a0_3, AV.ro (Pay.ints IntKind.i64 a0_4), AV.ro (Pay.bytes a0_5), AV.ro (Pay.bytes a0_6)], AObj.var 26 [AV.int IntKind.i64 a1_0, AV.int IntKind.i64 a1_1, AV.int IntKind.i64 a1_2, AV.int IntKind.i64 a1_3, AV.ro (Pay.ints IntKind.i64 a1_4), AV.ro (Pay.bytes a1_5), AV.ro (Pay.bytes a1_6)]]
      else
        .ret (AV.bool false) [AObj.var 26 [AV.int IntKind.i64 a0_0, AV.int IntKind.i64 a0_1, AV.int IntKind.i64 a0_2, AV.int IntKind.i64 a0_3, AV.ro (Pay.ints IntKind.i64 a0_4), AV.ro (Pay.bytes a0_5), AV.ro (Pay.bytes a0_6)], AObj.var 26 [AV.int IntKind.i64 a1_0, AV.int IntKind.i64 a1_1, AV.int IntKind.i64 a1_2, AV.int IntKind.i64 a1_3, AV.ro (Pay.ints IntKind.i64 a1_4), AV.ro (Pay.bytes a1_5), AV.ro (Pay.bytes a1_6)]]
    else
      .ret (AV.bool false) [AObj.var 26 [AV.int IntKind.i64 a0_0, AV.int IntKind.i64 a0_1, AV.int IntKind.i64 a0_2, AV.int IntKind.i64 a0_3, AV.ro (Pay.ints IntKind.i64 a0_4), AV.ro (Pay.bytes a0_5), AV.ro (Pay.bytes a0_6)], AObj.var 26 [AV.int IntKind.i64 a1_0, AV.int IntKind.i64 a1_1, AV.int IntKind.i64 a1_2, AV.int IntKind.i64 a1_3, AV.ro (Pay.ints IntKind.i64 a1_4), AV.ro (Pay.bytes a1_5), AV.ro (Pay.bytes a1_6)]]
  else
    .ret (AV.bool false) [AObj.var 26 [AV.int IntKind.i64 a0_0, AV.int IntKind.i64 a0_1, AV.int IntKind.i64 a0_2, AV.int IntKind.i64 a0_3, AV.ro (Pay.ints IntKind.i64 a0_4), AV.ro (Pay.bytes a0_5), AV.ro (Pay.bytes a0_6)], AObj.var 26 [AV.int IntKind.i64 a1_0, AV.int IntKind.i64 a1_1, AV.int IntKind.i64 a1_2, AV.int IntKind.i64 a1_3, AV.ro (Pay.ints IntKind.i64 a1_4), AV.ro (Pay.bytes a1_5), AV.ro (Pay.bytes a1_6)]] := by kernel_rfl


def tt23 : Tab := [(0, ty0), (3, ty3), (5, ty5), (22, ty22), (24, ty24), (47, ty47)]
theorem tt23_ok : TabOk Try.prog tt23 := tabOk_of_all ⟨ty0_ok, ty3_ok, ty5_ok, ty22_ok, ty24_ok, ty47_ok, trivial⟩
def c23 (F : Nat) : Cfg := ⟨tt23, [(36, .pure go36)], F, [(0, ⟨[0, 7, 8, 9], []⟩)], [], 0⟩
noncomputable def f23_0 (F k : Nat) (x0 : List UInt8) (x7 : List Int) (x8 : Int) (x9 : Int) : Res := aloop (c23 F) Try.f23 0 [] k (St.mk [AV.ro (Pay.bytes x0), AV.top, AV.top, AV.top, AV.top, AV.top, AV.top, AV.ro (Pay.ints IntKind.i64 x7), AV.int IntKind.i64 x8, AV.int IntKind.i64 x9, AV.top, AV.top, AV.top, AV.top, AV.top, AV.top, AV.top, AV.top, AV.top] [])
noncomputable def f23_0_1 (F k : Nat) (x7 : List Int) (x8 : Int) (x9 : Int) (xh0 : List UInt8) : Res := aloop (c23 F) Try.f23 0 [] k (St.mk [AV.own 0, AV.top, AV.top, AV.top, AV.top, AV.top, AV.top, AV.ro (Pay.ints IntKind.i64 x7), AV.int IntKind.i64 x8, AV.int IntKind.i64 x9, AV.top, AV.top, AV.top, AV.top, AV.top, AV.top, AV.top, AV.top, AV.top] [AObj.arr 5 (Pay.bytes xh0)])
theorem f23_eq (F : Nat) (a0 : List UInt8) (a1 : List Int) : afun (c23 F) Try.f23 [AV.ro (Pay.bytes a0), AV.ro (Pay.ints IntKind.i64 a1)] [] =
  f23_0 F F a0 a1 ↑a1.length 0 := by kernel_rfl
theorem f23_0_eq (F k : Nat) (x0 : List UInt8) (x7 : List Int) (x8 : Int) (x9 : Int) : f23_0 F (k + 1) x0 x7 x8 x9 =
  bif ltI x9 x8 then
    bif inB x9 x7.length then
      bif (x0.length + 9).ble 140737488355328 then
        f23_0_1 F k x7 x8 (IntKind.i64.wrap (x9 + 1)) (x0 ++ enc (IntKind.u64.wrap (x7.getD x9.toNat 0)))
      else
        .stuck
    else
      .stuck
  else
    .ret (AV.ro (Pay.bytes x0)) [] := by kernel_rfl
theorem f23_0_1_eq (F k : Nat) (x7 : List Int) (x8 : Int) (x9 : Int) (xh0 : List UInt8) : f23_0_1 F (k + 1) x7 x8 x9 xh0 =
  bif ltI x9 x8 then
    bif inB x9 x7.length then
      bif (xh0.length + 9).ble 140737488355328 then
        f23_0_1 F k x7 x8 (IntKind.i64.wrap (x9 + 1)) (xh0 ++ enc (IntKind.u64.wrap (x7.getD x9.toNat 0)))
      else
        .stuck
    else
      .stuck
  else
    .ret (AV.own 0) [AObj.arr 5 (Pay.bytes xh0)] := by kernel_rfl


def tt17 : Tab := [(0, ty0), (1, ty1), (2, ty2), (3, ty3), (4, ty4), (5, ty5), (6, ty6), (9, ty9), (22, ty22), (24, ty24), (26, ty26), (47, ty47)]
theorem tt17_ok : TabOk Try.prog tt17 := tabOk_of_all ⟨ty0_ok, ty1_ok, ty2_ok, ty3_ok, ty4_ok, ty5_ok, ty6_ok, ty9_ok, ty22_ok, ty24_ok, ty26_ok, ty47_ok, trivial⟩
def c17 (F : Nat) : Cfg := ⟨tt17, [(29, .pure go29), (30, .pure go30)], F, [(0, ⟨[1, 3, 4, 5], [(4, 5)]⟩)], [], 0⟩
noncomputable def f17_0 (F k : Nat) (x5 : Int) (xh0 : Int) (xh0_1 : Int) (xh0_2 : Int) (xh0_3 : Int) (xh0_4 : List Int) (xh0_5 : List UInt8) (xh0_6 : List UInt8) (xh1 : List Int) (xh2 : List UInt8) : Res := aloop (c17 F) Try.f17 0 [] k (St.mk [AV.top, AV.ptr 0 0, AV.top, AV.own 1, AV.own 2, AV.int IntKind.i64 x5, AV.top, AV.top, AV.top, AV.top, AV.top, AV.top, AV.top, AV.top, AV.top, AV.top, AV.top, AV.top, AV.top, AV.top, AV.top, AV.top, AV.top, AV.top, AV.top, AV.top, AV.top, AV.top, AV.top, AV.top, AV.top, AV.top, AV.top, AV.top, AV.top, AV.top, AV.top, AV.top, AV.top, AV.top, AV.top, AV.top, AV.top, AV.top, AV.top, AV.top] [AObj.var 26 [AV.int IntKind.i64 xh0, AV.int IntKind.i64 xh0_1, AV.int IntKind.i64 xh0_2, AV.int IntKind.i64 xh0_3, AV.ro (Pay.ints IntKind.i64 xh0_4), AV.ro (Pay.bytes xh0_5), AV.ro (Pay.bytes xh0_6)], AObj.arr 3 (Pay.ints IntKind.i64 xh1), AObj.arr 5 (Pay.bytes xh2)])
theorem f17_eq (F : Nat) (a0_0 : Int) (a0_1 : Int) (a0_2 : Int) (a0_3 : Int) (a0_4 : List Int) (a0_5 : List UInt8) (a0_6 : List UInt8) : afun (c17 F) Try.f17 [AV.agg [AV.int IntKind.i64 a0_0, AV.int IntKind.i64 a0_1, AV.int IntKind.i64 a0_2, AV.int IntKind.i64 a0_3, AV.ro (Pay.ints IntKind.i64 a0_4), AV.ro (Pay.bytes a0_5), AV.ro (Pay.bytes a0_6)]] [] =
  bif appFits ty3 (Pay.ints IntKind.i64 (((([a0_0, 0, 0, 0, 0].set (1, Operand.tmp 9).fst a0_1).set (2, Operand.tmp 11).fst a0_2).set (3, Operand.tmp 13).fst a0_3).set (4, Operand.tmp 16).fst ↑a0_4.length ++ a0_4)) then
    f17_0 F F 0 a0_0 a0_1 a0_2 a0_3 a0_4 a0_5 a0_6 (((([a0_0, 0, 0, 0, 0].set (1, Operand.tmp 9).fst a0_1).set (2, Operand.tmp 11).fst a0_2).set (3, Operand.tmp 13).fst a0_3).set (4, Operand.tmp 16).fst ↑a0_4.length ++ a0_4) []
  else
    .stuck := by kernel_rfl
theorem f17_0_eq (F k : Nat) (x5 : Int) (xh0 : Int) (xh0_1 : Int) (xh0_2 : Int) (xh0_3 : Int) (xh0_4 : List Int) (xh0_5 : List UInt8) (xh0_6 : List UInt8) (xh1 : List Int) (xh2 : List UInt8) : f17_0 F (k + 1) x5 xh0 xh0_1 xh0_2 xh0_3 xh0_4 xh0_5 xh0_6 xh1 xh2 =
  bif ltI x5 ↑xh1.length then
    bif inB x5 xh1.length then
      bif appFits ty5 (Pay.bytes (xh2 ++ enc (IntKind.u64.wrap (xh1.getD x5.toNat 0)))) then
        f17_0 F k (IntKind.i64.wrap (x5 + 1)) xh0 xh0_1 xh0_2 xh0_3 xh0_4 xh0_5 xh0_6 xh1 (xh2 ++ enc (IntKind.u64.wrap (xh1.getD x5.toNat 0)))
      else
        .stuck
    else
      .stuck
  else
    bif (xh0_5.length + 9).ble 140737488355328 then
      bif appFits ty5 (Pay.bytes (xh2 ++ encT xh0_5)) then
        bif (xh0_6.length + 9).ble 140737488355328 then
          bif appFits ty5 (Pay.bytes (xh2 ++ encT xh0_5 ++ encT xh0_6)) then
            .ret (AV.own 1) [AObj.var 26 [AV.int IntKind.i64 xh0, AV.int IntKind.i64 xh0_1, AV.int IntKind.i64 xh0_2, AV.int IntKind.i64 xh0_3, AV.ro (Pay.ints IntKind.i64 xh0_4), AV.ro (Pay.bytes xh0_5), AV.ro (Pay.bytes xh0_6)], AObj.arr 5 (Pay.bytes (xh2 ++ encT xh0_5 ++ encT xh0_6)), AObj.arr 3 (Pay.ints IntKind.i64 xh1), AObj.arr 5 (Pay.bytes (encT xh0_5)), AObj.arr 5 (Pay.bytes (encT xh0_6))]
          else
            .stuck
        else
          .stuck
      else
        .stuck
    else
      .stuck := by kernel_rfl


def tt18 : Tab := [(0, ty0), (1, ty1), (2, ty2), (3, ty3), (4, ty4), (5, ty5), (22, ty22), (27, ty27), (42, ty42), (44, ty44), (47, ty47), (60, ty60)]
theorem tt18_ok : TabOk Try.prog tt18 := tabOk_of_all ⟨ty0_ok, ty1_ok, ty2_ok, ty3_ok, ty4_ok, ty5_ok, ty22_ok, ty27_ok, ty42_ok, ty44_ok, ty47_ok, ty60_ok, trivial⟩
def c18 (F : Nat) : Cfg := ⟨tt18, [(31, .pure go31)], F, [], [], 1⟩
theorem f18_eq (F : Nat) (b : List UInt8) (i : Int) (e : Int) : afun (c18 F) Try.f18 [AV.ptr 0 0] [AObj.var 44 [AV.ro (Pay.bytes b), AV.int IntKind.i64 i, AV.int IntKind.i64 e]] =
  bif !eqI e 0 then
    .ret (AV.int IntKind.i64 0) [AObj.var 44 [AV.ro (Pay.bytes b), AV.int IntKind.i64 i, AV.int IntKind.i64 e]]
  else
    .ret (AV.int IntKind.i64 (IntKind.i64.wrap (if 1073741825 < (getV b i).fst then 1073741825 else (getV b i).fst))) [AObj.var 44 [AV.ro (Pay.bytes b), AV.int IntKind.i64 (getV b i).snd.fst, AV.int IntKind.i64 (getV b i).snd.snd]] := by kernel_rfl


def tt19 : Tab := [(0, ty0), (1, ty1), (2, ty2), (3, ty3), (4, ty4), (5, ty5), (9, ty9), (22, ty22), (27, ty27), (42, ty42), (44, ty44), (62, ty62)]
theorem tt19_ok : TabOk Try.prog tt19 := tabOk_of_all ⟨ty0_ok, ty1_ok, ty2_ok, ty3_ok, ty4_ok, ty5_ok, ty9_ok, ty22_ok, ty27_ok, ty42_ok, ty44_ok, ty62_ok, trivial⟩
def c19 (F : Nat) : Cfg := ⟨tt19, [(32, .pure go32)], F, [], [], 1⟩
theorem f19_eq (F : Nat) (b : List UInt8) (i : Int) (e : Int) : afun (c19 F) Try.f19 [AV.ptr 0 0] [AObj.var 44 [AV.ro (Pay.bytes b), AV.int IntKind.i64 i, AV.int IntKind.i64 e]] =
  bif !eqI e 0 then
    .ret AV.nil [AObj.var 44 [AV.ro (Pay.bytes b), AV.int IntKind.i64 i, AV.int IntKind.i64 e]]
  else
    .ret (AV.ro (Pay.bytes (getT b i 1048576).fst)) [AObj.var 44 [AV.ro (Pay.bytes b), AV.int IntKind.i64 (getT b i 1048576).snd.fst, AV.int IntKind.i64 (getT b i 1048576).snd.snd]] := by kernel_rfl


theorem f15_run (F : Nat) (q t y p : Int) (x : List Int) (a b : Txt) (hm : x.length ≤ 9223372036854775807) (hk : 0 ≤ q ∧ q ≤ 10) (ht : inM t = true) (hy : inM y = true) (hp : inM p = true) : ∀ (d k j : Nat), j + d = x.length → d < k → (∀ i, i < j → inM (x.getD i 0) = true) →
    outR (f15_0 F k j q t y p x a b) = some (.bool (decide (⟨q, t, y, p, x, a, b⟩ : NoteV).Right), [])
  | 0, k + 1, j, h1, h2, h3 => by
    have hx : ∀ n ∈ x, 0 ≤ n ∧ n ≤ 1073741824 := by
      intro n hn
      obtain ⟨i, hi, rfl⟩ := List.getElem_of_mem hn
      have := inM_iff.1 (h3 i (by omega))
      rw [List.getD, List.getElem?_eq_getElem hi] at this
      exact this
    have ht := inM_iff.1 ht
    have hy := inM_iff.1 hy
    have hp := inM_iff.1 hp
    have hR : (⟨q, t, y, p, x, a, b⟩ : NoteV).Right ↔ (x.length ≤ 65536 ∧ (0 < x.length → q = 3)) ∧ (a.length ≤ 1048576 ∧ (0 < a.length → q = 5 ∨ q = 8)) ∧ (b.length ≤ 1048576 ∧ (0 < b.length → q = 8)) :=
      ⟨fun h => h.2.2.2.2.2, fun h => ⟨hk, ht, hy, hp, hx, h⟩⟩
    rw [f15_0_eq, bif_neg (by rw [ltI_iff]; omega)]
    simp only [Bool.cond_eq_ite, Bool.not_eq_true', Bool.and_eq_true, Bool.and_eq_false_iff, ltI_iff, leI_iff, eqI_iff, eqS_iff, inM_iff, allM_iff, ltI_f, leI_f, eqI_f, eqS_f, inM_f, allM_f, decide_eq_true_iff]
    repeat' split
    all_goals (refine leafR (P := (⟨q, t, y, p, x, a, b⟩ : NoteV).Right) ?_; rw [hR])
    all_goals (simp only [leI_iff, eqI_iff, Bool.false_eq_true, true_iff, false_iff]; omega)
  | d + 1, k + 1, j, h1, h2, h3 => by
    rw [f15_0_eq, bif_pos (by rw [ltI_iff]; omega), bif_pos (by rw [inB_iff]; omega), Int.toNat_natCast]
    by_cases h4 : inM (x.getD j 0) = true
    · rw [h4, Bool.not_true, cond_false, wrap64 (n := (j : Int) + 1) (by omega) (by omega), show (j : Int) + 1 = ((j + 1 : Nat) : Int) by omega]
      refine f15_run F q t y p x a b hm hk ht hy hp d k (j + 1) (by omega) (by omega) fun i hi => ?_
      by_cases h5 : i = j
      · rw [h5]; exact h4
      · exact h3 i (by omega)
    · rw [Bool.eq_false_iff.2 h4, Bool.not_false, cond_true]
      have : ¬ (⟨q, t, y, p, x, a, b⟩ : NoteV).Right := fun h => h4 (inM_iff.2 (h.2.2.2.2.1 _ (by rw [List.getD, List.getElem?_eq_getElem (by omega : j < x.length)]; exact List.getElem_mem _)))
      rw [decide_eq_false this]; rfl

theorem ok14 : PureOk Try.prog 14 go14 := by
  refine pureOk_of (c14 rounds) tt14_ok (.cons ok25 .nil) follows rfl Try.func14 (by kernel_rfl) (by kernel_rfl) ?_ ?_
  · intro R stk args ret
    unfold go14
    split
    · rfl
    · rfl
  · intro args r objs h hr
    unfold go14 at h
    split at h
    · rename_i k t y p w a b
      cases h
      refine ⟨_, ?_, .same⟩
      rw [apure_out]
      rw [f14_eq, show ([t, 0, 0].set (1, Operand.tmp 18).fst y).set (2, Operand.tmp 20).fst p = [t, y, p] from rfl, all3]
      by_cases hP : ∀ x ∈ w, 0 ≤ x ∧ x ≤ 1073741824
      · have hQ : (⟨k, t, y, p, w, a, b⟩ : NoteV).Right ↔ (0 ≤ k ∧ k ≤ 10) ∧ (0 ≤ t ∧ t ≤ 1073741824) ∧ (0 ≤ y ∧ y ≤ 1073741824) ∧ (0 ≤ p ∧ p ≤ 1073741824) ∧ (w.length ≤ 65536 ∧ (0 < w.length → k = 3)) ∧ (a.length ≤ 1048576 ∧ (0 < a.length → k = 5 ∨ k = 8)) ∧ (b.length ≤ 1048576 ∧ (0 < b.length → k = 8)) :=
          ⟨fun h => ⟨h.1, h.2.1, h.2.2.1, h.2.2.2.1, h.2.2.2.2.2⟩, fun h => ⟨h.1, h.2.1, h.2.2.1, h.2.2.2.1, hP, h.2.2.2.2⟩⟩
        rw [allM_iff.2 hP, Bool.not_true, cond_false]
        simp only [Bool.cond_eq_ite, Bool.not_eq_true', Bool.and_eq_true, Bool.and_eq_false_iff, ltI_iff, leI_iff, eqI_iff, eqS_iff, inM_iff, allM_iff, ltI_f, leI_f, eqI_f, eqS_f, inM_f, allM_f, decide_eq_true_iff]
        repeat' split
        all_goals (refine leafR (P := (⟨k, t, y, p, w, a, b⟩ : NoteV).Right) ?_; rw [hQ])
        all_goals (simp only [leI_iff, eqI_iff, Bool.false_eq_true, true_iff, false_iff]; omega)
      · rw [decide_eq_false (fun h => hP h.2.2.2.2.1), allM_f.2 hP]
        cases ltI k 0 <;> cases leI 11 k <;> cases (inM t && (inM y && inM p)) <;> rfl
    · cases h

theorem ok15 : PureOk Try.prog 15 go14 := by
  refine pureOk_of (c15 rounds) tt15_ok (.cons ok26 .nil) follows rfl Try.func15 (by kernel_rfl) (by kernel_rfl) ?_ ?_
  · intro R stk args ret
    unfold go14
    split
    · rfl
    · rfl
  · intro args r objs h hr
    unfold go14 at h
    split at h
    · rename_i k t y p w a b
      cases h
      have hl := int_rows hr.agg.tail.tail.tail.tail
      unfold maxLen at hl
      refine ⟨_, ?_, .same⟩
      rw [apure_out]
      rw [f15_eq]
      cases h1 : ltI k 0 with
      | true => rw [decide_eq_false (fun h => by have := ltI_iff.1 h1; have := h.1; dsimp only at this; omega)]; rfl
      | false =>
        cases h2 : ltI 10 k with
        | true => rw [decide_eq_false (fun h => by have := ltI_iff.1 h2; have := h.1; dsimp only at this; omega)]; rfl
        | false =>
          cases h3 : inM t with
          | false => rw [decide_eq_false (fun h => by have := inM_f.1 h3; have := h.2.1; dsimp only at this; omega)]; rfl
          | true =>
            cases h4 : inM y with
            | false => rw [decide_eq_false (fun h => by have := inM_f.1 h4; have := h.2.2.1; dsimp only at this; omega)]; rfl
            | true =>
              cases h5 : inM p with
              | false => rw [decide_eq_false (fun h => by have := inM_f.1 h5; have := h.2.2.2.1; dsimp only at this; omega)]; rfl
              | true =>
                exact f15_run _ k t y p w a b (by omega) (by have := ltI_f.1 h1; have := ltI_f.1 h2; omega) h3 h4 h5 w.length rounds 0 (by omega) (by unfold rounds; omega) (fun i hi => absurd hi (by omega))
    · cases h

theorem ok16 : PureOk Try.prog 16 go16 := by
  refine pureOk_of (c16 rounds) tt16_ok (.cons ok27 (.cons ok28 .nil)) follows rfl Try.func16 (by kernel_rfl) (by kernel_rfl) ?_ ?_
  · intro R stk args ret
    unfold go16
    split
    · rfl
    · rfl
  · intro args r objs h hr
    unfold go16 at h
    split at h
    · rename_i k t y p w a b k1 t1 y1 p1 w1 a1 b1
      cases h
      refine ⟨_, ?_, .same⟩
      rw [apure_out]
      rw [f16_eq]
      have hQ : (⟨k, t, y, p, w, a, b⟩ : NoteV) = (⟨k1, t1, y1, p1, w1, a1, b1⟩ : NoteV) ↔ k = k1 ∧ t = t1 ∧ y = y1 ∧ p = p1 ∧ w = w1 ∧ a = a1 ∧ b = b1 := by rw [NoteV.mk.injEq]
      simp only [Bool.cond_eq_ite, Bool.not_eq_true', Bool.and_eq_true, Bool.and_eq_false_iff, ltI_iff, leI_iff, eqI_iff, eqS_iff, inM_iff, allM_iff, ltI_f, leI_f, eqI_f, eqS_f, inM_f, allM_f, decide_eq_true_iff]
      repeat' split
      all_goals (refine leafR (P := (⟨k, t, y, p, w, a, b⟩ : NoteV) = (⟨k1, t1, y1, p1, w1, a1, b1⟩ : NoteV)) ?_; rw [hQ])
      all_goals (simp only [eqS_iff, Bool.false_eq_true, *, true_and, false_and, and_false])
    · cases h

theorem ok9 : PureOk Try.prog 9 go16 := by
  refine pureOk_of (c9 rounds) tt9_ok (.cons ok22 .nil) follows rfl Try.func9 (by kernel_rfl) (by kernel_rfl) ?_ ?_
  · intro R stk args ret
    unfold go16
    split
    · rfl
    · rfl
  · intro args r objs h hr
    unfold go16 at h
    split at h
    · rename_i k t y p w a b k1 t1 y1 p1 w1 a1 b1
      cases h
      refine ⟨_, ?_, .same⟩
      rw [apure_out]
      rw [f9_eq]
      have hQ : (⟨k, t, y, p, w, a, b⟩ : NoteV) = (⟨k1, t1, y1, p1, w1, a1, b1⟩ : NoteV) ↔ k = k1 ∧ t = t1 ∧ y = y1 ∧ p = p1 ∧ w = w1 ∧ a = a1 ∧ b = b1 := by rw [NoteV.mk.injEq]
      simp only [Bool.cond_eq_ite, Bool.not_eq_true', Bool.and_eq_true, Bool.and_eq_false_iff, ltI_iff, leI_iff, eqI_iff, eqS_iff, inM_iff, allM_iff, ltI_f, leI_f, eqI_f, eqS_f, inM_f, allM_f, decide_eq_true_iff]
      repeat' split
      all_goals (refine leafR (P := (⟨k, t, y, p, w, a, b⟩ : NoteV) = (⟨k1, t1, y1, p1, w1, a1, b1⟩ : NoteV)) ?_; rw [hQ])
      all_goals (simp only [eqS_iff, Bool.false_eq_true, *, true_and, false_and, and_false])
    · cases h

end Go.Proofs.YtjdojmjkldpgnaaG
