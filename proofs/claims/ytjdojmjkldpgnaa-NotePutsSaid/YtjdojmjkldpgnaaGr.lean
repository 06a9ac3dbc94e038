/- A part of the proof: plain laws, and what functions of the given program come to; no condition. -/
import Derived.Test.YtjdojmjkldpgnaaGq
namespace Go.Proofs.YtjdojmjkldpgnaaG
open Go Go.Proofs.YtjdojmjkldpgnaaGm
set_option maxRecDepth 100000
set_option maxHeartbeats 0

def tt12 : Tab := [(0, ty0), (1, ty1), (2, ty2), (3, ty3), (4, ty4), (5, ty5), (6, ty6), (9, ty9), (22, ty22), (24, ty24), (26, ty26), (27, ty27)]
theorem tt12_ok : TabOk Try.prog tt12 := tabOk_of_all ⟨ty0_ok, ty1_ok, ty2_ok, ty3_ok, ty4_ok, ty5_ok, ty6_ok, ty9_ok, ty22_ok, ty24_ok, ty26_ok, ty27_ok, trivial⟩
def c12 (F : Nat) : Cfg := ⟨tt12, [(14, .pure go14), (23, .pure (normGo [.leaf .bytes] go23)), (24, .pure go24)], F, [], [], 0⟩
theorem f12_eq (F : Nat) (k : Int) (t : Int) (y : Int) (p : Int) (w : List Int) (a : List UInt8) (b : List UInt8) : afun (c12 F) Try.f12 [AV.agg [AV.int IntKind.i64 k, AV.int IntKind.i64 t, AV.int IntKind.i64 y, AV.int IntKind.i64 p, AV.ro (Pay.ints IntKind.i64 w), AV.ro (Pay.bytes a), AV.ro (Pay.bytes b)]] [] =
  bif !decide (NoteV.mk k t y p w a b).Right then
    .ret (AV.tup [AV.nil, AV.int IntKind.i64 3]) [AObj.var 26 [AV.int IntKind.i64 k, AV.int IntKind.i64 t, AV.int IntKind.i64 y, AV.int IntKind.i64 p, AV.ro (Pay.ints IntKind.i64 w), AV.ro (Pay.bytes a), AV.ro (Pay.bytes b)]]
  else
    bif (([] ++ encs (((([k, 0, 0, 0, 0].set (1, Operand.tmp 11).fst t).set (2, Operand.tmp 13).fst y).set (3, Operand.tmp 15).fst p).set (4, Operand.tmp 18).fst ↑w.length)).length + 9 * w.length).ble 140737488355328 then
      bif (([] ++ encs (((([k, 0, 0, 0, 0].set (1, Operand.tmp 11).fst t).set (2, Operand.tmp 13).fst y).set (3, Operand.tmp 15).fst p).set (4, Operand.tmp 18).fst ↑w.length) ++ encs w).length + a.length + 9).ble 140737488355328 then
        bif (([] ++ encs (((([k, 0, 0, 0, 0].set (1, Operand.tmp 11).fst t).set (2, Operand.tmp 13).fst y).set (3, Operand.tmp 15).fst p).set (4, Operand.tmp 18).fst ↑w.length) ++ encs w ++ encT a).length + b.length + 9).ble 140737488355328 then
          .ret (AV.tup [AV.ro (Pay.bytes ([] ++ encs (((([k, 0, 0, 0, 0].set (1, Operand.tmp 11).fst t).set (2, Operand.tmp 13).fst y).set (3, Operand.tmp 15).fst p).set (4, Operand.tmp 18).fst ↑w.length) ++ encs w ++ encT a ++ encT b)), AV.int IntKind.i64 0]) [AObj.var 26 [AV.int IntKind.i64 k, AV.int IntKind.i64 t, AV.int IntKind.i64 y, AV.int IntKind.i64 p, AV.ro (Pay.ints IntKind.i64 w), AV.ro (Pay.bytes a), AV.ro (Pay.bytes b)], AObj.dead]
        else
          .stuck
      else
        .stuck
    else
      .stuck := by kernel_rfl


def tt7 : Tab := [(0, ty0), (1, ty1), (3, ty3), (4, ty4), (5, ty5), (6, ty6), (9, ty9), (22, ty22), (24, ty24), (26, ty26), (47, ty47), (48, ty48), (50, ty50)]
theorem tt7_ok : TabOk Try.prog tt7 := tabOk_of_all ⟨ty0_ok, ty1_ok, ty3_ok, ty4_ok, ty5_ok, ty6_ok, ty9_ok, ty22_ok, ty24_ok, ty26_ok, ty47_ok, ty48_ok, ty50_ok, trivial⟩
def c7 (F : Nat) : Cfg := ⟨tt7, [(20, .pure go31), (21, .pure go32), (15, .pure (normGo [.agg [.keep, .keep, .keep, .keep, .ints .i64, .bytes, .bytes]] go14))], F, [(0, ⟨[0, 2, 4, 5, 6], [(4, 3)]⟩), (2, ⟨[0, 2, 4, 5, 10, 11], []⟩)], [], 0⟩
noncomputable def f7_0 (F k : Nat) (x0 : List UInt8) (x5 : Int) (x6 : Int) (xh0 : Int) (xh0_1 : Int) (xh0_2 : Int) (xh0_3 : Int) (xh1 : List Int) : Res := aloop (c7 F) Try.f7 0 [] k (St.mk [AV.ro (Pay.bytes x0), AV.top, AV.ptr 0 0, AV.top, AV.own 1, AV.int IntKind.i64 x5, AV.int IntKind.i64 x6, AV.top, AV.top, AV.top, AV.top, AV.top, AV.top, AV.top, AV.top, AV.top, AV.top, AV.top, AV.top, AV.top, AV.top, AV.top, AV.top, AV.top, AV.top, AV.top, AV.top, AV.top, AV.top, AV.top, AV.top, AV.top, AV.top, AV.top, AV.top, AV.top, AV.top, AV.top, AV.top, AV.top, AV.top, AV.top, AV.top, AV.top, AV.top, AV.top, AV.top, AV.top, AV.top, AV.top, AV.top, AV.top, AV.top, AV.top, AV.top, AV.top, AV.top, AV.top, AV.top, AV.top, AV.top, AV.top, AV.top, AV.top, AV.top, AV.top, AV.top, AV.top, AV.top, AV.top, AV.top, AV.top, AV.top, AV.top, AV.top, AV.top, AV.top, AV.top, AV.top, AV.top, AV.top, AV.top, AV.top, AV.top, AV.top, AV.top, AV.top, AV.top, AV.top, AV.top, AV.top, AV.top, AV.top, AV.top, AV.top, AV.top, AV.top, AV.top, AV.top, AV.top, AV.top, AV.top, AV.top, AV.top, AV.top, AV.top, AV.top, AV.top, AV.top, AV.top, AV.top, AV.top, AV.top, AV.top, AV.top, AV.top, AV.top, AV.top, AV.top, AV.top, AV.top, AV.top, AV.top, AV.top, AV.top, AV.top, AV.top, AV.top, AV.top] [AObj.var 26 [AV.int IntKind.i64 xh0, AV.int IntKind.i64 xh0_1, AV.int IntKind.i64 xh0_2, AV.int IntKind.i64 xh0_3, AV.nil, AV.nil, AV.nil], AObj.arr 3 (Pay.ints IntKind.i64 xh1)])
noncomputable def f7_2 (F k : Nat) (x0 : List UInt8) (x5 : Int) (x11 : Int) (xh0 : Int) (xh0_1 : Int) (xh0_2 : Int) (xh0_3 : Int) (xh1 : List Int) (xh2 : Int) (xh2_1 : Int) (xh2_2 : Int) (xh2_3 : Int) : Res := aloop (c7 F) Try.f7 2 [] k (St.mk [AV.ro (Pay.bytes x0), AV.top, AV.ptr 0 0, AV.top, AV.own 1, AV.int IntKind.i64 x5, AV.top, AV.top, AV.top, AV.top, AV.ptr 2 0, AV.int IntKind.i64 x11, AV.top, AV.top, AV.top, AV.top, AV.top, AV.top, AV.top, AV.top, AV.top, AV.top, AV.top, AV.top, AV.top, AV.top, AV.top, AV.top, AV.top, AV.top, AV.top, AV.top, AV.top, AV.top, AV.top, AV.top, AV.top, AV.top, AV.top, AV.top, AV.top, AV.top, AV.top, AV.top, AV.top, AV.top, AV.top, AV.top, AV.top, AV.top, AV.top, AV.top, AV.top, AV.top, AV.top, AV.top, AV.top, AV.top, AV.top, AV.top, AV.top, AV.top, AV.top, AV.top, AV.top, AV.top, AV.top, AV.top, AV.top, AV.top, AV.top, AV.top, AV.top, AV.top, AV.top, AV.top, AV.top, AV.top, AV.top, AV.top, AV.top, AV.top, AV.top, AV.top, AV.top, AV.top, AV.top, AV.top, AV.top, AV.top, AV.top, AV.top, AV.top, AV.top, AV.top, AV.top, AV.top, AV.top, AV.top, AV.top, AV.top, AV.top, AV.top, AV.top, AV.top, AV.top, AV.top, AV.top, AV.top, AV.top, AV.top, AV.top, AV.top, AV.top, AV.top, AV.top, AV.top, AV.top, AV.top, AV.top, AV.top, AV.top, AV.top, AV.top, AV.top, AV.top, AV.top, AV.top, AV.top] [AObj.var 26 [AV.int IntKind.i64 xh0, AV.int IntKind.i64 xh0_1, AV.int IntKind.i64 xh0_2, AV.int IntKind.i64 xh0_3, AV.nil, AV.nil, AV.nil], AObj.arr 3 (Pay.ints IntKind.i64 xh1), AObj.var 26 [AV.int IntKind.i64 xh2, AV.int IntKind.i64 xh2_1, AV.int IntKind.i64 xh2_2, AV.int IntKind.i64 xh2_3, AV.nil, AV.nil, AV.nil]])
noncomputable def f7_2_1 (F k : Nat) (x0 : List UInt8) (x5 : Int) (x11 : Int) (xh0 : Int) (xh0_1 : Int) (xh0_2 : Int) (xh0_3 : Int) (xh1 : List Int) (xh2 : Int) (xh2_1 : Int) (xh2_2 : Int) (xh2_3 : Int) (xh3 : List Int) : Res := aloop (c7 F) Try.f7 2 [] k (St.mk [AV.ro (Pay.bytes x0), AV.top, AV.ptr 0 0, AV.top, AV.own 1, AV.int IntKind.i64 x5, AV.top, AV.top, AV.top, AV.top, AV.ptr 2 0, AV.int IntKind.i64 x11, AV.top, AV.top, AV.top, AV.top, AV.top, AV.top, AV.top, AV.top, AV.top, AV.top, AV.top, AV.top, AV.top, AV.top, AV.top, AV.top, AV.top, AV.top, AV.top, AV.top, AV.top, AV.top, AV.top, AV.top, AV.top, AV.top, AV.top, AV.top, AV.top, AV.top, AV.top, AV.top, AV.top, AV.top, AV.top, AV.top, AV.top, AV.top, AV.top, AV.top, AV.top, AV.top, AV.top, AV.top, AV.top, AV.top, AV.top, AV.top, AV.top, AV.top, AV.top, AV.top, AV.top, AV.top, AV.top, AV.top, AV.top, AV.top, AV.top, AV.top, AV.top, AV.top, AV.top, AV.top, AV.top, AV.top, AV.top, AV.top, AV.top, AV.top, AV.top, AV.top, AV.top, AV.top, AV.top, AV.top, AV.top, AV.top, AV.top, AV.top, AV.top, AV.top, AV.top, AV.top, AV.top, AV.top, AV.top, AV.top, AV.top, AV.top, AV.top, AV.top, AV.top, AV.top, AV.top, AV.top, AV.top, AV.top, AV.top, AV.top, AV.top, AV.top, AV.top, AV.top, AV.top, AV.top, AV.top, AV.top, AV.top, AV.top, AV.top, AV.top, AV.top, AV.top, AV.top, AV.top, AV.top] [AObj.var 26 [AV.int IntKind.i64 xh0, AV.int IntKind.i64 xh0_1, AV.int IntKind.i64 xh0_2, AV.int IntKind.i64 xh0_3, AV.nil, AV.nil, AV.nil], AObj.arr 3 (Pay.ints IntKind.i64 xh1), AObj.var 26 [AV.int IntKind.i64 xh2, AV.int IntKind.i64 xh2_1, AV.int IntKind.i64 xh2_2, AV.int IntKind.i64 xh2_3, AV.own 3, AV.nil, AV.nil], AObj.arr 3 (Pay.ints IntKind.i64 xh3)])
theorem f7_eq (F : Nat) (a0 : List UInt8) : afun (c7 F) Try.f7 [AV.ro (Pay.bytes a0)] [] =
  f7_0 F F a0 0 0 0 0 0 0 [] := by kernel_rfl
theorem f7_0_eq (F k : Nat) (x0 : List UInt8) (x5 : Int) (x6 : Int) (xh0 : Int) (xh0_1 : Int) (xh0_2 : Int) (xh0_3 : Int) (xh1 : List Int) : f7_0 F (k + 1) x0 x5 x6 xh0 xh0_1 xh0_2 xh0_3 xh1 =
  bif ltI x6 5 then
    bif !eqI (getV x0 x5).snd.snd 0 then
      .ret (AV.tup [AV.agg [AV.int IntKind.i64 0, AV.int IntKind.i64 0, AV.int IntKind.i64 0, AV.int IntKind.i64 0, AV.nil, AV.nil, AV.nil], AV.int IntKind.i64 (getV x0 x5).snd.snd]) [AObj.var 26 [AV.int IntKind.i64 0, AV.int IntKind.i64 0, AV.int IntKind.i64 0, AV.int IntKind.i64 0, AV.nil, AV.nil, AV.nil], AObj.arr 3 (Pay.ints IntKind.i64 xh1)]
    else
      bif ltI 1073741824 (getV x0 x5).fst then
        bif appFits ty3 (Pay.ints IntKind.i64 (xh1 ++ [IntKind.i64.wrap 1073741825])) then
          f7_0 F k x0 ((getV x0 x5).snd.fst) (IntKind.i64.wrap (x6 + 1)) xh0 xh0_1 xh0_2 xh0_3 (xh1 ++ [IntKind.i64.wrap 1073741825])
        else
          .stuck
      else
        bif appFits ty3 (Pay.ints IntKind.i64 (xh1 ++ [IntKind.i64.wrap (getV x0 x5).fst])) then
          f7_0 F k x0 ((getV x0 x5).snd.fst) (IntKind.i64.wrap (x6 + 1)) xh0 xh0_1 xh0_2 xh0_3 (xh1 ++ [IntKind.i64.wrap (getV x0 x5).fst])
        else
          .stuck
  else
    bif inB 4 xh1.length then
      bif ltI 65536 (xh1.getD (Int.toNat 4) 0) then
        .ret (AV.tup [AV.agg [AV.int IntKind.i64 0, AV.int IntKind.i64 0, AV.int IntKind.i64 0, AV.int IntKind.i64 0, AV.nil, AV.nil, AV.nil], AV.int IntKind.i64 3]) [AObj.var 26 [AV.int IntKind.i64 0, AV.int IntKind.i64 0, AV.int IntKind.i64 0, AV.int IntKind.i64 0, AV.nil, AV.nil, AV.nil], AObj.arr 3 (Pay.ints IntKind.i64 xh1)]
      else
        bif inB 0 xh1.length then
          bif inB 1 xh1.length then
            bif inB 2 xh1.length then
              bif inB 3 xh1.length then
                f7_2 F F x0 x5 0 xh0 xh0_1 xh0_2 xh0_3 xh1 (xh1.getD (Int.toNat 0) 0) (xh1.getD (Int.toNat 1) 0) (xh1.getD (Int.toNat 2) 0) (xh1.getD (Int.toNat 3) 0)
              else
                .stuck
            else
              .stuck
          else
            .stuck
        else
          .stuck
    else
      .stuck := by kernel_rfl
theorem f7_2_eq (F k : Nat) (x0 : List UInt8) (x5 : Int) (x11 : Int) (xh0 : Int) (xh0_1 : Int) (xh0_2 : Int) (xh0_3 : Int) (xh1 : List Int) (xh2 : Int) (xh2_1 : Int) (xh2_2 : Int) (xh2_3 : Int) : f7_2 F (k + 1) x0 x5 x11 xh0 xh0_1 xh0_2 xh0_3 xh1 xh2 xh2_1 xh2_2 xh2_3 =
  bif inB 4 xh1.length then
    bif ltI x11 (xh1.getD (Int.toNat 4) 0) then
      bif !eqI (getV x0 x5).snd.snd 0 then
        .ret (AV.tup [AV.agg [AV.int IntKind.i64 0, AV.int IntKind.i64 0, AV.int IntKind.i64 0, AV.int IntKind.i64 0, AV.nil, AV.nil, AV.nil], AV.int IntKind.i64 (getV x0 x5).snd.snd]) [AObj.var 26 [AV.int IntKind.i64 0, AV.int IntKind.i64 0, AV.int IntKind.i64 0, AV.int IntKind.i64 0, AV.nil, AV.nil, AV.nil], AObj.arr 3 (Pay.ints IntKind.i64 xh1), AObj.var 26 [AV.int IntKind.i64 xh2, AV.int IntKind.i64 xh2_1, AV.int IntKind.i64 xh2_2, AV.int IntKind.i64 xh2_3, AV.nil, AV.nil, AV.nil]]
      else
        bif ltI 1073741824 (getV x0 x5).fst then
          f7_2_1 F k x0 ((getV x0 x5).snd.fst) (IntKind.i64.wrap (x11 + 1)) xh0 xh0_1 xh0_2 xh0_3 xh1 xh2 xh2_1 xh2_2 xh2_3 ([] ++ [IntKind.i64.wrap 1073741825])
        else
          f7_2_1 F k x0 ((getV x0 x5).snd.fst) (IntKind.i64.wrap (x11 + 1)) xh0 xh0_1 xh0_2 xh0_3 xh1 xh2 xh2_1 xh2_2 xh2_3 ([] ++ [IntKind.i64.wrap (getV x0 x5).fst])
    else
      bif !eqI (getT x0 x5 1048576).snd.snd 0 then
        .ret (AV.tup [AV.agg [AV.int IntKind.i64 0, AV.int IntKind.i64 0, AV.int IntKind.i64 0, AV.int IntKind.i64 0, AV.nil, AV.nil, AV.nil], AV.int IntKind.i64 (getT x0 x5 1048576).snd.snd]) [AObj.var 26 [AV.int IntKind.i64 0, AV.int IntKind.i64 0, AV.int IntKind.i64 0, AV.int IntKind.i64 0, AV.nil, AV.nil, AV.nil], AObj.arr 3 (Pay.ints IntKind.i64 xh1), AObj.var 26 [AV.int IntKind.i64 xh2, AV.int IntKind.i64 xh2_1, AV.int IntKind.i64 xh2_2, AV.int IntKind.i64 xh2_3, AV.nil, AV.nil, AV.nil]]
      else
        bif !eqI (getT x0 (getT x0 x5 1048576).snd.fst 1048576).snd.snd 0 then
          .ret (AV.tup [AV.agg [AV.int IntKind.i64 0, AV.int IntKind.i64 0, AV.int IntKind.i64 0, AV.int IntKind.i64 0, AV.nil, AV.nil, AV.nil], AV.int IntKind.i64 (getT x0 (getT x0 x5 1048576).snd.fst 1048576).snd.snd]) [AObj.var 26 [AV.int IntKind.i64 0, AV.int IntKind.i64 0, AV.int IntKind.i64 0, AV.int IntKind.i64 0, AV.nil, AV.nil, AV.nil], AObj.arr 3 (Pay.ints IntKind.i64 xh1), AObj.var 26 [AV.int IntKind.i64 xh2, AV.int IntKind.i64 xh2_1, AV.int IntKind.i64 xh2_2, AV.int IntKind.i64 xh2_3, AV.nil, AV.nil, AV.nil]]
        else
          bif ltI (getT x0 (getT x0 x5 1048576).snd.fst 1048576).snd.fst ↑x0.length then
            .ret (AV.tup [AV.agg [AV.int IntKind.i64 0, AV.int IntKind.i64 0, AV.int IntKind.i64 0, AV.int IntKind.i64 0, AV.nil, AV.nil, AV.nil], AV.int IntKind.i64 3]) [AObj.var 26 [AV.int IntKind.i64 0, AV.int IntKind.i64 0, AV.int IntKind.i64 0, AV.int IntKind.i64 0, AV.nil, AV.nil, AV.nil], AObj.arr 3 (Pay.ints IntKind.i64 xh1), AObj.var 26 [AV.int IntKind.i64 xh2, AV.int IntKind.i64 xh2_1, AV.int IntKind.i64 xh2_2, AV.int IntKind.i64 xh2_3, AV.nil, AV.ro (Pay.bytes (getT x0 x5 1048576).fst), AV.ro (Pay.bytes (getT x0 (getT x0 x5 1048576).snd.fst 1048576).fst)]]
          else
            bif !decide (NoteV.mk xh2 xh2_1 xh2_2 xh2_3 [] (getT x0 x5 1048576).fst (getT x0 (getT x0 x5 1048576).snd.fst 1048576).fst).Right then
              .ret (AV.tup [AV.agg [AV.int IntKind.i64 0, AV.int IntKind.i64 0, AV.int IntKind.i64 0, AV.int IntKind.i64 0, AV.nil, AV.nil, AV.nil], AV.int IntKind.i64 3]) [AObj.var 26 [AV.int IntKind.i64 0, AV.int IntKind.i64 0, AV.int IntKind.i64 0, AV.int IntKind.i64 0, AV.nil, AV.nil, AV.nil], AObj.arr 3 (Pay.ints IntKind.i64 xh1), AObj.var 26 [AV.int IntKind.i64 xh2, AV.int IntKind.i64 xh2_1, AV.int IntKind.i64 xh2_2, AV.int IntKind.i64 xh2_3, AV.nil, AV.ro (Pay.bytes (getT x0 x5 1048576).fst), AV.ro (Pay.bytes (getT x0 (getT x0 x5 1048576).snd.fst 1048576).fst)]]
            else
              .ret (AV.tup [AV.agg [AV.int IntKind.i64 xh2, AV.int IntKind.i64 xh2_1, AV.int IntKind.i64 xh2_2, AV.int IntKind.i64 xh2_3, AV.nil, AV.ro (Pay.bytes (getT x0 x5 1048576).fst), AV.ro (Pay.bytes (getT x0 (getT x0 x5 1048576).snd.fst 1048576).fst)], AV.int IntKind.i64 0]) [AObj.var 26 [AV.int IntKind.i64 xh2, AV.int IntKind.i64 xh2_1, AV.int IntKind.i64 xh2_2, AV.int IntKind.i64 xh2_3, AV.nil, AV.ro (Pay.bytes (getT x0 x5 1048576).fst), AV.ro (Pay.bytes (getT x0 (getT x0 x5 1048576).snd.fst 1048576).fst)], AObj.arr 3 (Pay.ints IntKind.i64 xh1), AObj.var 26 [AV.int IntKind.i64 xh2, AV.int IntKind.i64 xh2_1, AV.int IntKind.i64 xh2_2, AV.int IntKind.i64 xh2_3, AV.nil, AV.ro (Pay.bytes (getT x0 x5 1048576).fst), AV.ro (Pay.bytes (getT x0 (getT x0 x5 1048576).snd.fst 1048576).fst)]]
  else
    .stuck := by kernel_rfl
theorem f7_2_1_eq (F k : Nat) (x0 : List UInt8) (x5 : Int) (x11 : Int) (xh0 : Int) (xh0_1 : Int) (xh0_2 : Int) (xh0_3 : Int) (xh1 : List Int) (xh2 : Int) (xh2_1 : Int) (xh2_2 : Int) (xh2_3 : Int) (xh3 : List Int) : f7_2_1 F (k + 1) x0 x5 x11 xh0 xh0_1 xh0_2 xh0_3 xh1 xh2 xh2_1 xh2_2 xh2_3 xh3 =
  bif inB 4 xh1.length then
    bif ltI x11 (xh1.getD (Int.toNat 4) 0) then
      bif !eqI (getV x0 x5).snd.snd 0 then
        .ret (AV.tup [AV.agg [AV.int IntKind.i64 0, AV.int IntKind.i64 0, AV.int IntKind.i64 0, AV.int IntKind.i64 0, AV.nil, AV.nil, AV.nil], AV.int IntKind.i64 (getV x0 x5).snd.snd]) [AObj.var 26 [AV.int IntKind.i64 0, AV.int IntKind.i64 0, AV.int IntKind.i64 0, AV.int IntKind.i64 0, AV.nil, AV.nil, AV.nil], AObj.arr 3 (Pay.ints IntKind.i64 xh1), AObj.var 26 [AV.int IntKind.i64 xh2, AV.int IntKind.i64 xh2_1, AV.int IntKind.i64 xh2_2, AV.int IntKind.i64 xh2_3, AV.own 3, AV.nil, AV.nil], AObj.arr 3 (Pay.ints IntKind.i64 xh3)]
      else
        bif ltI 1073741824 (getV x0 x5).fst then
          bif appFits ty3 (Pay.ints IntKind.i64 (xh3 ++ [IntKind.i64.wrap 1073741825])) then
            f7_2_1 F k x0 ((getV x0 x5).snd.fst) (IntKind.i64.wrap (x11 + 1)) xh0 xh0_1 xh0_2 xh0_3 xh1 xh2 xh2_1 xh2_2 xh2_3 (xh3 ++ [IntKind.i64.wrap 1073741825])
          else
            .stuck
        else
          bif appFits ty3 (Pay.ints IntKind.i64 (xh3 ++ [IntKind.i64.wrap (getV x0 x5).fst])) then
            f7_2_1 F k x0 ((getV x0 x5).snd.fst) (IntKind.i64.wrap (x11 + 1)) xh0 xh0_1 xh0_2 xh0_3 xh1 xh2 xh2_1 xh2_2 xh2_3 (xh3 ++ [IntKind.i64.wrap (getV x0 x5).fst])
          else
            .stuck
    else
      bif !eqI (getT x0 x5 1048576).snd.snd 0 then
        .ret (AV.tup [AV.agg [AV.int IntKind.i64 0, AV.int IntKind.i64 0, AV.int IntKind.i64 0, AV.int IntKind.i64 0, AV.nil, AV.nil, AV.nil], AV.int IntKind.i64 (getT x0 x5 1048576).snd.snd]) [AObj.var 26 [AV.int IntKind.i64 0, AV.int IntKind.i64 0, AV.int IntKind.i64 0, AV.int IntKind.i64 0, AV.nil, AV.nil, AV.nil], AObj.arr 3 (Pay.ints IntKind.i64 xh1), AObj.var 26 [AV.int IntKind.i64 xh2, AV.int IntKind.i64 xh2_1, AV.int IntKind.i64 xh2_2, AV.int IntKind.i64 xh2_3, AV.own 3, AV.nil, AV.nil], AObj.arr 3 (Pay.ints IntKind.i64 xh3)]
      else
        bif !eqI (getT x0 (getT x0 x5 1048576).snd.fst 1048576).snd.snd 0 then
          .ret (AV.tup [AV.agg [AV.int IntKind.i64 0, AV.int IntKind.i64 0, AV.int IntKind.i64 0, AV.int IntKind.i64 0, AV.nil, AV.nil, AV.nil], AV.int IntKind.i64 (getT x0 (getT x0 x5 1048576).snd.fst 1048576).snd.snd]) [AObj.var 26 [AV.int IntKind.i64 0, AV.int IntKind.i64 0, AV.int IntKind.i64 0, AV.int IntKind.i64 0, AV.nil, AV.nil, AV.nil], AObj.arr 3 (Pay.ints IntKind.i64 xh1), AObj.var 26 [AV.int IntKind.i64 xh2, AV.int IntKind.i64 xh2_1, AV.int IntKind.i64 xh2_2, AV.int IntKind.i64 xh2_3, AV.own 3, AV.nil, AV.nil], AObj.arr 3 (Pay.ints IntKind.i64 xh3)]
        else
          bif ltI (getT x0 (getT x0 x5 1048576).snd.fst 1048576).snd.fst ↑x0.length then
            .ret (AV.tup [AV.agg [AV.int IntKind.i64 0, AV.int IntKind.i64 0, AV.int IntKind.i64 0, AV.int IntKind.i64 0, AV.nil, AV.nil, AV.nil], AV.int IntKind.i64 3]) [AObj.var 26 [AV.int IntKind.i64 0, AV.int IntKind.i64 0, AV.int IntKind.i64 0, AV.int IntKind.i64 0, AV.nil, AV.nil, AV.nil], AObj.arr 3 (Pay.ints IntKind.i64 xh1), AObj.var 26 [AV.int IntKind.i64 xh2, AV.int IntKind.i64 xh2_1, AV.int IntKind.i64 xh2_2, AV.int IntKind.i64 xh2_3, AV.own 3, AV.ro (Pay.bytes (getT x0 x5 1048576).fst), AV.ro (Pay.bytes (getT x0 (getT x0 x5 1048576).snd.fst 1048576).fst)], AObj.arr 3 (Pay.ints IntKind.i64 xh3)]
          else
            bif !decide (NoteV.mk xh2 xh2_1 xh2_2 xh2_3 xh3 (getT x0 x5 1048576).fst (getT x0 (getT x0 x5 1048576).snd.fst 1048576).fst).Right then
              .ret (AV.tup [AV.agg [AV.int IntKind.i64 0, AV.int IntKind.i64 0, AV.int IntKind.i64 0, AV.int IntKind.i64 0, AV.nil, AV.nil, AV.nil], AV.int IntKind.i64 3]) [AObj.var 26 [AV.int IntKind.i64 0, AV.int IntKind.i64 0, AV.int IntKind.i64 0, AV.int IntKind.i64 0, AV.nil, AV.nil, AV.nil], AObj.arr 3 (Pay.ints IntKind.i64 xh1), AObj.var 26 [AV.int IntKind.i64 xh2, AV.int IntKind.i64 xh2_1, AV.int IntKind.i64 xh2_2, AV.int IntKind.i64 xh2_3, AV.own 3, AV.ro (Pay.bytes (getT x0 x5 1048576).fst), AV.ro (Pay.bytes (getT x0 (getT x0 x5 1048576).snd.fst 1048576).fst)], AObj.arr 3 (Pay.ints IntKind.i64 xh3)]
            else
              .ret (AV.tup [AV.agg [AV.int IntKind.i64 xh2, AV.int IntKind.i64 xh2_1, AV.int IntKind.i64 xh2_2, AV.int IntKind.i64 xh2_3, AV.own 3, AV.ro (Pay.bytes (getT x0 x5 1048576).fst), AV.ro (Pay.bytes (getT x0 (getT x0 x5 1048576).snd.fst 1048576).fst)], AV.int IntKind.i64 0]) [AObj.var 26 [AV.int IntKind.i64 xh2, AV.int IntKind.i64 xh2_1, AV.int IntKind.i64 xh2_2, AV.int IntKind.i64 xh2_3, AV.own 3, AV.ro (Pay.bytes (getT x0 x5 1048576).fst), AV.ro (Pay.bytes (getT x0 (getT x0 x5 1048576).snd.fst 1048576).fst)], AObj.arr 3 (Pay.ints IntKind.i64 xh1), AObj.var 26 [AV.int IntKind.i64 xh2, AV.int IntKind.i64 xh2_1, AV.int IntKind.i64 xh2_2, AV.int IntKind.i64 xh2_3, AV.own 3, AV.ro (Pay.bytes (getT x0 x5 1048576).fst), AV.ro (Pay.bytes (getT x0 (getT x0 x5 1048576).snd.fst 1048576).fst)], AObj.arr 3 (Pay.ints IntKind.i64 xh3)]
  else
    .stuck := by kernel_rfl


theorem ok12 : PureOk Try.prog 12 go12 := by
  refine pureOk_of (c12 rounds) tt12_ok (.cons ok14 (.cons (ok23.norm _) (.cons ok24 .nil))) follows rfl Try.func12 (by kernel_rfl) (by kernel_rfl) ?_ ?_
  · intro R stk args ret
    unfold go12
    split
    · simp only [elim_cond]; rfl
    · rfl
  · intro args r objs h hr
    unfold go12 at h
    split at h
    · rename_i k t y p w a b
      rcases bif_alt h with ⟨hf0, h⟩ | ⟨hf0, h⟩
      · cases h
        rw [ble_iff] at hf0
        rw [apure_out, f12_eq]
        unfold putN
        by_cases hR : (⟨k, t, y, p, w, a, b⟩ : NoteV).Right
        · rw [if_pos hR, decide_eq_true hR, Bool.not_true, cond_false]
          rw [show ((([k, 0, 0, 0, 0].set (1, Operand.tmp 11).fst t).set (2, Operand.tmp 13).fst y).set (3, Operand.tmp 15).fst p).set (4, Operand.tmp 18).fst (w.length : Int) = [k, t, y, p, (w.length : Int)] from rfl]
          have h1 := encs_len [k, t, y, p, (w.length : Int)]
          have h2 := encs_len w
          have h3 := encT_len a
          simp only [List.length_cons, List.length_nil] at h1
          rw [bif_pos (by rw [ble_iff, List.nil_append]; omega), bif_pos (by rw [ble_iff, List.nil_append, List.length_append]; omega), bif_pos (by rw [ble_iff, List.nil_append, List.length_append, List.length_append]; omega), List.nil_append]
          unfold encNote
          dsimp only
          exact ⟨_, rfl, .same⟩
        · rw [if_neg hR, decide_eq_false hR, Bool.not_false, cond_true]
          exact ⟨_, rfl, .tup (.empty rfl (.same .nil))⟩
      ·
        cases h
    · cases h

theorem rdT_ok (b : Txt) (i : Int) : rdT b (i, 0) = getT b i 1048576 := if_pos rfl
theorem rdN_ok (b : Txt) (i : Int) : rdN b (i, 0) = (min (getV b i).1 1073741825, (getV b i).2) := if_pos rfl

theorem f7_end (F k : Nat) (b : Txt) (j z0 z1 z2 z3 i q t y p : Int) (L : List Int) (hL : inB 4 L.length = true) (h : ¬ j < L.getD 4 0) : OutW tt7 (f7_2 F (k + 1) b i j z0 z1 z2 z3 L q t y p) (noteA (finN b q t y p [] (i, 0))) := by
  rw [f7_2_eq, hL, cond_true, show Int.toNat 4 = 4 from rfl, bif_neg (by rw [ltI_iff]; exact h)]
  unfold finN
  rw [rdT_ok]
  generalize getT b i 1048576 = r1
  obtain ⟨a, i1, e1⟩ := r1
  dsimp only
  by_cases h0 : e1 = 0
  · subst h0
    rw [rdT_ok, show (!eqI 0 0) = false from rfl, cond_false]
    generalize getT b i1 1048576 = r2
    obtain ⟨c, i2, e2⟩ := r2
    dsimp only
    by_cases h1 : e2 = 0
    · rw [if_pos h1, eqI_iff.2 h1, Bool.not_true, cond_false]
      by_cases h2 : i2 < b.length
      · rw [if_pos h2, bif_pos (ltI_iff.2 h2)]; exact ⟨_, rfl, .tup (.agg (.same (.same (.same (.same (.empty rfl (.empty rfl (.empty rfl .nil))))))) (.same .nil))⟩
      · rw [if_neg h2, bif_neg (by rw [ltI_iff]; exact h2)]
        by_cases h3 : (⟨q, t, y, p, [], a, c⟩ : NoteV).Right
        · rw [if_pos h3, decide_eq_true h3, Bool.not_true, cond_false]; exact ⟨_, rfl, .tup (.agg (.same (.same (.same (.same (.empty rfl (.same (.same .nil))))))) (.same .nil))⟩
        · rw [if_neg h3, decide_eq_false h3, Bool.not_false, cond_true]; exact ⟨_, rfl, .tup (.agg (.same (.same (.same (.same (.empty rfl (.empty rfl (.empty rfl .nil))))))) (.same .nil))⟩
    · rw [if_neg h1, eqI_f.2 h1, Bool.not_false, cond_true]; exact ⟨_, rfl, .tup (.agg (.same (.same (.same (.same (.empty rfl (.empty rfl (.empty rfl .nil))))))) (.same .nil))⟩
  · rw [rdT_err b (s := (i1, e1)) h0, if_neg h0, eqI_f.2 h0, Bool.not_false, cond_true]; exact ⟨_, rfl, .tup (.agg (.same (.same (.same (.same (.empty rfl (.empty rfl (.empty rfl .nil))))))) (.same .nil))⟩

theorem f7_end1 (F k : Nat) (b : Txt) (j z0 z1 z2 z3 i q t y p : Int) (L : List Int) (w : List Int) (hL : inB 4 L.length = true) (h : ¬ j < L.getD 4 0) : OutW tt7 (f7_2_1 F (k + 1) b i j z0 z1 z2 z3 L q t y p w) (noteA (finN b q t y p w (i, 0))) := by
  rw [f7_2_1_eq, hL, cond_true, show Int.toNat 4 = 4 from rfl, bif_neg (by rw [ltI_iff]; exact h)]
  unfold finN
  rw [rdT_ok]
  generalize getT b i 1048576 = r1
  obtain ⟨a, i1, e1⟩ := r1
  dsimp only
  by_cases h0 : e1 = 0
  · subst h0
    rw [rdT_ok, show (!eqI 0 0) = false from rfl, cond_false]
    generalize getT b i1 1048576 = r2
    obtain ⟨c, i2, e2⟩ := r2
    dsimp only
    by_cases h1 : e2 = 0
    · rw [if_pos h1, eqI_iff.2 h1, Bool.not_true, cond_false]
      by_cases h2 : i2 < b.length
      · rw [if_pos h2, bif_pos (ltI_iff.2 h2)]; exact ⟨_, rfl, .tup (.agg (.same (.same (.same (.same (.empty rfl (.empty rfl (.empty rfl .nil))))))) (.same .nil))⟩
      · rw [if_neg h2, bif_neg (by rw [ltI_iff]; exact h2)]
        by_cases h3 : (⟨q, t, y, p, w, a, c⟩ : NoteV).Right
        · rw [if_pos h3, decide_eq_true h3, Bool.not_true, cond_false]; exact ⟨_, rfl, .lend⟩
        · rw [if_neg h3, decide_eq_false h3, Bool.not_false, cond_true]; exact ⟨_, rfl, .tup (.agg (.same (.same (.same (.same (.empty rfl (.empty rfl (.empty rfl .nil))))))) (.same .nil))⟩
    · rw [if_neg h1, eqI_f.2 h1, Bool.not_false, cond_true]; exact ⟨_, rfl, .tup (.agg (.same (.same (.same (.same (.empty rfl (.empty rfl (.empty rfl .nil))))))) (.same .nil))⟩
  · rw [rdT_err b (s := (i1, e1)) h0, if_neg h0, eqI_f.2 h0, Bool.not_false, cond_true]; exact ⟨_, rfl, .tup (.agg (.same (.same (.same (.same (.empty rfl (.empty rfl (.empty rfl .nil))))))) (.same .nil))⟩

theorem bif_min {α : Type} (v : Int) (h0 : 0 ≤ v) {f : List Int → α} {w : List Int} : (bif ltI 1073741824 v then f (w ++ [IntKind.i64.wrap 1073741825]) else f (w ++ [IntKind.i64.wrap v])) = f (w ++ [min v 1073741825]) := by
  by_cases h : 1073741824 < v
  · rw [bif_pos (ltI_iff.2 h), wrap64 (by omega) (by omega), show min v 1073741825 = 1073741825 by omega]
  · rw [bif_neg (by rw [ltI_iff]; exact h), wrap64 (by omega) (by omega), show min v 1073741825 = v by omega]
theorem f7_run (F : Nat) (b : Txt) (m z0 z1 z2 z3 q t y p : Int) (L : List Int) (hL : inB 4 L.length = true) (hm : L.getD 4 0 = m) (hm2 : m ≤ 65536) : ∀ (n k : Nat) (j i : Int) (w : List Int), j + n = m → n < k → 0 ≤ j → (w.length : Int) = j →
    OutW tt7 (f7_2_1 F k b i j z0 z1 z2 z3 L q t y p w) (noteA (finN b q t y p (w ++ (rdL b n (i, 0)).1) (rdL b n (i, 0)).2))
  | 0, k + 1, j, i, w, h1, h2, h3, h4 => by
    unfold rdL
    rw [List.append_nil]
    exact f7_end1 F k b j z0 z1 z2 z3 i q t y p L w hL (by omega)
  | n + 1, k + 1, j, i, w, h1, h2, h3, h4 => by
    have hv := getV_fits b i
    have ih := f7_run F b m z0 z1 z2 z3 q t y p L hL hm hm2 n k (j + 1) (rdN b (i, 0)).2.1 (w ++ [(rdN b (i, 0)).1]) (by omega) (by omega) (by omega) (by rw [List.length_append, List.length_singleton]; omega)
    rw [f7_2_1_eq, hL, cond_true, show Int.toNat 4 = 4 from rfl, hm, bif_pos (by rw [ltI_iff]; omega)]
    unfold rdL
    rw [if_pos rfl]
    rw [rdN_ok] at ih ⊢
    dsimp only at ih ⊢
    by_cases he : (getV b i).2.2 = 0
    · rw [eqI_iff.2 he, Bool.not_true, cond_false, wrap64 (n := j + 1) (by omega) (by omega), bif_pos (c := appFits ty3 (.ints .i64 (w ++ [IntKind.i64.wrap 1073741825]))) (fits3 _ (by rw [List.length_append, List.length_singleton]; omega)), bif_pos (c := appFits ty3 (.ints .i64 (w ++ [IntKind.i64.wrap (getV b i).1]))) (fits3 _ (by rw [List.length_append, List.length_singleton]; omega)),
        bif_min (f := fun x => f7_2_1 F k b (getV b i).2.1 (j + 1) z0 z1 z2 z3 L q t y p x) _ hv.1]
      rw [List.append_assoc] at ih
      rw [show (getV b i).2 = ((getV b i).2.1, (0 : Int)) from by rw [← he]]
      exact ih
    · rw [eqI_f.2 he, Bool.not_false, cond_true, rdL_err b n (s := (getV b i).2) he, finN_err _ _ _ _ _ _ he]
      exact ⟨_, rfl, .tup (.agg (.same (.same (.same (.same (.empty rfl (.empty rfl (.empty rfl .nil))))))) (.same .nil))⟩
theorem f7_all (F : Nat) (b : Txt) (m z0 z1 z2 z3 q t y p i : Int) (L : List Int) (hL : inB 4 L.length = true) (hm : L.getD 4 0 = m) (h0 : 0 ≤ m) (hm2 : m ≤ 65536) (k : Nat) (hk : 65537 < k) :
    OutW tt7 (f7_2 F k b i 0 z0 z1 z2 z3 L q t y p) (noteA (finN b q t y p (rdL b m.toNat (i, 0)).1 (rdL b m.toNat (i, 0)).2)) := by
  obtain ⟨k, rfl⟩ : ∃ j, k = j + 1 := ⟨k - 1, by omega⟩
  by_cases h1 : m = 0
  · subst h1
    exact f7_end F k b 0 z0 z1 z2 z3 i q t y p L hL (by omega)
  · have hv := getV_fits b i
    rw [f7_2_eq, hL, cond_true, show Int.toNat 4 = 4 from rfl, hm, bif_pos (by rw [ltI_iff]; omega)]
    rw [show m.toNat = (m.toNat - 1) + 1 by omega]
    unfold rdL
    rw [if_pos rfl]
    rw [rdN_ok]
    dsimp only
    by_cases he : (getV b i).2.2 = 0
    · have ih := f7_run F b m z0 z1 z2 z3 q t y p L hL hm hm2 (m.toNat - 1) k (0 + 1) (rdN b (i, 0)).2.1 [(rdN b (i, 0)).1] (by omega) (by omega) (by omega) rfl
      rw [rdN_ok] at ih
      rw [eqI_iff.2 he, Bool.not_true, cond_false, wrap64 (n := 0 + 1) (by omega) (by omega),
        bif_min (f := fun x => f7_2_1 F k b (getV b i).2.1 (0 + 1) z0 z1 z2 z3 L q t y p x) _ hv.1]
      rw [show (getV b i).2 = ((getV b i).2.1, (0 : Int)) from by rw [← he]]
      exact ih
    · rw [eqI_f.2 he, Bool.not_false, cond_true, rdL_err b _ (s := (getV b i).2) he, finN_err _ _ _ _ _ _ he]
      exact ⟨_, rfl, .tup (.agg (.same (.same (.same (.same (.empty rfl (.empty rfl (.empty rfl .nil))))))) (.same .nil))⟩
theorem f7_bad (F k : Nat) (b : Txt) (i j z0 z1 z2 z3 : Int) (L : List Int) (hj : j < 5) (he : (rdN b (i, 0)).2.2 ≠ 0) : OutW tt7 (f7_0 F (k + 1) b i j z0 z1 z2 z3 L) (noteA (noteZ, (rdN b (i, 0)).2.2)) := by
  rw [rdN_ok] at he ⊢
  rw [f7_0_eq, bif_pos (ltI_iff.2 hj), eqI_f.2 he, Bool.not_false, cond_true]
  exact ⟨_, rfl, .tup (.agg (.same (.same (.same (.same (.empty rfl (.empty rfl (.empty rfl .nil))))))) (.same .nil))⟩
theorem f7_good (F k : Nat) (b : Txt) (i j z0 z1 z2 z3 : Int) (L : List Int) (hj0 : 0 ≤ j) (hj : j < 5) (hL : L.length < 5) (he : (rdN b (i, 0)).2.2 = 0) : f7_0 F (k + 1) b i j z0 z1 z2 z3 L = f7_0 F k b (rdN b (i, 0)).2.1 (j + 1) z0 z1 z2 z3 (L ++ [(rdN b (i, 0)).1]) := by
  have hv := getV_fits b i
  rw [rdN_ok] at he ⊢
  rw [f7_0_eq, bif_pos (ltI_iff.2 hj), eqI_iff.2 he, Bool.not_true, cond_false, wrap64 (n := j + 1) (by omega) (by omega), bif_pos (c := appFits ty3 (.ints .i64 (L ++ [IntKind.i64.wrap 1073741825]))) (fits3 _ (by rw [List.length_append, List.length_singleton]; omega)), bif_pos (c := appFits ty3 (.ints .i64 (L ++ [IntKind.i64.wrap (getV b i).1]))) (fits3 _ (by rw [List.length_append, List.length_singleton]; omega)),
    bif_min (f := fun x => f7_0 F k b (getV b i).2.1 (j + 1) z0 z1 z2 z3 x) _ hv.1]

theorem f7_main (F n : Nat) (hF : 65537 < F) (b : Txt) (z0 z1 z2 z3 : Int) : OutW tt7 (f7_0 F (n + 1 + 1 + 1 + 1 + 1 + 1) b 0 0 z0 z1 z2 z3 []) (noteA (getNote b)) := by
  unfold getNote
  by_cases h0 : (rdN b (0, 0)).2.2 = 0
  case neg => rw [gN0_err b h0]; exact f7_bad F (n + 1 + 1 + 1 + 1 + 1) b 0 (0) _ _ _ _ _ (by omega) h0
  rw [f7_good F (n + 1 + 1 + 1 + 1 + 1) b 0 (0) _ _ _ _ _ (by omega) (by omega) (by simp) h0]
  generalize hr0 : rdN b (0, 0) = r at *
  obtain ⟨k, ik, e⟩ := r
  dsimp only at h0 ⊢
  subst h0
  unfold gN0
  dsimp only
  by_cases h1 : (rdN b (ik, 0)).2.2 = 0
  case neg => rw [gN1_err b _ h1]; exact f7_bad F (n + 1 + 1 + 1 + 1) b ik (0 + 1) _ _ _ _ _ (by omega) h1
  rw [f7_good F (n + 1 + 1 + 1 + 1) b ik (0 + 1) _ _ _ _ _ (by omega) (by omega) (by simp) h1]
  generalize hr1 : rdN b (ik, 0) = r at *
  obtain ⟨t, it, e⟩ := r
  dsimp only at h1 ⊢
  subst h1
  unfold gN1
  dsimp only
  by_cases h2 : (rdN b (it, 0)).2.2 = 0
  case neg => rw [gN2_err b _ _ h2]; exact f7_bad F (n + 1 + 1 + 1) b it (0 + 1 + 1) _ _ _ _ _ (by omega) h2
  rw [f7_good F (n + 1 + 1 + 1) b it (0 + 1 + 1) _ _ _ _ _ (by omega) (by omega) (by simp) h2]
  generalize hr2 : rdN b (it, 0) = r at *
  obtain ⟨y, iy, e⟩ := r
  dsimp only at h2 ⊢
  subst h2
  unfold gN2
  dsimp only
  by_cases h3 : (rdN b (iy, 0)).2.2 = 0
  case neg => rw [gN3_err b _ _ _ h3]; exact f7_bad F (n + 1 + 1) b iy (0 + 1 + 1 + 1) _ _ _ _ _ (by omega) h3
  rw [f7_good F (n + 1 + 1) b iy (0 + 1 + 1 + 1) _ _ _ _ _ (by omega) (by omega) (by simp) h3]
  generalize hr3 : rdN b (iy, 0) = r at *
  obtain ⟨p, ip, e⟩ := r
  dsimp only at h3 ⊢
  subst h3
  unfold gN3
  dsimp only
  by_cases h4 : (rdN b (ip, 0)).2.2 = 0
  case neg => rw [gN4_err b _ _ _ _ h4]; exact f7_bad F (n + 1) b ip (0 + 1 + 1 + 1 + 1) _ _ _ _ _ (by omega) h4
  rw [f7_good F (n + 1) b ip (0 + 1 + 1 + 1 + 1) _ _ _ _ _ (by omega) (by omega) (by simp) h4]
  generalize hr4 : rdN b (ip, 0) = r at *
  obtain ⟨m, im, e⟩ := r
  dsimp only at h4 ⊢
  subst h4
  have hm : 0 ≤ m := by
    rw [rdN_ok] at hr4
    have := getV_fits b ip
    have := congrArg Prod.fst hr4
    dsimp only at this
    omega
  simp only [List.nil_append, List.cons_append]
  rw [f7_0_eq, bif_neg (by rw [ltI_iff]; omega), bif_pos (c := inB 4 _) rfl, show [k, t, y, p, m].getD (Int.toNat 4) 0 = m from rfl]
  unfold gN4
  by_cases h5 : 65536 < m
  · rw [bif_pos (ltI_iff.2 h5), show manyS (m, im, 0) = (im, 3) from if_pos ⟨h5, rfl⟩, rdL_err b _ (s := (im, 3)) (fun x => absurd (show (3 : Int) = 0 from x) (by decide)), finN_err _ _ _ _ _ _ (s := (im, 3)) (fun x => absurd (show (3 : Int) = 0 from x) (by decide))]
    exact ⟨_, rfl, .tup (.agg (.same (.same (.same (.same (.empty rfl (.empty rfl (.empty rfl .nil))))))) (.same .nil))⟩
  · rw [bif_neg (by rw [ltI_iff]; exact h5), show manyS (m, im, 0) = (im, 0) from if_neg fun x => h5 x.1]
    exact f7_all _ b m _ _ _ _ k t y p im [k, t, y, p, m] rfl rfl hm (by omega) F hF

theorem ok7 : PureOk Try.prog 7 go6 := by
  refine pureOk_of (c7 rounds) tt7_ok (.cons ok20 (.cons ok21 (.cons (ok15.norm _) .nil))) follows rfl Try.func7 (by kernel_rfl) (by kernel_rfl) ?_ ?_
  · intro R stk args ret
    unfold go6
    split
    · rfl
    · rfl
  · intro args r objs h hr
    unfold go6 at h
    split at h
    · rename_i b
      cases h
      rw [apure_out]
      show OutW tt7 _ (noteA (getNote b))
      rw [f7_eq]
      have := f7_main rounds (rounds - 6) (by unfold rounds; omega) b 0 0 0 0
      rw [show rounds - 6 + 1 + 1 + 1 + 1 + 1 + 1 = rounds by unfold rounds; omega] at this
      exact this
    · cases h

end Go.Proofs.YtjdojmjkldpgnaaG
