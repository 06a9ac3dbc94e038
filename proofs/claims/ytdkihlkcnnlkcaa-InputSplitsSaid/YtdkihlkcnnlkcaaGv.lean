/- A part of the proof: plain laws, and what functions of the given program come to; no condition. -/
import Derived.Test.YtdkihlkcnnlkcaaGu
namespace Go.Proofs.YtdkihlkcnnlkcaaG
open Go Go.Proofs.YtdkihlkcnnlkcaaGm
set_option maxRecDepth 100000
set_option maxHeartbeats 0

def go13 (R : Type) (stk : R) (args : List AV) (ret : AV → List AObj → R) : R :=
  match args with
  | [.ro (.rows 2 x), .ro (.rows 2 y)] => bif okI x && okI y then ret (.bool (decide (decIs x = decIs y))) [] else stk
  | _ => stk

def go14 (R : Type) (stk : R) (args : List AV) (ret : AV → List AObj → R) : R :=
  match args with
  | [.int .i64 n] => ret (.int .i64 n) []
  | _ => stk

def go17 (R : Type) (stk : R) (args : List AV) (ret : AV → List AObj → R) : R :=
  match args with
  | [.ro (.rows 2 x), .int .i64 n] => bif okI x then ret (.tup [.int .i64 (zeroI (whichN (decIs x) n)), .bool (whichN (decIs x) n).isSome]) [] else stk
  | _ => stk

def go64 (R : Type) (stk : R) (args : List AV) (ret : AV → List AObj → R) : R :=
  match args with
  | [.ro (.ints .i64 l), .int .i64 n] => ret (.int .i64 (idxI (l.findIdx? fun x => eqI x n))) []
  | _ => stk

def go48 (R : Type) (stk : R) (args : List AV) (ret : AV → List AObj → R) : R :=
  match args with
  | [.ro (.ints .i64 l), .int .i64 n] => ret (.bool (hasI l n)) []
  | _ => stk

def go23 (R : Type) (stk : R) (args : List AV) (ret : AV → List AObj → R) : R :=
  match args with
  | [.int .i64 n, .int .i64 p] => bif leI n 65536 then ret (.own 0) [.arr 54 (.rows 2 ((pieces n (perI n p) n.toNat 0).map pairI))] else stk
  | _ => stk

def tt13 : Tab := [(0, ty0), (3, ty3), (4, ty4), (9, ty9), (24, ty24), (35, ty35)]
theorem tt13_ok : TabOk Try.prog tt13 := tabOk_of_all ⟨ty0_ok, ty3_ok, ty4_ok, ty9_ok, ty24_ok, ty35_ok, trivial⟩
def c13 (F : Nat) : Cfg := ⟨tt13, [], F, [(0, ⟨[0, 1, 5], []⟩)], [], 0⟩
noncomputable def f13_0 (F k : Nat) (x0 : List (List AV)) (x1 : List (List AV)) (x5 : Int) : Res := aloop (c13 F) Try.f13 0 [] k (St.mk [AV.ro (Pay.rows 2 x0), AV.ro (Pay.rows 2 x1), AV.top, AV.top, AV.top, AV.int IntKind.i64 x5, AV.top, AV.top, AV.top, AV.top, AV.top, AV.top, AV.top, AV.top, AV.top, AV.top, AV.top, AV.top, AV.top, AV.top, AV.top, AV.top, AV.top, AV.top, AV.top, AV.top] [])
theorem f13_eq (F : Nat) (a0 : List (List AV)) (a1 : List (List AV)) : afun (c13 F) Try.f13 [AV.ro (Pay.rows 2 a0), AV.ro (Pay.rows 2 a1)] [] =
  bif !eqI ↑a0.length ↑a1.length then
    .ret (AV.bool false) []
  else
    f13_0 F F a0 a1 0 := by kernel_rfl
theorem f13_0_eq (F k : Nat) (x0 : List (List AV)) (x1 : List (List AV)) (x5 : Int) : f13_0 F (k + 1) x0 x1 x5 =
  bif ltI x5 ↑x0.length then
    bif inB x5 x0.length then
      bif isInt IntKind.i64 (nth (List.take 2 (List.drop 0 (x0.getD x5.toNat []))) 0) then
        bif isStr (nth (List.take 2 (List.drop 0 (x0.getD x5.toNat []))) (0 + 1)) then
          bif inB x5 x1.length then
            bif isInt IntKind.i64 (nth (List.take 2 (List.drop 0 (x1.getD x5.toNat []))) 0) then
              bif isStr (nth (List.take 2 (List.drop 0 (x1.getD x5.toNat []))) (0 + 1)) then
                bif !(eqI (intOf (nth (List.take 2 (List.drop 0 (x0.getD x5.toNat []))) 0)) (intOf (nth (List.take 2 (List.drop 0 (x1.getD x5.toNat []))) 0)) && (eqS (strOf (nth (List.take 2 (List.drop 0 (x0.getD x5.toNat []))) (0 + 1))) (strOf (nth (List.take 2 (List.drop 0 (x1.getD x5.toNat []))) (0 + 1))) && true)) then
                  .ret (AV.bool false) []
                else
                  f13_0 F k x0 x1 (IntKind.i64.wrap (x5 + 1))
              else
                .stuck
            else
              .stuck
          else
            .stuck
        else
          .stuck
      else
        .stuck
    else
      .stuck
  else
    .ret (AV.bool true) [] := by kernel_rfl


def tt14 : Tab := [(3, ty3), (25, ty25)]
theorem tt14_ok : TabOk Try.prog tt14 := tabOk_of_all ⟨ty3_ok, ty25_ok, trivial⟩
def c14 (F : Nat) : Cfg := ⟨tt14, [], F, [], [], 0⟩
theorem f14_eq (F : Nat) (a0 : Int) : afun (c14 F) Try.f14 [AV.int IntKind.i64 a0] [] =
  .ret (AV.int IntKind.i64 a0) [] := by kernel_rfl


def tt17 : Tab := [(0, ty0), (3, ty3), (4, ty4), (9, ty9), (24, ty24), (35, ty35)]
theorem tt17_ok : TabOk Try.prog tt17 := tabOk_of_all ⟨ty0_ok, ty3_ok, ty4_ok, ty9_ok, ty24_ok, ty35_ok, trivial⟩
def c17 (F : Nat) : Cfg := ⟨tt17, [], F, [(0, ⟨[0, 1, 6], []⟩)], [], 0⟩
noncomputable def f17_0 (F k : Nat) (x0 : List (List AV)) (x1 : Int) (x6 : Int) : Res := aloop (c17 F) Try.f17 0 [] k (St.mk [AV.ro (Pay.rows 2 x0), AV.int IntKind.i64 x1, AV.top, AV.top, AV.top, AV.top, AV.int IntKind.i64 x6, AV.top, AV.top, AV.top, AV.top, AV.top, AV.top, AV.top, AV.top, AV.top, AV.top, AV.top, AV.top, AV.top, AV.top] [])
theorem f17_eq (F : Nat) (a0 : List (List AV)) (a1 : Int) : afun (c17 F) Try.f17 [AV.ro (Pay.rows 2 a0), AV.int IntKind.i64 a1] [] =
  f17_0 F F a0 a1 0 := by kernel_rfl
theorem f17_0_eq (F k : Nat) (x0 : List (List AV)) (x1 : Int) (x6 : Int) : f17_0 F (k + 1) x0 x1 x6 =
  bif ltI x6 ↑x0.length then
    bif inB x6 x0.length then
      bif isInt IntKind.i64 (nth (x0.getD x6.toNat []) 0) then
        bif eqI (intOf (nth (x0.getD x6.toNat []) 0)) x1 then
          .ret (AV.tup [AV.int IntKind.i64 x6, AV.bool true]) []
        else
          f17_0 F k x0 x1 (IntKind.i64.wrap (x6 + 1))
      else
        .stuck
    else
      .stuck
  else
    .ret (AV.tup [AV.int IntKind.i64 0, AV.bool false]) [] := by kernel_rfl


def tt64 : Tab := [(0, ty0), (3, ty3), (4, ty4), (51, ty51)]
theorem tt64_ok : TabOk Try.prog tt64 := tabOk_of_all ⟨ty0_ok, ty3_ok, ty4_ok, ty51_ok, trivial⟩
def c64 (F : Nat) : Cfg := ⟨tt64, [], F, [(0, ⟨[0, 1, 7, 8], []⟩)], [], 0⟩
noncomputable def f64_0 (F k : Nat) (x0 : List Int) (x1 : Int) (x7 : Int) (x8 : Int) : Res := aloop (c64 F) Try.f64 0 [] k (St.mk [AV.ro (Pay.ints IntKind.i64 x0), AV.int IntKind.i64 x1, AV.top, AV.top, AV.top, AV.top, AV.top, AV.int IntKind.i64 x7, AV.int IntKind.i64 x8, AV.top, AV.top, AV.top, AV.top, AV.top, AV.top, AV.top, AV.top, AV.top, AV.top] [])
theorem f64_eq (F : Nat) (a0 : List Int) (a1 : Int) : afun (c64 F) Try.f64 [AV.ro (Pay.ints IntKind.i64 a0), AV.int IntKind.i64 a1] [] =
  f64_0 F F a0 a1 ↑a0.length 0 := by kernel_rfl
theorem f64_0_eq (F k : Nat) (x0 : List Int) (x1 : Int) (x7 : Int) (x8 : Int) : f64_0 F (k + 1) x0 x1 x7 x8 =
  bif ltI x8 x7 then
    bif inB x8 x0.length then
      bif eqI x1 (x0.getD x8.toNat 0) then
        .ret (AV.int IntKind.i64 x8) []
      else
        f64_0 F k x0 x1 x7 (IntKind.i64.wrap (x8 + 1))
    else
      .stuck
  else
    .ret (AV.int IntKind.i64 (-1)) [] := by kernel_rfl


def tt48 : Tab := [(0, ty0), (3, ty3), (4, ty4), (51, ty51)]
theorem tt48_ok : TabOk Try.prog tt48 := tabOk_of_all ⟨ty0_ok, ty3_ok, ty4_ok, ty51_ok, trivial⟩
def c48 (F : Nat) : Cfg := ⟨tt48, [], F, [(0, ⟨[0, 1, 5], []⟩)], [], 0⟩
noncomputable def f48_0 (F k : Nat) (x0 : List Int) (x1 : Int) (x5 : Int) : Res := aloop (c48 F) Try.f48 0 [] k (St.mk [AV.ro (Pay.ints IntKind.i64 x0), AV.int IntKind.i64 x1, AV.top, AV.top, AV.top, AV.int IntKind.i64 x5, AV.top, AV.top, AV.top, AV.top, AV.top, AV.top, AV.top, AV.top, AV.top, AV.top, AV.top, AV.top] [])
theorem f48_eq (F : Nat) (a0 : List Int) (a1 : Int) : afun (c48 F) Try.f48 [AV.ro (Pay.ints IntKind.i64 a0), AV.int IntKind.i64 a1] [] =
  f48_0 F F a0 a1 0 := by kernel_rfl
theorem f48_0_eq (F k : Nat) (x0 : List Int) (x1 : Int) (x5 : Int) : f48_0 F (k + 1) x0 x1 x5 =
  bif ltI x5 ↑x0.length then
    bif inB x5 x0.length then
      bif eqI (x0.getD x5.toNat 0) x1 then
        .ret (AV.bool true) []
      else
        f48_0 F k x0 x1 (IntKind.i64.wrap (x5 + 1))
    else
      .stuck
  else
    .ret (AV.bool false) [] := by kernel_rfl


def tt23 : Tab := [(0, ty0), (1, ty1), (3, ty3), (4, ty4), (52, ty52), (54, ty54)]
theorem tt23_ok : TabOk Try.prog tt23 := tabOk_of_all ⟨ty0_ok, ty1_ok, ty3_ok, ty4_ok, ty52_ok, ty54_ok, trivial⟩
def c23 (F : Nat) : Cfg := ⟨tt23, [], F, [(0, ⟨[0, 1, 5, 6], [(5, 54)]⟩)], [], 0⟩
noncomputable def f23_0 (F k : Nat) (x0 : Int) (x1 : Int) (x6 : Int) (xh0 : List (List AV)) : Res := aloop (c23 F) Try.f23 0 [] k (St.mk [AV.int IntKind.i64 x0, AV.int IntKind.i64 x1, AV.top, AV.top, AV.top, AV.own 0, AV.int IntKind.i64 x6, AV.top, AV.top, AV.top, AV.top, AV.top, AV.top, AV.top, AV.top, AV.top, AV.top, AV.top, AV.top, AV.top, AV.top, AV.top, AV.top, AV.top, AV.top, AV.top, AV.top, AV.top, AV.top, AV.top, AV.top] [AObj.arr 54 (Pay.rows 2 xh0)])
theorem f23_eq (F : Nat) (a0 : Int) (a1 : Int) : afun (c23 F) Try.f23 [AV.int IntKind.i64 a0, AV.int IntKind.i64 a1] [] =
  f23_0 F F a0 (if (if 1 > a0 then 1 else a0) < if 1 > a1 then 1 else a1 then if 1 > a0 then 1 else a0 else if 1 > a1 then 1 else a1) 0 [] := by kernel_rfl
theorem f23_0_eq (F k : Nat) (x0 : Int) (x1 : Int) (x6 : Int) (xh0 : List (List AV)) : f23_0 F (k + 1) x0 x1 x6 xh0 =
  bif ltI x6 x0 then
    bif appFits ty54 (Pay.rows 2 (xh0 ++ [[AV.int IntKind.i64 x6, AV.int IntKind.i64 (IntKind.i64.wrap (x6 + if IntKind.i64.wrap (x0 - x6) < x1 then IntKind.i64.wrap (x0 - x6) else x1))]])) then
      f23_0 F k x0 x1 (IntKind.i64.wrap (x6 + x1)) (xh0 ++ [[AV.int IntKind.i64 x6, AV.int IntKind.i64 (IntKind.i64.wrap (x6 + if IntKind.i64.wrap (x0 - x6) < x1 then IntKind.i64.wrap (x0 - x6) else x1))]])
    else
      .stuck
  else
    .ret (AV.own 0) [AObj.arr 54 (Pay.rows 2 xh0)] := by kernel_rfl


def tt42 : Tab := [(0, ty0), (3, ty3), (4, ty4), (9, ty9), (35, ty35)]
theorem tt42_ok : TabOk Try.prog tt42 := tabOk_of_all ⟨ty0_ok, ty3_ok, ty4_ok, ty9_ok, ty35_ok, trivial⟩
def c42 (F : Nat) : Cfg := ⟨tt42, [], F, [], [], 1⟩
theorem f42_eq (F : Nat) (n : Int) (x : Int) (s : List UInt8) : afun (c42 F) Try.f42 [AV.agg [AV.int IntKind.i64 n, AV.str s], AV.ptr 0 0] [AObj.var 3 [AV.int IntKind.i64 x]] =
  .ret (AV.bool (eqI n x)) [AObj.var 3 [AV.int IntKind.i64 x], AObj.var 35 [AV.int IntKind.i64 n, AV.str s]] := by kernel_rfl


def tt12 : Tab := [(0, ty0), (1, ty1), (3, ty3), (4, ty4), (5, ty5), (9, ty9), (23, ty23), (24, ty24), (35, ty35)]
theorem tt12_ok : TabOk Try.prog tt12 := tabOk_of_all ⟨ty0_ok, ty1_ok, ty3_ok, ty4_ok, ty5_ok, ty9_ok, ty23_ok, ty24_ok, ty35_ok, trivial⟩
def c12 (F : Nat) : Cfg := ⟨tt12, [], F, [(0, ⟨[0, 5, 6, 7], [(5, 35)]⟩)], [], 0⟩
noncomputable def f12_0 (F k : Nat) (x0 : List UInt8) (x6 : Int) (x7 : Int) (xh0 : List (List AV)) : Res := aloop (c12 F) Try.f12 0 [] k (St.mk [AV.ro (Pay.bytes x0), AV.top, AV.top, AV.top, AV.top, AV.own 0, AV.int IntKind.i64 x6, AV.int IntKind.i64 x7, AV.top, AV.top, AV.top, AV.top, AV.top, AV.top, AV.top, AV.top, AV.top, AV.top, AV.top, AV.top, AV.top, AV.top, AV.top, AV.top, AV.top, AV.top, AV.top, AV.top, AV.top, AV.top, AV.top, AV.top, AV.top, AV.top, AV.top, AV.top, AV.top, AV.top, AV.top, AV.top, AV.top, AV.top, AV.top, AV.top, AV.top, AV.top, AV.top, AV.top, AV.top, AV.top, AV.top, AV.top, AV.top, AV.top, AV.top, AV.top, AV.top, AV.top, AV.top, AV.top, AV.top, AV.top, AV.top] [AObj.arr 35 (Pay.rows 2 xh0)])
theorem f12_eq (F : Nat) (a0 : List UInt8) : afun (c12 F) Try.f12 [AV.ro (Pay.bytes a0)] [] =
  bif ltI 1048576 ↑a0.length then
    .ret (AV.tup [AV.nil, AV.int IntKind.i64 0, AV.int IntKind.i64 5]) []
  else
    f12_0 F F a0 0 0 [] := by kernel_rfl
theorem f12_0_eq (F k : Nat) (x0 : List UInt8) (x6 : Int) (x7 : Int) (xh0 : List (List AV)) : f12_0 F (k + 1) x0 x6 x7 xh0 =
  bif leI x7 ↑x0.length then
    bif ltI x7 ↑x0.length then
      bif inB x7 x0.length then
        bif !eqI (↑(x0.getD x7.toNat 0).toNat) 10 then
          f12_0 F k x0 x6 (IntKind.i64.wrap (x7 + 1)) xh0
        else
          bif eqI x7 ↑x0.length then
            bif eqI x6 x7 then
              f12_0 F k x0 x6 (IntKind.i64.wrap (x7 + 1)) xh0
            else
              bif ltI 65536 (IntKind.i64.wrap (x7 - x6)) then
                .ret (AV.tup [AV.nil, AV.int IntKind.i64 x6, AV.int IntKind.i64 5]) [AObj.arr 35 (Pay.rows 2 xh0)]
              else
                bif eqI (↑xh0.length) 65536 then
                  .ret (AV.tup [AV.nil, AV.int IntKind.i64 x6, AV.int IntKind.i64 9]) [AObj.arr 35 (Pay.rows 2 xh0)]
                else
                  bif leI 0 x6 && leI x6 x7 && leI x7 ↑x0.length then
                    bif appFits ty35 (Pay.rows 2 (xh0 ++ [[AV.int IntKind.i64 x6, AV.str (List.take (x7.toNat - x6.toNat) (List.drop x6.toNat x0))]])) then
                      f12_0 F k x0 (IntKind.i64.wrap (x7 + 1)) (IntKind.i64.wrap (x7 + 1)) (xh0 ++ [[AV.int IntKind.i64 x6, AV.str (List.take (x7.toNat - x6.toNat) (List.drop x6.toNat x0))]])
                    else
                      .stuck
                  else
                    .stuck
          else
            bif ltI 65536 (IntKind.i64.wrap (x7 - x6)) then
              .ret (AV.tup [AV.nil, AV.int IntKind.i64 x6, AV.int IntKind.i64 5]) [AObj.arr 35 (Pay.rows 2 xh0)]
            else
              bif eqI (↑xh0.length) 65536 then
                .ret (AV.tup [AV.nil, AV.int IntKind.i64 x6, AV.int IntKind.i64 9]) [AObj.arr 35 (Pay.rows 2 xh0)]
              else
                bif leI 0 x6 && leI x6 x7 && leI x7 ↑x0.length then
                  bif appFits ty35 (Pay.rows 2 (xh0 ++ [[AV.int IntKind.i64 x6, AV.str (List.take (x7.toNat - x6.toNat) (List.drop x6.toNat x0))]])) then
                    f12_0 F k x0 (IntKind.i64.wrap (x7 + 1)) (IntKind.i64.wrap (x7 + 1)) (xh0 ++ [[AV.int IntKind.i64 x6, AV.str (List.take (x7.toNat - x6.toNat) (List.drop x6.toNat x0))]])
                  else
                    .stuck
                else
                  .stuck
      else
        .stuck
    else
      bif eqI x7 ↑x0.length then
        bif eqI x6 x7 then
          f12_0 F k x0 x6 (IntKind.i64.wrap (x7 + 1)) xh0
        else
          bif ltI 65536 (IntKind.i64.wrap (x7 - x6)) then
            .ret (AV.tup [AV.nil, AV.int IntKind.i64 x6, AV.int IntKind.i64 5]) [AObj.arr 35 (Pay.rows 2 xh0)]
          else
            bif eqI (↑xh0.length) 65536 then
              .ret (AV.tup [AV.nil, AV.int IntKind.i64 x6, AV.int IntKind.i64 9]) [AObj.arr 35 (Pay.rows 2 xh0)]
            else
              bif leI 0 x6 && leI x6 x7 && leI x7 ↑x0.length then
                bif appFits ty35 (Pay.rows 2 (xh0 ++ [[AV.int IntKind.i64 x6, AV.str (List.take (x7.toNat - x6.toNat) (List.drop x6.toNat x0))]])) then
                  f12_0 F k x0 (IntKind.i64.wrap (x7 + 1)) (IntKind.i64.wrap (x7 + 1)) (xh0 ++ [[AV.int IntKind.i64 x6, AV.str (List.take (x7.toNat - x6.toNat) (List.drop x6.toNat x0))]])
                else
                  .stuck
              else
                .stuck
      else
        bif ltI 65536 (IntKind.i64.wrap (x7 - x6)) then
          .ret (AV.tup [AV.nil, AV.int IntKind.i64 x6, AV.int IntKind.i64 5]) [AObj.arr 35 (Pay.rows 2 xh0)]
        else
          bif eqI (↑xh0.length) 65536 then
            .ret (AV.tup [AV.nil, AV.int IntKind.i64 x6, AV.int IntKind.i64 9]) [AObj.arr 35 (Pay.rows 2 xh0)]
          else
            bif leI 0 x6 && leI x6 x7 && leI x7 ↑x0.length then
              bif appFits ty35 (Pay.rows 2 (xh0 ++ [[AV.int IntKind.i64 x6, AV.str (List.take (x7.toNat - x6.toNat) (List.drop x6.toNat x0))]])) then
                f12_0 F k x0 (IntKind.i64.wrap (x7 + 1)) (IntKind.i64.wrap (x7 + 1)) (xh0 ++ [[AV.int IntKind.i64 x6, AV.str (List.take (x7.toNat - x6.toNat) (List.drop x6.toNat x0))]])
              else
                .stuck
            else
              .stuck
  else
    .ret (AV.tup [AV.own 0, AV.int IntKind.i64 ↑x0.length, AV.int IntKind.i64 0]) [AObj.arr 35 (Pay.rows 2 xh0)] := by kernel_rfl


def go42 (R : Type) (stk : R) (args : List AV) (hp : List AObj) (ret : AV → List AObj → R) : R :=
  match args, hp with
  | [.agg [.int .i64 n, .str _], .ptr 0 0], [.var 3 [.int .i64 x]] => ret (.bool (eqI n x)) [.var 3 [.int .i64 x]]
  | _, _ => stk
theorem ok42 : EffOk Try.prog 42 go42 := by
  refine effOk_of follows Try.func42 (by kernel_rfl) (by kernel_rfl) ?_ ?_
  · intro R stk args hp k; unfold go42; split <;> rfl
  · intro args hp r hp' h hr
    unfold go42 at h
    split at h
    · cases h
      refine ⟨c42 rounds, tt42_ok, .nil, ?_⟩
      unfold aeff
      rw [f42_eq]
      rfl
    · cases h
theorem nI (x : Int × Txt) : nth (List.take 2 (List.drop 0 (recI x))) 0 = .int .i64 x.1 := rfl
theorem nS (x : Int × Txt) : nth (List.take 2 (List.drop 0 (recI x))) (0 + 1) = .str x.2 := rfl
theorem nI' (x : Int × Txt) : nth (recI x) 0 = .int .i64 x.1 := rfl
theorem isI (n : Int) : isInt .i64 (.int .i64 n) = true := rfl
theorem isS (n : Txt) : isStr (.str n) = true := rfl
theorem ofI (n : Int) : intOf (.int .i64 n) = n := rfl
theorem ofS (n : Txt) : strOf (.str n) = n := rfl
theorem f13_run (F : Nat) (X Y : List (Int × Txt)) (hl : X.length = Y.length) (hb : X.length ≤ 9223372036854775807) : ∀ (d k j : Nat), j + d = X.length → d < k → outR (f13_0 F k (X.map recI) (Y.map recI) j) = some (.bool (decide (X.drop j = Y.drop j)), [])
  | d, k + 1, j, h1, h2 => by
    rw [f13_0_eq, List.length_map, List.length_map]
    by_cases hj : j < X.length
    · obtain ⟨d, rfl⟩ : ∃ m, d = m + 1 := ⟨d - 1, by omega⟩
      rw [bif_pos (by rw [ltI_iff]; omega), bif_pos (by rw [inB_iff]; omega), Int.toNat_natCast, recI_getD X j hj, recI_getD Y j (by omega), show inB (j : Int) Y.length = true by rw [inB_iff]; omega, wrap64 (n := (j : Int) + 1) (by omega) (by omega)]
      simp only [nI, nS, isI, isS, ofI, ofS, cond_true]
      have e1 : X.drop j = X.getD j (0, []) :: X.drop (j + 1) := by rw [List.getD_eq_getElem?_getD, List.getElem?_eq_getElem hj]; exact List.drop_eq_getElem_cons hj
      have e2 : Y.drop j = Y.getD j (0, []) :: Y.drop (j + 1) := by rw [List.getD_eq_getElem?_getD, List.getElem?_eq_getElem (by omega)]; exact List.drop_eq_getElem_cons (by omega)
      rw [e1, e2]
      generalize X.getD j (0, []) = x
      generalize Y.getD j (0, []) = y
      show outR (bif !(eqI x.1 y.1 && (eqS x.2 y.2 && true)) then _ else f13_0 F k _ _ ((j + 1 : Nat) : Int)) = _
      have ih := f13_run F X Y hl hb d k (j + 1) (by omega) (by omega)
      rw [Bool.and_true]
      by_cases h : x = y
      · subst h
        rw [eqI_iff.2 rfl, eqS_iff.2 rfl, Bool.and_true, Bool.not_true, cond_false, ih]
        simp
      · rw [bif_pos]
        · have : ¬ (x :: X.drop (j + 1) = y :: Y.drop (j + 1)) := fun e => h (List.cons.inj e).1
          rw [decide_eq_false this]; rfl
        · rw [Bool.not_eq_true', Bool.and_eq_false_iff]
          by_cases h1 : x.1 = y.1
          · right
            rw [Bool.eq_false_iff, Ne, eqS_iff]
            exact fun e => h (Prod.ext h1 e)
          · left
            rw [Bool.eq_false_iff, Ne, eqI_iff]; exact h1
    · rw [bif_neg (by rw [ltI_iff]; omega), List.drop_eq_nil_of_le (by omega), List.drop_eq_nil_of_le (by omega)]; rfl
theorem f17_run (F : Nat) (X : List (Int × Txt)) (n : Int) (hb : X.length ≤ 9223372036854775807) : ∀ (d k j : Nat), j + d = X.length → d < k → outR (f17_0 F k (X.map recI) n j) = some (.tup [.int .i64 (zeroI ((whichN (X.drop j) n).map (· + j))), .bool (whichN (X.drop j) n).isSome], [])
  | d, k + 1, j, h1, h2 => by
    rw [f17_0_eq, List.length_map]
    by_cases hj : j < X.length
    · obtain ⟨d, rfl⟩ : ∃ m, d = m + 1 := ⟨d - 1, by omega⟩
      rw [bif_pos (by rw [ltI_iff]; omega), bif_pos (by rw [inB_iff]; omega), Int.toNat_natCast, recI_getD X j hj, nI', isI, ofI, cond_true, wrap64 (n := (j : Int) + 1) (by omega) (by omega)]
      unfold whichN
      rw [findIdx_drop _ X j (0, []) hj]
      show outR (bif eqI (X.getD j (0, [])).1 n then _ else f17_0 F k _ _ ((j + 1 : Nat) : Int)) = _
      have ih := f17_run F X n hb d k (j + 1) (by omega) (by omega)
      unfold whichN at ih
      cases eqI (X.getD j (0, [])).1 n with
      | true =>
        rw [cond_true, if_pos rfl]
        rw [Option.map_some, Nat.zero_add]; rfl
      | false =>
        rw [cond_false, if_neg (by simp), ih]
        cases (X.drop (j + 1)).findIdx? fun x => eqI x.1 n with
        | none => rfl
        | some i => simp [zeroI]; omega
    · rw [bif_neg (by rw [ltI_iff]; omega), List.drop_eq_nil_of_le (by omega)]; rfl
theorem f64_run (F : Nat) (l : List Int) (n : Int) (hb : l.length ≤ 9223372036854775807) : ∀ (d k j : Nat), j + d = l.length → d < k → outR (f64_0 F k l n l.length j) = some (.int .i64 (idxI (((l.drop j).findIdx? fun x => eqI x n).map (· + j))), [])
  | d, k + 1, j, h1, h2 => by
    rw [f64_0_eq]
    by_cases hj : j < l.length
    · obtain ⟨d, rfl⟩ : ∃ m, d = m + 1 := ⟨d - 1, by omega⟩
      rw [bif_pos (by rw [ltI_iff]; omega), bif_pos (by rw [inB_iff]; omega), Int.toNat_natCast, wrap64 (n := (j : Int) + 1) (by omega) (by omega), findIdx_drop _ l j 0 hj, show eqI n (l.getD j 0) = eqI (l.getD j 0) n by rw [Bool.eq_iff_iff, eqI_iff, eqI_iff]; exact eq_comm]
      show outR (bif eqI (l.getD j 0) n then _ else f64_0 F k _ _ _ ((j + 1 : Nat) : Int)) = _
      have ih := f64_run F l n hb d k (j + 1) (by omega) (by omega)
      cases eqI (l.getD j 0) n with
      | true =>
        rw [cond_true, if_pos rfl]
        rw [Option.map_some, Nat.zero_add]; rfl
      | false =>
        rw [cond_false, if_neg (by simp), ih]
        cases (l.drop (j + 1)).findIdx? fun x => eqI x n with
        | none => rfl
        | some i => simp [idxI]; omega
    · rw [bif_neg (by rw [ltI_iff]; omega), List.drop_eq_nil_of_le (by omega)]; rfl
theorem f48_run (F : Nat) (l : List Int) (n : Int) (hb : l.length ≤ 9223372036854775807) : ∀ (d k j : Nat), j + d = l.length → d < k → outR (f48_0 F k l n j) = some (.bool (hasI (l.drop j) n), [])
  | d, k + 1, j, h1, h2 => by
    rw [f48_0_eq]
    by_cases hj : j < l.length
    · obtain ⟨d, rfl⟩ : ∃ m, d = m + 1 := ⟨d - 1, by omega⟩
      rw [bif_pos (by rw [ltI_iff]; omega), bif_pos (by rw [inB_iff]; omega), Int.toNat_natCast, wrap64 (n := (j : Int) + 1) (by omega) (by omega)]
      show outR (bif eqI (l.getD j 0) n then _ else f48_0 F k _ _ ((j + 1 : Nat) : Int)) = _
      have ih := f48_run F l n hb d k (j + 1) (by omega) (by omega)
      rw [show l.drop j = l.getD j 0 :: l.drop (j + 1) by rw [List.getD_eq_getElem?_getD, List.getElem?_eq_getElem hj]; exact List.drop_eq_getElem_cons hj]
      show _ = some (AV.bool (eqI (l.getD j 0) n || hasI (l.drop (j + 1)) n), _)
      cases eqI (l.getD j 0) n with
      | true => rfl
      | false => exact ih
    · rw [bif_neg (by rw [ltI_iff]; omega), List.drop_eq_nil_of_le (by omega)]; rfl
theorem fits54 (l : List (List AV)) (h : l.length ≤ 1000000) : appFits ty54 (.rows 2 l) = true := by
  unfold appFits
  rw [ble_iff]
  show l.length * 16 ≤ _
  omega
theorem f23_run (F : Nat) (n p : Int) (hn : n ≤ 65536) (hp : 1 ≤ p ∧ p ≤ 65536) : ∀ (d k : Nat) (j : Int) (Z : List (Int × Int)), 0 ≤ j → j ≤ 131072 → n ≤ j + d → d < k → d ≤ 65536 → Z.length + d ≤ 65536 →
    outR (f23_0 F k n p j (Z.map pairI)) = some (.own 0, [.arr 54 (.rows 2 ((Z ++ pieces n p d j).map pairI))])
  | d, k + 1, j, Z, h0, h1, h2, h3, h4, h5 => by
    rw [f23_0_eq]
    by_cases hj : j < n
    · obtain ⟨d, rfl⟩ : ∃ m, d = m + 1 := ⟨d - 1, by omega⟩
      rw [bif_pos (by rw [ltI_iff]; omega), wrap64 (n := n - j) (by omega) (by omega), wrap64 (n := j + p) (by omega) (by omega), show (if n - j < p then n - j else p) = min p (n - j) by split <;> omega, wrap64 (n := j + min p (n - j)) (by omega) (by omega),
        bif_pos (fits54 _ (by rw [List.length_append, List.length_map, List.length_singleton]; omega)), show Z.map pairI ++ [[AV.int .i64 j, AV.int .i64 (j + min p (n - j))]] = (Z ++ [(j, j + min p (n - j))]).map pairI by rw [List.map_append]; rfl,
        f23_run F n p hn hp d k (j + p) _ (by omega) (by omega) (by omega) (by omega) (by omega) (by rw [List.length_append, List.length_singleton]; omega), pieces, if_pos hj, List.append_assoc]
      rfl
    · rw [bif_neg (by rw [ltI_iff]; omega), show pieces n p d j = [] by cases d with | zero => rfl | succ d => rw [pieces, if_neg hj], List.append_nil]; rfl

theorem f13_all (F : Nat) (X Y : List (Int × Txt)) (hb : X.length ≤ 9223372036854775807) (hF : 9223372036854775807 < F) : outR (afun (c13 F) Try.f13 [.ro (.rows 2 (X.map recI)), .ro (.rows 2 (Y.map recI))] []) = some (.bool (decide (X = Y)), []) := by
  rw [f13_eq, List.length_map, List.length_map]
  by_cases h : X.length = Y.length
  · rw [show (!eqI (X.length : Int) Y.length) = false by rw [Bool.not_eq_false', eqI_iff]; omega, cond_false]
    exact f13_run F X Y h hb X.length F 0 (by omega) (by omega)
  · rw [show (!eqI (X.length : Int) Y.length) = true by rw [Bool.not_eq_true', Bool.eq_false_iff, Ne, eqI_iff]; omega, cond_true, decide_eq_false (fun e => h (by rw [e]))]; rfl
theorem addz : (fun i : Nat => i + 0) = id := rfl
theorem f17_all (F : Nat) (X : List (Int × Txt)) (n : Int) (hb : X.length ≤ 9223372036854775807) (hF : 9223372036854775807 < F) : outR (afun (c17 F) Try.f17 [.ro (.rows 2 (X.map recI)), .int .i64 n] []) = some (.tup [.int .i64 (zeroI (whichN X n)), .bool (whichN X n).isSome], []) := by
  have h := f17_run F X n hb X.length F 0 (by omega) (by omega)
  rw [List.drop_zero, addz, Option.map_id] at h
  rw [f17_eq]
  exact h
theorem f64_all (F : Nat) (l : List Int) (n : Int) (hb : l.length ≤ 9223372036854775807) (hF : 9223372036854775807 < F) : outR (afun (c64 F) Try.f64 [.ro (.ints .i64 l), .int .i64 n] []) = some (.int .i64 (idxI (l.findIdx? fun x => eqI x n)), []) := by
  have h := f64_run F l n hb l.length F 0 (by omega) (by omega)
  rw [List.drop_zero, addz, Option.map_id] at h
  rw [f64_eq]
  exact h
theorem f48_all (F : Nat) (l : List Int) (n : Int) (hb : l.length ≤ 9223372036854775807) (hF : 9223372036854775807 < F) : outR (afun (c48 F) Try.f48 [.ro (.ints .i64 l), .int .i64 n] []) = some (.bool (hasI l n), []) := by
  rw [f48_eq]
  exact f48_run F l n hb l.length F 0 (by omega) (by omega)
theorem f23_all (F : Nat) (n p : Int) (hn : n ≤ 65536) (hF : 9223372036854775807 < F) : outR (afun (c23 F) Try.f23 [.int .i64 n, .int .i64 p] []) = some (.own 0, [.arr 54 (.rows 2 ((pieces n (perI n p) n.toNat 0).map pairI))]) := by
  have e : (if (if 1 > n then 1 else n) < if 1 > p then 1 else p then if 1 > n then 1 else n else if 1 > p then 1 else p) = perI n p := by unfold perI; (repeat' split) <;> omega
  have hp : 1 ≤ perI n p ∧ perI n p ≤ 65536 := by unfold perI; omega
  rw [f23_eq, e]
  exact f23_run F n (perI n p) hn hp n.toNat F 0 [] (by omega) (by omega) (by omega) (by omega) (by omega) (by simp; omega)
theorem big : 9223372036854775807 < rounds := by unfold rounds; omega
theorem rowsLen2 {x : List (List AV)} {l : List AV} (hr : Real (.ro (.rows 2 x) :: l)) : x.length ≤ 9223372036854775807 := by
  have := hr.rowsLen
  unfold maxLen at this
  omega
theorem intsLen {k : IntKind} {x : List Int} {l : List AV} (hr : Real (.ro (.ints k x) :: l)) : x.length ≤ 9223372036854775807 := by
  have := hr.intsLen
  unfold maxLen at this
  omega

theorem ok13 : PureOk Try.prog 13 go13 := by
  refine pureOk_of (c13 rounds) tt13_ok .nil follows rfl Try.func13 (by kernel_rfl) (by kernel_rfl) ?_ ?_
  · intro R stk args ret
    unfold go13
    split
    · simp only [elim_cond]; rfl
    · rfl
  · intro args r objs h hr
    unfold go13 at h
    split at h
    · rename_i x y
      rcases bif_alt h with ⟨hf0, h⟩ | ⟨hf0, h⟩
      · cases h
        rw [Bool.and_eq_true] at hf0
        have hl := hr.rowsLen
        rw [okI_out hf0.1] at hl
        rw [List.length_map] at hl
        refine ⟨_, ?_, .same⟩
        rw [apure_out]
        rw [okI_out hf0.1, okI_out hf0.2, decIs_map, decIs_map]
        exact f13_all rounds _ _ (by unfold maxLen at hl; omega) big
      ·
        cases h
    · cases h

theorem ok14 : PureOk Try.prog 14 go14 := by
  refine pureOk_of (c14 rounds) tt14_ok .nil follows rfl Try.func14 (by kernel_rfl) (by kernel_rfl) ?_ ?_
  · intro R stk args ret
    unfold go14
    split
    · rfl
    · rfl
  · intro args r objs h hr
    unfold go14 at h
    split at h
    · rename_i n
      cases h
      refine ⟨_, ?_, .same⟩
      rw [apure_out]
      rw [f14_eq]
      rfl
    · cases h

theorem ok17 : PureOk Try.prog 17 go17 := by
  refine pureOk_of (c17 rounds) tt17_ok .nil follows rfl Try.func17 (by kernel_rfl) (by kernel_rfl) ?_ ?_
  · intro R stk args ret
    unfold go17
    split
    · simp only [elim_cond]; rfl
    · rfl
  · intro args r objs h hr
    unfold go17 at h
    split at h
    · rename_i x n
      rcases bif_alt h with ⟨hf0, h⟩ | ⟨hf0, h⟩
      · cases h
        have hl := rowsLen2 hr
        rw [okI_out hf0, List.length_map] at hl
        refine ⟨_, ?_, .same⟩
        rw [apure_out]
        rw [okI_out hf0, decIs_map]
        exact f17_all rounds _ n hl big
      ·
        cases h
    · cases h

theorem ok64 : PureOk Try.prog 64 go64 := by
  refine pureOk_of (c64 rounds) tt64_ok .nil follows rfl Try.func64 (by kernel_rfl) (by kernel_rfl) ?_ ?_
  · intro R stk args ret
    unfold go64
    split
    · rfl
    · rfl
  · intro args r objs h hr
    unfold go64 at h
    split at h
    · rename_i l n
      cases h
      refine ⟨_, ?_, .same⟩
      rw [apure_out]
      exact f64_all rounds l n (intsLen hr) big
    · cases h

theorem ok48 : PureOk Try.prog 48 go48 := by
  refine pureOk_of (c48 rounds) tt48_ok .nil follows rfl Try.func48 (by kernel_rfl) (by kernel_rfl) ?_ ?_
  · intro R stk args ret
    unfold go48
    split
    · rfl
    · rfl
  · intro args r objs h hr
    unfold go48 at h
    split at h
    · rename_i l n
      cases h
      refine ⟨_, ?_, .same⟩
      rw [apure_out]
      exact f48_all rounds l n (intsLen hr) big
    · cases h

theorem ok23 : PureOk Try.prog 23 go23 := by
  refine pureOk_of (c23 rounds) tt23_ok .nil follows rfl Try.func23 (by kernel_rfl) (by kernel_rfl) ?_ ?_
  · intro R stk args ret
    unfold go23
    split
    · simp only [elim_cond]; rfl
    · rfl
  · intro args r objs h hr
    unfold go23 at h
    split at h
    · rename_i n p
      rcases bif_alt h with ⟨hf0, h⟩ | ⟨hf0, h⟩
      · cases h
        rw [leI_iff] at hf0
        refine ⟨_, ?_, .same⟩
        rw [apure_out]
        exact f23_all rounds n p hf0 big
      ·
        cases h
    · cases h

end Go.Proofs.YtdkihlkcnnlkcaaG
