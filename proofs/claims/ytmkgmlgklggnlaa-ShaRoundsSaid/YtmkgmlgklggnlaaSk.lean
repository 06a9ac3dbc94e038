/- A part of the proof: plain laws, and what functions of the given program come to; no condition. -/
import Derived.Test.YtmkgmlgklggnlaaSh
import Derived.Test.YtmkgmlgklggnlaaGmYshk
namespace Go.Proofs.YtmkgmlgklggnlaaG
open Go Go.Proofs.YtmkgmlgklggnlaaGm
set_option maxRecDepth 100000
set_option maxHeartbeats 0

def go69 (R : Type) (stk : R) (args : List AV) (ret : AV → List AObj → R) : R :=
  match args with
  | [.int .i64 n] => bif leI 0 n && leI n 400 then ret (.bool (primeN n.toNat)) [] else stk
  | _ => stk

def go100 (R : Type) (stk : R) (args : List AV) (ret : AV → List AObj → R) : R :=
  match args with
  | [.ro (.ints .u64 a), .ro (.ints .u64 b)] => bif Nat.ble a.length 10 && Nat.ble b.length 10 && (a.all inL && b.all inL) then ret (.own 0) [.arr 99 (.ints .u64 (digN (a.length + b.length + 1) (valB a * valB b).toNat))] else stk
  | _ => stk

def go93 (R : Type) (stk : R) (args : List AV) (ret : AV → List AObj → R) : R :=
  match args with
  | [.int .u64 x, .int .u64 n] => bif leI 0 x && leI x 1099511627776 && (leI 0 n && leI n 400) then ret (.bool (cubeB x.toNat n.toNat)) [] else stk
  | _ => stk

def go70 (R : Type) (stk : R) (args : List AV) (ret : AV → List AObj → R) : R :=
  match args with
  | [.int .u64 n] => bif leI 0 n && leI n 400 then ret (.int .u32 (rootN n.toNat)) [] else stk
  | _ => stk

def go27 (R : Type) (stk : R) (args : List AV) (ret : AV → List AObj → R) : R :=
  match args with
  | [] => ret (.arr (intsA .u32 keysW)) []
  | _ => stk

def tt69 : Tab := [(3, ty3), (4, ty4)]
theorem tt69_ok : TabOk Try.prog tt69 := tabOk_of_all ⟨ty3_ok, ty4_ok, trivial⟩
def c69 (F : Nat) : Cfg := ⟨tt69, [], F, [(0, ⟨[0, 3], []⟩)], [], 0⟩
noncomputable def f69_0 (F k : Nat) (x0 : Int) (x3 : Int) : Res := aloop (c69 F) Try.f69 0 [] k (St.mk [AV.int IntKind.i64 x0, AV.top, AV.top, AV.int IntKind.i64 x3, AV.top, AV.top, AV.top, AV.top, AV.top, AV.top, AV.top, AV.top, AV.top, AV.top, AV.top, AV.top, AV.top] [])
theorem f69_eq (F : Nat) (n : Int) : afun (c69 F) Try.f69 [AV.int IntKind.i64 n] [] =
  f69_0 F F n 2 := by kernel_rfl
theorem f69_0_eq (F k : Nat) (x0 : Int) (x3 : Int) : f69_0 F (k + 1) x0 x3 =
  bif leI (IntKind.i64.wrap (x3 * x3)) x0 then
    bif eqI x3 0 then
      .stuck
    else
      bif eqI (irem x0 x3) 0 then
        .ret (AV.bool false) []
      else
        f69_0 F k x0 (IntKind.i64.wrap (x3 + 1))
  else
    .ret (AV.bool (ltI 1 x0)) [] := by kernel_rfl


def tt100 : Tab := [(0, ty0), (3, ty3), (4, ty4), (99, ty99), (135, ty135)]
theorem tt100_ok : TabOk Try.prog tt100 := tabOk_of_all ⟨ty0_ok, ty3_ok, ty4_ok, ty99_ok, ty135_ok, trivial⟩
def c100 (F : Nat) : Cfg := ⟨tt100, [], F, [(0, ⟨[0, 1, 5, 6], []⟩), (2, ⟨[0, 1, 5, 6, 7], []⟩), (4, ⟨[5, 8], []⟩)], [(3000000, ⟨[], []⟩)], 0⟩
noncomputable def f100_0 (F k : Nat) (x0 : List Int) (x1 : List Int) (x6 : Int) (xh0 : List Int) : Res := aloop (c100 F) Try.f100 0 [] k (St.mk [AV.ro (Pay.ints IntKind.u64 x0), AV.ro (Pay.ints IntKind.u64 x1), AV.top, AV.top, AV.top, AV.own 0, AV.int IntKind.i64 x6, AV.top, AV.top, AV.top, AV.top, AV.top, AV.top, AV.top, AV.top, AV.top, AV.top, AV.top, AV.top, AV.top, AV.top, AV.top, AV.top, AV.top, AV.top, AV.top, AV.top, AV.top, AV.top, AV.top, AV.top, AV.top, AV.top, AV.top, AV.top, AV.top, AV.top, AV.top, AV.top, AV.top, AV.top, AV.top, AV.top, AV.top, AV.top, AV.top, AV.top, AV.top, AV.top, AV.top, AV.top, AV.top, AV.top, AV.top, AV.top, AV.top, AV.top, AV.top, AV.top, AV.top, AV.top, AV.top, AV.top, AV.top, AV.top, AV.top, AV.top, AV.top, AV.top, AV.top, AV.top, AV.top, AV.top, AV.top, AV.top, AV.top, AV.top, AV.top, AV.top, AV.top] [AObj.arr 99 (Pay.ints IntKind.u64 xh0)])
noncomputable def f100_2 (F k : Nat) (g0 : Nat) (x0 : List Int) (x1 : List Int) (x6 : Int) (x7 : Int) (xh0 : List Int) : Res := aloop (c100 F) Try.f100 2 [g0] k (St.mk [AV.ro (Pay.ints IntKind.u64 x0), AV.ro (Pay.ints IntKind.u64 x1), AV.top, AV.top, AV.top, AV.own 0, AV.int IntKind.i64 x6, AV.int IntKind.i64 x7, AV.top, AV.top, AV.top, AV.top, AV.top, AV.top, AV.top, AV.top, AV.top, AV.top, AV.top, AV.top, AV.top, AV.top, AV.top, AV.top, AV.top, AV.top, AV.top, AV.top, AV.top, AV.top, AV.top, AV.top, AV.top, AV.top, AV.top, AV.top, AV.top, AV.top, AV.top, AV.top, AV.top, AV.top, AV.top, AV.top, AV.top, AV.top, AV.top, AV.top, AV.top, AV.top, AV.top, AV.top, AV.top, AV.top, AV.top, AV.top, AV.top, AV.top, AV.top, AV.top, AV.top, AV.top, AV.top, AV.top, AV.top, AV.top, AV.top, AV.top, AV.top, AV.top, AV.top, AV.top, AV.top, AV.top, AV.top, AV.top, AV.top, AV.top, AV.top, AV.top] [AObj.arr 99 (Pay.ints IntKind.u64 xh0)])
noncomputable def f100_4 (F k : Nat) (x8 : Int) (xh0 : List Int) : Res := aloop (c100 F) Try.f100 4 [] k (St.mk [AV.top, AV.top, AV.top, AV.top, AV.top, AV.own 0, AV.top, AV.top, AV.int IntKind.i64 x8, AV.top, AV.top, AV.top, AV.top, AV.top, AV.top, AV.top, AV.top, AV.top, AV.top, AV.top, AV.top, AV.top, AV.top, AV.top, AV.top, AV.top, AV.top, AV.top, AV.top, AV.top, AV.top, AV.top, AV.top, AV.top, AV.top, AV.top, AV.top, AV.top, AV.top, AV.top, AV.top, AV.top, AV.top, AV.top, AV.top, AV.top, AV.top, AV.top, AV.top, AV.top, AV.top, AV.top, AV.top, AV.top, AV.top, AV.top, AV.top, AV.top, AV.top, AV.top, AV.top, AV.top, AV.top, AV.top, AV.top, AV.top, AV.top, AV.top, AV.top, AV.top, AV.top, AV.top, AV.top, AV.top, AV.top, AV.top, AV.top, AV.top, AV.top, AV.top] [AObj.arr 99 (Pay.ints IntKind.u64 xh0)])
theorem f100_eq (F : Nat) (a : List Int) (b : List Int) : afun (c100 F) Try.f100 [AV.ro (Pay.ints IntKind.u64 a), AV.ro (Pay.ints IntKind.u64 b)] [] =
  bif leI 0 (IntKind.i64.wrap (IntKind.i64.wrap (↑a.length + ↑b.length) + 1)) && leI (IntKind.i64.wrap (IntKind.i64.wrap (↑a.length + ↑b.length) + 1)) (IntKind.i64.wrap (IntKind.i64.wrap (↑a.length + ↑b.length) + 1)) && leI (IntKind.i64.wrap (IntKind.i64.wrap (↑a.length + ↑b.length) + 1) * ↑8) 140737488355328 && true then
    f100_0 F F a b 0 (List.replicate (IntKind.i64.wrap (IntKind.i64.wrap (↑a.length + ↑b.length) + 1)).toNat 0)
  else
    .stuck := by kernel_rfl
theorem f100_0_eq (F k : Nat) (x0 : List Int) (x1 : List Int) (x6 : Int) (xh0 : List Int) : f100_0 F (k + 1) x0 x1 x6 xh0 =
  bif ltI x6 ↑x0.length then
    f100_2 F F k x0 x1 x6 0 xh0
  else
    f100_4 F F 0 xh0 := by kernel_rfl
theorem f100_2_eq (F k : Nat) (g0 : Nat) (x0 : List Int) (x1 : List Int) (x6 : Int) (x7 : Int) (xh0 : List Int) : f100_2 F (k + 1) g0 x0 x1 x6 x7 xh0 =
  bif ltI x7 ↑x1.length then
    bif inB (IntKind.i64.wrap (x6 + x7)) xh0.length then
      bif inB x6 x0.length then
        bif inB x7 x1.length then
          bif inB (IntKind.i64.wrap (x6 + x7)) xh0.length then
            bif (IntKind.i64.wrap (x6 + x7)).toNat.blt xh0.length && true && true && true then
              f100_2 F k g0 x0 x1 x6 (IntKind.i64.wrap (x7 + 1)) (xh0.set (IntKind.i64.wrap (x6 + x7)).toNat (IntKind.u64.wrap (xh0.getD (IntKind.i64.wrap (x6 + x7)).toNat 0 + IntKind.u64.wrap (x0.getD x6.toNat 0 * x1.getD x7.toNat 0))))
            else
              .stuck
          else
            .stuck
        else
          .stuck
      else
        .stuck
    else
      .stuck
  else
    f100_0 F g0 x0 x1 (IntKind.i64.wrap (x6 + 1)) xh0 := by kernel_rfl
theorem f100_4_eq (F k : Nat) (x8 : Int) (xh0 : List Int) : f100_4 F (k + 1) x8 xh0 =
  bif ltI (IntKind.i64.wrap (x8 + 1)) ↑xh0.length then
    bif inB (IntKind.i64.wrap (x8 + 1)) xh0.length then
      bif inB x8 xh0.length then
        bif inB (IntKind.i64.wrap (x8 + 1)) xh0.length then
          bif (IntKind.i64.wrap (x8 + 1)).toNat.blt xh0.length && true && true && true then
            bif inB x8 (xh0.set (IntKind.i64.wrap (x8 + 1)).toNat (IntKind.u64.wrap (xh0.getD (IntKind.i64.wrap (x8 + 1)).toNat 0 + iquo IntKind.u64 (xh0.getD x8.toNat 0) 65536))).length then
              bif inB x8 (xh0.set (IntKind.i64.wrap (x8 + 1)).toNat (IntKind.u64.wrap (xh0.getD (IntKind.i64.wrap (x8 + 1)).toNat 0 + iquo IntKind.u64 (xh0.getD x8.toNat 0) 65536))).length then
                bif x8.toNat.blt (xh0.set (IntKind.i64.wrap (x8 + 1)).toNat (IntKind.u64.wrap (xh0.getD (IntKind.i64.wrap (x8 + 1)).toNat 0 + iquo IntKind.u64 (xh0.getD x8.toNat 0) 65536))).length && true && true && true then
                  f100_4 F k (IntKind.i64.wrap (x8 + 1)) ((xh0.set (IntKind.i64.wrap (x8 + 1)).toNat (IntKind.u64.wrap (xh0.getD (IntKind.i64.wrap (x8 + 1)).toNat 0 + iquo IntKind.u64 (xh0.getD x8.toNat 0) 65536))).set x8.toNat (irem ((xh0.set (IntKind.i64.wrap (x8 + 1)).toNat (IntKind.u64.wrap (xh0.getD (IntKind.i64.wrap (x8 + 1)).toNat 0 + iquo IntKind.u64 (xh0.getD x8.toNat 0) 65536))).getD x8.toNat 0) 65536))
                else
                  .stuck
              else
                .stuck
            else
              .stuck
          else
            .stuck
        else
          .stuck
      else
        .stuck
    else
      .stuck
  else
    .ret (AV.own 0) [AObj.arr 99 (Pay.ints IntKind.u64 xh0)] := by kernel_rfl


def tt93 : Tab := [(0, ty0), (3, ty3), (4, ty4), (99, ty99), (135, ty135)]
theorem tt93_ok : TabOk Try.prog tt93 := tabOk_of_all ⟨ty0_ok, ty3_ok, ty4_ok, ty99_ok, ty135_ok, trivial⟩
def c93 (F : Nat) : Cfg := ⟨tt93, [(100, .pure go100)], F, [(0, ⟨[7, 8, 9], []⟩)], [], 0⟩
noncomputable def f93_0 (F k : Nat) (x9 : Int) (xh0 : List Int) (xh1 : List Int) : Res := aloop (c93 F) Try.f93 0 [] k (St.mk [AV.top, AV.top, AV.top, AV.top, AV.top, AV.top, AV.top, AV.own 0, AV.own 1, AV.int IntKind.i64 x9, AV.top, AV.top, AV.top, AV.top, AV.top, AV.top, AV.top, AV.top, AV.top, AV.top, AV.top, AV.top, AV.top, AV.top, AV.top, AV.top, AV.top, AV.top, AV.top, AV.top, AV.top, AV.top, AV.top, AV.top, AV.top, AV.top, AV.top, AV.top, AV.top, AV.top, AV.top, AV.top, AV.top, AV.top, AV.top, AV.top, AV.top, AV.top, AV.top, AV.top, AV.top, AV.top, AV.top, AV.top, AV.top] [AObj.arr 99 (Pay.ints IntKind.u64 xh0), AObj.arr 99 (Pay.ints IntKind.u64 xh1)])
theorem f93_eq (F : Nat) (x : Int) (n : Int) : afun (c93 F) Try.f93 [AV.int IntKind.u64 x, AV.int IntKind.u64 n] [] =
  bif (([irem x 65536, 0, 0].set (1, Operand.tmp 14).fst (irem (iquo IntKind.u64 x 65536) 65536)).set (2, Operand.tmp 16).fst (iquo IntKind.u64 x 4294967296)).all inL && (([irem x 65536, 0, 0].set (1, Operand.tmp 14).fst (irem (iquo IntKind.u64 x 65536) 65536)).set (2, Operand.tmp 16).fst (iquo IntKind.u64 x 4294967296)).all inL then
    bif (digN ((([irem x 65536, 0, 0].set (1, Operand.tmp 14).fst (irem (iquo IntKind.u64 x 65536) 65536)).set (2, Operand.tmp 16).fst (iquo IntKind.u64 x 4294967296)).length + (([irem x 65536, 0, 0].set (1, Operand.tmp 14).fst (irem (iquo IntKind.u64 x 65536) 65536)).set (2, Operand.tmp 16).fst (iquo IntKind.u64 x 4294967296)).length + 1) (valB (([irem x 65536, 0, 0].set (1, Operand.tmp 14).fst (irem (iquo IntKind.u64 x 65536) 65536)).set (2, Operand.tmp 16).fst (iquo IntKind.u64 x 4294967296)) * valB (([irem x 65536, 0, 0].set (1, Operand.tmp 14).fst (irem (iquo IntKind.u64 x 65536) 65536)).set (2, Operand.tmp 16).fst (iquo IntKind.u64 x 4294967296))).toNat).all inL && (([irem x 65536, 0, 0].set (1, Operand.tmp 14).fst (irem (iquo IntKind.u64 x 65536) 65536)).set (2, Operand.tmp 16).fst (iquo IntKind.u64 x 4294967296)).all inL then
      f93_0 F F (IntKind.i64.wrap (↑(digN ((digN ((([irem x 65536, 0, 0].set (1, Operand.tmp 14).fst (irem (iquo IntKind.u64 x 65536) 65536)).set (2, Operand.tmp 16).fst (iquo IntKind.u64 x 4294967296)).length + (([irem x 65536, 0, 0].set (1, Operand.tmp 14).fst (irem (iquo IntKind.u64 x 65536) 65536)).set (2, Operand.tmp 16).fst (iquo IntKind.u64 x 4294967296)).length + 1) (valB (([irem x 65536, 0, 0].set (1, Operand.tmp 14).fst (irem (iquo IntKind.u64 x 65536) 65536)).set (2, Operand.tmp 16).fst (iquo IntKind.u64 x 4294967296)) * valB (([irem x 65536, 0, 0].set (1, Operand.tmp 14).fst (irem (iquo IntKind.u64 x 65536) 65536)).set (2, Operand.tmp 16).fst (iquo IntKind.u64 x 4294967296))).toNat).length + (([irem x 65536, 0, 0].set (1, Operand.tmp 14).fst (irem (iquo IntKind.u64 x 65536) 65536)).set (2, Operand.tmp 16).fst (iquo IntKind.u64 x 4294967296)).length + 1) (valB (digN ((([irem x 65536, 0, 0].set (1, Operand.tmp 14).fst (irem (iquo IntKind.u64 x 65536) 65536)).set (2, Operand.tmp 16).fst (iquo IntKind.u64 x 4294967296)).length + (([irem x 65536, 0, 0].set (1, Operand.tmp 14).fst (irem (iquo IntKind.u64 x 65536) 65536)).set (2, Operand.tmp 16).fst (iquo IntKind.u64 x 4294967296)).length + 1) (valB (([irem x 65536, 0, 0].set (1, Operand.tmp 14).fst (irem (iquo IntKind.u64 x 65536) 65536)).set (2, Operand.tmp 16).fst (iquo IntKind.u64 x 4294967296)) * valB (([irem x 65536, 0, 0].set (1, Operand.tmp 14).fst (irem (iquo IntKind.u64 x 65536) 65536)).set (2, Operand.tmp 16).fst (iquo IntKind.u64 x 4294967296))).toNat) * valB (([irem x 65536, 0, 0].set (1, Operand.tmp 14).fst (irem (iquo IntKind.u64 x 65536) 65536)).set (2, Operand.tmp 16).fst (iquo IntKind.u64 x 4294967296))).toNat).length - 1)) (digN ((digN ((([irem x 65536, 0, 0].set (1, Operand.tmp 14).fst (irem (iquo IntKind.u64 x 65536) 65536)).set (2, Operand.tmp 16).fst (iquo IntKind.u64 x 4294967296)).length + (([irem x 65536, 0, 0].set (1, Operand.tmp 14).fst (irem (iquo IntKind.u64 x 65536) 65536)).set (2, Operand.tmp 16).fst (iquo IntKind.u64 x 4294967296)).length + 1) (valB (([irem x 65536, 0, 0].set (1, Operand.tmp 14).fst (irem (iquo IntKind.u64 x 65536) 65536)).set (2, Operand.tmp 16).fst (iquo IntKind.u64 x 4294967296)) * valB (([irem x 65536, 0, 0].set (1, Operand.tmp 14).fst (irem (iquo IntKind.u64 x 65536) 65536)).set (2, Operand.tmp 16).fst (iquo IntKind.u64 x 4294967296))).toNat).length + (([irem x 65536, 0, 0].set (1, Operand.tmp 14).fst (irem (iquo IntKind.u64 x 65536) 65536)).set (2, Operand.tmp 16).fst (iquo IntKind.u64 x 4294967296)).length + 1) (valB (digN ((([irem x 65536, 0, 0].set (1, Operand.tmp 14).fst (irem (iquo IntKind.u64 x 65536) 65536)).set (2, Operand.tmp 16).fst (iquo IntKind.u64 x 4294967296)).length + (([irem x 65536, 0, 0].set (1, Operand.tmp 14).fst (irem (iquo IntKind.u64 x 65536) 65536)).set (2, Operand.tmp 16).fst (iquo IntKind.u64 x 4294967296)).length + 1) (valB (([irem x 65536, 0, 0].set (1, Operand.tmp 14).fst (irem (iquo IntKind.u64 x 65536) 65536)).set (2, Operand.tmp 16).fst (iquo IntKind.u64 x 4294967296)) * valB (([irem x 65536, 0, 0].set (1, Operand.tmp 14).fst (irem (iquo IntKind.u64 x 65536) 65536)).set (2, Operand.tmp 16).fst (iquo IntKind.u64 x 4294967296))).toNat) * valB (([irem x 65536, 0, 0].set (1, Operand.tmp 14).fst (irem (iquo IntKind.u64 x 65536) 65536)).set (2, Operand.tmp 16).fst (iquo IntKind.u64 x 4294967296))).toNat) [0, 0, 0, 0, 0, 0, n, 0, 0, 0, 0]
    else
      .stuck
  else
    .stuck := by kernel_rfl
theorem f93_0_eq (F k : Nat) (x9 : Int) (xh0 : List Int) (xh1 : List Int) : f93_0 F (k + 1) x9 xh0 xh1 =
  bif leI 0 x9 then
    bif inB x9 xh0.length then
      bif inB x9 xh1.length then
        bif !eqI (xh0.getD x9.toNat 0) (xh1.getD x9.toNat 0) then
          bif inB x9 xh0.length then
            bif inB x9 xh1.length then
              .ret (AV.bool (ltI (xh0.getD x9.toNat 0) (xh1.getD x9.toNat 0))) [AObj.arr 99 (Pay.ints IntKind.u64 xh0), AObj.arr 99 (Pay.ints IntKind.u64 xh1)]
            else
              .stuck
          else
            .stuck
        else
          f93_0 F k (IntKind.i64.wrap (x9 - 1)) xh0 xh1
      else
        .stuck
    else
      .stuck
  else
    .ret (AV.bool true) [AObj.arr 99 (Pay.ints IntKind.u64 xh0), AObj.arr 99 (Pay.ints IntKind.u64 xh1)] := by kernel_rfl


def tt70 : Tab := [(4, ty4), (39, ty39), (99, ty99)]
theorem tt70_ok : TabOk Try.prog tt70 := tabOk_of_all ⟨ty4_ok, ty39_ok, ty99_ok, trivial⟩
def c70 (F : Nat) : Cfg := ⟨tt70, [(93, .pure go93)], F, [(0, ⟨[0, 3, 4], []⟩)], [], 0⟩
noncomputable def f70_0 (F k : Nat) (x0 : Int) (x3 : Int) (x4 : Int) : Res := aloop (c70 F) Try.f70 0 [] k (St.mk [AV.int IntKind.u64 x0, AV.top, AV.top, AV.int IntKind.u64 x3, AV.int IntKind.u64 x4, AV.top, AV.top, AV.top, AV.top, AV.top, AV.top, AV.top, AV.top, AV.top, AV.top, AV.top, AV.top, AV.top, AV.top, AV.top] [])
theorem f70_eq (F : Nat) (n : Int) : afun (c70 F) Try.f70 [AV.int IntKind.u64 n] [] =
  f70_0 F F n 0 34359738368 := by kernel_rfl
theorem f70_0_eq (F k : Nat) (x0 : Int) (x3 : Int) (x4 : Int) : f70_0 F (k + 1) x0 x3 x4 =
  bif ltI 0 x4 then
    bif leI 0 (IntKind.u64.wrap (x3 + x4)) && leI (IntKind.u64.wrap (x3 + x4)) 1099511627776 && (leI 0 x0 && leI x0 400) then
      bif cubeB (IntKind.u64.wrap (x3 + x4)).toNat x0.toNat then
        f70_0 F k x0 (IntKind.u64.wrap (x3 + x4)) (iquo IntKind.u64 x4 2)
      else
        f70_0 F k x0 x3 (iquo IntKind.u64 x4 2)
    else
      .stuck
  else
    .ret (AV.int IntKind.u32 (IntKind.u32.wrap (irem x3 4294967296))) [] := by kernel_rfl


def tt27 : Tab := [(0, ty0), (3, ty3), (4, ty4), (39, ty39), (44, ty44), (99, ty99)]
theorem tt27_ok : TabOk Try.prog tt27 := tabOk_of_all ⟨ty0_ok, ty3_ok, ty4_ok, ty39_ok, ty44_ok, ty99_ok, trivial⟩
def c27 (F : Nat) : Cfg := ⟨tt27, [(69, .pure go69), (70, .pure go70)], F, [(0, ⟨[0, 1, 2, 3], []⟩), (2, ⟨[0, 1, 2, 3], []⟩)], [], 0⟩
noncomputable def f27_0 (F k : Nat) (x2 : Int) (x3 : Int) (xh0 : List Int) (xh1 : List Int) : Res := aloop (c27 F) Try.f27 0 [] k (St.mk [AV.ptr 0 0, AV.ptr 1 0, AV.int IntKind.i64 x2, AV.int IntKind.i64 x3, AV.top, AV.top, AV.top, AV.top, AV.top, AV.top, AV.top, AV.top, AV.top, AV.top, AV.top, AV.top, AV.top, AV.top, AV.top, AV.top, AV.top] [AObj.vara 44 IntKind.u32 xh0, AObj.vara 44 IntKind.u32 xh1])
noncomputable def f27_2 (F k : Nat) (g0 : Nat) (x2 : Int) (x3 : Int) (xh0 : List Int) (xh1 : List Int) : Res := aloop (c27 F) Try.f27 2 [g0] k (St.mk [AV.ptr 0 0, AV.ptr 1 0, AV.int IntKind.i64 x2, AV.int IntKind.i64 x3, AV.top, AV.top, AV.top, AV.top, AV.top, AV.top, AV.top, AV.top, AV.top, AV.top, AV.top, AV.top, AV.top, AV.top, AV.top, AV.top, AV.top] [AObj.vara 44 IntKind.u32 xh0, AObj.vara 44 IntKind.u32 xh1])
theorem f27_eq (F : Nat) : afun (c27 F) Try.f27 [] [] =
  f27_0 F F 2 0 [Int.ofNat 0, Int.ofNat 0, Int.ofNat 0, Int.ofNat 0, Int.ofNat 0, Int.ofNat 0, Int.ofNat 0, Int.ofNat 0, Int.ofNat 0, Int.ofNat 0, Int.ofNat 0, Int.ofNat 0, Int.ofNat 0, Int.ofNat 0, Int.ofNat 0, Int.ofNat 0, Int.ofNat 0, Int.ofNat 0, Int.ofNat 0, Int.ofNat 0, Int.ofNat 0, Int.ofNat 0, Int.ofNat 0, Int.ofNat 0, Int.ofNat 0, Int.ofNat 0, Int.ofNat 0, Int.ofNat 0, Int.ofNat 0, Int.ofNat 0, Int.ofNat 0, Int.ofNat 0, Int.ofNat 0, Int.ofNat 0, Int.ofNat 0, Int.ofNat 0, Int.ofNat 0, Int.ofNat 0, Int.ofNat 0, Int.ofNat 0, Int.ofNat 0, Int.ofNat 0, Int.ofNat 0, Int.ofNat 0, Int.ofNat 0, Int.ofNat 0, Int.ofNat 0, Int.ofNat 0, Int.ofNat 0, Int.ofNat 0, Int.ofNat 0, Int.ofNat 0, Int.ofNat 0, Int.ofNat 0, Int.ofNat 0, Int.ofNat 0, Int.ofNat 0, Int.ofNat 0, Int.ofNat 0, Int.ofNat 0, Int.ofNat 0, Int.ofNat 0, Int.ofNat 0, Int.ofNat 0] [Int.ofNat 0, Int.ofNat 0, Int.ofNat 0, Int.ofNat 0, Int.ofNat 0, Int.ofNat 0, Int.ofNat 0, Int.ofNat 0, Int.ofNat 0, Int.ofNat 0, Int.ofNat 0, Int.ofNat 0, Int.ofNat 0, Int.ofNat 0, Int.ofNat 0, Int.ofNat 0, Int.ofNat 0, Int.ofNat 0, Int.ofNat 0, Int.ofNat 0, Int.ofNat 0, Int.ofNat 0, Int.ofNat 0, Int.ofNat 0, Int.ofNat 0, Int.ofNat 0, Int.ofNat 0, Int.ofNat 0, Int.ofNat 0, Int.ofNat 0, Int.ofNat 0, Int.ofNat 0, Int.ofNat 0, Int.ofNat 0, Int.ofNat 0, Int.ofNat 0, Int.ofNat 0, Int.ofNat 0, Int.ofNat 0, Int.ofNat 0, Int.ofNat 0, Int.ofNat 0, Int.ofNat 0, Int.ofNat 0, Int.ofNat 0, Int.ofNat 0, Int.ofNat 0, Int.ofNat 0, Int.ofNat 0, Int.ofNat 0, Int.ofNat 0, Int.ofNat 0, Int.ofNat 0, Int.ofNat 0, Int.ofNat 0, Int.ofNat 0, Int.ofNat 0, Int.ofNat 0, Int.ofNat 0, Int.ofNat 0, Int.ofNat 0, Int.ofNat 0, Int.ofNat 0, Int.ofNat 0] := by kernel_rfl
theorem f27_0_eq (F k : Nat) (x2 : Int) (x3 : Int) (xh0 : List Int) (xh1 : List Int) : f27_0 F (k + 1) x2 x3 xh0 xh1 =
  bif ltI x3 64 then
    f27_2 F F k x2 x3 xh0 xh1
  else
    bif Nat.beq 64 xh1.length then
      bif (List.map (AV.int IntKind.u32) xh1).length.beq 64 then
        bif (List.map (AV.int IntKind.u32) xh1).length.beq xh0.length && (List.map (AV.int IntKind.u32) xh1).all (isInt IntKind.u32) then
          resEnd (bif Nat.beq 64 (List.map intOf (List.map (AV.int IntKind.u32) xh1)).length then some (AV.arr (List.map (AV.int IntKind.u32) (List.map intOf (List.map (AV.int IntKind.u32) xh1)))) else none) [AObj.vara 44 IntKind.u32 (List.map intOf (List.map (AV.int IntKind.u32) xh1)), AObj.vara 44 IntKind.u32 xh1]
        else
          .stuck
      else
        .stuck
    else
      .stuck := by kernel_rfl
theorem f27_2_eq (F k : Nat) (g0 : Nat) (x2 : Int) (x3 : Int) (xh0 : List Int) (xh1 : List Int) : f27_2 F (k + 1) g0 x2 x3 xh0 xh1 =
  bif leI 0 x2 && leI x2 400 then
    bif !primeN x2.toNat then
      f27_2 F k g0 (IntKind.i64.wrap (x2 + 1)) x3 xh0 xh1
    else
      bif leI 0 (IntKind.u64.wrap x2) && leI (IntKind.u64.wrap x2) 400 then
        bif inB x3 64 then
          bif (0 + x3.toNat * 1).blt xh1.length then
            f27_0 F g0 (IntKind.i64.wrap (x2 + 1)) (IntKind.i64.wrap (x3 + 1)) xh0 (xh1.set (0 + x3.toNat * 1) ↑(rootN (IntKind.u64.wrap x2).toNat))
          else
            .stuck
        else
          .stuck
      else
        .stuck
  else
    .stuck := by kernel_rfl


theorem f69_run (F n : Nat) (hn : n ≤ 400) : ∀ (d k K : Nat), k + d = 32 → d < K → 2 ≤ k → f69_0 F K n k = .ret (.bool (primeGo n d k)) []
  | 0, k, K + 1, h, _, _ => by
    obtain rfl : k = 32 := by omega
    rw [f69_0_eq, bif_neg (by rw [leI_iff, wrap64 (by omega) (by omega)]; omega), primeGo]
    congr 2
    cases h : Nat.blt 1 n
    · rw [← Bool.not_eq_true, blt_iff] at h; exact ltI_f.2 (by omega)
    · rw [blt_iff] at h; exact ltI_iff.2 (by omega)
  | d + 1, k, K + 1, h, hk, h2 => by
    have hk2 : k * k ≤ 1024 := Nat.mul_le_mul (show k ≤ 32 by omega) (show k ≤ 32 by omega)
    have e1 : IntKind.i64.wrap ((k : Int) + 1) = ((k + 1 : Nat) : Int) := by rw [wrap64 (by omega) (by omega)]; omega
    have e2 : IntKind.i64.wrap ((k : Int) * (k : Int)) = ((k * k : Nat) : Int) := by
      rw [show (k : Int) * (k : Int) = ((k * k : Nat) : Int) from (Int.natCast_mul k k).symm, wrap64 (by omega) (by omega)]
    have e3 : irem (n : Int) (k : Int) = ((n % k : Nat) : Int) := by rw [irem_eq (by omega)]; exact (Int.natCast_emod n k).symm
    rw [f69_0_eq, e1, e2, e3, f69_run F n hn d (k + 1) K (by omega) (by omega) (by omega), primeGo]
    cases hc : Nat.ble (k * k) n
    · rw [← Bool.not_eq_true, ble_iff] at hc
      rw [bif_neg (by rw [leI_iff]; omega), cond_false]
      congr 2
      cases h : Nat.blt 1 n
      · rw [← Bool.not_eq_true, blt_iff] at h; exact ltI_f.2 (by omega)
      · rw [blt_iff] at h; exact ltI_iff.2 (by omega)
    · rw [ble_iff] at hc
      rw [bif_pos (by rw [leI_iff]; omega), cond_true, bif_neg (by rw [eqI_iff]; omega)]
      cases hb : Nat.beq (n % k) 0
      · have : n % k ≠ 0 := fun h => by rw [h] at hb; cases hb
        rw [bif_neg (by rw [eqI_iff]; omega)]; rfl
      · have := Nat.eq_of_beq_eq_true hb
        rw [bif_pos (by rw [eqI_iff]; omega)]; rfl
theorem f69_all (F : Nat) (hF : 100 ≤ F) (n : Nat) (hn : n ≤ 400) : outR (afun (c69 F) Try.f69 [.int .i64 n] []) = some (.bool (primeN n), []) := by
  rw [f69_eq, show (2 : Int) = ((2 : Nat) : Int) from rfl, f69_run F n hn 30 2 F rfl (by omega) (by decide)]; rfl
theorem f100_2_run (F g : Nat) (a b : List Int) (ha : ∀ x ∈ a, 0 ≤ x ∧ x < 65536) (hb : ∀ x ∈ b, 0 ≤ x ∧ x < 65536) (la : a.length ≤ 10) (lb : b.length ≤ 10) (i : Nat) (hi : i < a.length) :
    ∀ (d k K : Nat) (out : List Int) (m : Int), k + d = b.length → d < K → out.length = a.length + b.length + 1 → (∀ x ∈ out, 0 ≤ x ∧ x ≤ m) → m + d * 4294967296 ≤ 1152921504606846976 → 0 ≤ m →
    ∃ out', f100_2 F K g a b i k out = f100_0 F g a b ((i + 1 : Nat) : Int) out' ∧ out'.length = out.length ∧ valB out' = valB out + a.getD i 0 * 65536 ^ i * (65536 ^ k * valB (b.drop k)) ∧ ∀ x ∈ out', 0 ≤ x ∧ x ≤ m + d * 4294967296
  | 0, k, K + 1, out, m, h, _, hl, ho, hm, _ => by
    have e1 : IntKind.i64.wrap ((i : Int) + 1) = ((i + 1 : Nat) : Int) := by rw [wrap64 (by omega) (by omega)]; omega
    refine ⟨out, ?_, rfl, ?_, fun x hx => ?_⟩
    · rw [f100_2_eq, bif_neg (by rw [ltI_iff]; omega), e1]
    · rw [List.drop_eq_nil_of_le (by omega), valB, Int.mul_zero, Int.mul_zero, Int.add_zero]
    · have := ho x hx; omega
  | d + 1, k, K + 1, out, m, h, hk, hl, ho, hm, h0 => by
    have e1 : IntKind.i64.wrap ((k : Int) + 1) = ((k + 1 : Nat) : Int) := by rw [wrap64 (by omega) (by omega)]; omega
    have e2 : IntKind.i64.wrap ((i : Int) + (k : Int)) = ((i + k : Nat) : Int) := by rw [wrap64 (by omega) (by omega)]; omega
    have hx := ha _ (getD_mem hi)
    have hy := hb _ (getD_mem (show k < b.length by omega))
    have hz := ho _ (getD_mem (show i + k < out.length by omega))
    have hp := limb_mul hx hy
    have hv := valB_drop b k (by omega)
    rw [f100_2_eq, bif_pos (by rw [ltI_iff]; omega), e1, e2]
    simp only [Int.toNat_natCast]
    rw [bif_pos (by rw [inB_iff]; omega), bif_pos (by rw [inB_iff]; omega), bif_pos (by rw [inB_iff]; omega), bif_pos (by rw [inB_iff]; omega),
      bif_pos (by rw [Bool.and_eq_true, Bool.and_eq_true, Bool.and_eq_true]; exact ⟨⟨⟨blt_iff.2 (by omega), rfl⟩, rfl⟩, rfl⟩),
      wrapU hp.1 (by omega), wrapU (n := out.getD (i + k) 0 + a.getD i 0 * b.getD k 0) (by omega) (by omega)]
    obtain ⟨out', h1, h2, h3, h4⟩ := f100_2_run F g a b ha hb la lb i hi d (k + 1) K (out.set (i + k) (out.getD (i + k) 0 + a.getD i 0 * b.getD k 0)) (m + 4294967296) (by omega) (by omega) (by rw [List.length_set]; exact hl)
      (fun x hx => by
        rcases List.mem_or_eq_of_mem_set hx with hx | rfl
        · have := ho x hx; omega
        · omega) (by omega) (by omega)
    refine ⟨out', h1, by rw [h2, List.length_set], ?_, fun x hx => ?_⟩
    · rw [h3, valB_set out (i + k) _ (by omega), show out.getD (i + k) 0 + a.getD i 0 * b.getD k 0 - out.getD (i + k) 0 = a.getD i 0 * b.getD k 0 by omega, Int.add_assoc, Int.pow_add, Int.pow_succ, times_step hv]
    · have := h4 x hx; omega
theorem f100_0_run (F : Nat) (hF : 100 ≤ F) (a b : List Int) (ha : ∀ x ∈ a, 0 ≤ x ∧ x < 65536) (hb : ∀ x ∈ b, 0 ≤ x ∧ x < 65536) (la : a.length ≤ 10) (lb : b.length ≤ 10) :
    ∀ (d i K : Nat) (out : List Int) (m : Int), i + d = a.length → d < K → out.length = a.length + b.length + 1 → (∀ x ∈ out, 0 ≤ x ∧ x ≤ m) → m + d * 42949672960 ≤ 1125899906842624 → 0 ≤ m →
    ∃ out', f100_0 F K a b i out = f100_4 F F 0 out' ∧ out'.length = out.length ∧ valB out' = valB out + 65536 ^ i * valB (a.drop i) * valB b ∧ ∀ x ∈ out', 0 ≤ x ∧ x ≤ m + d * 42949672960
  | 0, i, K + 1, out, m, h, _, hl, ho, hm, _ => by
    refine ⟨out, ?_, rfl, ?_, fun x hx => ?_⟩
    · rw [f100_0_eq, bif_neg (by rw [ltI_iff]; omega)]
    · rw [List.drop_eq_nil_of_le (by omega), valB, Int.mul_zero, Int.zero_mul, Int.add_zero]
    · have := ho x hx; omega
  | d + 1, i, K + 1, out, m, h, hk, hl, ho, hm, h0 => by
    have hv := valB_drop a i (by omega)
    obtain ⟨o1, h1, h2, h3, h4⟩ := f100_2_run F K a b ha hb la lb i (by omega) b.length 0 F out m (by omega) (by omega) hl ho (by omega) h0
    obtain ⟨o2, g1, g2, g3, g4⟩ := f100_0_run F hF a b ha hb la lb d (i + 1) K o1 (m + 42949672960) (by omega) (by omega) (by omega) (fun x hx => by have := h4 x hx; omega) (by omega) (by omega)
    refine ⟨o2, ?_, by omega, ?_, fun x hx => ?_⟩
    · rw [f100_0_eq, bif_pos (by rw [ltI_iff]; omega)]
      exact h1.trans g1
    · rw [g3, h3, List.drop_zero, Int.pow_zero, Int.one_mul, Int.add_assoc, Int.pow_succ, times_step2 hv]
    · have := g4 x hx; omega
theorem f100_4_run (F : Nat) : ∀ (r : List Int) (x : Int) (p : List Int) (K : Nat), r.length < K → p.length + r.length ≤ 100 → 0 ≤ x → x ≤ 1152921504606846976 → (∀ y ∈ r, 0 ≤ y ∧ y ≤ 1125899906842624) →
    f100_4 F K p.length (p ++ x :: r) = .ret (.own 0) [.arr 99 (.ints .u64 (p ++ carryL (x :: r)))]
  | [], x, p, K + 1, _, hp, h0, h1, hr => by
    have e1 : IntKind.i64.wrap ((p.length : Int) + 1) = ((p.length + 1 : Nat) : Int) := by rw [wrap64 (by omega) (by omega)]; omega
    have hl := app_len0 p x []
    rw [f100_4_eq, e1, bif_neg (by rw [ltI_iff, hl]; simp), carryL]
  | y :: r, x, p, K + 1, hk, hp, h0, h1, hr => by
    rw [List.length_cons] at hp hk
    have hy := hr y (by simp)
    have e1 : IntKind.i64.wrap ((p.length : Int) + 1) = ((p.length + 1 : Nat) : Int) := by rw [wrap64 (by omega) (by omega)]; omega
    have hl := app_len0 p x (y :: r)
    rw [List.length_cons] at hl
    have q1 : iquo IntKind.u64 x 65536 = x / 65536 := iquo_u64 h0 (by omega) (by decide)
    have hl2 := app_len0 p x ((y + x / 65536) :: r)
    rw [List.length_cons] at hl2
    rw [f100_4_eq, e1]
    simp only [Int.toNat_natCast]
    rw [app_get0, app_get1, q1, wrapU (n := y + x / 65536) (by omega) (by omega), app_set1, app_get0, irem_eq h0, app_set0,
      bif_pos (by rw [ltI_iff]; omega), bif_pos (by rw [inB_iff]; omega), bif_pos (by rw [inB_iff]; omega), bif_pos (by rw [inB_iff]; omega),
      bif_pos (by rw [Bool.and_eq_true, Bool.and_eq_true, Bool.and_eq_true]; exact ⟨⟨⟨blt_iff.2 (by omega), rfl⟩, rfl⟩, rfl⟩),
      bif_pos (by rw [inB_iff]; omega), bif_pos (by rw [inB_iff]; omega), bif_pos (by rw [Bool.and_eq_true, Bool.and_eq_true, Bool.and_eq_true]; exact ⟨⟨⟨blt_iff.2 (by omega), rfl⟩, rfl⟩, rfl⟩)]
    have e := f100_4_run F r (y + x / 65536) (p ++ [x % 65536]) K (by omega) (by rw [List.length_append, List.length_singleton]; omega) (by omega) (by omega) (fun z hz => hr z (by simp [hz]))
    rw [List.length_append, List.length_singleton, List.append_assoc, List.append_assoc] at e
    rw [carryL]
    exact e
theorem f100_all (F : Nat) (hF : 100 ≤ F) (a b : List Int) (ha : ∀ x ∈ a, 0 ≤ x ∧ x < 65536) (hb : ∀ x ∈ b, 0 ≤ x ∧ x < 65536) (la : a.length ≤ 10) (lb : b.length ≤ 10) :
    outR (afun (c100 F) Try.f100 [.ro (.ints .u64 a), .ro (.ints .u64 b)] []) = some (.own 0, [.arr 99 (.ints .u64 (digN (a.length + b.length + 1) (valB a * valB b).toNat))]) := by
  have e1 : IntKind.i64.wrap (IntKind.i64.wrap ((a.length : Int) + (b.length : Int)) + 1) = ((a.length + b.length + 1 : Nat) : Int) := by
    rw [wrap64 (n := (a.length : Int) + (b.length : Int)) (by omega) (by omega), wrap64 (by omega) (by omega)]; omega
  rw [f100_eq, e1, Int.toNat_natCast, bif_pos (by
    rw [Bool.and_eq_true, Bool.and_eq_true, Bool.and_eq_true, leI_iff, leI_iff, leI_iff]
    refine ⟨⟨⟨by omega, by omega⟩, ?_⟩, rfl⟩
    show ((a.length + b.length + 1 : Nat) : Int) * 8 ≤ _
    omega)]
  obtain ⟨o, h1, h2, h3, h4⟩ := f100_0_run F hF a b ha hb la lb a.length 0 F (List.replicate (a.length + b.length + 1) 0) 0 (by omega) (by omega) (by rw [List.length_replicate]) (fun x hx => by have := List.eq_of_mem_replicate hx; omega) (by omega) (by omega)
  rw [List.length_replicate] at h2
  rw [valB_rep, Int.zero_add, Int.pow_zero, Int.one_mul, List.drop_zero] at h3
  refine (congrArg outR h1).trans ?_
  match o, h2, h3, h4 with
  | x :: r, h2, h3, h4 =>
    have hx := h4 x (by simp)
    rw [List.length_cons] at h2
    have e := f100_4_run F r x [] F (by omega) (by rw [List.length_nil]; omega) hx.1 (by omega) (fun y hy => by have := h4 y (by simp [hy]); omega)
    refine (congrArg outR e).trans ?_
    have va := valB_lt ha
    have vb := valB_lt hb
    have pa := valB_pos (l := a) fun y hy => (ha y hy).1
    have pb := valB_pos (l := b) fun y hy => (hb y hy).1
    have hlt : valB (x :: r) < 65536 ^ (a.length + b.length + 1) := by
      rw [h3, Int.pow_succ, Int.pow_add]
      have hA : valB a * valB b ≤ 65536 ^ a.length * 65536 ^ b.length := Int.mul_le_mul (by omega) (by omega) pb (by omega)
      have hP : 0 < (65536 : Int) ^ a.length * 65536 ^ b.length := Int.mul_pos (Int.pow_pos (by decide)) (Int.pow_pos (by decide))
      generalize (65536 : Int) ^ a.length * 65536 ^ b.length = P at *
      omega
    rw [carry_dig (a.length + b.length + 1) (x :: r) (by rw [List.length_cons]; omega) (fun y hy => (h4 y hy).1) hlt, h3]
    rfl

theorem f93_run (F : Nat) (A B : List Int) (hA : A.length = 11) (hB : B.length = 11) : ∀ (i K : Nat), i ≤ 11 → i < K → outR (f93_0 F K ((i : Int) - 1) A B) = some (.bool (cmpGo A B i), [])
  | 0, K + 1, _, _ => by
    rw [f93_0_eq, bif_neg (by rw [leI_iff]; omega)]; rfl
  | i + 1, K + 1, h, hk => by
    have e1 : ((i + 1 : Nat) : Int) - 1 = (i : Int) := by omega
    have e2 : IntKind.i64.wrap ((i : Int) - 1) = (i : Int) - 1 := by rw [wrap64 (by omega) (by omega)]
    rw [e1, f93_0_eq, e2, Int.toNat_natCast, bif_pos (by rw [leI_iff]; omega), bif_pos (by rw [inB_iff]; omega), bif_pos (by rw [inB_iff]; omega), cmpGo]
    cases hc : !eqI (A.getD i 0) (B.getD i 0)
    · rw [cond_false, cond_false]
      exact f93_run F A B hA hB i K (by omega) (by omega)
    · rw [cond_true, cond_true, bif_pos (by rw [inB_iff]; omega), bif_pos (by rw [inB_iff]; omega)]; rfl
theorem f93_all (F : Nat) (hF : 100 ≤ F) (v n : Nat) (hv : v ≤ 1099511627776) (hn : n ≤ 400) : outR (afun (c93 F) Try.f93 [.int .u64 v, .int .u64 n] []) = some (.bool (cubeB v n), []) := by
  have hL : (([irem (v : Int) 65536, 0, 0].set (1, Operand.tmp 14).fst (irem (iquo IntKind.u64 (v : Int) 65536) 65536)).set (2, Operand.tmp 16).fst (iquo IntKind.u64 (v : Int) 4294967296)) = digN 3 v := by
    have a0 : irem (v : Int) 65536 = ((v % 65536 : Nat) : Int) := by rw [irem_eq (by omega)]; omega
    have a1 : iquo IntKind.u64 (v : Int) 65536 = ((v / 65536 : Nat) : Int) := by rw [iquo_u64 (by omega) (by omega) (by decide)]; omega
    have a2 : irem ((v / 65536 : Nat) : Int) 65536 = ((v / 65536 % 65536 : Nat) : Int) := by rw [irem_eq (by omega)]; omega
    have a3 : iquo IntKind.u64 (v : Int) 4294967296 = ((v / 4294967296 : Nat) : Int) := by rw [iquo_u64 (by omega) (by omega) (by decide)]; omega
    rw [a1, a2, a3, a0, digN_three v (by omega)]; rfl
  have v2 : v * v ≤ 1099511627776 * 1099511627776 := Nat.mul_le_mul hv hv
  have v3 : v * v * v ≤ 1099511627776 * 1099511627776 * 1099511627776 := Nat.mul_le_mul v2 hv
  have m2 : ((v : Int) * (v : Int)).toNat = v * v := by rw [← Int.natCast_mul]; rfl
  have m3 : (((v * v : Nat) : Int) * (v : Int)).toNat = v * v * v := by rw [← Int.natCast_mul]; rfl
  rw [f93_eq, hL, digN_len, valB_digN 3 v (by omega), m2, digN_len, valB_digN (3 + 3 + 1) (v * v) (by omega), m3, digN_len, digN_all, digN_all]
  have e := f93_run F (digN 11 (v * v * v)) (digN 11 (n * 79228162514264337593543950336)) (digN_len _ _) (digN_len _ _) 11 F (by decide) (by omega)
  rw [cmp_dig 11 _ _ 11 (by decide), Nat.mod_eq_of_lt (by omega), Nat.mod_eq_of_lt (by omega), ble_decide, ← digN_want n (by omega)] at e
  exact e
theorem f70_run (F n : Nat) (hn : n ≤ 400) : ∀ (d K x : Nat), d < K → d ≤ 36 → x + 2 ^ d ≤ 68719476736 → f70_0 F K n x ((2 ^ d / 2 : Nat) : Int) = .ret (.int .u32 ((rootGo n d (2 ^ d / 2) x % 4294967296 : Nat) : Int)) []
  | 0, K + 1, x, _, _, hx => by
    rw [f70_0_eq, bif_neg (by rw [ltI_iff]; decide), irem_eq (by omega), rootGo, show (x : Int) % 4294967296 = ((x % 4294967296 : Nat) : Int) by omega, wrapu32 (by omega) (by omega)]
  | d + 1, K + 1, x, hk, hd, hx => by
    have hb : 2 ^ (d + 1) / 2 = 2 ^ d := by rw [Nat.pow_succ, Nat.mul_div_cancel _ (by decide)]
    have hp : 0 < 2 ^ d := Nat.pow_pos (by decide)
    rw [Nat.pow_succ] at hx
    rw [hb, rootGo]
    generalize hq : 2 ^ d = q at *
    have e1 : IntKind.u64.wrap ((x : Int) + (q : Int)) = ((x + q : Nat) : Int) := by rw [wrapu64 (by omega) (by omega)]; omega
    have e2 : iquo IntKind.u64 (q : Int) 2 = ((q / 2 : Nat) : Int) := by rw [iquo_u64 (by omega) (by omega) (by decide)]; omega
    rw [f70_0_eq, e1, e2, Int.toNat_natCast, Int.toNat_natCast, bif_pos (by rw [ltI_iff]; omega), bif_pos (by simp only [Bool.and_eq_true, leI_iff]; omega)]
    subst hq
    cases cubeB (x + 2 ^ d) n
    · rw [cond_false, cond_false]
      exact f70_run F n hn d K x (by omega) (by omega) (by omega)
    · rw [cond_true, cond_true]
      exact f70_run F n hn d K (x + 2 ^ d) (by omega) (by omega) (by omega)
theorem f70_all (F : Nat) (hF : 100 ≤ F) (n : Nat) (hn : n ≤ 400) : outR (afun (c70 F) Try.f70 [.int .u64 n] []) = some (.int .u32 ((rootN n : Nat) : Int), []) := by
  rw [f70_eq]
  have e := f70_run F n hn 36 F 0 (by omega) (by decide) (by decide)
  exact congrArg outR e
theorem f27_2_run (F g : Nat) (i : Nat) (hi : i < 64) (z l : List Int) (hl : l.length = 64) : ∀ (d p K : Nat), primeN (nextP d p) = true → nextP d p ≤ 399 → d < K → p ≤ nextP d p ∧
    f27_2 F K g p i z l = f27_0 F g ((nextP d p + 1 : Nat) : Int) ((i + 1 : Nat) : Int) z (l.set i ((rootN (nextP d p) : Nat) : Int))
  | d, p, K + 1, h1, h2, hk => by
    have done : primeN p = true → p ≤ 399 → f27_2 F (K + 1) g p i z l = f27_0 F g ((p + 1 : Nat) : Int) ((i + 1 : Nat) : Int) z (l.set i ((rootN p : Nat) : Int)) := fun hp h => by
      have e1 : IntKind.i64.wrap ((p : Int) + 1) = ((p + 1 : Nat) : Int) := by rw [wrap64 (by omega) (by omega)]; omega
      have e2 : IntKind.i64.wrap ((i : Int) + 1) = ((i + 1 : Nat) : Int) := by rw [wrap64 (by omega) (by omega)]; omega
      rw [f27_2_eq, e1, e2, wrapu64 (n := (p : Int)) (by omega) (by omega), Int.toNat_natCast, Int.toNat_natCast, hp, bif_pos (by simp only [Bool.and_eq_true, leI_iff]; omega), Bool.not_true, cond_false,
        bif_pos (by simp only [Bool.and_eq_true, leI_iff]; omega), bif_pos (by rw [inB_iff]; omega), Nat.zero_add, Nat.mul_one, bif_pos (by rw [blt_iff]; omega)]
    cases d with
    | zero => exact ⟨Nat.le_refl _, done h1 h2⟩
    | succ d =>
      unfold nextP at h1 h2 ⊢
      cases hp : primeN p with
      | true =>
        rw [hp, cond_true] at h1 h2
        rw [cond_true]
        exact ⟨Nat.le_refl _, done h1 h2⟩
      | false =>
        rw [hp, cond_false] at h1 h2
        rw [cond_false]
        obtain ⟨g1, g2⟩ := f27_2_run F g i hi z l hl d (p + 1) K h1 h2 (by omega)
        have e1 : IntKind.i64.wrap ((p : Int) + 1) = ((p + 1 : Nat) : Int) := by rw [wrap64 (by omega) (by omega)]; omega
        refine ⟨by omega, ?_⟩
        rw [f27_2_eq, e1, Int.toNat_natCast, hp, bif_pos (by simp only [Bool.and_eq_true, leI_iff]; omega), Bool.not_false, cond_true]
        exact g2
theorem f27_0_run (F : Nat) (hF : 100 ≤ F) (z : List Int) (hz : z.length = 64) : ∀ (d i p K : Nat) (q : List Int), i + d = 64 → d < K → q.length = i → keysOk d p = true →
    outR (f27_0 F K p i z (q ++ List.replicate d 0)) = some (.arr (intsA .u32 (q ++ keysGo d p)), [])
  | 0, i, p, K + 1, q, h, _, hq, _ => by
    have hl : (q ++ List.replicate 0 (0 : Int)).length = 64 := by rw [List.length_append, List.length_replicate]; omega
    rw [f27_0_eq, bif_neg (by rw [ltI_iff]; omega), bif_pos (by rw [hl]; rfl), bif_pos (by rw [List.length_map, hl]; rfl),
      bif_pos (by rw [Bool.and_eq_true]; exact ⟨by rw [List.length_map, hl, hz]; rfl, intsA_is .u32 _⟩)]
    show outR (resEnd (bif Nat.beq 64 (List.map intOf (intsA .u32 (q ++ []))).length then some (AV.arr (List.map (AV.int IntKind.u32) (List.map intOf (intsA .u32 (q ++ []))))) else none) _) = some (AV.arr (intsA .u32 (q ++ [])), [])
    rw [intsA_int, show (q ++ ([] : List Int)).length = 64 from hl]; rfl
  | d + 1, i, p, K + 1, q, h, hk, hq, hok => by
    unfold keysOk at hok
    rw [Bool.and_eq_true, Bool.and_eq_true, ble_iff] at hok
    have hl : (q ++ List.replicate (d + 1) (0 : Int)).length = 64 := by rw [List.length_append, List.length_replicate]; omega
    obtain ⟨_, e⟩ := f27_2_run F K i (by omega) z (q ++ List.replicate (d + 1) 0) hl 40 p F hok.1.1 hok.1.2 (by omega)
    rw [f27_0_eq, bif_pos (by rw [ltI_iff]; omega), e]
    subst hq
    rw [show q ++ List.replicate (d + 1) (0 : Int) = q ++ 0 :: List.replicate d 0 from rfl, app_set0]
    have e2 := f27_0_run F hF z hz d (q.length + 1) (nextP 40 p + 1) K (q ++ [((rootN (nextP 40 p) : Nat) : Int)]) (by omega) (by omega) (by rw [List.length_append, List.length_singleton]) hok.2
    rw [List.append_assoc, List.append_assoc] at e2
    exact e2
theorem f27_all (F : Nat) (hF : 100 ≤ F) : outR (afun (c27 F) Try.f27 [] []) = some (.arr (intsA .u32 keysW), []) := by
  rw [f27_eq]
  have e := f27_0_run F hF (List.replicate 64 0) List.length_replicate 64 0 2 F [] rfl (by omega) rfl keys_ok
  rw [keys_all] at e
  exact e

theorem ok69 : PureOk Try.prog 69 go69 := by
  refine pureOk_of (c69 rounds) tt69_ok .nil follows rfl Try.func69 (by kernel_rfl) (by kernel_rfl) ?_ ?_
  · intro R stk args ret
    unfold go69
    split
    · simp only [elim_cond]; rfl
    · rfl
  · intro args r objs h hr
    unfold go69 at h
    split at h
    · rename_i n
      rcases bif_alt h with ⟨hf0, h⟩ | ⟨hf0, h⟩
      · cases h
        rw [Bool.and_eq_true, leI_iff, leI_iff] at hf0
        obtain ⟨m, rfl⟩ := Int.eq_ofNat_of_zero_le hf0.1
        refine ⟨_, ?_, .same⟩
        rw [apure_out]
        exact f69_all rounds (by decide) m (by omega)
      ·
        cases h
    · cases h

theorem ok100 : PureOk Try.prog 100 go100 := by
  refine pureOk_of (c100 rounds) tt100_ok .nil follows rfl Try.func100 (by kernel_rfl) (by kernel_rfl) ?_ ?_
  · intro R stk args ret
    unfold go100
    split
    · simp only [elim_cond]; rfl
    · rfl
  · intro args r objs h hr
    unfold go100 at h
    split at h
    · rename_i a b
      rcases bif_alt h with ⟨hf0, h⟩ | ⟨hf0, h⟩
      · cases h
        rw [Bool.and_eq_true, Bool.and_eq_true, Bool.and_eq_true, ble_iff, ble_iff] at hf0
        refine ⟨_, ?_, .same⟩
        rw [apure_out]
        exact f100_all rounds (by decide) a b (inL_all hf0.2.1) (inL_all hf0.2.2) hf0.1.1 hf0.1.2
      ·
        cases h
    · cases h

theorem ok93 : PureOk Try.prog 93 go93 := by
  refine pureOk_of (c93 rounds) tt93_ok (.cons ok100 .nil) follows rfl Try.func93 (by kernel_rfl) (by kernel_rfl) ?_ ?_
  · intro R stk args ret
    unfold go93
    split
    · simp only [elim_cond]; rfl
    · rfl
  · intro args r objs h hr
    unfold go93 at h
    split at h
    · rename_i x n
      rcases bif_alt h with ⟨hf0, h⟩ | ⟨hf0, h⟩
      · cases h
        rw [Bool.and_eq_true, Bool.and_eq_true, Bool.and_eq_true, leI_iff, leI_iff, leI_iff, leI_iff] at hf0
        obtain ⟨v, rfl⟩ := Int.eq_ofNat_of_zero_le hf0.1.1
        obtain ⟨m, rfl⟩ := Int.eq_ofNat_of_zero_le hf0.2.1
        refine ⟨_, ?_, .same⟩
        rw [apure_out]
        exact f93_all rounds (by decide) v m (by omega) (by omega)
      ·
        cases h
    · cases h

theorem ok70 : PureOk Try.prog 70 go70 := by
  refine pureOk_of (c70 rounds) tt70_ok (.cons ok93 .nil) follows rfl Try.func70 (by kernel_rfl) (by kernel_rfl) ?_ ?_
  · intro R stk args ret
    unfold go70
    split
    · simp only [elim_cond]; rfl
    · rfl
  · intro args r objs h hr
    unfold go70 at h
    split at h
    · rename_i n
      rcases bif_alt h with ⟨hf0, h⟩ | ⟨hf0, h⟩
      · cases h
        rw [Bool.and_eq_true, leI_iff, leI_iff] at hf0
        obtain ⟨m, rfl⟩ := Int.eq_ofNat_of_zero_le hf0.1
        refine ⟨_, ?_, .same⟩
        rw [apure_out]
        exact f70_all rounds (by decide) m (by omega)
      ·
        cases h
    · cases h

theorem ok27 : PureOk Try.prog 27 go27 := by
  refine pureOk_of (c27 rounds) tt27_ok (.cons ok69 (.cons ok70 .nil)) follows rfl Try.func27 (by kernel_rfl) (by kernel_rfl) ?_ ?_
  · intro R stk args ret
    unfold go27
    split
    · rfl
    · rfl
  · intro args r objs h hr
    unfold go27 at h
    split at h
    · rename_i a
      cases h
      refine ⟨_, ?_, .same⟩
      rw [apure_out]
      exact f27_all rounds (by decide)
    · cases h

end Go.Proofs.YtmkgmlgklggnlaaG
