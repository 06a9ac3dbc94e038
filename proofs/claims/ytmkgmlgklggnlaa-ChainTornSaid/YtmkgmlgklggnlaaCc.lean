/- A part of the proof: plain laws, and what functions of the given program come to; no condition. -/
import Derived.Test.YtmkgmlgklggnlaaCb
import Derived.Test.YtmkgmlgklggnlaaCs
namespace Go.Proofs.YtmkgmlgklggnlaaG
open Go Go.Proofs.YtmkgmlgklggnlaaGm
set_option maxRecDepth 100000
set_option maxHeartbeats 0

def tt16 : Tab := [(0, ty0), (1, ty1), (3, ty3), (4, ty4), (5, ty5), (22, ty22), (24, ty24), (26, ty26), (27, ty27), (52, ty52), (98, ty98), (99, ty99), (100, ty100)]
theorem tt16_ok : TabOk Try.prog tt16 := tabOk_of_all ⟨ty0_ok, ty1_ok, ty3_ok, ty4_ok, ty5_ok, ty22_ok, ty24_ok, ty26_ok, ty27_ok, ty52_ok, ty98_ok, ty99_ok, ty100_ok, trivial⟩
def c16 (F : Nat) : Cfg := ⟨tt16, [(59, .pure go59), (21, .pure (normGo [.agg [.keep, .keep, .keep, .keep, .rows 32]] go21))], F, [(0, ⟨[0, 2, 4, 5, 12], []⟩), (2, ⟨[2, 10, 11], []⟩)], [], 0⟩
noncomputable def f16_0 (F k : Nat) (x0 : List UInt8) (x4 : Int) (xh0 : Int) (xh0_1 : Int) (xh0_2 : Int) (xh0_3 : Int) (xh1 : Int) (xh1_1 : Int) (xh1_2 : Int) (xh1_3 : Int) : Res := aloop (c16 F) Try.f16 0 [] k (St.mk [AV.ro (Pay.bytes x0), .top, AV.ptr 0 0, .top, AV.int .i64 x4, AV.ptr 1 0, .top, .top, .top, .top, .top, .top, AV.int .i64 0, .top, .top, .top, .top, .top, .top, .top, .top, .top, .top, .top, .top, .top, .top, .top, .top, .top, .top, .top, .top, .top, .top, .top, .top, .top, .top, .top, .top, .top, .top, .top, .top, .top, .top, .top, .top, .top, .top, .top, .top, .top, .top, .top, .top, .top, .top, .top, .top, .top, .top, .top, .top, .top, .top, .top] [AObj.var 26 [AV.int .i64 xh0, AV.int .i64 xh0_1, AV.int .i64 xh0_2, AV.int .i64 xh0_3, AV.nil], AObj.var 98 [AV.int .i64 xh1, AV.int .i64 xh1_1, AV.int .i64 xh1_2, AV.int .i64 xh1_3]])
noncomputable def f16_0_1 (F k : Nat) (x0 : List UInt8) (x4 : Int) (xh0 : Int) (xh0_1 : Int) (xh0_2 : Int) (xh0_3 : Int) (xh1 : Int) (xh1_1 : Int) (xh1_2 : Int) (xh1_3 : Int) : Res := aloop (c16 F) Try.f16 0 [] k (St.mk [AV.ro (Pay.bytes x0), .top, AV.ptr 0 0, .top, AV.int .i64 x4, AV.ptr 1 0, .top, .top, .top, .top, .top, .top, AV.int .i64 1, .top, .top, .top, .top, .top, .top, .top, .top, .top, .top, .top, .top, .top, .top, .top, .top, .top, .top, .top, .top, .top, .top, .top, .top, .top, .top, .top, .top, .top, .top, .top, .top, .top, .top, .top, .top, .top, .top, .top, .top, .top, .top, .top, .top, .top, .top, .top, .top, .top, .top, .top, .top, .top, .top, .top] [AObj.var 26 [AV.int .i64 xh0, AV.int .i64 xh0_1, AV.int .i64 xh0_2, AV.int .i64 xh0_3, AV.nil], AObj.var 98 [AV.int .i64 xh1, AV.int .i64 xh1_1, AV.int .i64 xh1_2, AV.int .i64 xh1_3]])
noncomputable def f16_0_2 (F k : Nat) (x0 : List UInt8) (x4 : Int) (xh0 : Int) (xh0_1 : Int) (xh0_2 : Int) (xh0_3 : Int) (xh1 : Int) (xh1_1 : Int) (xh1_2 : Int) (xh1_3 : Int) : Res := aloop (c16 F) Try.f16 0 [] k (St.mk [AV.ro (Pay.bytes x0), .top, AV.ptr 0 0, .top, AV.int .i64 x4, AV.ptr 1 0, .top, .top, .top, .top, .top, .top, AV.int .i64 2, .top, .top, .top, .top, .top, .top, .top, .top, .top, .top, .top, .top, .top, .top, .top, .top, .top, .top, .top, .top, .top, .top, .top, .top, .top, .top, .top, .top, .top, .top, .top, .top, .top, .top, .top, .top, .top, .top, .top, .top, .top, .top, .top, .top, .top, .top, .top, .top, .top, .top, .top, .top, .top, .top, .top] [AObj.var 26 [AV.int .i64 xh0, AV.int .i64 xh0_1, AV.int .i64 xh0_2, AV.int .i64 xh0_3, AV.nil], AObj.var 98 [AV.int .i64 xh1, AV.int .i64 xh1_1, AV.int .i64 xh1_2, AV.int .i64 xh1_3]])
noncomputable def f16_0_3 (F k : Nat) (x0 : List UInt8) (x4 : Int) (xh0 : Int) (xh0_1 : Int) (xh0_2 : Int) (xh0_3 : Int) (xh1 : Int) (xh1_1 : Int) (xh1_2 : Int) (xh1_3 : Int) : Res := aloop (c16 F) Try.f16 0 [] k (St.mk [AV.ro (Pay.bytes x0), .top, AV.ptr 0 0, .top, AV.int .i64 x4, AV.ptr 1 0, .top, .top, .top, .top, .top, .top, AV.int .i64 3, .top, .top, .top, .top, .top, .top, .top, .top, .top, .top, .top, .top, .top, .top, .top, .top, .top, .top, .top, .top, .top, .top, .top, .top, .top, .top, .top, .top, .top, .top, .top, .top, .top, .top, .top, .top, .top, .top, .top, .top, .top, .top, .top, .top, .top, .top, .top, .top, .top, .top, .top, .top, .top, .top, .top] [AObj.var 26 [AV.int .i64 xh0, AV.int .i64 xh0_1, AV.int .i64 xh0_2, AV.int .i64 xh0_3, AV.nil], AObj.var 98 [AV.int .i64 xh1, AV.int .i64 xh1_1, AV.int .i64 xh1_2, AV.int .i64 xh1_3]])
noncomputable def f16_0_4 (F k : Nat) (x0 : List UInt8) (x4 : Int) (xh0 : Int) (xh0_1 : Int) (xh0_2 : Int) (xh0_3 : Int) (xh1 : Int) (xh1_1 : Int) (xh1_2 : Int) (xh1_3 : Int) : Res := aloop (c16 F) Try.f16 0 [] k (St.mk [AV.ro (Pay.bytes x0), .top, AV.ptr 0 0, .top, AV.int .i64 x4, AV.ptr 1 0, .top, .top, .top, .top, .top, .top, AV.int .i64 4, .top, .top, .top, .top, .top, .top, .top, .top, .top, .top, .top, .top, .top, .top, .top, .top, .top, .top, .top, .top, .top, .top, .top, .top, .top, .top, .top, .top, .top, .top, .top, .top, .top, .top, .top, .top, .top, .top, .top, .top, .top, .top, .top, .top, .top, .top, .top, .top, .top, .top, .top, .top, .top, .top, .top] [AObj.var 26 [AV.int .i64 xh0, AV.int .i64 xh0_1, AV.int .i64 xh0_2, AV.int .i64 xh0_3, AV.nil], AObj.var 98 [AV.int .i64 xh1, AV.int .i64 xh1_1, AV.int .i64 xh1_2, AV.int .i64 xh1_3]])
noncomputable def f16_2 (F k : Nat) (x11 : List UInt8) (xh0 : Int) (xh0_1 : Int) (xh0_2 : Int) (xh0_3 : Int) (xh1 : Int) (xh1_1 : Int) (xh1_2 : Int) (xh1_3 : Int) : Res := aloop (c16 F) Try.f16 2 [] k (St.mk [.top, .top, AV.ptr 0 0, .top, .top, .top, .top, .top, .top, .top, AV.ptr 1 0, AV.ro (Pay.bytes x11), .top, .top, .top, .top, .top, .top, .top, .top, .top, .top, .top, .top, .top, .top, .top, .top, .top, .top, .top, .top, .top, .top, .top, .top, .top, .top, .top, .top, .top, .top, .top, .top, .top, .top, .top, .top, .top, .top, .top, .top, .top, .top, .top, .top, .top, .top, .top, .top, .top, .top, .top, .top, .top, .top, .top, .top] [AObj.var 26 [AV.int .i64 xh0, AV.int .i64 xh0_1, AV.int .i64 xh0_2, AV.int .i64 xh0_3, AV.nil], AObj.var 26 [AV.int .i64 xh1, AV.int .i64 xh1_1, AV.int .i64 xh1_2, AV.int .i64 xh1_3, AV.nil]])
noncomputable def f16_2_1 (F k : Nat) (x11 : List UInt8) (xh0 : Int) (xh0_1 : Int) (xh0_2 : Int) (xh0_3 : Int) (xh1 : Int) (xh1_1 : Int) (xh1_2 : Int) (xh1_3 : Int) (xh2 : List (List AV)) : Res := aloop (c16 F) Try.f16 2 [] k (St.mk [.top, .top, AV.ptr 0 0, .top, .top, .top, .top, .top, .top, .top, AV.ptr 1 0, AV.ro (Pay.bytes x11), .top, .top, .top, .top, .top, .top, .top, .top, .top, .top, .top, .top, .top, .top, .top, .top, .top, .top, .top, .top, .top, .top, .top, .top, .top, .top, .top, .top, .top, .top, .top, .top, .top, .top, .top, .top, .top, .top, .top, .top, .top, .top, .top, .top, .top, .top, .top, .top, .top, .top, .top, .top, .top, .top, .top, .top] [AObj.var 26 [AV.int .i64 xh0, AV.int .i64 xh0_1, AV.int .i64 xh0_2, AV.int .i64 xh0_3, AV.nil], AObj.var 26 [AV.int .i64 xh1, AV.int .i64 xh1_1, AV.int .i64 xh1_2, AV.int .i64 xh1_3, AV.own 2], AObj.arr 52 (Pay.rows 32 xh2)])
theorem f16_eq (F : Nat) (a0 : List UInt8) : afun (c16 F) Try.f16 [AV.ro (Pay.bytes a0)] [] =
 f16_0 F F a0 0 0 0 0 0 0 0 0 0 := by kernel_rfl
theorem f16_0_eq (F k : Nat) (x0 : List UInt8) (x4 : Int) (xh0 : Int) (xh0_1 : Int) (xh0_2 : Int) (xh0_3 : Int) (xh1 : Int) (xh1_1 : Int) (xh1_2 : Int) (xh1_3 : Int) : f16_0 F (k + 1) x0 x4 xh0 xh0_1 xh0_2 xh0_3 xh1 xh1_1 xh1_2 xh1_3 =
 bif !eqI (getV x0 x4).snd.snd 0 then
 .ret (AV.tup [AV.agg [AV.int .i64 0, AV.int .i64 0, AV.int .i64 0, AV.int .i64 0, AV.nil], AV.int .i64 (getV x0 x4).snd.snd]) [AObj.var 26 [AV.int .i64 0, AV.int .i64 0, AV.int .i64 0, AV.int .i64 0, AV.nil], AObj.var 98 [AV.int .i64 xh1, AV.int .i64 xh1_1, AV.int .i64 xh1_2, AV.int .i64 xh1_3]]
 else
 f16_0_1 F k x0 ((getV x0 x4).snd.fst) xh0 xh0_1 xh0_2 xh0_3 (IntKind.i64.wrap (if 1073741825 < (getV x0 x4).fst then 1073741825 else (getV x0 x4).fst)) xh1_1 xh1_2 xh1_3 := by kernel_rfl
theorem f16_0_1_eq (F k : Nat) (x0 : List UInt8) (x4 : Int) (xh0 : Int) (xh0_1 : Int) (xh0_2 : Int) (xh0_3 : Int) (xh1 : Int) (xh1_1 : Int) (xh1_2 : Int) (xh1_3 : Int) : f16_0_1 F (k + 1) x0 x4 xh0 xh0_1 xh0_2 xh0_3 xh1 xh1_1 xh1_2 xh1_3 =
 bif !eqI (getV x0 x4).snd.snd 0 then
 .ret (AV.tup [AV.agg [AV.int .i64 0, AV.int .i64 0, AV.int .i64 0, AV.int .i64 0, AV.nil], AV.int .i64 (getV x0 x4).snd.snd]) [AObj.var 26 [AV.int .i64 0, AV.int .i64 0, AV.int .i64 0, AV.int .i64 0, AV.nil], AObj.var 98 [AV.int .i64 xh1, AV.int .i64 xh1_1, AV.int .i64 xh1_2, AV.int .i64 xh1_3]]
 else
 f16_0_2 F k x0 ((getV x0 x4).snd.fst) xh0 xh0_1 xh0_2 xh0_3 xh1 (IntKind.i64.wrap (if 1073741825 < (getV x0 x4).fst then 1073741825 else (getV x0 x4).fst)) xh1_2 xh1_3 := by kernel_rfl
theorem f16_0_2_eq (F k : Nat) (x0 : List UInt8) (x4 : Int) (xh0 : Int) (xh0_1 : Int) (xh0_2 : Int) (xh0_3 : Int) (xh1 : Int) (xh1_1 : Int) (xh1_2 : Int) (xh1_3 : Int) : f16_0_2 F (k + 1) x0 x4 xh0 xh0_1 xh0_2 xh0_3 xh1 xh1_1 xh1_2 xh1_3 =
 bif !eqI (getV x0 x4).snd.snd 0 then
 .ret (AV.tup [AV.agg [AV.int .i64 0, AV.int .i64 0, AV.int .i64 0, AV.int .i64 0, AV.nil], AV.int .i64 (getV x0 x4).snd.snd]) [AObj.var 26 [AV.int .i64 0, AV.int .i64 0, AV.int .i64 0, AV.int .i64 0, AV.nil], AObj.var 98 [AV.int .i64 xh1, AV.int .i64 xh1_1, AV.int .i64 xh1_2, AV.int .i64 xh1_3]]
 else
 f16_0_3 F k x0 ((getV x0 x4).snd.fst) xh0 xh0_1 xh0_2 xh0_3 xh1 xh1_1 (IntKind.i64.wrap (if 1073741825 < (getV x0 x4).fst then 1073741825 else (getV x0 x4).fst)) xh1_3 := by kernel_rfl
theorem f16_0_3_eq (F k : Nat) (x0 : List UInt8) (x4 : Int) (xh0 : Int) (xh0_1 : Int) (xh0_2 : Int) (xh0_3 : Int) (xh1 : Int) (xh1_1 : Int) (xh1_2 : Int) (xh1_3 : Int) : f16_0_3 F (k + 1) x0 x4 xh0 xh0_1 xh0_2 xh0_3 xh1 xh1_1 xh1_2 xh1_3 =
 bif !eqI (getV x0 x4).snd.snd 0 then
 .ret (AV.tup [AV.agg [AV.int .i64 0, AV.int .i64 0, AV.int .i64 0, AV.int .i64 0, AV.nil], AV.int .i64 (getV x0 x4).snd.snd]) [AObj.var 26 [AV.int .i64 0, AV.int .i64 0, AV.int .i64 0, AV.int .i64 0, AV.nil], AObj.var 98 [AV.int .i64 xh1, AV.int .i64 xh1_1, AV.int .i64 xh1_2, AV.int .i64 xh1_3]]
 else
 f16_0_4 F k x0 ((getV x0 x4).snd.fst) xh0 xh0_1 xh0_2 xh0_3 xh1 xh1_1 xh1_2 (IntKind.i64.wrap (if 1073741825 < (getV x0 x4).fst then 1073741825 else (getV x0 x4).fst)) := by kernel_rfl
theorem f16_0_4_eq (F k : Nat) (x0 : List UInt8) (x4 : Int) (xh0 : Int) (xh0_1 : Int) (xh0_2 : Int) (xh0_3 : Int) (xh1 : Int) (xh1_1 : Int) (xh1_2 : Int) (xh1_3 : Int) : f16_0_4 F (k + 1) x0 x4 xh0 xh0_1 xh0_2 xh0_3 xh1 xh1_1 xh1_2 xh1_3 =
 bif leI 0 x4 && leI x4 ↑x0.length && leI ↑x0.length ↑x0.length then
 f16_2 F F (List.drop x4.toNat x0) xh0 xh0_1 xh0_2 xh0_3 xh1 xh1_1 xh1_2 xh1_3
 else
 .stuck := by kernel_rfl
theorem f16_2_eq (F k : Nat) (x11 : List UInt8) (xh0 : Int) (xh0_1 : Int) (xh0_2 : Int) (xh0_3 : Int) (xh1 : Int) (xh1_1 : Int) (xh1_2 : Int) (xh1_3 : Int) : f16_2 F (k + 1) x11 xh0 xh0_1 xh0_2 xh0_3 xh1 xh1_1 xh1_2 xh1_3 =
 bif leI 32 ↑x11.length then
 bif Nat.ble 32 x11.length then
 bif (0 + 32).ble x11.length then
 bif leI 0 32 && leI 32 ↑x11.length && leI ↑x11.length ↑x11.length then
 f16_2_1 F k (List.drop 32 x11) xh0 xh0_1 xh0_2 xh0_3 xh1 xh1_1 xh1_2 xh1_3 ([] ++ [[AV.int .u8 ↑(x11.getD (0 + 0) 0).toNat, AV.int .u8 ↑(x11.getD (0 + 1) 0).toNat, AV.int .u8 ↑(x11.getD (0 + 2) 0).toNat, AV.int .u8 ↑(x11.getD (0 + 3) 0).toNat, AV.int .u8 ↑(x11.getD (0 + 4) 0).toNat, AV.int .u8 ↑(x11.getD (0 + 5) 0).toNat, AV.int .u8 ↑(x11.getD (0 + 6) 0).toNat, AV.int .u8 ↑(x11.getD (0 + 7) 0).toNat, AV.int .u8 ↑(x11.getD (0 + 8) 0).toNat, AV.int .u8 ↑(x11.getD (0 + 9) 0).toNat, AV.int .u8 ↑(x11.getD (0 + 10) 0).toNat, AV.int .u8 ↑(x11.getD (0 + 11) 0).toNat, AV.int .u8 ↑(x11.getD (0 + 12) 0).toNat, AV.int .u8 ↑(x11.getD (0 + 13) 0).toNat, AV.int .u8 ↑(x11.getD (0 + 14) 0).toNat, AV.int .u8 ↑(x11.getD (0 + 15) 0).toNat, AV.int .u8 ↑(x11.getD (0 + 16) 0).toNat, AV.int .u8 ↑(x11.getD (0 + 17) 0).toNat, AV.int .u8 ↑(x11.getD (0 + 18) 0).toNat, AV.int .u8 ↑(x11.getD (0 + 19) 0).toNat, AV.int .u8 ↑(x11.getD (0 + 20) 0).toNat, AV.int .u8 ↑(x11.getD (0 + 21) 0).toNat, AV.int .u8 ↑(x11.getD (0 + 22) 0).toNat, AV.int .u8 ↑(x11.getD (0 + 23) 0).toNat, AV.int .u8 ↑(x11.getD (0 + 24) 0).toNat, AV.int .u8 ↑(x11.getD (0 + 25) 0).toNat, AV.int .u8 ↑(x11.getD (0 + 26) 0).toNat, AV.int .u8 ↑(x11.getD (0 + 27) 0).toNat, AV.int .u8 ↑(x11.getD (0 + 28) 0).toNat, AV.int .u8 ↑(x11.getD (0 + 29) 0).toNat, AV.int .u8 ↑(x11.getD (0 + 30) 0).toNat, AV.int .u8 ↑(x11.getD (0 + 31) 0).toNat]])
 else
 .stuck
 else
 .stuck
 else
 .stuck
 else
 bif ltI 0 ↑x11.length then
 .ret (AV.tup [AV.agg [AV.int .i64 0, AV.int .i64 0, AV.int .i64 0, AV.int .i64 0, AV.nil], AV.int .i64 3]) [AObj.var 26 [AV.int .i64 0, AV.int .i64 0, AV.int .i64 0, AV.int .i64 0, AV.nil], AObj.var 26 [AV.int .i64 xh1, AV.int .i64 xh1_1, AV.int .i64 xh1_2, AV.int .i64 xh1_3, AV.nil]]
 else
 bif !rightE xh1 xh1_1 xh1_2 xh1_3 ([] : List (List AV)).length then
 .ret (AV.tup [AV.agg [AV.int .i64 0, AV.int .i64 0, AV.int .i64 0, AV.int .i64 0, AV.nil], AV.int .i64 3]) [AObj.var 26 [AV.int .i64 0, AV.int .i64 0, AV.int .i64 0, AV.int .i64 0, AV.nil], AObj.var 26 [AV.int .i64 xh1, AV.int .i64 xh1_1, AV.int .i64 xh1_2, AV.int .i64 xh1_3, AV.nil]]
 else
 .ret (AV.tup [AV.agg [AV.int .i64 xh1, AV.int .i64 xh1_1, AV.int .i64 xh1_2, AV.int .i64 xh1_3, AV.nil], AV.int .i64 0]) [AObj.var 26 [AV.int .i64 xh1, AV.int .i64 xh1_1, AV.int .i64 xh1_2, AV.int .i64 xh1_3, AV.nil], AObj.var 26 [AV.int .i64 xh1, AV.int .i64 xh1_1, AV.int .i64 xh1_2, AV.int .i64 xh1_3, AV.nil]] := by kernel_rfl
theorem f16_2_1_eq (F k : Nat) (x11 : List UInt8) (xh0 : Int) (xh0_1 : Int) (xh0_2 : Int) (xh0_3 : Int) (xh1 : Int) (xh1_1 : Int) (xh1_2 : Int) (xh1_3 : Int) (xh2 : List (List AV)) : f16_2_1 F (k + 1) x11 xh0 xh0_1 xh0_2 xh0_3 xh1 xh1_1 xh1_2 xh1_3 xh2 =
 bif leI 32 ↑x11.length then
 bif Nat.ble 32 x11.length then
 bif (0 + 32).ble x11.length then
 bif appFits ty52 (Pay.rows 32 (xh2 ++ [[AV.int .u8 ↑(x11.getD (0 + 0) 0).toNat, AV.int .u8 ↑(x11.getD (0 + 1) 0).toNat, AV.int .u8 ↑(x11.getD (0 + 2) 0).toNat, AV.int .u8 ↑(x11.getD (0 + 3) 0).toNat, AV.int .u8 ↑(x11.getD (0 + 4) 0).toNat, AV.int .u8 ↑(x11.getD (0 + 5) 0).toNat, AV.int .u8 ↑(x11.getD (0 + 6) 0).toNat, AV.int .u8 ↑(x11.getD (0 + 7) 0).toNat, AV.int .u8 ↑(x11.getD (0 + 8) 0).toNat, AV.int .u8 ↑(x11.getD (0 + 9) 0).toNat, AV.int .u8 ↑(x11.getD (0 + 10) 0).toNat, AV.int .u8 ↑(x11.getD (0 + 11) 0).toNat, AV.int .u8 ↑(x11.getD (0 + 12) 0).toNat, AV.int .u8 ↑(x11.getD (0 + 13) 0).toNat, AV.int .u8 ↑(x11.getD (0 + 14) 0).toNat, AV.int .u8 ↑(x11.getD (0 + 15) 0).toNat, AV.int .u8 ↑(x11.getD (0 + 16) 0).toNat, AV.int .u8 ↑(x11.getD (0 + 17) 0).toNat, AV.int .u8 ↑(x11.getD (0 + 18) 0).toNat, AV.int .u8 ↑(x11.getD (0 + 19) 0).toNat, AV.int .u8 ↑(x11.getD (0 + 20) 0).toNat, AV.int .u8 ↑(x11.getD (0 + 21) 0).toNat, AV.int .u8 ↑(x11.getD (0 + 22) 0).toNat, AV.int .u8 ↑(x11.getD (0 + 23) 0).toNat, AV.int .u8 ↑(x11.getD (0 + 24) 0).toNat, AV.int .u8 ↑(x11.getD (0 + 25) 0).toNat, AV.int .u8 ↑(x11.getD (0 + 26) 0).toNat, AV.int .u8 ↑(x11.getD (0 + 27) 0).toNat, AV.int .u8 ↑(x11.getD (0 + 28) 0).toNat, AV.int .u8 ↑(x11.getD (0 + 29) 0).toNat, AV.int .u8 ↑(x11.getD (0 + 30) 0).toNat, AV.int .u8 ↑(x11.getD (0 + 31) 0).toNat]])) then
 bif leI 0 32 && leI 32 ↑x11.length && leI ↑x11.length ↑x11.length then
 f16_2_1 F k (List.drop 32 x11) xh0 xh0_1 xh0_2 xh0_3 xh1 xh1_1 xh1_2 xh1_3 (xh2 ++ [[AV.int .u8 ↑(x11.getD (0 + 0) 0).toNat, AV.int .u8 ↑(x11.getD (0 + 1) 0).toNat, AV.int .u8 ↑(x11.getD (0 + 2) 0).toNat, AV.int .u8 ↑(x11.getD (0 + 3) 0).toNat, AV.int .u8 ↑(x11.getD (0 + 4) 0).toNat, AV.int .u8 ↑(x11.getD (0 + 5) 0).toNat, AV.int .u8 ↑(x11.getD (0 + 6) 0).toNat, AV.int .u8 ↑(x11.getD (0 + 7) 0).toNat, AV.int .u8 ↑(x11.getD (0 + 8) 0).toNat, AV.int .u8 ↑(x11.getD (0 + 9) 0).toNat, AV.int .u8 ↑(x11.getD (0 + 10) 0).toNat, AV.int .u8 ↑(x11.getD (0 + 11) 0).toNat, AV.int .u8 ↑(x11.getD (0 + 12) 0).toNat, AV.int .u8 ↑(x11.getD (0 + 13) 0).toNat, AV.int .u8 ↑(x11.getD (0 + 14) 0).toNat, AV.int .u8 ↑(x11.getD (0 + 15) 0).toNat, AV.int .u8 ↑(x11.getD (0 + 16) 0).toNat, AV.int .u8 ↑(x11.getD (0 + 17) 0).toNat, AV.int .u8 ↑(x11.getD (0 + 18) 0).toNat, AV.int .u8 ↑(x11.getD (0 + 19) 0).toNat, AV.int .u8 ↑(x11.getD (0 + 20) 0).toNat, AV.int .u8 ↑(x11.getD (0 + 21) 0).toNat, AV.int .u8 ↑(x11.getD (0 + 22) 0).toNat, AV.int .u8 ↑(x11.getD (0 + 23) 0).toNat, AV.int .u8 ↑(x11.getD (0 + 24) 0).toNat, AV.int .u8 ↑(x11.getD (0 + 25) 0).toNat, AV.int .u8 ↑(x11.getD (0 + 26) 0).toNat, AV.int .u8 ↑(x11.getD (0 + 27) 0).toNat, AV.int .u8 ↑(x11.getD (0 + 28) 0).toNat, AV.int .u8 ↑(x11.getD (0 + 29) 0).toNat, AV.int .u8 ↑(x11.getD (0 + 30) 0).toNat, AV.int .u8 ↑(x11.getD (0 + 31) 0).toNat]])
 else
 .stuck
 else
 .stuck
 else
 .stuck
 else
 .stuck
 else
 bif ltI 0 ↑x11.length then
 .ret (AV.tup [AV.agg [AV.int .i64 0, AV.int .i64 0, AV.int .i64 0, AV.int .i64 0, AV.nil], AV.int .i64 3]) [AObj.var 26 [AV.int .i64 0, AV.int .i64 0, AV.int .i64 0, AV.int .i64 0, AV.nil], AObj.var 26 [AV.int .i64 xh1, AV.int .i64 xh1_1, AV.int .i64 xh1_2, AV.int .i64 xh1_3, AV.own 2], AObj.arr 52 (Pay.rows 32 xh2)]
 else
 bif !rightE xh1 xh1_1 xh1_2 xh1_3 xh2.length then
 .ret (AV.tup [AV.agg [AV.int .i64 0, AV.int .i64 0, AV.int .i64 0, AV.int .i64 0, AV.nil], AV.int .i64 3]) [AObj.var 26 [AV.int .i64 0, AV.int .i64 0, AV.int .i64 0, AV.int .i64 0, AV.nil], AObj.var 26 [AV.int .i64 xh1, AV.int .i64 xh1_1, AV.int .i64 xh1_2, AV.int .i64 xh1_3, AV.own 2], AObj.arr 52 (Pay.rows 32 xh2)]
 else
 .ret (AV.tup [AV.agg [AV.int .i64 xh1, AV.int .i64 xh1_1, AV.int .i64 xh1_2, AV.int .i64 xh1_3, AV.own 2], AV.int .i64 0]) [AObj.var 26 [AV.int .i64 xh1, AV.int .i64 xh1_1, AV.int .i64 xh1_2, AV.int .i64 xh1_3, AV.own 2], AObj.var 26 [AV.int .i64 xh1, AV.int .i64 xh1_1, AV.int .i64 xh1_2, AV.int .i64 xh1_3, AV.own 2], AObj.arr 52 (Pay.rows 32 xh2)] := by kernel_rfl


def tt17 : Tab := [(0, ty0), (1, ty1), (3, ty3), (4, ty4), (5, ty5), (22, ty22), (24, ty24), (26, ty26), (52, ty52), (98, ty98), (99, ty99), (102, ty102)]
theorem tt17_ok : TabOk Try.prog tt17 := tabOk_of_all ⟨ty0_ok, ty1_ok, ty3_ok, ty4_ok, ty5_ok, ty22_ok, ty24_ok, ty26_ok, ty52_ok, ty98_ok, ty99_ok, ty102_ok, trivial⟩
def c17 (F : Nat) : Cfg := ⟨tt17, [(60, .pure go59), (61, .pure go61), (22, .pure (normGo [.agg [.keep, .keep, .keep, .keep, .rows 32]] go21))], F, [(0, ⟨[0, 2, 4, 5, 6], []⟩), (2, ⟨[0, 2, 4, 10], []⟩)], [], 0⟩
noncomputable def f17_0 (F k : Nat) (x0 : List UInt8) (x4 : Int) (xh0 : Int) (xh0_1 : Int) (xh0_2 : Int) (xh0_3 : Int) (xh1 : Int) (xh1_1 : Int) (xh1_2 : Int) (xh1_3 : Int) : Res := aloop (c17 F) Try.f17 0 [] k (St.mk [AV.ro (Pay.bytes x0), .top, AV.ptr 0 0, .top, AV.int .i64 x4, AV.ptr 1 0, AV.int .i64 0, .top, .top, .top, .top, .top, .top, .top, .top, .top, .top, .top, .top, .top, .top, .top, .top, .top, .top, .top, .top, .top, .top, .top, .top, .top, .top, .top, .top, .top, .top, .top, .top, .top, .top, .top, .top, .top, .top, .top, .top, .top, .top, .top, .top, .top, .top, .top, .top, .top, .top, .top, .top, .top, .top, .top, .top, .top, .top, .top, .top, .top, .top, .top, .top] [AObj.var 26 [AV.int .i64 xh0, AV.int .i64 xh0_1, AV.int .i64 xh0_2, AV.int .i64 xh0_3, AV.nil], AObj.var 98 [AV.int .i64 xh1, AV.int .i64 xh1_1, AV.int .i64 xh1_2, AV.int .i64 xh1_3]])
noncomputable def f17_0_1 (F k : Nat) (x0 : List UInt8) (x4 : Int) (xh0 : Int) (xh0_1 : Int) (xh0_2 : Int) (xh0_3 : Int) (xh1 : Int) (xh1_1 : Int) (xh1_2 : Int) (xh1_3 : Int) : Res := aloop (c17 F) Try.f17 0 [] k (St.mk [AV.ro (Pay.bytes x0), .top, AV.ptr 0 0, .top, AV.int .i64 x4, AV.ptr 1 0, AV.int .i64 1, .top, .top, .top, .top, .top, .top, .top, .top, .top, .top, .top, .top, .top, .top, .top, .top, .top, .top, .top, .top, .top, .top, .top, .top, .top, .top, .top, .top, .top, .top, .top, .top, .top, .top, .top, .top, .top, .top, .top, .top, .top, .top, .top, .top, .top, .top, .top, .top, .top, .top, .top, .top, .top, .top, .top, .top, .top, .top, .top, .top, .top, .top, .top, .top] [AObj.var 26 [AV.int .i64 xh0, AV.int .i64 xh0_1, AV.int .i64 xh0_2, AV.int .i64 xh0_3, AV.nil], AObj.var 98 [AV.int .i64 xh1, AV.int .i64 xh1_1, AV.int .i64 xh1_2, AV.int .i64 xh1_3]])
noncomputable def f17_0_2 (F k : Nat) (x0 : List UInt8) (x4 : Int) (xh0 : Int) (xh0_1 : Int) (xh0_2 : Int) (xh0_3 : Int) (xh1 : Int) (xh1_1 : Int) (xh1_2 : Int) (xh1_3 : Int) : Res := aloop (c17 F) Try.f17 0 [] k (St.mk [AV.ro (Pay.bytes x0), .top, AV.ptr 0 0, .top, AV.int .i64 x4, AV.ptr 1 0, AV.int .i64 2, .top, .top, .top, .top, .top, .top, .top, .top, .top, .top, .top, .top, .top, .top, .top, .top, .top, .top, .top, .top, .top, .top, .top, .top, .top, .top, .top, .top, .top, .top, .top, .top, .top, .top, .top, .top, .top, .top, .top, .top, .top, .top, .top, .top, .top, .top, .top, .top, .top, .top, .top, .top, .top, .top, .top, .top, .top, .top, .top, .top, .top, .top, .top, .top] [AObj.var 26 [AV.int .i64 xh0, AV.int .i64 xh0_1, AV.int .i64 xh0_2, AV.int .i64 xh0_3, AV.nil], AObj.var 98 [AV.int .i64 xh1, AV.int .i64 xh1_1, AV.int .i64 xh1_2, AV.int .i64 xh1_3]])
noncomputable def f17_0_3 (F k : Nat) (x0 : List UInt8) (x4 : Int) (xh0 : Int) (xh0_1 : Int) (xh0_2 : Int) (xh0_3 : Int) (xh1 : Int) (xh1_1 : Int) (xh1_2 : Int) (xh1_3 : Int) : Res := aloop (c17 F) Try.f17 0 [] k (St.mk [AV.ro (Pay.bytes x0), .top, AV.ptr 0 0, .top, AV.int .i64 x4, AV.ptr 1 0, AV.int .i64 3, .top, .top, .top, .top, .top, .top, .top, .top, .top, .top, .top, .top, .top, .top, .top, .top, .top, .top, .top, .top, .top, .top, .top, .top, .top, .top, .top, .top, .top, .top, .top, .top, .top, .top, .top, .top, .top, .top, .top, .top, .top, .top, .top, .top, .top, .top, .top, .top, .top, .top, .top, .top, .top, .top, .top, .top, .top, .top, .top, .top, .top, .top, .top, .top] [AObj.var 26 [AV.int .i64 xh0, AV.int .i64 xh0_1, AV.int .i64 xh0_2, AV.int .i64 xh0_3, AV.nil], AObj.var 98 [AV.int .i64 xh1, AV.int .i64 xh1_1, AV.int .i64 xh1_2, AV.int .i64 xh1_3]])
noncomputable def f17_0_4 (F k : Nat) (x0 : List UInt8) (x4 : Int) (xh0 : Int) (xh0_1 : Int) (xh0_2 : Int) (xh0_3 : Int) (xh1 : Int) (xh1_1 : Int) (xh1_2 : Int) (xh1_3 : Int) : Res := aloop (c17 F) Try.f17 0 [] k (St.mk [AV.ro (Pay.bytes x0), .top, AV.ptr 0 0, .top, AV.int .i64 x4, AV.ptr 1 0, AV.int .i64 4, .top, .top, .top, .top, .top, .top, .top, .top, .top, .top, .top, .top, .top, .top, .top, .top, .top, .top, .top, .top, .top, .top, .top, .top, .top, .top, .top, .top, .top, .top, .top, .top, .top, .top, .top, .top, .top, .top, .top, .top, .top, .top, .top, .top, .top, .top, .top, .top, .top, .top, .top, .top, .top, .top, .top, .top, .top, .top, .top, .top, .top, .top, .top, .top] [AObj.var 26 [AV.int .i64 xh0, AV.int .i64 xh0_1, AV.int .i64 xh0_2, AV.int .i64 xh0_3, AV.nil], AObj.var 98 [AV.int .i64 xh1, AV.int .i64 xh1_1, AV.int .i64 xh1_2, AV.int .i64 xh1_3]])
noncomputable def f17_2 (F k : Nat) (x0 : List UInt8) (x4 : Int) (xh0 : Int) (xh0_1 : Int) (xh0_2 : Int) (xh0_3 : Int) (xh1 : Int) (xh1_1 : Int) (xh1_2 : Int) (xh1_3 : Int) : Res := aloop (c17 F) Try.f17 2 [] k (St.mk [AV.ro (Pay.bytes x0), .top, AV.ptr 0 0, .top, AV.int .i64 x4, .top, .top, .top, .top, .top, AV.ptr 1 0, .top, .top, .top, .top, .top, .top, .top, .top, .top, .top, .top, .top, .top, .top, .top, .top, .top, .top, .top, .top, .top, .top, .top, .top, .top, .top, .top, .top, .top, .top, .top, .top, .top, .top, .top, .top, .top, .top, .top, .top, .top, .top, .top, .top, .top, .top, .top, .top, .top, .top, .top, .top, .top, .top, .top, .top, .top, .top, .top, .top] [AObj.var 26 [AV.int .i64 xh0, AV.int .i64 xh0_1, AV.int .i64 xh0_2, AV.int .i64 xh0_3, AV.nil], AObj.var 26 [AV.int .i64 xh1, AV.int .i64 xh1_1, AV.int .i64 xh1_2, AV.int .i64 xh1_3, AV.nil]])
noncomputable def f17_2_1 (F k : Nat) (x0 : List UInt8) (x4 : Int) (xh0 : Int) (xh0_1 : Int) (xh0_2 : Int) (xh0_3 : Int) (xh1 : Int) (xh1_1 : Int) (xh1_2 : Int) (xh1_3 : Int) (xh2 : List (List AV)) : Res := aloop (c17 F) Try.f17 2 [] k (St.mk [AV.ro (Pay.bytes x0), .top, AV.ptr 0 0, .top, AV.int .i64 x4, .top, .top, .top, .top, .top, AV.ptr 1 0, .top, .top, .top, .top, .top, .top, .top, .top, .top, .top, .top, .top, .top, .top, .top, .top, .top, .top, .top, .top, .top, .top, .top, .top, .top, .top, .top, .top, .top, .top, .top, .top, .top, .top, .top, .top, .top, .top, .top, .top, .top, .top, .top, .top, .top, .top, .top, .top, .top, .top, .top, .top, .top, .top, .top, .top, .top, .top, .top, .top] [AObj.var 26 [AV.int .i64 xh0, AV.int .i64 xh0_1, AV.int .i64 xh0_2, AV.int .i64 xh0_3, AV.nil], AObj.var 26 [AV.int .i64 xh1, AV.int .i64 xh1_1, AV.int .i64 xh1_2, AV.int .i64 xh1_3, AV.own 2], AObj.arr 52 (Pay.rows 32 xh2)])
theorem f17_eq (F : Nat) (a0 : List UInt8) : afun (c17 F) Try.f17 [AV.ro (Pay.bytes a0)] [] =
 f17_0 F F a0 0 0 0 0 0 0 0 0 0 := by kernel_rfl
theorem f17_0_eq (F k : Nat) (x0 : List UInt8) (x4 : Int) (xh0 : Int) (xh0_1 : Int) (xh0_2 : Int) (xh0_3 : Int) (xh1 : Int) (xh1_1 : Int) (xh1_2 : Int) (xh1_3 : Int) : f17_0 F (k + 1) x0 x4 xh0 xh0_1 xh0_2 xh0_3 xh1 xh1_1 xh1_2 xh1_3 =
 bif !eqI (getV x0 x4).snd.snd 0 then
 .ret (AV.tup [AV.agg [AV.int .i64 0, AV.int .i64 0, AV.int .i64 0, AV.int .i64 0, AV.nil], AV.int .i64 (getV x0 x4).snd.snd]) [AObj.var 26 [AV.int .i64 0, AV.int .i64 0, AV.int .i64 0, AV.int .i64 0, AV.nil], AObj.var 98 [AV.int .i64 xh1, AV.int .i64 xh1_1, AV.int .i64 xh1_2, AV.int .i64 xh1_3]]
 else
 bif ltI 1073741824 (getV x0 x4).fst then
 f17_0_1 F k x0 ((getV x0 x4).snd.fst) xh0 xh0_1 xh0_2 xh0_3 1073741825 xh1_1 xh1_2 xh1_3
 else
 f17_0_1 F k x0 ((getV x0 x4).snd.fst) xh0 xh0_1 xh0_2 xh0_3 (IntKind.i64.wrap (getV x0 x4).fst) xh1_1 xh1_2 xh1_3 := by kernel_rfl
theorem f17_0_1_eq (F k : Nat) (x0 : List UInt8) (x4 : Int) (xh0 : Int) (xh0_1 : Int) (xh0_2 : Int) (xh0_3 : Int) (xh1 : Int) (xh1_1 : Int) (xh1_2 : Int) (xh1_3 : Int) : f17_0_1 F (k + 1) x0 x4 xh0 xh0_1 xh0_2 xh0_3 xh1 xh1_1 xh1_2 xh1_3 =
 bif !eqI (getV x0 x4).snd.snd 0 then
 .ret (AV.tup [AV.agg [AV.int .i64 0, AV.int .i64 0, AV.int .i64 0, AV.int .i64 0, AV.nil], AV.int .i64 (getV x0 x4).snd.snd]) [AObj.var 26 [AV.int .i64 0, AV.int .i64 0, AV.int .i64 0, AV.int .i64 0, AV.nil], AObj.var 98 [AV.int .i64 xh1, AV.int .i64 xh1_1, AV.int .i64 xh1_2, AV.int .i64 xh1_3]]
 else
 bif ltI 1073741824 (getV x0 x4).fst then
 f17_0_2 F k x0 ((getV x0 x4).snd.fst) xh0 xh0_1 xh0_2 xh0_3 xh1 1073741825 xh1_2 xh1_3
 else
 f17_0_2 F k x0 ((getV x0 x4).snd.fst) xh0 xh0_1 xh0_2 xh0_3 xh1 (IntKind.i64.wrap (getV x0 x4).fst) xh1_2 xh1_3 := by kernel_rfl
theorem f17_0_2_eq (F k : Nat) (x0 : List UInt8) (x4 : Int) (xh0 : Int) (xh0_1 : Int) (xh0_2 : Int) (xh0_3 : Int) (xh1 : Int) (xh1_1 : Int) (xh1_2 : Int) (xh1_3 : Int) : f17_0_2 F (k + 1) x0 x4 xh0 xh0_1 xh0_2 xh0_3 xh1 xh1_1 xh1_2 xh1_3 =
 bif !eqI (getV x0 x4).snd.snd 0 then
 .ret (AV.tup [AV.agg [AV.int .i64 0, AV.int .i64 0, AV.int .i64 0, AV.int .i64 0, AV.nil], AV.int .i64 (getV x0 x4).snd.snd]) [AObj.var 26 [AV.int .i64 0, AV.int .i64 0, AV.int .i64 0, AV.int .i64 0, AV.nil], AObj.var 98 [AV.int .i64 xh1, AV.int .i64 xh1_1, AV.int .i64 xh1_2, AV.int .i64 xh1_3]]
 else
 bif ltI 1073741824 (getV x0 x4).fst then
 f17_0_3 F k x0 ((getV x0 x4).snd.fst) xh0 xh0_1 xh0_2 xh0_3 xh1 xh1_1 1073741825 xh1_3
 else
 f17_0_3 F k x0 ((getV x0 x4).snd.fst) xh0 xh0_1 xh0_2 xh0_3 xh1 xh1_1 (IntKind.i64.wrap (getV x0 x4).fst) xh1_3 := by kernel_rfl
theorem f17_0_3_eq (F k : Nat) (x0 : List UInt8) (x4 : Int) (xh0 : Int) (xh0_1 : Int) (xh0_2 : Int) (xh0_3 : Int) (xh1 : Int) (xh1_1 : Int) (xh1_2 : Int) (xh1_3 : Int) : f17_0_3 F (k + 1) x0 x4 xh0 xh0_1 xh0_2 xh0_3 xh1 xh1_1 xh1_2 xh1_3 =
 bif !eqI (getV x0 x4).snd.snd 0 then
 .ret (AV.tup [AV.agg [AV.int .i64 0, AV.int .i64 0, AV.int .i64 0, AV.int .i64 0, AV.nil], AV.int .i64 (getV x0 x4).snd.snd]) [AObj.var 26 [AV.int .i64 0, AV.int .i64 0, AV.int .i64 0, AV.int .i64 0, AV.nil], AObj.var 98 [AV.int .i64 xh1, AV.int .i64 xh1_1, AV.int .i64 xh1_2, AV.int .i64 xh1_3]]
 else
 bif ltI 1073741824 (getV x0 x4).fst then
 f17_0_4 F k x0 ((getV x0 x4).snd.fst) xh0 xh0_1 xh0_2 xh0_3 xh1 xh1_1 xh1_2 1073741825
 else
 f17_0_4 F k x0 ((getV x0 x4).snd.fst) xh0 xh0_1 xh0_2 xh0_3 xh1 xh1_1 xh1_2 (IntKind.i64.wrap (getV x0 x4).fst) := by kernel_rfl
theorem f17_0_4_eq (F k : Nat) (x0 : List UInt8) (x4 : Int) (xh0 : Int) (xh0_1 : Int) (xh0_2 : Int) (xh0_3 : Int) (xh1 : Int) (xh1_1 : Int) (xh1_2 : Int) (xh1_3 : Int) : f17_0_4 F (k + 1) x0 x4 xh0 xh0_1 xh0_2 xh0_3 xh1 xh1_1 xh1_2 xh1_3 =
 f17_2 F F x0 x4 xh0 xh0_1 xh0_2 xh0_3 xh1 xh1_1 xh1_2 xh1_3 := by kernel_rfl
theorem f17_2_eq (F k : Nat) (x0 : List UInt8) (x4 : Int) (xh0 : Int) (xh0_1 : Int) (xh0_2 : Int) (xh0_3 : Int) (xh1 : Int) (xh1_1 : Int) (xh1_2 : Int) (xh1_3 : Int) : f17_2 F (k + 1) x0 x4 xh0 xh0_1 xh0_2 xh0_3 xh1 xh1_1 xh1_2 xh1_3 =
 bif leI (IntKind.i64.wrap (x4 + 32)) ↑x0.length then
 bif leI 0 x4 && leI x4 (IntKind.i64.wrap (x4 + 32)) && leI (IntKind.i64.wrap (x4 + 32)) ↑x0.length then
 bif Nat.ble 32 (List.take ((IntKind.i64.wrap (x4 + 32)).toNat - x4.toNat) (List.drop x4.toNat x0)).length then
 f17_2_1 F k x0 (IntKind.i64.wrap (x4 + 32)) xh0 xh0_1 xh0_2 xh0_3 xh1 xh1_1 xh1_2 xh1_3 ([] ++ [[AV.int .u8 ↑((List.take ((IntKind.i64.wrap (x4 + 32)).toNat - x4.toNat) (List.drop x4.toNat x0)).getD (0 + 0) 0).toNat, AV.int .u8 ↑((List.take ((IntKind.i64.wrap (x4 + 32)).toNat - x4.toNat) (List.drop x4.toNat x0)).getD (0 + 1) 0).toNat, AV.int .u8 ↑((List.take ((IntKind.i64.wrap (x4 + 32)).toNat - x4.toNat) (List.drop x4.toNat x0)).getD (0 + 2) 0).toNat, AV.int .u8 ↑((List.take ((IntKind.i64.wrap (x4 + 32)).toNat - x4.toNat) (List.drop x4.toNat x0)).getD (0 + 3) 0).toNat, AV.int .u8 ↑((List.take ((IntKind.i64.wrap (x4 + 32)).toNat - x4.toNat) (List.drop x4.toNat x0)).getD (0 + 4) 0).toNat, AV.int .u8 ↑((List.take ((IntKind.i64.wrap (x4 + 32)).toNat - x4.toNat) (List.drop x4.toNat x0)).getD (0 + 5) 0).toNat, AV.int .u8 ↑((List.take ((IntKind.i64.wrap (x4 + 32)).toNat - x4.toNat) (List.drop x4.toNat x0)).getD (0 + 6) 0).toNat, AV.int .u8 ↑((List.take ((IntKind.i64.wrap (x4 + 32)).toNat - x4.toNat) (List.drop x4.toNat x0)).getD (0 + 7) 0).toNat, AV.int .u8 ↑((List.take ((IntKind.i64.wrap (x4 + 32)).toNat - x4.toNat) (List.drop x4.toNat x0)).getD (0 + 8) 0).toNat, AV.int .u8 ↑((List.take ((IntKind.i64.wrap (x4 + 32)).toNat - x4.toNat) (List.drop x4.toNat x0)).getD (0 + 9) 0).toNat, AV.int .u8 ↑((List.take ((IntKind.i64.wrap (x4 + 32)).toNat - x4.toNat) (List.drop x4.toNat x0)).getD (0 + 10) 0).toNat, AV.int .u8 ↑((List.take ((IntKind.i64.wrap (x4 + 32)).toNat - x4.toNat) (List.drop x4.toNat x0)).getD (0 + 11) 0).toNat, AV.int .u8 ↑((List.take ((IntKind.i64.wrap (x4 + 32)).toNat - x4.toNat) (List.drop x4.toNat x0)).getD (0 + 12) 0).toNat, AV.int .u8 ↑((List.take ((IntKind.i64.wrap (x4 + 32)).toNat - x4.toNat) (List.drop x4.toNat x0)).getD (0 + 13) 0).toNat, AV.int .u8 ↑((List.take ((IntKind.i64.wrap (x4 + 32)).toNat - x4.toNat) (List.drop x4.toNat x0)).getD (0 + 14) 0).toNat, AV.int .u8 ↑((List.take ((IntKind.i64.wrap (x4 + 32)).toNat - x4.toNat) (List.drop x4.toNat x0)).getD (0 + 15) 0).toNat, AV.int .u8 ↑((List.take ((IntKind.i64.wrap (x4 + 32)).toNat - x4.toNat) (List.drop x4.toNat x0)).getD (0 + 16) 0).toNat, AV.int .u8 ↑((List.take ((IntKind.i64.wrap (x4 + 32)).toNat - x4.toNat) (List.drop x4.toNat x0)).getD (0 + 17) 0).toNat, AV.int .u8 ↑((List.take ((IntKind.i64.wrap (x4 + 32)).toNat - x4.toNat) (List.drop x4.toNat x0)).getD (0 + 18) 0).toNat, AV.int .u8 ↑((List.take ((IntKind.i64.wrap (x4 + 32)).toNat - x4.toNat) (List.drop x4.toNat x0)).getD (0 + 19) 0).toNat, AV.int .u8 ↑((List.take ((IntKind.i64.wrap (x4 + 32)).toNat - x4.toNat) (List.drop x4.toNat x0)).getD (0 + 20) 0).toNat, AV.int .u8 ↑((List.take ((IntKind.i64.wrap (x4 + 32)).toNat - x4.toNat) (List.drop x4.toNat x0)).getD (0 + 21) 0).toNat, AV.int .u8 ↑((List.take ((IntKind.i64.wrap (x4 + 32)).toNat - x4.toNat) (List.drop x4.toNat x0)).getD (0 + 22) 0).toNat, AV.int .u8 ↑((List.take ((IntKind.i64.wrap (x4 + 32)).toNat - x4.toNat) (List.drop x4.toNat x0)).getD (0 + 23) 0).toNat, AV.int .u8 ↑((List.take ((IntKind.i64.wrap (x4 + 32)).toNat - x4.toNat) (List.drop x4.toNat x0)).getD (0 + 24) 0).toNat, AV.int .u8 ↑((List.take ((IntKind.i64.wrap (x4 + 32)).toNat - x4.toNat) (List.drop x4.toNat x0)).getD (0 + 25) 0).toNat, AV.int .u8 ↑((List.take ((IntKind.i64.wrap (x4 + 32)).toNat - x4.toNat) (List.drop x4.toNat x0)).getD (0 + 26) 0).toNat, AV.int .u8 ↑((List.take ((IntKind.i64.wrap (x4 + 32)).toNat - x4.toNat) (List.drop x4.toNat x0)).getD (0 + 27) 0).toNat, AV.int .u8 ↑((List.take ((IntKind.i64.wrap (x4 + 32)).toNat - x4.toNat) (List.drop x4.toNat x0)).getD (0 + 28) 0).toNat, AV.int .u8 ↑((List.take ((IntKind.i64.wrap (x4 + 32)).toNat - x4.toNat) (List.drop x4.toNat x0)).getD (0 + 29) 0).toNat, AV.int .u8 ↑((List.take ((IntKind.i64.wrap (x4 + 32)).toNat - x4.toNat) (List.drop x4.toNat x0)).getD (0 + 30) 0).toNat, AV.int .u8 ↑((List.take ((IntKind.i64.wrap (x4 + 32)).toNat - x4.toNat) (List.drop x4.toNat x0)).getD (0 + 31) 0).toNat]])
 else
 .stuck
 else
 .stuck
 else
 bif ltI x4 ↑x0.length then
 .ret (AV.tup [AV.agg [AV.int .i64 0, AV.int .i64 0, AV.int .i64 0, AV.int .i64 0, AV.nil], AV.int .i64 3]) [AObj.var 26 [AV.int .i64 0, AV.int .i64 0, AV.int .i64 0, AV.int .i64 0, AV.nil], AObj.var 26 [AV.int .i64 xh1, AV.int .i64 xh1_1, AV.int .i64 xh1_2, AV.int .i64 xh1_3, AV.nil]]
 else
 bif !rightE xh1 xh1_1 xh1_2 xh1_3 ([] : List (List AV)).length then
 .ret (AV.tup [AV.agg [AV.int .i64 0, AV.int .i64 0, AV.int .i64 0, AV.int .i64 0, AV.nil], AV.int .i64 3]) [AObj.var 26 [AV.int .i64 0, AV.int .i64 0, AV.int .i64 0, AV.int .i64 0, AV.nil], AObj.var 26 [AV.int .i64 xh1, AV.int .i64 xh1_1, AV.int .i64 xh1_2, AV.int .i64 xh1_3, AV.nil]]
 else
 .ret (AV.tup [AV.agg [AV.int .i64 xh1, AV.int .i64 xh1_1, AV.int .i64 xh1_2, AV.int .i64 xh1_3, AV.nil], AV.int .i64 0]) [AObj.var 26 [AV.int .i64 xh1, AV.int .i64 xh1_1, AV.int .i64 xh1_2, AV.int .i64 xh1_3, AV.nil], AObj.var 26 [AV.int .i64 xh1, AV.int .i64 xh1_1, AV.int .i64 xh1_2, AV.int .i64 xh1_3, AV.nil]] := by kernel_rfl
theorem f17_2_1_eq (F k : Nat) (x0 : List UInt8) (x4 : Int) (xh0 : Int) (xh0_1 : Int) (xh0_2 : Int) (xh0_3 : Int) (xh1 : Int) (xh1_1 : Int) (xh1_2 : Int) (xh1_3 : Int) (xh2 : List (List AV)) : f17_2_1 F (k + 1) x0 x4 xh0 xh0_1 xh0_2 xh0_3 xh1 xh1_1 xh1_2 xh1_3 xh2 =
 bif leI (IntKind.i64.wrap (x4 + 32)) ↑x0.length then
 bif leI 0 x4 && leI x4 (IntKind.i64.wrap (x4 + 32)) && leI (IntKind.i64.wrap (x4 + 32)) ↑x0.length then
 bif Nat.ble 32 (List.take ((IntKind.i64.wrap (x4 + 32)).toNat - x4.toNat) (List.drop x4.toNat x0)).length then
 bif appFits ty52 (Pay.rows 32 (xh2 ++ [[AV.int .u8 ↑((List.take ((IntKind.i64.wrap (x4 + 32)).toNat - x4.toNat) (List.drop x4.toNat x0)).getD (0 + 0) 0).toNat, AV.int .u8 ↑((List.take ((IntKind.i64.wrap (x4 + 32)).toNat - x4.toNat) (List.drop x4.toNat x0)).getD (0 + 1) 0).toNat, AV.int .u8 ↑((List.take ((IntKind.i64.wrap (x4 + 32)).toNat - x4.toNat) (List.drop x4.toNat x0)).getD (0 + 2) 0).toNat, AV.int .u8 ↑((List.take ((IntKind.i64.wrap (x4 + 32)).toNat - x4.toNat) (List.drop x4.toNat x0)).getD (0 + 3) 0).toNat, AV.int .u8 ↑((List.take ((IntKind.i64.wrap (x4 + 32)).toNat - x4.toNat) (List.drop x4.toNat x0)).getD (0 + 4) 0).toNat, AV.int .u8 ↑((List.take ((IntKind.i64.wrap (x4 + 32)).toNat - x4.toNat) (List.drop x4.toNat x0)).getD (0 + 5) 0).toNat, AV.int .u8 ↑((List.take ((IntKind.i64.wrap (x4 + 32)).toNat - x4.toNat) (List.drop x4.toNat x0)).getD (0 + 6) 0).toNat, AV.int .u8 ↑((List.take ((IntKind.i64.wrap (x4 + 32)).toNat - x4.toNat) (List.drop x4.toNat x0)).getD (0 + 7) 0).toNat, AV.int .u8 ↑((List.take ((IntKind.i64.wrap (x4 + 32)).toNat - x4.toNat) (List.drop x4.toNat x0)).getD (0 + 8) 0).toNat, AV.int .u8 ↑((List.take ((IntKind.i64.wrap (x4 + 32)).toNat - x4.toNat) (List.drop x4.toNat x0)).getD (0 + 9) 0).toNat, AV.int .u8 ↑((List.take ((IntKind.i64.wrap (x4 + 32)).toNat - x4.toNat) (List.drop x4.toNat x0)).getD (0 + 10) 0).toNat, AV.int .u8 ↑((List.take ((IntKind.i64.wrap (x4 + 32)).toNat - x4.toNat) (List.drop x4.toNat x0)).getD (0 + 11) 0).toNat, AV.int .u8 ↑((List.take ((IntKind.i64.wrap (x4 + 32)).toNat - x4.toNat) (List.drop x4.toNat x0)).getD (0 + 12) 0).toNat, AV.int .u8 ↑((List.take ((IntKind.i64.wrap (x4 + 32)).toNat - x4.toNat) (List.drop x4.toNat x0)).getD (0 + 13) 0).toNat, AV.int .u8 ↑((List.take ((IntKind.i64.wrap (x4 + 32)).toNat - x4.toNat) (List.drop x4.toNat x0)).getD (0 + 14) 0).toNat, AV.int .u8 ↑((List.take ((IntKind.i64.wrap (x4 + 32)).toNat - x4.toNat) (List.drop x4.toNat x0)).getD (0 + 15) 0).toNat, AV.int .u8 ↑((List.take ((IntKind.i64.wrap (x4 + 32)).toNat - x4.toNat) (List.drop x4.toNat x0)).getD (0 + 16) 0).toNat, AV.int .u8 ↑((List.take ((IntKind.i64.wrap (x4 + 32)).toNat - x4.toNat) (List.drop x4.toNat x0)).getD (0 + 17) 0).toNat, AV.int .u8 ↑((List.take ((IntKind.i64.wrap (x4 + 32)).toNat - x4.toNat) (List.drop x4.toNat x0)).getD (0 + 18) 0).toNat, AV.int .u8 ↑((List.take ((IntKind.i64.wrap (x4 + 32)).toNat - x4.toNat) (List.drop x4.toNat x0)).getD (0 + 19) 0).toNat, AV.int .u8 ↑((List.take ((IntKind.i64.wrap (x4 + 32)).toNat - x4.toNat) (List.drop x4.toNat x0)).getD (0 + 20) 0).toNat, AV.int .u8 ↑((List.take ((IntKind.i64.wrap (x4 + 32)).toNat - x4.toNat) (List.drop x4.toNat x0)).getD (0 + 21) 0).toNat, AV.int .u8 ↑((List.take ((IntKind.i64.wrap (x4 + 32)).toNat - x4.toNat) (List.drop x4.toNat x0)).getD (0 + 22) 0).toNat, AV.int .u8 ↑((List.take ((IntKind.i64.wrap (x4 + 32)).toNat - x4.toNat) (List.drop x4.toNat x0)).getD (0 + 23) 0).toNat, AV.int .u8 ↑((List.take ((IntKind.i64.wrap (x4 + 32)).toNat - x4.toNat) (List.drop x4.toNat x0)).getD (0 + 24) 0).toNat, AV.int .u8 ↑((List.take ((IntKind.i64.wrap (x4 + 32)).toNat - x4.toNat) (List.drop x4.toNat x0)).getD (0 + 25) 0).toNat, AV.int .u8 ↑((List.take ((IntKind.i64.wrap (x4 + 32)).toNat - x4.toNat) (List.drop x4.toNat x0)).getD (0 + 26) 0).toNat, AV.int .u8 ↑((List.take ((IntKind.i64.wrap (x4 + 32)).toNat - x4.toNat) (List.drop x4.toNat x0)).getD (0 + 27) 0).toNat, AV.int .u8 ↑((List.take ((IntKind.i64.wrap (x4 + 32)).toNat - x4.toNat) (List.drop x4.toNat x0)).getD (0 + 28) 0).toNat, AV.int .u8 ↑((List.take ((IntKind.i64.wrap (x4 + 32)).toNat - x4.toNat) (List.drop x4.toNat x0)).getD (0 + 29) 0).toNat, AV.int .u8 ↑((List.take ((IntKind.i64.wrap (x4 + 32)).toNat - x4.toNat) (List.drop x4.toNat x0)).getD (0 + 30) 0).toNat, AV.int .u8 ↑((List.take ((IntKind.i64.wrap (x4 + 32)).toNat - x4.toNat) (List.drop x4.toNat x0)).getD (0 + 31) 0).toNat]])) then
 f17_2_1 F k x0 (IntKind.i64.wrap (x4 + 32)) xh0 xh0_1 xh0_2 xh0_3 xh1 xh1_1 xh1_2 xh1_3 (xh2 ++ [[AV.int .u8 ↑((List.take ((IntKind.i64.wrap (x4 + 32)).toNat - x4.toNat) (List.drop x4.toNat x0)).getD (0 + 0) 0).toNat, AV.int .u8 ↑((List.take ((IntKind.i64.wrap (x4 + 32)).toNat - x4.toNat) (List.drop x4.toNat x0)).getD (0 + 1) 0).toNat, AV.int .u8 ↑((List.take ((IntKind.i64.wrap (x4 + 32)).toNat - x4.toNat) (List.drop x4.toNat x0)).getD (0 + 2) 0).toNat, AV.int .u8 ↑((List.take ((IntKind.i64.wrap (x4 + 32)).toNat - x4.toNat) (List.drop x4.toNat x0)).getD (0 + 3) 0).toNat, AV.int .u8 ↑((List.take ((IntKind.i64.wrap (x4 + 32)).toNat - x4.toNat) (List.drop x4.toNat x0)).getD (0 + 4) 0).toNat, AV.int .u8 ↑((List.take ((IntKind.i64.wrap (x4 + 32)).toNat - x4.toNat) (List.drop x4.toNat x0)).getD (0 + 5) 0).toNat, AV.int .u8 ↑((List.take ((IntKind.i64.wrap (x4 + 32)).toNat - x4.toNat) (List.drop x4.toNat x0)).getD (0 + 6) 0).toNat, AV.int .u8 ↑((List.take ((IntKind.i64.wrap (x4 + 32)).toNat - x4.toNat) (List.drop x4.toNat x0)).getD (0 + 7) 0).toNat, AV.int .u8 ↑((List.take ((IntKind.i64.wrap (x4 + 32)).toNat - x4.toNat) (List.drop x4.toNat x0)).getD (0 + 8) 0).toNat, AV.int .u8 ↑((List.take ((IntKind.i64.wrap (x4 + 32)).toNat - x4.toNat) (List.drop x4.toNat x0)).getD (0 + 9) 0).toNat, AV.int .u8 ↑((List.take ((IntKind.i64.wrap (x4 + 32)).toNat - x4.toNat) (List.drop x4.toNat x0)).getD (0 + 10) 0).toNat, AV.int .u8 ↑((List.take ((IntKind.i64.wrap (x4 + 32)).toNat - x4.toNat) (List.drop x4.toNat x0)).getD (0 + 11) 0).toNat, AV.int .u8 ↑((List.take ((IntKind.i64.wrap (x4 + 32)).toNat - x4.toNat) (List.drop x4.toNat x0)).getD (0 + 12) 0).toNat, AV.int .u8 ↑((List.take ((IntKind.i64.wrap (x4 + 32)).toNat - x4.toNat) (List.drop x4.toNat x0)).getD (0 + 13) 0).toNat, AV.int .u8 ↑((List.take ((IntKind.i64.wrap (x4 + 32)).toNat - x4.toNat) (List.drop x4.toNat x0)).getD (0 + 14) 0).toNat, AV.int .u8 ↑((List.take ((IntKind.i64.wrap (x4 + 32)).toNat - x4.toNat) (List.drop x4.toNat x0)).getD (0 + 15) 0).toNat, AV.int .u8 ↑((List.take ((IntKind.i64.wrap (x4 + 32)).toNat - x4.toNat) (List.drop x4.toNat x0)).getD (0 + 16) 0).toNat, AV.int .u8 ↑((List.take ((IntKind.i64.wrap (x4 + 32)).toNat - x4.toNat) (List.drop x4.toNat x0)).getD (0 + 17) 0).toNat, AV.int .u8 ↑((List.take ((IntKind.i64.wrap (x4 + 32)).toNat - x4.toNat) (List.drop x4.toNat x0)).getD (0 + 18) 0).toNat, AV.int .u8 ↑((List.take ((IntKind.i64.wrap (x4 + 32)).toNat - x4.toNat) (List.drop x4.toNat x0)).getD (0 + 19) 0).toNat, AV.int .u8 ↑((List.take ((IntKind.i64.wrap (x4 + 32)).toNat - x4.toNat) (List.drop x4.toNat x0)).getD (0 + 20) 0).toNat, AV.int .u8 ↑((List.take ((IntKind.i64.wrap (x4 + 32)).toNat - x4.toNat) (List.drop x4.toNat x0)).getD (0 + 21) 0).toNat, AV.int .u8 ↑((List.take ((IntKind.i64.wrap (x4 + 32)).toNat - x4.toNat) (List.drop x4.toNat x0)).getD (0 + 22) 0).toNat, AV.int .u8 ↑((List.take ((IntKind.i64.wrap (x4 + 32)).toNat - x4.toNat) (List.drop x4.toNat x0)).getD (0 + 23) 0).toNat, AV.int .u8 ↑((List.take ((IntKind.i64.wrap (x4 + 32)).toNat - x4.toNat) (List.drop x4.toNat x0)).getD (0 + 24) 0).toNat, AV.int .u8 ↑((List.take ((IntKind.i64.wrap (x4 + 32)).toNat - x4.toNat) (List.drop x4.toNat x0)).getD (0 + 25) 0).toNat, AV.int .u8 ↑((List.take ((IntKind.i64.wrap (x4 + 32)).toNat - x4.toNat) (List.drop x4.toNat x0)).getD (0 + 26) 0).toNat, AV.int .u8 ↑((List.take ((IntKind.i64.wrap (x4 + 32)).toNat - x4.toNat) (List.drop x4.toNat x0)).getD (0 + 27) 0).toNat, AV.int .u8 ↑((List.take ((IntKind.i64.wrap (x4 + 32)).toNat - x4.toNat) (List.drop x4.toNat x0)).getD (0 + 28) 0).toNat, AV.int .u8 ↑((List.take ((IntKind.i64.wrap (x4 + 32)).toNat - x4.toNat) (List.drop x4.toNat x0)).getD (0 + 29) 0).toNat, AV.int .u8 ↑((List.take ((IntKind.i64.wrap (x4 + 32)).toNat - x4.toNat) (List.drop x4.toNat x0)).getD (0 + 30) 0).toNat, AV.int .u8 ↑((List.take ((IntKind.i64.wrap (x4 + 32)).toNat - x4.toNat) (List.drop x4.toNat x0)).getD (0 + 31) 0).toNat]])
 else
 .stuck
 else
 .stuck
 else
 .stuck
 else
 bif ltI x4 ↑x0.length then
 .ret (AV.tup [AV.agg [AV.int .i64 0, AV.int .i64 0, AV.int .i64 0, AV.int .i64 0, AV.nil], AV.int .i64 3]) [AObj.var 26 [AV.int .i64 0, AV.int .i64 0, AV.int .i64 0, AV.int .i64 0, AV.nil], AObj.var 26 [AV.int .i64 xh1, AV.int .i64 xh1_1, AV.int .i64 xh1_2, AV.int .i64 xh1_3, AV.own 2], AObj.arr 52 (Pay.rows 32 xh2)]
 else
 bif !rightE xh1 xh1_1 xh1_2 xh1_3 xh2.length then
 .ret (AV.tup [AV.agg [AV.int .i64 0, AV.int .i64 0, AV.int .i64 0, AV.int .i64 0, AV.nil], AV.int .i64 3]) [AObj.var 26 [AV.int .i64 0, AV.int .i64 0, AV.int .i64 0, AV.int .i64 0, AV.nil], AObj.var 26 [AV.int .i64 xh1, AV.int .i64 xh1_1, AV.int .i64 xh1_2, AV.int .i64 xh1_3, AV.own 2], AObj.arr 52 (Pay.rows 32 xh2)]
 else
 .ret (AV.tup [AV.agg [AV.int .i64 xh1, AV.int .i64 xh1_1, AV.int .i64 xh1_2, AV.int .i64 xh1_3, AV.own 2], AV.int .i64 0]) [AObj.var 26 [AV.int .i64 xh1, AV.int .i64 xh1_1, AV.int .i64 xh1_2, AV.int .i64 xh1_3, AV.own 2], AObj.var 26 [AV.int .i64 xh1, AV.int .i64 xh1_1, AV.int .i64 xh1_2, AV.int .i64 xh1_3, AV.own 2], AObj.arr 52 (Pay.rows 32 xh2)] := by kernel_rfl


theorem span32 (l : Txt) : [AV.int .u8 (((l).getD (0 + 0) 0).toNat : Int), AV.int .u8 (((l).getD (0 + 1) 0).toNat : Int), AV.int .u8 (((l).getD (0 + 2) 0).toNat : Int), AV.int .u8 (((l).getD (0 + 3) 0).toNat : Int), AV.int .u8 (((l).getD (0 + 4) 0).toNat : Int), AV.int .u8 (((l).getD (0 + 5) 0).toNat : Int), AV.int .u8 (((l).getD (0 + 6) 0).toNat : Int), AV.int .u8 (((l).getD (0 + 7) 0).toNat : Int), AV.int .u8 (((l).getD (0 + 8) 0).toNat : Int), AV.int .u8 (((l).getD (0 + 9) 0).toNat : Int), AV.int .u8 (((l).getD (0 + 10) 0).toNat : Int), AV.int .u8 (((l).getD (0 + 11) 0).toNat : Int), AV.int .u8 (((l).getD (0 + 12) 0).toNat : Int), AV.int .u8 (((l).getD (0 + 13) 0).toNat : Int), AV.int .u8 (((l).getD (0 + 14) 0).toNat : Int), AV.int .u8 (((l).getD (0 + 15) 0).toNat : Int), AV.int .u8 (((l).getD (0 + 16) 0).toNat : Int), AV.int .u8 (((l).getD (0 + 17) 0).toNat : Int), AV.int .u8 (((l).getD (0 + 18) 0).toNat : Int), AV.int .u8 (((l).getD (0 + 19) 0).toNat : Int), AV.int .u8 (((l).getD (0 + 20) 0).toNat : Int), AV.int .u8 (((l).getD (0 + 21) 0).toNat : Int), AV.int .u8 (((l).getD (0 + 22) 0).toNat : Int), AV.int .u8 (((l).getD (0 + 23) 0).toNat : Int), AV.int .u8 (((l).getD (0 + 24) 0).toNat : Int), AV.int .u8 (((l).getD (0 + 25) 0).toNat : Int), AV.int .u8 (((l).getD (0 + 26) 0).toNat : Int), AV.int .u8 (((l).getD (0 + 27) 0).toNat : Int), AV.int .u8 (((l).getD (0 + 28) 0).toNat : Int), AV.int .u8 (((l).getD (0 + 29) 0).toNat : Int), AV.int .u8 (((l).getD (0 + 30) 0).toNat : Int), AV.int .u8 (((l).getD (0 + 31) 0).toNat : Int)] = spanB l 0 32 := rfl
theorem fits52 (R : List (List AV)) (h : R.length ≤ 1000000) : appFits ty52 (.rows 32 R) = true := by
  unfold appFits
  rw [ble_iff]
  show R.length * 32 ≤ _
  omega
theorem wk_zero {tt : Tab} {e : Int} : Weak tt (.tup [.agg [.int .i64 0, .int .i64 0, .int .i64 0, .int .i64 0, .nil], .int .i64 e], []) (.tup [entV zeroE, .int .i64 e], []) :=
  .tup (.agg (.same (.same (.same (.same (.empty rfl .nil))))) (.same .nil))
theorem wk_nil {tt : Tab} {a b c d e : Int} : Weak tt (.tup [.agg [.int .i64 a, .int .i64 b, .int .i64 c, .int .i64 d, .nil], .int .i64 e], []) (.tup [entV (a, b, c, d, []), .int .i64 e], []) :=
  .tup (.agg (.same (.same (.same (.same (.empty rfl .nil))))) (.same .nil))
theorem bmod {l : Txt} (h : ¬ 32 ≤ l.length) : l.length % 32 = l.length := Nat.mod_eq_of_lt (by omega)
theorem f16_run (F : Nat) (a b c e : Int) : ∀ (d m : Nat) (l : Txt) (Z : List (List AV)), l.length ≤ d → d < m → Z.length + d ≤ 1000000 →
    ∃ x, outR (f16_2_1 F m l 0 0 0 0 a b c e Z) = some x ∧ Weak (c16 F).tt x (.tup [entV (finE a b c e (Z ++ sums32 (l.length / 32) l) (l.length % 32)).1, .int .i64 (finE a b c e (Z ++ sums32 (l.length / 32) l) (l.length % 32)).2], [])
  | d, m + 1, l, Z, h1, h2, h3 => by
    rw [f16_2_1_eq, span32]
    by_cases hj : 32 ≤ l.length
    · obtain ⟨d, rfl⟩ : ∃ m, d = m + 1 := ⟨d - 1, by omega⟩
      rw [bif_pos (by rw [leI_iff]; omega), bif_pos (by rw [ble_iff]; omega), bif_pos (by rw [ble_iff]; omega), bif_pos (fits52 _ (by rw [List.length_append, List.length_singleton]; omega)), bif_pos (by simp only [Bool.and_eq_true, leI_iff]; omega)]
      have ih := f16_run F a b c e d m (l.drop 32) (Z ++ [spanB l 0 32]) (by rw [List.length_drop]; omega) (by omega) (by rw [List.length_append, List.length_singleton]; omega)
      rw [mod_step hj, List.append_assoc] at ih
      rw [sums32_step hj]
      exact ih
    · rw [bif_neg (by rw [leI_iff]; omega), sums32_none hj, bmod hj, List.append_nil, bif_ltI]
      unfold finE
      by_cases h0 : l.length = 0
      · rw [if_neg (by omega), show Nat.beq l.length 0 = true by rw [h0]; rfl, Bool.true_and]
        cases hr : rightE a b c e Z.length with
        | true => exact ⟨_, rfl, .lend⟩
        | false => exact ⟨_, rfl, wk_zero⟩
      · rw [if_pos (by omega), show Nat.beq l.length 0 = false by rw [Bool.eq_false_iff, Ne, Nat.beq_eq]; exact h0]
        exact ⟨_, rfl, wk_zero⟩
theorem f16_rest (F : Nat) (a b c e : Int) (l : Txt) (m : Nat) (h : l.length + 2 < m) (hl : l.length ≤ 900000) : ∃ x, outR (f16_2 F m l 0 0 0 0 a b c e) = some x ∧ Weak (c16 F).tt x (.tup [entV (restE a b c e l).1, .int .i64 (restE a b c e l).2], []) := by
  obtain ⟨m, rfl⟩ : ∃ k, m = k + 1 := ⟨m - 1, by omega⟩
  rw [f16_2_eq, span32]
  unfold restE
  by_cases hj : 32 ≤ l.length
  · rw [bif_pos (by rw [leI_iff]; omega), bif_pos (by rw [ble_iff]; omega), bif_pos (by rw [ble_iff]; omega), bif_pos (by simp only [Bool.and_eq_true, leI_iff]; omega)]
    have ih := f16_run F a b c e l.length m (l.drop 32) [spanB l 0 32] (by rw [List.length_drop]; omega) (by omega) (by rw [List.length_singleton]; omega)
    rw [mod_step hj] at ih
    rw [sums32_step hj]
    exact ih
  · rw [bif_neg (by rw [leI_iff]; omega), sums32_none hj, bmod hj, bif_ltI]
    unfold finE
    by_cases h0 : l.length = 0
    · rw [if_neg (by omega), show Nat.beq l.length 0 = true by rw [h0]; rfl, Bool.true_and]
      cases hr : rightE a b c e ([] : List (List AV)).length with
      | true => exact ⟨_, rfl, wk_nil⟩
      | false => exact ⟨_, rfl, wk_zero⟩
    · rw [if_pos (by omega), show Nat.beq l.length 0 = false by rw [Bool.eq_false_iff, Ne, Nat.beq_eq]; exact h0]
      exact ⟨_, rfl, wk_zero⟩
theorem cut_eq {n : Int} (h0 : 0 ≤ n) : IntKind.i64.wrap (if 1073741825 < n then 1073741825 else n) = cut30 n := by
  unfold cut30
  rw [wrap64 (by split <;> omega) (by split <;> omega)]
  split <;> omega
theorem f16_all (F : Nat) (b : Txt) (hb : b.length ≤ 800000) (hF : 9223372036854775807 < F) : ∃ x, apure (c16 F) Try.f16 [.ro (.bytes b)] = some x ∧ Weak (c16 F).tt x (.tup [entV (getE b).1, .int .i64 (getE b).2], []) := by
  rw [apure_out, f16_eq]
  have key : ∀ m : Nat, ∃ x, outR (f16_0 F (m + 5) b 0 0 0 0 0 0 0 0 0) = some x ∧ Weak (c16 F).tt x (.tup [entV (getE b).1, .int .i64 (getE b).2], []) := by
    intro m
    have bad : ∀ {e : Int}, ¬ e = 0 → (!eqI e 0) = true := fun h => by rw [Bool.not_eq_true', Bool.eq_false_iff, Ne, eqI_iff]; exact h
    have good : ∀ {e : Int}, e = 0 → (!eqI e 0) = false := fun h => by rw [Bool.not_eq_false', eqI_iff]; exact h
    rw [f16_0_eq]
    unfold getE
    by_cases e0 : (getV b 0).2.2 = 0
    · obtain ⟨_, _, _, k0, _, _⟩ := getV_once b 0 e0
      rw [good e0, cond_false, cut_eq k0, if_neg (fun x => x e0), f16_0_1_eq]
      generalize cut30 (getV b 0).1 = n0
      generalize (getV b 0).2.1 = i1
      unfold getE2
      by_cases e1 : (getV b i1).2.2 = 0
      · obtain ⟨_, _, _, k1, _, _⟩ := getV_once b i1 e1
        rw [good e1, cond_false, cut_eq k1, if_neg (fun x => x e1), f16_0_2_eq]
        generalize cut30 (getV b i1).1 = n1
        generalize (getV b i1).2.1 = i2
        unfold getE3
        by_cases e2 : (getV b i2).2.2 = 0
        · obtain ⟨_, _, _, k2, _, _⟩ := getV_once b i2 e2
          rw [good e2, cond_false, cut_eq k2, if_neg (fun x => x e2), f16_0_3_eq]
          generalize cut30 (getV b i2).1 = n2
          generalize (getV b i2).2.1 = i3
          unfold getE4
          by_cases e3 : (getV b i3).2.2 = 0
          · obtain ⟨_, _, _, k3, _, _⟩ := getV_once b i3 e3
            obtain ⟨g1, g2, g3, _⟩ := getV_seg e3
            rw [good e3, cond_false, cut_eq k3, if_neg (fun x => x e3), f16_0_4_eq, bif_pos (by simp only [Bool.and_eq_true, leI_iff]; omega)]
            exact f16_rest F n0 n1 n2 _ _ F (by rw [List.length_drop]; omega) (by rw [List.length_drop]; omega)
          · rw [bad e3, cond_true, if_pos e3]; exact ⟨_, rfl, wk_zero⟩
        · rw [bad e2, cond_true, if_pos e2]; exact ⟨_, rfl, wk_zero⟩
      · rw [bad e1, cond_true, if_pos e1]; exact ⟨_, rfl, wk_zero⟩
    · rw [bad e0, cond_true, if_pos e0]; exact ⟨_, rfl, wk_zero⟩
  obtain ⟨m, hm⟩ : ∃ m, F = m + 5 := ⟨F - 5, by omega⟩
  have := key m
  rw [← hm] at this
  exact this
theorem f17_run (F : Nat) (b : Txt) (a1 b1 c1 e1 : Int) (hb : b.length ≤ 900000) : ∀ (d m : Nat) (q : Nat) (Z : List (List AV)), b.length ≤ q + d → q ≤ b.length → d < m → Z.length + d ≤ 1000000 →
    ∃ x, outR (f17_2_1 F m b q 0 0 0 0 a1 b1 c1 e1 Z) = some x ∧ Weak (c17 F).tt x (.tup [entV (finE a1 b1 c1 e1 (Z ++ sums32 ((b.drop q).length / 32) (b.drop q)) ((b.drop q).length % 32)).1, .int .i64 (finE a1 b1 c1 e1 (Z ++ sums32 ((b.drop q).length / 32) (b.drop q)) ((b.drop q).length % 32)).2], [])
  | d, m + 1, q, Z, h0, h1, h2, h3 => by
    have hl : (b.drop q).length = b.length - q := List.length_drop
    rw [f17_2_1_eq, span32, wrap64 (n := (q : Int) + 32) (by omega) (by omega), Int.toNat_natCast, show ((q : Int) + 32).toNat - q = 32 by omega, spanB_take _ _ (Nat.le_refl _)]
    by_cases hj : 32 ≤ (b.drop q).length
    · obtain ⟨d, rfl⟩ : ∃ m, d = m + 1 := ⟨d - 1, by omega⟩
      rw [bif_pos (by rw [leI_iff]; omega), bif_pos (by simp only [Bool.and_eq_true, leI_iff]; omega), bif_pos (by rw [ble_iff, List.length_take]; omega), bif_pos (fits52 _ (by rw [List.length_append, List.length_singleton]; omega))]
      have ih := f17_run F b a1 b1 c1 e1 hb d m (q + 32) (Z ++ [spanB (b.drop q) 0 32]) (by omega) (by omega) (by omega) (by rw [List.length_append, List.length_singleton]; omega)
      rw [← List.drop_drop, mod_step hj, List.append_assoc] at ih
      rw [sums32_step hj]
      exact ih
    · rw [bif_neg (by rw [leI_iff]; omega), sums32_none hj, bmod hj, List.append_nil, bif_ltI]
      unfold finE
      by_cases h0 : (b.drop q).length = 0
      · rw [if_neg (by omega), show Nat.beq (b.drop q).length 0 = true by rw [h0]; rfl, Bool.true_and]
        cases hr : rightE a1 b1 c1 e1 Z.length with
        | true => exact ⟨_, rfl, .lend⟩
        | false => exact ⟨_, rfl, wk_zero⟩
      · rw [if_pos (by omega), show Nat.beq (b.drop q).length 0 = false by rw [Bool.eq_false_iff, Ne, Nat.beq_eq]; exact h0]
        exact ⟨_, rfl, wk_zero⟩
theorem f17_rest (F : Nat) (b : Txt) (a1 b1 c1 e1 : Int) (q : Nat) (hq : q ≤ b.length) (hb : b.length ≤ 800000) (m : Nat) (h : b.length + 5 < m) : ∃ x, outR (f17_2 F m b q 0 0 0 0 a1 b1 c1 e1) = some x ∧ Weak (c17 F).tt x (.tup [entV (restE a1 b1 c1 e1 (b.drop q)).1, .int .i64 (restE a1 b1 c1 e1 (b.drop q)).2], []) := by
  obtain ⟨m, rfl⟩ : ∃ k, m = k + 1 := ⟨m - 1, by omega⟩
  have hl : (b.drop q).length = b.length - q := List.length_drop
  rw [f17_2_eq, span32, wrap64 (n := (q : Int) + 32) (by omega) (by omega), Int.toNat_natCast, show ((q : Int) + 32).toNat - q = 32 by omega, spanB_take _ _ (Nat.le_refl _)]
  unfold restE
  by_cases hj : 32 ≤ (b.drop q).length
  · rw [bif_pos (by rw [leI_iff]; omega), bif_pos (by simp only [Bool.and_eq_true, leI_iff]; omega), bif_pos (by rw [ble_iff, List.length_take]; omega)]
    have ih := f17_run F b a1 b1 c1 e1 (by omega) b.length m (q + 32) [spanB (b.drop q) 0 32] (by omega) (by omega) (by omega) (by rw [List.length_singleton]; omega)
    rw [← List.drop_drop, mod_step hj] at ih
    rw [sums32_step hj]
    exact ih
  · rw [bif_neg (by rw [leI_iff]; omega), sums32_none hj, bmod hj, bif_ltI]
    unfold finE
    by_cases h0 : (b.drop q).length = 0
    · rw [if_neg (by omega), show Nat.beq (b.drop q).length 0 = true by rw [h0]; rfl, Bool.true_and]
      cases hr : rightE a1 b1 c1 e1 ([] : List (List AV)).length with
      | true => exact ⟨_, rfl, wk_nil⟩
      | false => exact ⟨_, rfl, wk_zero⟩
    · rw [if_pos (by omega), show Nat.beq (b.drop q).length 0 = false by rw [Bool.eq_false_iff, Ne, Nat.beq_eq]; exact h0]
      exact ⟨_, rfl, wk_zero⟩
theorem cut_alt {n : Int} (h0 : 0 ≤ n) (r : Int → Res) : (bif ltI 1073741824 n then r 1073741825 else r (IntKind.i64.wrap n)) = r (cut30 n) := by
  unfold cut30
  rw [bif_ltI]
  by_cases h : 1073741824 < n
  · rw [if_pos h, show min n 1073741825 = 1073741825 by omega]
  · rw [if_neg h, wrap64 (by omega) (by omega), show min n 1073741825 = n by omega]
theorem f17_all (F : Nat) (b : Txt) (hb : b.length ≤ 800000) (hF : 9223372036854775807 < F) : ∃ x, apure (c17 F) Try.f17 [.ro (.bytes b)] = some x ∧ Weak (c17 F).tt x (.tup [entV (getE b).1, .int .i64 (getE b).2], []) := by
  rw [apure_out, f17_eq]
  have key : ∀ m : Nat, ∃ x, outR (f17_0 F (m + 5) b 0 0 0 0 0 0 0 0 0) = some x ∧ Weak (c17 F).tt x (.tup [entV (getE b).1, .int .i64 (getE b).2], []) := by
    intro m
    have bad : ∀ {e : Int}, ¬ e = 0 → (!eqI e 0) = true := fun h => by rw [Bool.not_eq_true', Bool.eq_false_iff, Ne, eqI_iff]; exact h
    have good : ∀ {e : Int}, e = 0 → (!eqI e 0) = false := fun h => by rw [Bool.not_eq_false', eqI_iff]; exact h
    rw [f17_0_eq]
    unfold getE
    by_cases e0 : (getV b 0).2.2 = 0
    · obtain ⟨_, _, _, k0, _, _⟩ := getV_once b 0 e0
      rw [good e0, cond_false, if_neg (fun x => x e0), cut_alt k0 (fun n => f17_0_1 F (m + 4) b (getV b 0).2.1 0 0 0 0 n 0 0 0), f17_0_1_eq]
      generalize cut30 (getV b 0).1 = n0
      generalize (getV b 0).2.1 = i1
      unfold getE2
      by_cases e1 : (getV b i1).2.2 = 0
      · obtain ⟨_, _, _, k1, _, _⟩ := getV_once b i1 e1
        rw [good e1, cond_false, if_neg (fun x => x e1), cut_alt k1 (fun n => f17_0_2 F (m + 3) b (getV b i1).2.1 0 0 0 0 n0 n 0 0), f17_0_2_eq]
        generalize cut30 (getV b i1).1 = n1
        generalize (getV b i1).2.1 = i2
        unfold getE3
        by_cases e2 : (getV b i2).2.2 = 0
        · obtain ⟨_, _, _, k2, _, _⟩ := getV_once b i2 e2
          rw [good e2, cond_false, if_neg (fun x => x e2), cut_alt k2 (fun n => f17_0_3 F (m + 2) b (getV b i2).2.1 0 0 0 0 n0 n1 n 0), f17_0_3_eq]
          generalize cut30 (getV b i2).1 = n2
          generalize (getV b i2).2.1 = i3
          unfold getE4
          by_cases e3 : (getV b i3).2.2 = 0
          · obtain ⟨_, _, _, k3, _, _⟩ := getV_once b i3 e3
            obtain ⟨g1, g2, g3, _⟩ := getV_seg e3
            rw [good e3, cond_false, if_neg (fun x => x e3), cut_alt k3 (fun n => f17_0_4 F (m + 1) b (getV b i3).2.1 0 0 0 0 n0 n1 n2 n), f17_0_4_eq]
            obtain ⟨q, hq⟩ : ∃ q : Nat, (getV b i3).2.1 = q := ⟨(getV b i3).2.1.toNat, by omega⟩
            rw [hq] at g3 ⊢
            rw [Int.toNat_natCast]
            exact f17_rest F b n0 n1 n2 _ q (by omega) hb F (by omega)
          · rw [bad e3, cond_true, if_pos e3]; exact ⟨_, rfl, wk_zero⟩
        · rw [bad e2, cond_true, if_pos e2]; exact ⟨_, rfl, wk_zero⟩
      · rw [bad e1, cond_true, if_pos e1]; exact ⟨_, rfl, wk_zero⟩
    · rw [bad e0, cond_true, if_pos e0]; exact ⟨_, rfl, wk_zero⟩
  obtain ⟨m, hm⟩ : ∃ m, F = m + 5 := ⟨F - 5, by omega⟩
  have := key m
  rw [← hm] at this
  exact this

theorem ok16 : PureOk Try.prog 16 go16 := by
  refine pureOk_of (c16 rounds) tt16_ok (.cons ok59 (.cons (ok21.norm _) .nil)) follows rfl Try.func16 (by kernel_rfl) (by kernel_rfl) ?_ ?_
  · intro R stk args ret
    unfold go16
    split
    · simp only [elim_cond]; rfl
    · rfl
  · intro args r objs h hr
    unfold go16 at h
    split at h
    · rename_i b
      rcases bif_alt h with ⟨hf0, h⟩ | ⟨hf0, h⟩
      · cases h
        rw [ble_iff] at hf0
        exact f16_all rounds b hf0 big
      ·
        cases h
    · cases h

theorem ok17 : PureOk Try.prog 17 go16 := by
  refine pureOk_of (c17 rounds) tt17_ok (.cons ok60 (.cons ok61 (.cons (ok22.norm _) .nil))) follows rfl Try.func17 (by kernel_rfl) (by kernel_rfl) ?_ ?_
  · intro R stk args ret
    unfold go16
    split
    · simp only [elim_cond]; rfl
    · rfl
  · intro args r objs h hr
    unfold go16 at h
    split at h
    · rename_i b
      rcases bif_alt h with ⟨hf0, h⟩ | ⟨hf0, h⟩
      · cases h
        rw [ble_iff] at hf0
        exact f17_all rounds b hf0 big
      ·
        cases h
    · cases h

end Go.Proofs.YtmkgmlgklggnlaaG
