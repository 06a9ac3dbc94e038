/- A part of the proof: plain laws, and what functions of the given program come to; no condition. -/
import Derived.Test.YtmkgmlgklggnlaaSd
namespace Go.Proofs.YtmkgmlgklggnlaaG
open Go Go.Proofs.YtmkgmlgklggnlaaGm
set_option maxRecDepth 100000
set_option maxHeartbeats 0

def go32a (R : Type) (stk : R) (args : List AV) (hp : List AObj) (ret : AV → List AObj → R) : R :=
  match args, hp with
  | [.ptr 0 0], [.var 114 [.int .u32 h0, .int .u32 h1, .int .u32 h2, .int .u32 h3, .int .u32 h4, .int .u32 h5, .int .u32 h6, .int .u32 h7, .ro (.bytes p), .int .i64 n]] => bif Nat.ble p.length 1099511627776 && (leI 0 n && leI n 1000000000000000000) then ret (.arr (intsA .u8 (endW ⟨h0, h1, h2, h3, h4, h5, h6, h7⟩ p n.toNat))) [.var 114 [.int .u32 h0, .int .u32 h1, .int .u32 h2, .int .u32 h3, .int .u32 h4, .int .u32 h5, .int .u32 h6, .int .u32 h7, .ro (.bytes p), .int .i64 n]] else stk
  | _, _ => stk
def go32 (R : Type) (stk : R) (args : List AV) (hp : List AObj) (ret : AV → List AObj → R) : R :=
  match args, hp with
  | [.ptr 0 0], [.var 114 [.int .u32 h0, .int .u32 h1, .int .u32 h2, .int .u32 h3, .int .u32 h4, .int .u32 h5, .int .u32 h6, .int .u32 h7, .ro (.bytes p), .int .i64 n]] => bif Nat.ble p.length 1099511627776 && (leI 0 n && leI n 1000000000000000000) then ret (.arr (intsA .u8 (endW ⟨h0, h1, h2, h3, h4, h5, h6, h7⟩ p n.toNat))) [.var 114 [.int .u32 h0, .int .u32 h1, .int .u32 h2, .int .u32 h3, .int .u32 h4, .int .u32 h5, .int .u32 h6, .int .u32 h7, .ro (.bytes p), .int .i64 n]] else stk
  | [.nilp], [] => ret (.arr (intsA .u8 (shaW []))) []
  | _, _ => stk

def tt32 : Tab := [(0, ty0), (1, ty1), (2, ty2), (3, ty3), (4, ty4), (5, ty5), (22, ty22), (39, ty39), (40, ty40), (41, ty41), (47, ty47), (52, ty52), (68, ty68), (99, ty99), (114, ty114), (52, ty52)]
theorem tt32_ok : TabOk Try.prog tt32 := tabOk_of_all ⟨ty0_ok, ty1_ok, ty2_ok, ty3_ok, ty4_ok, ty5_ok, ty22_ok, ty39_ok, ty40_ok, ty41_ok, ty47_ok, ty52_ok, ty68_ok, ty99_ok, ty114_ok, ty52_ok, trivial⟩
def c32 (F : Nat) : Cfg := ⟨tt32, [(72, .pure go72), (25, .pure go25)], F, [(0, ⟨[0, 2, 3], [(3, 5)]⟩), (2, ⟨[0, 2, 3, 28], [(3, 5)]⟩), (4, ⟨[2, 3, 5], []⟩), (6, ⟨[2, 6, 60, 61], []⟩), (8, ⟨[2, 6, 7, 8, 60, 61, 65], []⟩)], [], 1⟩
noncomputable def f32_0 (F k : Nat) (xh0 : Int) (xh0_1 : Int) (xh0_2 : Int) (xh0_3 : Int) (xh0_4 : Int) (xh0_5 : Int) (xh0_6 : Int) (xh0_7 : Int) (xh0_8 : List UInt8) (xh0_9 : Int) (xh1 : List Int) (xh2 : List UInt8) : Res := aloop (c32 F) Try.f32 0 [] k (St.mk [AV.ptr 0 0, .top, AV.ptr 1 0, AV.own 2, .top, .top, .top, .top, .top, .top, .top, .top, .top, .top, .top, .top, .top, .top, .top, .top, .top, .top, .top, .top, .top, .top, .top, .top, .top, .top, .top, .top, .top, .top, .top, .top, .top, .top, .top, .top, .top, .top, .top, .top, .top, .top, .top, .top, .top, .top, .top, .top, .top, .top, .top, .top, .top, .top, .top, .top, .top, .top, .top, .top, .top, .top, .top, .top, .top, .top, .top, .top, .top, .top, .top, .top, .top, .top, .top, .top, .top, .top] [AObj.var 114 [AV.int .u32 xh0, AV.int .u32 xh0_1, AV.int .u32 xh0_2, AV.int .u32 xh0_3, AV.int .u32 xh0_4, AV.int .u32 xh0_5, AV.int .u32 xh0_6, AV.int .u32 xh0_7, AV.ro (Pay.bytes xh0_8), AV.int .i64 xh0_9], AObj.vara 52 .u8 xh1, AObj.arr 5 (Pay.bytes xh2)])
noncomputable def f32_2 (F k : Nat) (x28 : Int) (xh0 : Int) (xh0_1 : Int) (xh0_2 : Int) (xh0_3 : Int) (xh0_4 : Int) (xh0_5 : Int) (xh0_6 : Int) (xh0_7 : Int) (xh0_8 : List UInt8) (xh0_9 : Int) (xh1 : List Int) (xh2 : List UInt8) : Res := aloop (c32 F) Try.f32 2 [] k (St.mk [AV.ptr 0 0, .top, AV.ptr 1 0, AV.own 2, .top, .top, .top, .top, .top, .top, .top, .top, .top, .top, .top, .top, .top, .top, .top, .top, .top, .top, .top, .top, .top, .top, .top, .top, AV.int .i64 x28, .top, .top, .top, .top, .top, .top, .top, .top, .top, .top, .top, .top, .top, .top, .top, .top, .top, .top, .top, .top, .top, .top, .top, .top, .top, .top, .top, .top, .top, .top, .top, .top, .top, .top, .top, .top, .top, .top, .top, .top, .top, .top, .top, .top, .top, .top, .top, .top, .top, .top, .top, .top, .top] [AObj.var 114 [AV.int .u32 xh0, AV.int .u32 xh0_1, AV.int .u32 xh0_2, AV.int .u32 xh0_3, AV.int .u32 xh0_4, AV.int .u32 xh0_5, AV.int .u32 xh0_6, AV.int .u32 xh0_7, AV.ro (Pay.bytes xh0_8), AV.int .i64 xh0_9], AObj.vara 52 .u8 xh1, AObj.arr 5 (Pay.bytes xh2)])
noncomputable def f32_4 (F k : Nat) (xh0 : Int) (xh0_1 : Int) (xh0_2 : Int) (xh0_3 : Int) (xh0_4 : Int) (xh0_5 : Int) (xh0_6 : Int) (xh0_7 : Int) (xh0_8 : List UInt8) (xh0_9 : Int) (xh1 : List Int) (xh2 : List UInt8) (xh3 : Int) (xh3_1 : Int) (xh3_2 : Int) (xh3_3 : Int) (xh3_4 : Int) (xh3_5 : Int) (xh3_6 : Int) (xh3_7 : Int) : Res := aloop (c32 F) Try.f32 4 [] k (St.mk [.top, .top, AV.ptr 1 0, AV.own 2, .top, AV.ptr 3 0, .top, .top, .top, .top, .top, .top, .top, .top, .top, .top, .top, .top, .top, .top, .top, .top, .top, .top, .top, .top, .top, .top, .top, .top, .top, .top, .top, .top, .top, .top, .top, .top, .top, .top, .top, .top, .top, .top, .top, .top, .top, .top, .top, .top, .top, .top, .top, .top, .top, .top, .top, .top, .top, .top, .top, .top, .top, .top, .top, .top, .top, .top, .top, .top, .top, .top, .top, .top, .top, .top, .top, .top, .top, .top, .top, .top] [AObj.var 114 [AV.int .u32 xh0, AV.int .u32 xh0_1, AV.int .u32 xh0_2, AV.int .u32 xh0_3, AV.int .u32 xh0_4, AV.int .u32 xh0_5, AV.int .u32 xh0_6, AV.int .u32 xh0_7, AV.ro (Pay.bytes xh0_8), AV.int .i64 xh0_9], AObj.vara 52 .u8 xh1, AObj.arr 5 (Pay.bytes xh2), AObj.var 40 [AV.int .u32 xh3, AV.int .u32 xh3_1, AV.int .u32 xh3_2, AV.int .u32 xh3_3, AV.int .u32 xh3_4, AV.int .u32 xh3_5, AV.int .u32 xh3_6, AV.int .u32 xh3_7]])
noncomputable def f32_4_1 (F k : Nat) (x3 : Nat) (x3_1 : Nat) (xh0 : Int) (xh0_1 : Int) (xh0_2 : Int) (xh0_3 : Int) (xh0_4 : Int) (xh0_5 : Int) (xh0_6 : Int) (xh0_7 : Int) (xh0_8 : List UInt8) (xh0_9 : Int) (xh1 : List Int) (xh2 : List UInt8) (xh3 : Int) (xh3_1 : Int) (xh3_2 : Int) (xh3_3 : Int) (xh3_4 : Int) (xh3_5 : Int) (xh3_6 : Int) (xh3_7 : Int) : Res := aloop (c32 F) Try.f32 4 [] k (St.mk [.top, .top, AV.ptr 1 0, AV.sub 2 x3 x3_1, .top, AV.ptr 3 0, .top, .top, .top, .top, .top, .top, .top, .top, .top, .top, .top, .top, .top, .top, .top, .top, .top, .top, .top, .top, .top, .top, .top, .top, .top, .top, .top, .top, .top, .top, .top, .top, .top, .top, .top, .top, .top, .top, .top, .top, .top, .top, .top, .top, .top, .top, .top, .top, .top, .top, .top, .top, .top, .top, .top, .top, .top, .top, .top, .top, .top, .top, .top, .top, .top, .top, .top, .top, .top, .top, .top, .top, .top, .top, .top, .top] [AObj.var 114 [AV.int .u32 xh0, AV.int .u32 xh0_1, AV.int .u32 xh0_2, AV.int .u32 xh0_3, AV.int .u32 xh0_4, AV.int .u32 xh0_5, AV.int .u32 xh0_6, AV.int .u32 xh0_7, AV.ro (Pay.bytes xh0_8), AV.int .i64 xh0_9], AObj.vara 52 .u8 xh1, AObj.arr 5 (Pay.bytes xh2), AObj.var 40 [AV.int .u32 xh3, AV.int .u32 xh3_1, AV.int .u32 xh3_2, AV.int .u32 xh3_3, AV.int .u32 xh3_4, AV.int .u32 xh3_5, AV.int .u32 xh3_6, AV.int .u32 xh3_7]])
noncomputable def f32_6 (F k : Nat) (x60 : Int) (x60_1 : Int) (x60_2 : Int) (x60_3 : Int) (x60_4 : Int) (x60_5 : Int) (x60_6 : Int) (x60_7 : Int) (x61 : Int) (xh0 : Int) (xh0_1 : Int) (xh0_2 : Int) (xh0_3 : Int) (xh0_4 : Int) (xh0_5 : Int) (xh0_6 : Int) (xh0_7 : Int) (xh0_8 : List UInt8) (xh0_9 : Int) (xh1 : List Int) (xh2 : List Int) : Res := aloop (c32 F) Try.f32 6 [] k (St.mk [.top, .top, AV.ptr 1 0, .top, .top, .top, AV.ptr 2 0, .top, .top, .top, .top, .top, .top, .top, .top, .top, .top, .top, .top, .top, .top, .top, .top, .top, .top, .top, .top, .top, .top, .top, .top, .top, .top, .top, .top, .top, .top, .top, .top, .top, .top, .top, .top, .top, .top, .top, .top, .top, .top, .top, .top, .top, .top, .top, .top, .top, .top, .top, .top, .top, AV.arr [AV.int .u32 x60, AV.int .u32 x60_1, AV.int .u32 x60_2, AV.int .u32 x60_3, AV.int .u32 x60_4, AV.int .u32 x60_5, AV.int .u32 x60_6, AV.int .u32 x60_7], AV.int .i64 x61, .top, .top, .top, .top, .top, .top, .top, .top, .top, .top, .top, .top, .top, .top, .top, .top, .top, .top, .top, .top] [AObj.var 114 [AV.int .u32 xh0, AV.int .u32 xh0_1, AV.int .u32 xh0_2, AV.int .u32 xh0_3, AV.int .u32 xh0_4, AV.int .u32 xh0_5, AV.int .u32 xh0_6, AV.int .u32 xh0_7, AV.ro (Pay.bytes xh0_8), AV.int .i64 xh0_9], AObj.vara 52 .u8 xh1, AObj.vara 52 .u8 xh2])
noncomputable def f32_8 (F k : Nat) (g6 : Nat) (x7 : Int) (x8 : Int) (x60 : Int) (x60_1 : Int) (x60_2 : Int) (x60_3 : Int) (x60_4 : Int) (x60_5 : Int) (x60_6 : Int) (x60_7 : Int) (x61 : Int) (x65 : Int) (xh0 : Int) (xh0_1 : Int) (xh0_2 : Int) (xh0_3 : Int) (xh0_4 : Int) (xh0_5 : Int) (xh0_6 : Int) (xh0_7 : Int) (xh0_8 : List UInt8) (xh0_9 : Int) (xh1 : List Int) (xh2 : List Int) : Res := aloop (c32 F) Try.f32 8 [g6] k (St.mk [.top, .top, AV.ptr 1 0, .top, .top, .top, AV.ptr 2 0, AV.int .i64 x7, AV.int .u32 x8, .top, .top, .top, .top, .top, .top, .top, .top, .top, .top, .top, .top, .top, .top, .top, .top, .top, .top, .top, .top, .top, .top, .top, .top, .top, .top, .top, .top, .top, .top, .top, .top, .top, .top, .top, .top, .top, .top, .top, .top, .top, .top, .top, .top, .top, .top, .top, .top, .top, .top, .top, AV.arr [AV.int .u32 x60, AV.int .u32 x60_1, AV.int .u32 x60_2, AV.int .u32 x60_3, AV.int .u32 x60_4, AV.int .u32 x60_5, AV.int .u32 x60_6, AV.int .u32 x60_7], AV.int .i64 x61, .top, .top, .top, AV.int .i64 x65, .top, .top, .top, .top, .top, .top, .top, .top, .top, .top, .top, .top, .top, .top, .top, .top] [AObj.var 114 [AV.int .u32 xh0, AV.int .u32 xh0_1, AV.int .u32 xh0_2, AV.int .u32 xh0_3, AV.int .u32 xh0_4, AV.int .u32 xh0_5, AV.int .u32 xh0_6, AV.int .u32 xh0_7, AV.ro (Pay.bytes xh0_8), AV.int .i64 xh0_9], AObj.vara 52 .u8 xh1, AObj.vara 52 .u8 xh2])
theorem f32_eq (F : Nat) (h0 : Int) (h1 : Int) (h2 : Int) (h3 : Int) (h4 : Int) (h5 : Int) (h6 : Int) (h7 : Int) (n : Int) (p : List UInt8) : afun (c32 F) Try.f32 [AV.ptr 0 0] [AObj.var 114 [AV.int .u32 h0, AV.int .u32 h1, AV.int .u32 h2, AV.int .u32 h3, AV.int .u32 h4, AV.int .u32 h5, AV.int .u32 h6, AV.int .u32 h7, AV.ro (Pay.bytes p), AV.int .i64 n]] =
 bif okB ([setRange [AV.ro (Pay.bytes [])] 0 [AV.ro (Pay.bytes p)], [AV.ro (Pay.bytes [])]].set (1, Operand.tmp 18).fst (setRange [AV.ro (Pay.bytes [])] 0 [AV.ro (Pay.bytes [UInt8.ofNat 128])])) && (szB (decB ([setRange [AV.ro (Pay.bytes [])] 0 [AV.ro (Pay.bytes p)], [AV.ro (Pay.bytes [])]].set (1, Operand.tmp 18).fst (setRange [AV.ro (Pay.bytes [])] 0 [AV.ro (Pay.bytes [UInt8.ofNat 128])])))).ble 70368744177664 then
 f32_0 F F h0 h1 h2 h3 h4 h5 h6 h7 p n [Int.ofNat 0, Int.ofNat 0, Int.ofNat 0, Int.ofNat 0, Int.ofNat 0, Int.ofNat 0, Int.ofNat 0, Int.ofNat 0, Int.ofNat 0, Int.ofNat 0, Int.ofNat 0, Int.ofNat 0, Int.ofNat 0, Int.ofNat 0, Int.ofNat 0, Int.ofNat 0, Int.ofNat 0, Int.ofNat 0, Int.ofNat 0, Int.ofNat 0, Int.ofNat 0, Int.ofNat 0, Int.ofNat 0, Int.ofNat 0, Int.ofNat 0, Int.ofNat 0, Int.ofNat 0, Int.ofNat 0, Int.ofNat 0, Int.ofNat 0, Int.ofNat 0, Int.ofNat 0] ((decB ([setRange [AV.ro (Pay.bytes [])] 0 [AV.ro (Pay.bytes p)], [AV.ro (Pay.bytes [])]].set (1, Operand.tmp 18).fst (setRange [AV.ro (Pay.bytes [])] 0 [AV.ro (Pay.bytes [UInt8.ofNat 128])]))).flatten)
 else
 .stuck := by kernel_rfl
theorem f32_0_eq (F k : Nat) (xh0 : Int) (xh0_1 : Int) (xh0_2 : Int) (xh0_3 : Int) (xh0_4 : Int) (xh0_5 : Int) (xh0_6 : Int) (xh0_7 : Int) (xh0_8 : List UInt8) (xh0_9 : Int) (xh1 : List Int) (xh2 : List UInt8) : f32_0 F (k + 1) xh0 xh0_1 xh0_2 xh0_3 xh0_4 xh0_5 xh0_6 xh0_7 xh0_8 xh0_9 xh1 xh2 =
 bif !eqI (irem (↑xh2.length) 64) 56 then
 bif appFits ty5 (Pay.bytes (xh2 ++ [UInt8.ofNat 0])) then
 f32_0 F k xh0 xh0_1 xh0_2 xh0_3 xh0_4 xh0_5 xh0_6 xh0_7 xh0_8 xh0_9 xh1 (xh2 ++ [UInt8.ofNat 0])
 else
 .stuck
 else
 f32_2 F F 0 xh0 xh0_1 xh0_2 xh0_3 xh0_4 xh0_5 xh0_6 xh0_7 xh0_8 xh0_9 xh1 xh2 := by kernel_rfl
theorem f32_2_eq (F k : Nat) (x28 : Int) (xh0 : Int) (xh0_1 : Int) (xh0_2 : Int) (xh0_3 : Int) (xh0_4 : Int) (xh0_5 : Int) (xh0_6 : Int) (xh0_7 : Int) (xh0_8 : List UInt8) (xh0_9 : Int) (xh1 : List Int) (xh2 : List UInt8) : f32_2 F (k + 1) x28 xh0 xh0_1 xh0_2 xh0_3 xh0_4 xh0_5 xh0_6 xh0_7 xh0_8 xh0_9 xh1 xh2 =
 bif ltI x28 8 then
 bif ltI (IntKind.i64.wrap (8 * IntKind.i64.wrap (7 - x28))) 0 then
 .stuck
 else
 bif appFits ty5 (Pay.bytes (xh2 ++ [UInt8.ofNat (IntKind.u8.wrap (ishr IntKind.u64 (IntKind.u64.wrap (IntKind.u64.wrap xh0_9 * 8)) (IntKind.i64.wrap (8 * IntKind.i64.wrap (7 - x28))))).toNat])) then
 f32_2 F k (IntKind.i64.wrap (x28 + 1)) xh0 xh0_1 xh0_2 xh0_3 xh0_4 xh0_5 xh0_6 xh0_7 xh0_8 xh0_9 xh1 (xh2 ++ [UInt8.ofNat (IntKind.u8.wrap (ishr IntKind.u64 (IntKind.u64.wrap (IntKind.u64.wrap xh0_9 * 8)) (IntKind.i64.wrap (8 * IntKind.i64.wrap (7 - x28))))).toNat])
 else
 .stuck
 else
 f32_4 F F xh0 xh0_1 xh0_2 xh0_3 xh0_4 xh0_5 xh0_6 xh0_7 xh0_8 xh0_9 xh1 xh2 xh0 xh0_1 xh0_2 xh0_3 xh0_4 xh0_5 xh0_6 xh0_7 := by kernel_rfl
theorem f32_4_eq (F k : Nat) (xh0 : Int) (xh0_1 : Int) (xh0_2 : Int) (xh0_3 : Int) (xh0_4 : Int) (xh0_5 : Int) (xh0_6 : Int) (xh0_7 : Int) (xh0_8 : List UInt8) (xh0_9 : Int) (xh1 : List Int) (xh2 : List UInt8) (xh3 : Int) (xh3_1 : Int) (xh3_2 : Int) (xh3_3 : Int) (xh3_4 : Int) (xh3_5 : Int) (xh3_6 : Int) (xh3_7 : Int) : f32_4 F (k + 1) xh0 xh0_1 xh0_2 xh0_3 xh0_4 xh0_5 xh0_6 xh0_7 xh0_8 xh0_9 xh1 xh2 xh3 xh3_1 xh3_2 xh3_3 xh3_4 xh3_5 xh3_6 xh3_7 =
 bif ltI 0 ↑xh2.length then
 bif Nat.ble 64 xh2.length then
 bif (0 + 64).ble xh2.length then
 bif leI 0 64 && leI 64 ↑xh2.length && leI ↑xh2.length ↑xh2.length then
 f32_4_1 F k 64 ((xh2.length : Int).toNat - 64) xh0 xh0_1 xh0_2 xh0_3 xh0_4 xh0_5 xh0_6 xh0_7 xh0_8 xh0_9 xh1 xh2 ((roundH keysW (Hs.mk xh3 xh3_1 xh3_2 xh3_3 xh3_4 xh3_5 xh3_6 xh3_7) (List.map intOf (spanB xh2 0 64))).a) ((roundH keysW (Hs.mk xh3 xh3_1 xh3_2 xh3_3 xh3_4 xh3_5 xh3_6 xh3_7) (List.map intOf (spanB xh2 0 64))).b) ((roundH keysW (Hs.mk xh3 xh3_1 xh3_2 xh3_3 xh3_4 xh3_5 xh3_6 xh3_7) (List.map intOf (spanB xh2 0 64))).c) ((roundH keysW (Hs.mk xh3 xh3_1 xh3_2 xh3_3 xh3_4 xh3_5 xh3_6 xh3_7) (List.map intOf (spanB xh2 0 64))).d) ((roundH keysW (Hs.mk xh3 xh3_1 xh3_2 xh3_3 xh3_4 xh3_5 xh3_6 xh3_7) (List.map intOf (spanB xh2 0 64))).e) ((roundH keysW (Hs.mk xh3 xh3_1 xh3_2 xh3_3 xh3_4 xh3_5 xh3_6 xh3_7) (List.map intOf (spanB xh2 0 64))).f) ((roundH keysW (Hs.mk xh3 xh3_1 xh3_2 xh3_3 xh3_4 xh3_5 xh3_6 xh3_7) (List.map intOf (spanB xh2 0 64))).g) ((roundH keysW (Hs.mk xh3 xh3_1 xh3_2 xh3_3 xh3_4 xh3_5 xh3_6 xh3_7) (List.map intOf (spanB xh2 0 64))).h)
 else
 .stuck
 else
 .stuck
 else
 .stuck
 else
 f32_6 F F xh3 xh3_1 xh3_2 xh3_3 xh3_4 xh3_5 xh3_6 xh3_7 0 xh0 xh0_1 xh0_2 xh0_3 xh0_4 xh0_5 xh0_6 xh0_7 xh0_8 xh0_9 xh1 [Int.ofNat 0, Int.ofNat 0, Int.ofNat 0, Int.ofNat 0, Int.ofNat 0, Int.ofNat 0, Int.ofNat 0, Int.ofNat 0, Int.ofNat 0, Int.ofNat 0, Int.ofNat 0, Int.ofNat 0, Int.ofNat 0, Int.ofNat 0, Int.ofNat 0, Int.ofNat 0, Int.ofNat 0, Int.ofNat 0, Int.ofNat 0, Int.ofNat 0, Int.ofNat 0, Int.ofNat 0, Int.ofNat 0, Int.ofNat 0, Int.ofNat 0, Int.ofNat 0, Int.ofNat 0, Int.ofNat 0, Int.ofNat 0, Int.ofNat 0, Int.ofNat 0, Int.ofNat 0] := by kernel_rfl
theorem f32_4_1_eq (F k : Nat) (x3 : Nat) (x3_1 : Nat) (xh0 : Int) (xh0_1 : Int) (xh0_2 : Int) (xh0_3 : Int) (xh0_4 : Int) (xh0_5 : Int) (xh0_6 : Int) (xh0_7 : Int) (xh0_8 : List UInt8) (xh0_9 : Int) (xh1 : List Int) (xh2 : List UInt8) (xh3 : Int) (xh3_1 : Int) (xh3_2 : Int) (xh3_3 : Int) (xh3_4 : Int) (xh3_5 : Int) (xh3_6 : Int) (xh3_7 : Int) : f32_4_1 F (k + 1) x3 x3_1 xh0 xh0_1 xh0_2 xh0_3 xh0_4 xh0_5 xh0_6 xh0_7 xh0_8 xh0_9 xh1 xh2 xh3 xh3_1 xh3_2 xh3_3 xh3_4 xh3_5 xh3_6 xh3_7 =
 bif ltI 0 ↑(List.take x3_1 (List.drop x3 xh2)).length then
 bif Nat.ble 64 x3_1 then
 bif (x3 + 64).ble xh2.length then
 bif leI 0 64 && leI 64 ↑x3_1 && leI ↑x3_1 ↑x3_1 then
 f32_4_1 F k (x3 + 64) ((x3_1 : Int).toNat - 64) xh0 xh0_1 xh0_2 xh0_3 xh0_4 xh0_5 xh0_6 xh0_7 xh0_8 xh0_9 xh1 xh2 ((roundH keysW (Hs.mk xh3 xh3_1 xh3_2 xh3_3 xh3_4 xh3_5 xh3_6 xh3_7) (List.map intOf (spanB xh2 x3 64))).a) ((roundH keysW (Hs.mk xh3 xh3_1 xh3_2 xh3_3 xh3_4 xh3_5 xh3_6 xh3_7) (List.map intOf (spanB xh2 x3 64))).b) ((roundH keysW (Hs.mk xh3 xh3_1 xh3_2 xh3_3 xh3_4 xh3_5 xh3_6 xh3_7) (List.map intOf (spanB xh2 x3 64))).c) ((roundH keysW (Hs.mk xh3 xh3_1 xh3_2 xh3_3 xh3_4 xh3_5 xh3_6 xh3_7) (List.map intOf (spanB xh2 x3 64))).d) ((roundH keysW (Hs.mk xh3 xh3_1 xh3_2 xh3_3 xh3_4 xh3_5 xh3_6 xh3_7) (List.map intOf (spanB xh2 x3 64))).e) ((roundH keysW (Hs.mk xh3 xh3_1 xh3_2 xh3_3 xh3_4 xh3_5 xh3_6 xh3_7) (List.map intOf (spanB xh2 x3 64))).f) ((roundH keysW (Hs.mk xh3 xh3_1 xh3_2 xh3_3 xh3_4 xh3_5 xh3_6 xh3_7) (List.map intOf (spanB xh2 x3 64))).g) ((roundH keysW (Hs.mk xh3 xh3_1 xh3_2 xh3_3 xh3_4 xh3_5 xh3_6 xh3_7) (List.map intOf (spanB xh2 x3 64))).h)
 else
 .stuck
 else
 .stuck
 else
 .stuck
 else
 f32_6 F F xh3 xh3_1 xh3_2 xh3_3 xh3_4 xh3_5 xh3_6 xh3_7 0 xh0 xh0_1 xh0_2 xh0_3 xh0_4 xh0_5 xh0_6 xh0_7 xh0_8 xh0_9 xh1 [Int.ofNat 0, Int.ofNat 0, Int.ofNat 0, Int.ofNat 0, Int.ofNat 0, Int.ofNat 0, Int.ofNat 0, Int.ofNat 0, Int.ofNat 0, Int.ofNat 0, Int.ofNat 0, Int.ofNat 0, Int.ofNat 0, Int.ofNat 0, Int.ofNat 0, Int.ofNat 0, Int.ofNat 0, Int.ofNat 0, Int.ofNat 0, Int.ofNat 0, Int.ofNat 0, Int.ofNat 0, Int.ofNat 0, Int.ofNat 0, Int.ofNat 0, Int.ofNat 0, Int.ofNat 0, Int.ofNat 0, Int.ofNat 0, Int.ofNat 0, Int.ofNat 0, Int.ofNat 0] := by kernel_rfl
theorem f32_6_eq (F k : Nat) (x60 : Int) (x60_1 : Int) (x60_2 : Int) (x60_3 : Int) (x60_4 : Int) (x60_5 : Int) (x60_6 : Int) (x60_7 : Int) (x61 : Int) (xh0 : Int) (xh0_1 : Int) (xh0_2 : Int) (xh0_3 : Int) (xh0_4 : Int) (xh0_5 : Int) (xh0_6 : Int) (xh0_7 : Int) (xh0_8 : List UInt8) (xh0_9 : Int) (xh1 : List Int) (xh2 : List Int) : f32_6 F (k + 1) x60 x60_1 x60_2 x60_3 x60_4 x60_5 x60_6 x60_7 x61 xh0 xh0_1 xh0_2 xh0_3 xh0_4 xh0_5 xh0_6 xh0_7 xh0_8 xh0_9 xh1 xh2 =
 bif ltI x61 8 then
 bif inB x61 8 then
 bif isInt .u32 (nth [AV.int .u32 x60, AV.int .u32 x60_1, AV.int .u32 x60_2, AV.int .u32 x60_3, AV.int .u32 x60_4, AV.int .u32 x60_5, AV.int .u32 x60_6, AV.int .u32 x60_7] x61.toNat) then
 f32_8 F F k x61 (intOf (nth [AV.int .u32 x60, AV.int .u32 x60_1, AV.int .u32 x60_2, AV.int .u32 x60_3, AV.int .u32 x60_4, AV.int .u32 x60_5, AV.int .u32 x60_6, AV.int .u32 x60_7] x61.toNat)) x60 x60_1 x60_2 x60_3 x60_4 x60_5 x60_6 x60_7 x61 0 xh0 xh0_1 xh0_2 xh0_3 xh0_4 xh0_5 xh0_6 xh0_7 xh0_8 xh0_9 xh1 xh2
 else
 .stuck
 else
 .stuck
 else
 bif Nat.beq 32 xh2.length then
 bif (List.map (AV.int .u8) xh2).length.beq 32 then
 bif (List.map (AV.int .u8) xh2).length.beq xh1.length && (List.map (AV.int .u8) xh2).all (isInt .u8) then
 resEnd (bif Nat.beq 32 (List.map intOf (List.map (AV.int .u8) xh2)).length then some (AV.arr (List.map (AV.int .u8) (List.map intOf (List.map (AV.int .u8) xh2)))) else none) [AObj.var 114 [AV.int .u32 xh0, AV.int .u32 xh0_1, AV.int .u32 xh0_2, AV.int .u32 xh0_3, AV.int .u32 xh0_4, AV.int .u32 xh0_5, AV.int .u32 xh0_6, AV.int .u32 xh0_7, AV.ro (Pay.bytes xh0_8), AV.int .i64 xh0_9], AObj.vara 52 .u8 (List.map intOf (List.map (AV.int .u8) xh2)), AObj.vara 52 .u8 xh2]
 else
 .stuck
 else
 .stuck
 else
 .stuck := by kernel_rfl
theorem f32_8_eq (F k : Nat) (g6 : Nat) (x7 : Int) (x8 : Int) (x60 : Int) (x60_1 : Int) (x60_2 : Int) (x60_3 : Int) (x60_4 : Int) (x60_5 : Int) (x60_6 : Int) (x60_7 : Int) (x61 : Int) (x65 : Int) (xh0 : Int) (xh0_1 : Int) (xh0_2 : Int) (xh0_3 : Int) (xh0_4 : Int) (xh0_5 : Int) (xh0_6 : Int) (xh0_7 : Int) (xh0_8 : List UInt8) (xh0_9 : Int) (xh1 : List Int) (xh2 : List Int) : f32_8 F (k + 1) g6 x7 x8 x60 x60_1 x60_2 x60_3 x60_4 x60_5 x60_6 x60_7 x61 x65 xh0 xh0_1 xh0_2 xh0_3 xh0_4 xh0_5 xh0_6 xh0_7 xh0_8 xh0_9 xh1 xh2 =
 bif ltI x65 4 then
 bif ltI (IntKind.i64.wrap (24 - IntKind.i64.wrap (8 * x65))) 0 then
 .stuck
 else
 bif inB (IntKind.i64.wrap (IntKind.i64.wrap (4 * x7) + x65)) 32 then
 bif (0 + (IntKind.i64.wrap (IntKind.i64.wrap (4 * x7) + x65)).toNat * 1).blt xh2.length then
 f32_8 F k g6 x7 x8 x60 x60_1 x60_2 x60_3 x60_4 x60_5 x60_6 x60_7 x61 (IntKind.i64.wrap (x65 + 1)) xh0 xh0_1 xh0_2 xh0_3 xh0_4 xh0_5 xh0_6 xh0_7 xh0_8 xh0_9 xh1 (xh2.set (0 + (IntKind.i64.wrap (IntKind.i64.wrap (4 * x7) + x65)).toNat * 1) (IntKind.u8.wrap (ishr IntKind.u32 x8 (IntKind.i64.wrap (24 - IntKind.i64.wrap (8 * x65))))))
 else
 .stuck
 else
 .stuck
 else
 f32_6 F g6 x60 x60_1 x60_2 x60_3 x60_4 x60_5 x60_6 x60_7 (IntKind.i64.wrap (x61 + 1)) xh0 xh0_1 xh0_2 xh0_3 xh0_4 xh0_5 xh0_6 xh0_7 xh0_8 xh0_9 xh1 xh2 := by kernel_rfl


theorem mod56 (l : Nat) : ∀ j, j < padZ l → (l + 1 + j) % 64 ≠ 56 := by
  intro j hj
  unfold padZ at hj
  omega
theorem pad56 (l : Nat) : (l + 1 + padZ l) % 64 = 56 := by
  unfold padZ
  omega
theorem f32_0_run (F : Nat) (s : Hs) (p : List UInt8) (n : Int) (z : List Int) : ∀ (d K : Nat) (x : List UInt8), (x.length + d) % 64 = 56 → (∀ j, j < d → (x.length + j) % 64 ≠ 56) → d < K → x.length + d ≤ 140737488355328 →
    f32_0 F K s.a s.b s.c s.d s.e s.f s.g s.h p n z x = f32_2 F F 0 s.a s.b s.c s.d s.e s.f s.g s.h p n z (x ++ List.replicate d 0)
  | 0, K + 1, x, h, _, _, _ => by
    rw [f32_0_eq, bif_neg (by rw [not_eqI_iff, irem_eq (by omega)]; omega), List.replicate_zero, List.append_nil]
  | d + 1, K + 1, x, h, hj, hk, hl => by
    have h0 := hj 0 (by omega)
    have e : f32_0 F K s.a s.b s.c s.d s.e s.f s.g s.h p n z (x ++ [UInt8.ofNat 0]) = _ := f32_0_run F s p n z d K (x ++ [UInt8.ofNat 0]) (by rw [List.length_append, List.length_singleton]; omega)
      (fun j h => by have := hj (j + 1) (by omega); rw [List.length_append, List.length_singleton]; omega) (by omega) (by rw [List.length_append, List.length_singleton]; omega)
    rw [f32_0_eq, bif_pos (by rw [not_eqI_iff, irem_eq (by omega)]; omega), bif_pos (fits5.2 (by rw [List.length_append, List.length_singleton]; omega)), e, List.append_assoc]; rfl
theorem f32_2_run (F : Nat) (s : Hs) (p : List UInt8) (n : Nat) (hn : n < 1152921504606846976) (z : List Int) : ∀ (d i K : Nat) (x : List UInt8), i + d = 8 → d < K → x.length + d ≤ 140737488355328 →
    f32_2 F K i s.a s.b s.c s.d s.e s.f s.g s.h p n z x = f32_4 F F s.a s.b s.c s.d s.e s.f s.g s.h p n z (x ++ beL (8 * n) d) s.a s.b s.c s.d s.e s.f s.g s.h
  | 0, i, K + 1, x, h, _, _ => by
    rw [f32_2_eq, bif_neg (by rw [ltI_iff]; omega), beL, List.append_nil]
  | d + 1, i, K + 1, x, h, hk, hl => by
    have e7 : IntKind.i64.wrap (7 - (i : Int)) = (d : Int) := by rw [wrap64 (by omega) (by omega)]; omega
    have e8 : IntKind.i64.wrap (8 * (d : Int)) = ((8 * d : Nat) : Int) := by rw [wrap64 (by omega) (by omega)]; omega
    have e1 : IntKind.i64.wrap ((i : Int) + 1) = ((i + 1 : Nat) : Int) := by rw [wrap64 (by omega) (by omega)]; omega
    have eb : UInt8.ofNat (IntKind.u8.wrap (ishr IntKind.u64 ((8 * n : Nat) : Int) ((8 * d : Nat) : Int))).toNat = UInt8.ofNat (8 * n / 2 ^ (8 * d) % 256) := by
      rw [ishr_ediv (by show 8 * d ≤ 64; omega), wrapu8]
      congr 1
    have e := f32_2_run F s p n hn z d (i + 1) K (x ++ [UInt8.ofNat (8 * n / 2 ^ (8 * d) % 256)]) (by omega) (by omega) (by rw [List.length_append, List.length_singleton]; omega)
    rw [f32_2_eq, bif_pos (by rw [ltI_iff]; omega), e7, e8, bif_neg (by rw [ltI_iff]; omega), e1, twice64 hn, eb, bif_pos (fits5.2 (by rw [List.length_append, List.length_singleton]; omega)), e, List.append_assoc]; rfl
theorem f32_41_run (F : Nat) (s : Hs) (p : List UInt8) (n : Int) (z : List Int) (x : List UInt8) (hx : x.length < 9223372036854775807) : ∀ (j K o m : Nat) (t : Hs), m = 64 * j → o + m = x.length → j < K →
    f32_4_1 F K o m s.a s.b s.c s.d s.e s.f s.g s.h p n z x t.a t.b t.c t.d t.e t.f t.g t.h = f32_6 F F (eat j t (x.drop o)).a (eat j t (x.drop o)).b (eat j t (x.drop o)).c (eat j t (x.drop o)).d (eat j t (x.drop o)).e (eat j t (x.drop o)).f (eat j t (x.drop o)).g (eat j t (x.drop o)).h 0 s.a s.b s.c s.d s.e s.f s.g s.h p n z (outP (eat j t (x.drop o)) 0)
  | 0, K + 1, o, m, t, h, hl, _ => by
    rw [f32_4_1_eq, bif_neg (by rw [ltI_iff, List.length_take]; omega)]; rfl
  | j + 1, K + 1, o, m, t, h, hl, hk => by
    rw [f32_4_1_eq, bif_pos (by rw [ltI_iff, List.length_take, List.length_drop]; omega), bif_pos (by rw [ble_iff]; omega), bif_pos (by rw [ble_iff]; omega), bif_pos (by simp only [Bool.and_eq_true, leI_iff]; omega), spanB_at x o (by omega), Int.toNat_natCast]
    have e := f32_41_run F s p n z x hx j K (o + 64) (m - 64) (roundH keysW t (bI ((x.drop o).take 64))) (by omega) (by omega) (by omega)
    refine e.trans ?_
    rw [← List.drop_drop]; rfl
theorem f32_4_run (F : Nat) (s : Hs) (p : List UInt8) (n : Int) (z : List Int) (x : List UInt8) (hx : x.length < 9223372036854775807) (j K : Nat) (t : Hs) (hm : x.length = 64 * j) (hk : j < K) :
    f32_4 F K s.a s.b s.c s.d s.e s.f s.g s.h p n z x t.a t.b t.c t.d t.e t.f t.g t.h = f32_6 F F (eat j t x).a (eat j t x).b (eat j t x).c (eat j t x).d (eat j t x).e (eat j t x).f (eat j t x).g (eat j t x).h 0 s.a s.b s.c s.d s.e s.f s.g s.h p n z (outP (eat j t x) 0) := by
  obtain ⟨K, rfl⟩ : ∃ k, K = k + 1 := ⟨K - 1, by omega⟩
  cases j with
  | zero => rw [f32_4_eq, bif_neg (by rw [ltI_iff]; omega)]; rfl
  | succ j =>
    rw [f32_4_eq, bif_pos (by rw [ltI_iff]; omega), bif_pos (by rw [ble_iff]; omega), bif_pos (by rw [ble_iff]; omega), bif_pos (by simp only [Bool.and_eq_true, leI_iff]; omega), spanB_bI x (by omega), Int.toNat_natCast]
    have e := f32_41_run F s p n z x hx j K 64 (x.length - 64) (roundH keysW t (bI (x.take 64))) (by omega) (by omega) (by omega)
    exact e
theorem f32_8_step (F K g i j : Nat) (s t : Hs) (p : List UInt8) (n : Int) (z : List Int) (hi : i < 8) (hj : j < 4) :
    f32_8 F (K + 1) g i (t.list.getD i 0) t.a t.b t.c t.d t.e t.f t.g t.h i j s.a s.b s.c s.d s.e s.f s.g s.h p n z (outP t (4 * i + j)) = f32_8 F K g i (t.list.getD i 0) t.a t.b t.c t.d t.e t.f t.g t.h i ((j + 1 : Nat) : Int) s.a s.b s.c s.d s.e s.f s.g s.h p n z (outP t (4 * i + (j + 1))) := by
  have e1 : IntKind.i64.wrap ((j : Int) + 1) = ((j + 1 : Nat) : Int) := by rw [wrap64 (by omega) (by omega)]; omega
  have e2 : IntKind.i64.wrap (8 * (j : Int)) = ((8 * j : Nat) : Int) := by rw [wrap64 (by omega) (by omega)]; omega
  have e3 : IntKind.i64.wrap (24 - ((8 * j : Nat) : Int)) = ((8 * (3 - j) : Nat) : Int) := by rw [wrap64 (by omega) (by omega)]; omega
  have e4 : IntKind.i64.wrap (IntKind.i64.wrap (4 * (i : Int)) + (j : Int)) = ((4 * i + j : Nat) : Int) := by
    rw [wrap64 (n := 4 * (i : Int)) (by omega) (by omega), wrap64 (by omega) (by omega)]; omega
  have hl := outP_len t (4 * i + j)
  have ev : IntKind.u8.wrap (ishr IntKind.u32 (t.list.getD i 0) ((8 * (3 - j) : Nat) : Int)) = outF t (4 * i + j) := by
    rw [ishr_ediv (by show 8 * (3 - j) ≤ 32; omega), wrapu8]
    unfold outF
    rw [show (4 * i + j) / 4 = i by omega, show (4 * i + j) % 4 = j by omega]
  rw [f32_8_eq, bif_pos (ltI_iff.2 (by omega)), e2, e3, bif_neg (by rw [ltI_iff]; omega), e4, e1]
  simp only [Int.toNat_natCast, Nat.zero_add, Nat.mul_one]
  rw [bif_pos (by rw [inB_iff]; omega), bif_pos (by rw [blt_iff]; omega), ev, outP_set]; rfl
theorem f32_8_run (F g i : Nat) (s t : Hs) (p : List UInt8) (n : Int) (z : List Int) (hi : i < 8) : ∀ (d j K : Nat) (y : Int) (o : List Int), j + d = 4 → y = (j : Int) → o = outP t (4 * i + j) → d < K →
    f32_8 F K g i (t.list.getD i 0) t.a t.b t.c t.d t.e t.f t.g t.h i y s.a s.b s.c s.d s.e s.f s.g s.h p n z o = f32_6 F g t.a t.b t.c t.d t.e t.f t.g t.h ((i + 1 : Nat) : Int) s.a s.b s.c s.d s.e s.f s.g s.h p n z (outP t (4 * (i + 1)))
  | 0, j, K + 1, y, o, h, hy, ho, _ => by
    have e1 : IntKind.i64.wrap ((i : Int) + 1) = ((i + 1 : Nat) : Int) := by rw [wrap64 (by omega) (by omega)]; omega
    rw [f32_8_eq, bif_neg (by rw [ltI_iff]; omega), e1, ho, show 4 * i + j = 4 * (i + 1) by omega]
  | d + 1, j, K + 1, y, o, h, hy, ho, hk => by
    subst hy
    subst ho
    rw [f32_8_step F K g i j s t p n z hi (by omega)]
    exact f32_8_run F g i s t p n z hi d (j + 1) K _ _ (by omega) rfl rfl (by omega)
theorem f32_6_run (F : Nat) (s t : Hs) (p : List UInt8) (n : Int) (z : List Int) (hz : z.length = 32) : ∀ (d i K : Nat), i + d = 8 → d < K →
    f32_6 (F + 5) K t.a t.b t.c t.d t.e t.f t.g t.h i s.a s.b s.c s.d s.e s.f s.g s.h p n z (outP t (4 * i)) = .ret (.arr (intsA .u8 (outW t))) [.var 114 [.int .u32 s.a, .int .u32 s.b, .int .u32 s.c, .int .u32 s.d, .int .u32 s.e, .int .u32 s.f, .int .u32 s.g, .int .u32 s.h, .ro (.bytes p), .int .i64 n], .vara 52 .u8 (outW t), .vara 52 .u8 (outW t)]
  | 0, i, K + 1, h, _ => by
    obtain rfl : i = 8 := by omega
    rw [show outP t (4 * 8) = outW t from outP_all t, f32_6_eq, bif_neg (by rw [ltI_iff]; omega), bif_pos (by rw [outW_len]; rfl), bif_pos (by rw [List.length_map, outW_len]; rfl),
      bif_pos (by rw [Bool.and_eq_true]; exact ⟨by rw [List.length_map, outW_len, hz]; rfl, intsA_is .u8 (outW t)⟩)]
    show resEnd (bif Nat.beq 32 (List.map intOf (intsA .u8 (outW t))).length then some (AV.arr (List.map (AV.int .u8) (List.map intOf (intsA .u8 (outW t))))) else none) [.var 114 [.int .u32 s.a, .int .u32 s.b, .int .u32 s.c, .int .u32 s.d, .int .u32 s.e, .int .u32 s.f, .int .u32 s.g, .int .u32 s.h, .ro (.bytes p), .int .i64 n], .vara 52 .u8 (List.map intOf (intsA .u8 (outW t))), .vara 52 .u8 (outW t)] = _
    rw [intsA_int, outW_len]; rfl
  | d + 1, i, K + 1, h, hk => by
    have e1 : IntKind.i64.wrap ((i : Int) + 1) = ((i + 1 : Nat) : Int) := by rw [wrap64 (by omega) (by omega)]; omega
    rw [f32_6_eq, bif_pos (ltI_iff.2 (by omega)), bif_pos (by rw [inB_iff]; omega), Int.toNat_natCast, nth_word t i (by omega)]
    rw [show isInt .u32 (AV.int .u32 (t.list.getD i 0)) = true from rfl, cond_true, show intOf (AV.int .u32 (t.list.getD i 0)) = t.list.getD i 0 from rfl]
    rw [f32_8_run (F + 5) K i s t p n z (by omega) 4 0 (F + 5) 0 (outP t (4 * i)) rfl rfl rfl (by omega)]
    exact f32_6_run F s t p n z hz d (i + 1) K (by omega) (by omega)
theorem f32_all (F : Nat) (hF : 9223372036854775807 < F) (s : Hs) (p : List UInt8) (n : Nat) (hn : n < 1152921504606846976) (hp : p.length ≤ 1099511627776) :
    afun (c32 F) Try.f32 [.ptr 0 0] [.var 114 [.int .u32 s.a, .int .u32 s.b, .int .u32 s.c, .int .u32 s.d, .int .u32 s.e, .int .u32 s.f, .int .u32 s.g, .int .u32 s.h, .ro (.bytes p), .int .i64 (n : Int)]] = .ret (.arr (intsA .u8 (endW s p n))) [.var 114 [.int .u32 s.a, .int .u32 s.b, .int .u32 s.c, .int .u32 s.d, .int .u32 s.e, .int .u32 s.f, .int .u32 s.g, .int .u32 s.h, .ro (.bytes p), .int .i64 (n : Int)], .vara 52 .u8 (endW s p n), .vara 52 .u8 (endW s p n)] := by
  refine (f32_eq F _ _ _ _ _ _ _ _ n p).trans ?_
  have hs : szB [p, [UInt8.ofNat 128]] = p.length + 1 := by simp [szB]
  rw [bif_pos (by
    show (okB [[AV.ro (.bytes p)], [AV.ro (.bytes [UInt8.ofNat 128])]] && Nat.ble (szB [p, [UInt8.ofNat 128]]) 70368744177664) = true
    rw [hs, Bool.and_eq_true]; exact ⟨rfl, ble_iff.2 (by omega)⟩)]
  show f32_0 F F s.a s.b s.c s.d s.e s.f s.g s.h p n (outP s 0) (([p, [UInt8.ofNat 128]] : List (List UInt8)).flatten) = _
  rw [show ([p, [UInt8.ofNat 128]] : List (List UInt8)).flatten = p ++ [UInt8.ofNat 128] by simp]
  have hz : padZ p.length < 64 := Nat.mod_lt _ (by decide)
  have hl : (p ++ [UInt8.ofNat 128]).length = p.length + 1 := by rw [List.length_append, List.length_singleton]
  rw [f32_0_run F s p n _ (padZ p.length) F _ (by rw [hl]; exact pad56 _) (fun j h => by rw [hl]; exact mod56 _ j h) (by omega) (by rw [hl]; omega),
    show (0 : Int) = ((0 : Nat) : Int) from rfl,
    f32_2_run F s p n hn _ 8 0 F _ rfl (by omega) (by rw [List.length_append, hl, List.length_replicate]; omega)]
  have ee : (p ++ [UInt8.ofNat 128] ++ List.replicate (padZ p.length) 0 ++ beL (8 * n) 8) = padB p n := by
    unfold padB be8
    rw [List.append_assoc, List.append_assoc]; rfl
  rw [ee]
  have hp2 := padB_len p n
  rw [f32_4_run F s p n _ (padB p n) (by omega) ((p.length + 72) / 64) F s hp2 (by omega)]
  obtain ⟨G, rfl⟩ : ∃ G, F = G + 5 := ⟨F - 5, by omega⟩
  have e := f32_6_run G s (eat ((p.length + 72) / 64) s (padB p n)) p n (outP s 0) (outP_len _ _) 8 0 (G + 5) rfl (by omega)
  refine e.trans ?_
  rw [show outW (eat ((p.length + 72) / 64) s (padB p n)) = endW s p n by unfold endW; rw [hp2, Nat.mul_div_cancel_left _ (by decide)]]


theorem ok32a : EffOk Try.prog 32 go32a := by
  refine effOk_of follows Try.func32 (by kernel_rfl) (by kernel_rfl) ?_ ?_
  · intro R stk args hp k
    unfold go32a
    split
    · simp only [elim_cond]; rfl
    · rfl
  · intro args hp r hp' h hr
    unfold go32a at h
    split at h
    · rename_i h0 h1 h2 h3 h4 h5 h6 h7 p n
      rcases bif_alt h with ⟨hf, h⟩ | ⟨hf, h⟩
      · cases h
        rw [Bool.and_eq_true, Bool.and_eq_true, leI_iff, leI_iff] at hf
        obtain ⟨m, rfl⟩ := Int.eq_ofNat_of_zero_le hf.2.1
        refine ⟨c32 rounds, tt32_ok, .cons ok72 (.cons ok25 .nil), ?_⟩
        unfold aeff
        have e : afun (c32 rounds) Try.f32 [.ptr 0 0] [.var 114 [.int .u32 h0, .int .u32 h1, .int .u32 h2, .int .u32 h3, .int .u32 h4, .int .u32 h5, .int .u32 h6, .int .u32 h7, .ro (.bytes p), .int .i64 (m : Int)]] = _ := f32_all rounds big ⟨h0, h1, h2, h3, h4, h5, h6, h7⟩ p m (by omega) (Nat.le_of_ble_eq_true hf.1)
        rw [e]
        rfl
      · cases h
    · cases h

end Go.Proofs.YtmkgmlgklggnlaaG
