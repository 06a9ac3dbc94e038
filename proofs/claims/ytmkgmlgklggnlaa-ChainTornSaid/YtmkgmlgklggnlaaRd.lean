/- A part of the proof: plain laws, and what functions of the given program come to; no condition. -/
import Derived.Test.YtmkgmlgklggnlaaTh
import Derived.Test.YtmkgmlgklggnlaaCc
import Derived.Test.YtmkgmlgklggnlaaGmYchr
namespace Go.Proofs.YtmkgmlgklggnlaaG
open Go Go.Proofs.YtmkgmlgklggnlaaGm
set_option maxRecDepth 100000
set_option maxHeartbeats 1000000

def go87 (R : Type) (stk : R) (args : List AV) (ret : AV → List AObj → R) : R :=
  match args with
  | [.ro (.bytes d), .arr r] => bif Nat.ble d.length 100000 && okH r then ret (.tup [entV (oneC d r).1, .arr (cells32 (oneC d r).2.1), .int .i64 (oneC d r).2.2]) [] else stk
  | _ => stk
def go54 (R : Type) (stk : R) (args : List AV) (ret : AV → List AObj → R) : R :=
  match args with
  | [.ro (.bytes b), .arr r] => bif Nat.ble b.length 100000 && okH r then ret (.tup [.ro (.rows 5 (readC b (b.length + 1) 0 (hdF r)).1), .ro (.rows 32 (readC b (b.length + 1) 0 (hdF r)).2.1), .int .i64 (readC b (b.length + 1) 0 (hdF r)).2.2.1, .int .i64 (readC b (b.length + 1) 0 (hdF r)).2.2.2]) [] else stk
  | _ => stk
def go56 (R : Type) (stk : R) (args : List AV) (ret : AV → List AObj → R) : R :=
  match args with
  | [.ro (.rows n x), .ro (.rows m y)] => bif (Nat.beq n 5 && Nat.beq m 5) && (okEs x && okEs y && sameRows x y) && Nat.ble x.length 1000000 then ret (.bool true) [] else stk
  | _ => stk

def tt87 : Tab := [(0, ty0), (3, ty3), (4, ty4), (5, ty5), (22, ty22), (24, ty24), (26, ty26), (27, ty27), (28, ty28), (52, ty52)]
theorem tt87_ok : TabOk Try.prog tt87 := tabOk_of_all ⟨ty0_ok, ty3_ok, ty4_ok, ty5_ok, ty22_ok, ty24_ok, ty26_ok, ty27_ok, ty28_ok, ty52_ok, trivial⟩
def c87 (F : Nat) : Cfg := ⟨tt87, [(16, .pure go16), (52, .pure go52)], F, [], [], 0⟩
theorem f87_eq (F : Nat) (a0 : List UInt8) (f : Nat → Int) : afun (c87 F) Try.f87 [AV.ro (Pay.bytes a0), AV.arr (cells32 f)] [] =
 bif ltI (↑a0.length) 32 then
 .ret (AV.tup [AV.agg [AV.int .i64 0, AV.int .i64 0, AV.int .i64 0, AV.int .i64 0, AV.nil], AV.arr (cells32 f), AV.int .i64 3]) [AObj.var 52 (cells32 f), AObj.var 26 [AV.int .i64 0, AV.int .i64 0, AV.int .i64 0, AV.int .i64 0, AV.nil], AObj.var 52 (cells32 f)]
 else
 bif leI 0 0 && leI 0 (IntKind.i64.wrap (↑a0.length - 32)) && leI (IntKind.i64.wrap (↑a0.length - 32)) ↑a0.length then
 bif (List.take ((IntKind.i64.wrap (↑a0.length - 32)).toNat - 0) (List.drop 0 a0)).length.ble 800000 then
 bif !eqI (getE (List.take ((IntKind.i64.wrap (↑a0.length - 32)).toNat - 0) (List.drop 0 a0))).snd 0 then
 .ret (AV.tup [AV.agg [AV.int .i64 0, AV.int .i64 0, AV.int .i64 0, AV.int .i64 0, AV.nil], AV.arr (cells32 f), AV.int .i64 (getE (List.take ((IntKind.i64.wrap (↑a0.length - 32)).toNat - 0) (List.drop 0 a0))).snd]) [AObj.var 52 (cells32 f), AObj.var 26 [AV.int .i64 0, AV.int .i64 0, AV.int .i64 0, AV.int .i64 0, AV.nil], AObj.var 52 (cells32 f), AObj.var 26 [AV.int .i64 (getE (List.take ((IntKind.i64.wrap (↑a0.length - 32)).toNat - 0) (List.drop 0 a0))).fst.fst, AV.int .i64 (getE (List.take ((IntKind.i64.wrap (↑a0.length - 32)).toNat - 0) (List.drop 0 a0))).fst.snd.fst, AV.int .i64 (getE (List.take ((IntKind.i64.wrap (↑a0.length - 32)).toNat - 0) (List.drop 0 a0))).fst.snd.snd.fst, AV.int .i64 (getE (List.take ((IntKind.i64.wrap (↑a0.length - 32)).toNat - 0) (List.drop 0 a0))).fst.snd.snd.snd.fst, AV.ro (Pay.rows 32 (getE (List.take ((IntKind.i64.wrap (↑a0.length - 32)).toNat - 0) (List.drop 0 a0))).fst.snd.snd.snd.snd)]]
 else
 bif leI 0 0 && leI 0 (IntKind.i64.wrap (↑a0.length - 32)) && leI (IntKind.i64.wrap (↑a0.length - 32)) ↑a0.length then
 bif okH (List.take 32 (List.drop 0 (cells32 f))) && (List.take ((IntKind.i64.wrap (↑a0.length - 32)).toNat - 0) (List.drop 0 a0)).length.ble 1000000000000 then
 bif leI 0 (IntKind.i64.wrap (↑a0.length - 32)) && leI (IntKind.i64.wrap (↑a0.length - 32)) ↑a0.length && leI ↑a0.length ↑a0.length then
 bif Nat.ble 32 (List.drop (IntKind.i64.wrap (↑a0.length - 32)).toNat a0).length then
 bif Nat.ble (0 + 32) (List.drop (IntKind.i64.wrap (↑a0.length - 32)).toNat a0).length then
 bif !eqAs (List.take 32 (List.drop 0 (setRange (List.replicate 32 (AV.int .u8 0)) 0 (cells32 (nxF (List.take 32 (List.drop 0 (cells32 f))) (List.take ((IntKind.i64.wrap (↑a0.length - 32)).toNat - 0) (List.drop 0 a0))))))) (spanB (List.drop (IntKind.i64.wrap (↑a0.length - 32)).toNat a0) 0 32) then
 .ret (AV.tup [AV.agg [AV.int .i64 0, AV.int .i64 0, AV.int .i64 0, AV.int .i64 0, AV.nil], AV.arr (cells32 f), AV.int .i64 4]) [AObj.var 52 (cells32 f), AObj.var 26 [AV.int .i64 0, AV.int .i64 0, AV.int .i64 0, AV.int .i64 0, AV.nil], AObj.var 52 (cells32 f), AObj.var 26 [AV.int .i64 (getE (List.take ((IntKind.i64.wrap (↑a0.length - 32)).toNat - 0) (List.drop 0 a0))).fst.fst, AV.int .i64 (getE (List.take ((IntKind.i64.wrap (↑a0.length - 32)).toNat - 0) (List.drop 0 a0))).fst.snd.fst, AV.int .i64 (getE (List.take ((IntKind.i64.wrap (↑a0.length - 32)).toNat - 0) (List.drop 0 a0))).fst.snd.snd.fst, AV.int .i64 (getE (List.take ((IntKind.i64.wrap (↑a0.length - 32)).toNat - 0) (List.drop 0 a0))).fst.snd.snd.snd.fst, AV.ro (Pay.rows 32 (getE (List.take ((IntKind.i64.wrap (↑a0.length - 32)).toNat - 0) (List.drop 0 a0))).fst.snd.snd.snd.snd)], AObj.var 52 (cells32 (nxF (List.take 32 (List.drop 0 (cells32 f))) (List.take ((IntKind.i64.wrap (↑a0.length - 32)).toNat - 0) (List.drop 0 a0))))]
 else
 .ret (AV.tup [AV.agg [AV.int .i64 (getE (List.take ((IntKind.i64.wrap (↑a0.length - 32)).toNat - 0) (List.drop 0 a0))).fst.fst, AV.int .i64 (getE (List.take ((IntKind.i64.wrap (↑a0.length - 32)).toNat - 0) (List.drop 0 a0))).fst.snd.fst, AV.int .i64 (getE (List.take ((IntKind.i64.wrap (↑a0.length - 32)).toNat - 0) (List.drop 0 a0))).fst.snd.snd.fst, AV.int .i64 (getE (List.take ((IntKind.i64.wrap (↑a0.length - 32)).toNat - 0) (List.drop 0 a0))).fst.snd.snd.snd.fst, AV.ro (Pay.rows 32 (getE (List.take ((IntKind.i64.wrap (↑a0.length - 32)).toNat - 0) (List.drop 0 a0))).fst.snd.snd.snd.snd)], AV.arr (cells32 (nxF (List.take 32 (List.drop 0 (cells32 f))) (List.take ((IntKind.i64.wrap (↑a0.length - 32)).toNat - 0) (List.drop 0 a0)))), AV.int .i64 0]) [AObj.var 52 (cells32 f), AObj.var 26 [AV.int .i64 (getE (List.take ((IntKind.i64.wrap (↑a0.length - 32)).toNat - 0) (List.drop 0 a0))).fst.fst, AV.int .i64 (getE (List.take ((IntKind.i64.wrap (↑a0.length - 32)).toNat - 0) (List.drop 0 a0))).fst.snd.fst, AV.int .i64 (getE (List.take ((IntKind.i64.wrap (↑a0.length - 32)).toNat - 0) (List.drop 0 a0))).fst.snd.snd.fst, AV.int .i64 (getE (List.take ((IntKind.i64.wrap (↑a0.length - 32)).toNat - 0) (List.drop 0 a0))).fst.snd.snd.snd.fst, AV.ro (Pay.rows 32 (getE (List.take ((IntKind.i64.wrap (↑a0.length - 32)).toNat - 0) (List.drop 0 a0))).fst.snd.snd.snd.snd)], AObj.var 52 (cells32 (nxF (List.take 32 (List.drop 0 (cells32 f))) (List.take ((IntKind.i64.wrap (↑a0.length - 32)).toNat - 0) (List.drop 0 a0)))), AObj.var 26 [AV.int .i64 (getE (List.take ((IntKind.i64.wrap (↑a0.length - 32)).toNat - 0) (List.drop 0 a0))).fst.fst, AV.int .i64 (getE (List.take ((IntKind.i64.wrap (↑a0.length - 32)).toNat - 0) (List.drop 0 a0))).fst.snd.fst, AV.int .i64 (getE (List.take ((IntKind.i64.wrap (↑a0.length - 32)).toNat - 0) (List.drop 0 a0))).fst.snd.snd.fst, AV.int .i64 (getE (List.take ((IntKind.i64.wrap (↑a0.length - 32)).toNat - 0) (List.drop 0 a0))).fst.snd.snd.snd.fst, AV.ro (Pay.rows 32 (getE (List.take ((IntKind.i64.wrap (↑a0.length - 32)).toNat - 0) (List.drop 0 a0))).fst.snd.snd.snd.snd)], AObj.var 52 (cells32 (nxF (List.take 32 (List.drop 0 (cells32 f))) (List.take ((IntKind.i64.wrap (↑a0.length - 32)).toNat - 0) (List.drop 0 a0))))]
 else
 .stuck
 else
 .stuck
 else
 .stuck
 else
 .stuck
 else
 .stuck
 else
 .stuck
 else
 .stuck := by kernel_rfl

def tt54 : Tab := [(0, ty0), (1, ty1), (3, ty3), (4, ty4), (5, ty5), (22, ty22), (24, ty24), (26, ty26), (27, ty27), (52, ty52), (64, ty64), (86, ty86), (129, ty129)]
theorem tt54_ok : TabOk Try.prog tt54 := tabOk_of_all ⟨ty0_ok, ty1_ok, ty3_ok, ty4_ok, ty5_ok, ty22_ok, ty24_ok, ty26_ok, ty27_ok, ty52_ok, ty64_ok, ty86_ok, ty129_ok, trivial⟩
def c54 (F : Nat) : Cfg := ⟨tt54, [(41, .pure go41), (87, .pure go87)], F, [(0, ⟨[0, 3, 4, 5, 6], [(4, 26), (5, 52)]⟩)], [], 0⟩
noncomputable def f54_0 (F k : Nat) (x0 : List UInt8) (x6 : Int) (xh0 : Nat → Int) (xh1 : List (List AV)) (xh2 : List (List AV)) : Res := aloop (c54 F) Try.f54 0 [] k (St.mk [AV.ro (Pay.bytes x0), .top, .top, AV.ptr 0 0, AV.own 1, AV.own 2, AV.int .i64 x6, .top, .top, .top, .top, .top, .top, .top, .top, .top, .top, .top, .top, .top, .top, .top, .top, .top, .top, .top, .top, .top, .top, .top, .top, .top, .top, .top, .top, .top, .top, .top, .top, .top, .top, .top, .top, .top, .top, .top, .top, .top, .top, .top, .top, .top, .top, .top, .top, .top] [AObj.var 52 (cells32 xh0), AObj.arr 26 (Pay.rows 5 xh1), AObj.arr 52 (Pay.rows 32 xh2)])
theorem f54_eq (F : Nat) (a0 : List UInt8) (f : Nat → Int) : afun (c54 F) Try.f54 [AV.ro (Pay.bytes a0), AV.arr (cells32 f)] [] =
 f54_0 F F a0 0 f [] [] := by kernel_rfl
theorem f54_0_eq (F k : Nat) (x0 : List UInt8) (x6 : Int) (xh0 : Nat → Int) (xh1 : List (List AV)) (xh2 : List (List AV)) : f54_0 F (k + 1) x0 x6 xh0 xh1 xh2 =
 bif ltI x6 ↑x0.length then
 bif x0.length.ble 140737488355320 then
 bif !eqI (getF x0 x6).snd.snd 0 then
 .ret (AV.tup [AV.own 1, AV.own 2, AV.int .i64 x6, AV.int .i64 (getF x0 x6).snd.snd]) [AObj.var 52 (cells32 xh0), AObj.arr 26 (Pay.rows 5 xh1), AObj.arr 52 (Pay.rows 32 xh2)]
 else
 bif (List.length (getF x0 x6).fst).ble 100000 && okH (List.take 32 (List.drop 0 (cells32 xh0))) then
 bif !eqI (oneC (getF x0 x6).fst (List.take 32 (List.drop 0 (cells32 xh0)))).snd.snd 0 then
 .ret (AV.tup [AV.own 1, AV.own 2, AV.int .i64 x6, AV.int .i64 (oneC (getF x0 x6).fst (List.take 32 (List.drop 0 (cells32 xh0)))).snd.snd]) [AObj.var 52 (cells32 xh0), AObj.arr 26 (Pay.rows 5 xh1), AObj.arr 52 (Pay.rows 32 xh2), AObj.var 26 [AV.int .i64 (oneC (getF x0 x6).fst (List.take 32 (List.drop 0 (cells32 xh0)))).fst.fst, AV.int .i64 (oneC (getF x0 x6).fst (List.take 32 (List.drop 0 (cells32 xh0)))).fst.snd.fst, AV.int .i64 (oneC (getF x0 x6).fst (List.take 32 (List.drop 0 (cells32 xh0)))).fst.snd.snd.fst, AV.int .i64 (oneC (getF x0 x6).fst (List.take 32 (List.drop 0 (cells32 xh0)))).fst.snd.snd.snd.fst, AV.ro (Pay.rows 32 (oneC (getF x0 x6).fst (List.take 32 (List.drop 0 (cells32 xh0)))).fst.snd.snd.snd.snd)], AObj.var 52 (cells32 ((oneC (getF x0 x6).fst (List.take 32 (List.drop 0 (cells32 xh0)))).snd.fst))]
 else
 bif appFits ty26 (Pay.rows 5 (xh1 ++ [setRange [AV.int .i64 0, AV.int .i64 0, AV.int .i64 0, AV.int .i64 0, AV.ro (Pay.rows 32 [])] 0 [AV.int .i64 (oneC (getF x0 x6).fst (List.take 32 (List.drop 0 (cells32 xh0)))).fst.fst, AV.int .i64 (oneC (getF x0 x6).fst (List.take 32 (List.drop 0 (cells32 xh0)))).fst.snd.fst, AV.int .i64 (oneC (getF x0 x6).fst (List.take 32 (List.drop 0 (cells32 xh0)))).fst.snd.snd.fst, AV.int .i64 (oneC (getF x0 x6).fst (List.take 32 (List.drop 0 (cells32 xh0)))).fst.snd.snd.snd.fst, AV.ro (Pay.rows 32 (oneC (getF x0 x6).fst (List.take 32 (List.drop 0 (cells32 xh0)))).fst.snd.snd.snd.snd)]])) then
 bif appFits ty52 (Pay.rows 32 (xh2 ++ [setRange (List.replicate 32 (AV.int .u8 0)) 0 (cells32 ((oneC (getF x0 x6).fst (List.take 32 (List.drop 0 (cells32 xh0)))).snd.fst))])) then
 f54_0 F k x0 ((getF x0 x6).snd.fst) ((oneC (getF x0 x6).fst (List.take 32 (List.drop 0 (cells32 xh0)))).snd.fst) (xh1 ++ [setRange [AV.int .i64 0, AV.int .i64 0, AV.int .i64 0, AV.int .i64 0, AV.ro (Pay.rows 32 [])] 0 [AV.int .i64 (oneC (getF x0 x6).fst (List.take 32 (List.drop 0 (cells32 xh0)))).fst.fst, AV.int .i64 (oneC (getF x0 x6).fst (List.take 32 (List.drop 0 (cells32 xh0)))).fst.snd.fst, AV.int .i64 (oneC (getF x0 x6).fst (List.take 32 (List.drop 0 (cells32 xh0)))).fst.snd.snd.fst, AV.int .i64 (oneC (getF x0 x6).fst (List.take 32 (List.drop 0 (cells32 xh0)))).fst.snd.snd.snd.fst, AV.ro (Pay.rows 32 (oneC (getF x0 x6).fst (List.take 32 (List.drop 0 (cells32 xh0)))).fst.snd.snd.snd.snd)]]) (xh2 ++ [setRange (List.replicate 32 (AV.int .u8 0)) 0 (cells32 ((oneC (getF x0 x6).fst (List.take 32 (List.drop 0 (cells32 xh0)))).snd.fst))])
 else
 .stuck
 else
 .stuck
 else
 .stuck
 else
 .stuck
 else
 .ret (AV.tup [AV.own 1, AV.own 2, AV.int .i64 x6, AV.int .i64 0]) [AObj.var 52 (cells32 xh0), AObj.arr 26 (Pay.rows 5 xh1), AObj.arr 52 (Pay.rows 32 xh2)] := by kernel_rfl

def tt55 : Tab := [(0, ty0), (1, ty1), (3, ty3), (4, ty4), (5, ty5), (22, ty22), (24, ty24), (26, ty26), (30, ty30), (52, ty52), (66, ty66), (86, ty86)]
theorem tt55_ok : TabOk Try.prog tt55 := tabOk_of_all ⟨ty0_ok, ty1_ok, ty3_ok, ty4_ok, ty5_ok, ty22_ok, ty24_ok, ty26_ok, ty30_ok, ty52_ok, ty66_ok, ty86_ok, trivial⟩
def c55 (F : Nat) : Cfg := ⟨tt55, [(42, .pure go41), (17, .pure go16), (53, .pure go53), (61, .pure go61)], F, [(0, ⟨[0, 3, 8, 9, 10], [(8, 26), (9, 52)]⟩)], [], 0⟩
noncomputable def f55_0 (F k : Nat) (x0 : List UInt8) (x10 : Int) (xh0 : Nat → Int) (xh1 : List (List AV)) (xh2 : List (List AV)) : Res := aloop (c55 F) Try.f55 0 [] k (St.mk [AV.ro (Pay.bytes x0), .top, .top, AV.ptr 0 0, .top, .top, .top, .top, AV.own 1, AV.own 2, AV.int .i64 x10, .top, .top, .top, .top, .top, .top, .top, .top, .top, .top, .top, .top, .top, .top, .top, .top, .top, .top, .top, .top, .top, .top, .top, .top, .top, .top, .top, .top, .top, .top, .top, .top, .top, .top, .top, .top, .top, .top, .top, .top, .top, .top, .top, .top, .top, .top, .top, .top, .top, .top, .top, .top, .top, .top, .top, .top, .top, .top, .top, .top, .top, .top, .top, .top, .top, .top, .top, .top, .top, .top, .top, .top, .top] [AObj.var 52 (cells32 xh0), AObj.arr 26 (Pay.rows 5 xh1), AObj.arr 52 (Pay.rows 32 xh2)])
theorem f55_eq (F : Nat) (a0 : List UInt8) (f : Nat → Int) : afun (c55 F) Try.f55 [AV.ro (Pay.bytes a0), AV.arr (cells32 f)] [] =
 f55_0 F F a0 0 f [] [] := by kernel_rfl
theorem f55_0_eq (F k : Nat) (x0 : List UInt8) (x10 : Int) (xh0 : Nat → Int) (xh1 : List (List AV)) (xh2 : List (List AV)) : f55_0 F (k + 1) x0 x10 xh0 xh1 xh2 =
 bif ltI x10 ↑x0.length then
 bif x0.length.ble 140737488355320 then
 bif !eqI (getF x0 x10).snd.snd 0 then
 .ret (AV.tup [AV.own 1, AV.own 2, AV.int .i64 x10, AV.int .i64 (getF x0 x10).snd.snd]) [AObj.var 52 (cells32 xh0), AObj.arr 26 (Pay.rows 5 xh1), AObj.arr 52 (Pay.rows 32 xh2)]
 else
 bif ltI (↑(List.length (getF x0 x10).fst)) 32 then
 .ret (AV.tup [AV.own 1, AV.own 2, AV.int .i64 x10, AV.int .i64 3]) [AObj.var 52 (cells32 xh0), AObj.arr 26 (Pay.rows 5 xh1), AObj.arr 52 (Pay.rows 32 xh2)]
 else
 bif leI 0 0 && leI 0 (IntKind.i64.wrap (↑(List.length (getF x0 x10).fst) - 32)) && leI (IntKind.i64.wrap (↑(List.length (getF x0 x10).fst) - 32)) ↑(List.length (getF x0 x10).fst) then
 bif (List.take ((IntKind.i64.wrap (↑(List.length (getF x0 x10).fst) - 32)).toNat - 0) (List.drop 0 (getF x0 x10).fst)).length.ble 800000 then
 bif !eqI (getE (List.take ((IntKind.i64.wrap (↑(List.length (getF x0 x10).fst) - 32)).toNat - 0) (List.drop 0 (getF x0 x10).fst))).snd 0 then
 .ret (AV.tup [AV.own 1, AV.own 2, AV.int .i64 x10, AV.int .i64 (getE (List.take ((IntKind.i64.wrap (↑(List.length (getF x0 x10).fst) - 32)).toNat - 0) (List.drop 0 (getF x0 x10).fst))).snd]) [AObj.var 52 (cells32 xh0), AObj.arr 26 (Pay.rows 5 xh1), AObj.arr 52 (Pay.rows 32 xh2), AObj.var 26 [AV.int .i64 (getE (List.take ((IntKind.i64.wrap (↑(List.length (getF x0 x10).fst) - 32)).toNat - 0) (List.drop 0 (getF x0 x10).fst))).fst.fst, AV.int .i64 (getE (List.take ((IntKind.i64.wrap (↑(List.length (getF x0 x10).fst) - 32)).toNat - 0) (List.drop 0 (getF x0 x10).fst))).fst.snd.fst, AV.int .i64 (getE (List.take ((IntKind.i64.wrap (↑(List.length (getF x0 x10).fst) - 32)).toNat - 0) (List.drop 0 (getF x0 x10).fst))).fst.snd.snd.fst, AV.int .i64 (getE (List.take ((IntKind.i64.wrap (↑(List.length (getF x0 x10).fst) - 32)).toNat - 0) (List.drop 0 (getF x0 x10).fst))).fst.snd.snd.snd.fst, AV.ro (Pay.rows 32 (getE (List.take ((IntKind.i64.wrap (↑(List.length (getF x0 x10).fst) - 32)).toNat - 0) (List.drop 0 (getF x0 x10).fst))).fst.snd.snd.snd.snd)]]
 else
 bif leI 0 0 && leI 0 (IntKind.i64.wrap (↑(List.length (getF x0 x10).fst) - 32)) && leI (IntKind.i64.wrap (↑(List.length (getF x0 x10).fst) - 32)) ↑(List.length (getF x0 x10).fst) then
 bif okH (List.take 32 (List.drop 0 (cells32 xh0))) && (List.take ((IntKind.i64.wrap (↑(List.length (getF x0 x10).fst) - 32)).toNat - 0) (List.drop 0 (getF x0 x10).fst)).length.ble 1000000000000 then
 bif leI 0 (IntKind.i64.wrap (↑(List.length (getF x0 x10).fst) - 32)) && leI (IntKind.i64.wrap (↑(List.length (getF x0 x10).fst) - 32)) ↑(List.length (getF x0 x10).fst) && leI ↑(List.length (getF x0 x10).fst) ↑(List.length (getF x0 x10).fst) then
 bif Nat.ble 32 (List.drop (IntKind.i64.wrap (↑(List.length (getF x0 x10).fst) - 32)).toNat (getF x0 x10).fst).length then
 bif !eqAs (List.take 32 (List.drop 0 (cells32 (nxF (List.take 32 (List.drop 0 (cells32 xh0))) (List.take ((IntKind.i64.wrap (↑(List.length (getF x0 x10).fst) - 32)).toNat - 0) (List.drop 0 (getF x0 x10).fst)))))) (spanB (List.drop (IntKind.i64.wrap (↑(List.length (getF x0 x10).fst) - 32)).toNat (getF x0 x10).fst) 0 32) then
 .ret (AV.tup [AV.own 1, AV.own 2, AV.int .i64 x10, AV.int .i64 4]) [AObj.var 52 (cells32 (nxF (List.take 32 (List.drop 0 (cells32 xh0))) (List.take ((IntKind.i64.wrap (↑(List.length (getF x0 x10).fst) - 32)).toNat - 0) (List.drop 0 (getF x0 x10).fst)))), AObj.arr 26 (Pay.rows 5 xh1), AObj.arr 52 (Pay.rows 32 xh2), AObj.var 26 [AV.int .i64 (getE (List.take ((IntKind.i64.wrap (↑(List.length (getF x0 x10).fst) - 32)).toNat - 0) (List.drop 0 (getF x0 x10).fst))).fst.fst, AV.int .i64 (getE (List.take ((IntKind.i64.wrap (↑(List.length (getF x0 x10).fst) - 32)).toNat - 0) (List.drop 0 (getF x0 x10).fst))).fst.snd.fst, AV.int .i64 (getE (List.take ((IntKind.i64.wrap (↑(List.length (getF x0 x10).fst) - 32)).toNat - 0) (List.drop 0 (getF x0 x10).fst))).fst.snd.snd.fst, AV.int .i64 (getE (List.take ((IntKind.i64.wrap (↑(List.length (getF x0 x10).fst) - 32)).toNat - 0) (List.drop 0 (getF x0 x10).fst))).fst.snd.snd.snd.fst, AV.ro (Pay.rows 32 (getE (List.take ((IntKind.i64.wrap (↑(List.length (getF x0 x10).fst) - 32)).toNat - 0) (List.drop 0 (getF x0 x10).fst))).fst.snd.snd.snd.snd)]]
 else
 bif appFits ty26 (Pay.rows 5 (xh1 ++ [setRange [AV.int .i64 0, AV.int .i64 0, AV.int .i64 0, AV.int .i64 0, AV.ro (Pay.rows 32 [])] 0 [AV.int .i64 (getE (List.take ((IntKind.i64.wrap (↑(List.length (getF x0 x10).fst) - 32)).toNat - 0) (List.drop 0 (getF x0 x10).fst))).fst.fst, AV.int .i64 (getE (List.take ((IntKind.i64.wrap (↑(List.length (getF x0 x10).fst) - 32)).toNat - 0) (List.drop 0 (getF x0 x10).fst))).fst.snd.fst, AV.int .i64 (getE (List.take ((IntKind.i64.wrap (↑(List.length (getF x0 x10).fst) - 32)).toNat - 0) (List.drop 0 (getF x0 x10).fst))).fst.snd.snd.fst, AV.int .i64 (getE (List.take ((IntKind.i64.wrap (↑(List.length (getF x0 x10).fst) - 32)).toNat - 0) (List.drop 0 (getF x0 x10).fst))).fst.snd.snd.snd.fst, AV.ro (Pay.rows 32 (getE (List.take ((IntKind.i64.wrap (↑(List.length (getF x0 x10).fst) - 32)).toNat - 0) (List.drop 0 (getF x0 x10).fst))).fst.snd.snd.snd.snd)]])) then
 bif appFits ty52 (Pay.rows 32 (xh2 ++ [setRange (List.replicate 32 (AV.int .u8 0)) 0 (cells32 (nxF (List.take 32 (List.drop 0 (cells32 xh0))) (List.take ((IntKind.i64.wrap (↑(List.length (getF x0 x10).fst) - 32)).toNat - 0) (List.drop 0 (getF x0 x10).fst))))])) then
 f55_0 F k x0 ((getF x0 x10).snd.fst) (nxF (List.take 32 (List.drop 0 (cells32 xh0))) (List.take ((IntKind.i64.wrap (↑(List.length (getF x0 x10).fst) - 32)).toNat - 0) (List.drop 0 (getF x0 x10).fst))) (xh1 ++ [setRange [AV.int .i64 0, AV.int .i64 0, AV.int .i64 0, AV.int .i64 0, AV.ro (Pay.rows 32 [])] 0 [AV.int .i64 (getE (List.take ((IntKind.i64.wrap (↑(List.length (getF x0 x10).fst) - 32)).toNat - 0) (List.drop 0 (getF x0 x10).fst))).fst.fst, AV.int .i64 (getE (List.take ((IntKind.i64.wrap (↑(List.length (getF x0 x10).fst) - 32)).toNat - 0) (List.drop 0 (getF x0 x10).fst))).fst.snd.fst, AV.int .i64 (getE (List.take ((IntKind.i64.wrap (↑(List.length (getF x0 x10).fst) - 32)).toNat - 0) (List.drop 0 (getF x0 x10).fst))).fst.snd.snd.fst, AV.int .i64 (getE (List.take ((IntKind.i64.wrap (↑(List.length (getF x0 x10).fst) - 32)).toNat - 0) (List.drop 0 (getF x0 x10).fst))).fst.snd.snd.snd.fst, AV.ro (Pay.rows 32 (getE (List.take ((IntKind.i64.wrap (↑(List.length (getF x0 x10).fst) - 32)).toNat - 0) (List.drop 0 (getF x0 x10).fst))).fst.snd.snd.snd.snd)]]) (xh2 ++ [setRange (List.replicate 32 (AV.int .u8 0)) 0 (cells32 (nxF (List.take 32 (List.drop 0 (cells32 xh0))) (List.take ((IntKind.i64.wrap (↑(List.length (getF x0 x10).fst) - 32)).toNat - 0) (List.drop 0 (getF x0 x10).fst))))])
 else
 .stuck
 else
 .stuck
 else
 .stuck
 else
 .stuck
 else
 .stuck
 else
 .stuck
 else
 .stuck
 else
 .stuck
 else
 .stuck
 else
 .ret (AV.tup [AV.own 1, AV.own 2, AV.int .i64 x10, AV.int .i64 0]) [AObj.var 52 (cells32 xh0), AObj.arr 26 (Pay.rows 5 xh1), AObj.arr 52 (Pay.rows 32 xh2)] := by kernel_rfl

def tt56 : Tab := [(0, ty0), (3, ty3), (4, ty4), (5, ty5), (24, ty24), (26, ty26), (52, ty52), (86, ty86)]
theorem tt56_ok : TabOk Try.prog tt56 := tabOk_of_all ⟨ty0_ok, ty3_ok, ty4_ok, ty5_ok, ty24_ok, ty26_ok, ty52_ok, ty86_ok, trivial⟩
def c56 (F : Nat) : Cfg := ⟨tt56, [(18, .pure (normGo [.agg [.keep, .keep, .keep, .keep, .rows 32], .agg [.keep, .keep, .keep, .keep, .rows 32]] go23))], F, [(0, ⟨[0, 1, 5], []⟩)], [], 0⟩
noncomputable def f56_0 (F k : Nat) (x0 : List (List AV)) (x1 : List (List AV)) (x5 : Int) : Res := aloop (c56 F) Try.f56 0 [] k (St.mk [AV.ro (Pay.rows 5 x0), AV.ro (Pay.rows 5 x1), .top, .top, .top, AV.int .i64 x5, .top, .top, .top, .top, .top, .top, .top, .top, .top, .top, .top, .top, .top, .top, .top, .top, .top, .top, .top, .top, .top] [])
theorem f56_eq (F : Nat) (x : List (List AV)) (y : List (List AV)) : afun (c56 F) Try.f56 [AV.ro (Pay.rows 5 x), AV.ro (Pay.rows 5 y)] [] =
 bif !eqI ↑x.length ↑y.length then
 .ret (AV.bool false) []
 else
 f56_0 F F x y 0 := by kernel_rfl
theorem f56_0_eq (F k : Nat) (x0 : List (List AV)) (x1 : List (List AV)) (x5 : Int) : f56_0 F (k + 1) x0 x1 x5 =
 bif ltI x5 ↑x0.length then
 bif inB x5 x0.length then
 bif isInt .i64 (nth (List.take 5 (List.drop 0 (x0.getD x5.toNat []))) 0) then
 bif isInt .i64 (nth (List.take 5 (List.drop 0 (x0.getD x5.toNat []))) (0 + 1)) then
 bif isInt .i64 (nth (List.take 5 (List.drop 0 (x0.getD x5.toNat []))) (0 + 1 + 1)) then
 bif isInt .i64 (nth (List.take 5 (List.drop 0 (x0.getD x5.toNat []))) (0 + 1 + 1 + 1)) then
 bif isRo (Pay.rows 32 []) (nth (List.take 5 (List.drop 0 (x0.getD x5.toNat []))) (0 + 1 + 1 + 1 + 1)) then
 bif inB x5 x1.length then
 bif isInt .i64 (nth (List.take 5 (List.drop 0 (x1.getD x5.toNat []))) 0) then
 bif isInt .i64 (nth (List.take 5 (List.drop 0 (x1.getD x5.toNat []))) (0 + 1)) then
 bif isInt .i64 (nth (List.take 5 (List.drop 0 (x1.getD x5.toNat []))) (0 + 1 + 1)) then
 bif isInt .i64 (nth (List.take 5 (List.drop 0 (x1.getD x5.toNat []))) (0 + 1 + 1 + 1)) then
 bif isRo (Pay.rows 32 []) (nth (List.take 5 (List.drop 0 (x1.getD x5.toNat []))) (0 + 1 + 1 + 1 + 1)) then
 bif okS (rowsOf (nth (List.take 5 (List.drop 0 (x0.getD x5.toNat []))) (0 + 1 + 1 + 1 + 1))) && okS (rowsOf (nth (List.take 5 (List.drop 0 (x1.getD x5.toNat []))) (0 + 1 + 1 + 1 + 1))) then
 bif !sameE (intOf (nth (List.take 5 (List.drop 0 (x0.getD x5.toNat []))) 0)) (intOf (nth (List.take 5 (List.drop 0 (x0.getD x5.toNat []))) (0 + 1))) (intOf (nth (List.take 5 (List.drop 0 (x0.getD x5.toNat []))) (0 + 1 + 1))) (intOf (nth (List.take 5 (List.drop 0 (x0.getD x5.toNat []))) (0 + 1 + 1 + 1))) (rowsOf (nth (List.take 5 (List.drop 0 (x0.getD x5.toNat []))) (0 + 1 + 1 + 1 + 1))) (intOf (nth (List.take 5 (List.drop 0 (x1.getD x5.toNat []))) 0)) (intOf (nth (List.take 5 (List.drop 0 (x1.getD x5.toNat []))) (0 + 1))) (intOf (nth (List.take 5 (List.drop 0 (x1.getD x5.toNat []))) (0 + 1 + 1))) (intOf (nth (List.take 5 (List.drop 0 (x1.getD x5.toNat []))) (0 + 1 + 1 + 1))) (rowsOf (nth (List.take 5 (List.drop 0 (x1.getD x5.toNat []))) (0 + 1 + 1 + 1 + 1))) then
 .ret (AV.bool false) []
 else
 f56_0 F k x0 x1 (IntKind.i64.wrap (x5 + 1))
 else
 .stuck
 else
 .stuck
 else
 .stuck
 else
 .stuck
 else
 .stuck
 else
 .stuck
 else
 .stuck
 else
 .stuck
 else
 .stuck
 else
 .stuck
 else
 .stuck
 else
 .stuck
 else
 .stuck
 else
 .ret (AV.bool true) [] := by kernel_rfl


theorem wk3_zero {tt : Tab} {a : AV} {e : Int} : Weak tt (.tup [.agg [.int .i64 0, .int .i64 0, .int .i64 0, .int .i64 0, .nil], a, .int .i64 e], []) (.tup [entV zeroE, a, .int .i64 e], []) :=
  .tup (.agg (.same (.same (.same (.same (.empty rfl .nil))))) (WeakL.refl _))
theorem f87_all (d : Txt) (r : List AV) (hd : d.length ≤ 100000) (h : okH r = true) :
    ∃ x, apure (c87 rounds) Try.f87 [.ro (.bytes d), .arr r] = some x ∧ Weak (c87 rounds).tt x (.tup [entV (oneC d r).1, .arr (cells32 (oneC d r).2.1), .int .i64 (oneC d r).2.2], []) := by
  have e := f87_eq rounds d (hdF r)
  conv at e => lhs; rw [hd_cells h]
  rw [apure_out, e]
  have hn : ∀ p, nxF r p = nxF (cells32 (hdF r)) p := fun p => by rw [hd_cells h]
  unfold oneC
  rcases Nat.lt_or_ge d.length 32 with h32 | h32
  · have g : ltI (d.length : Int) 32 = true := ltI_iff.2 (by omega)
    simp only [g, cond_true]
    exact ⟨_, rfl, wk3_zero⟩
  · have g : ltI (d.length : Int) 32 = false := Bool.eq_false_iff.2 fun x => by rw [ltI_iff] at x; omega
    have w : IntKind.i64.wrap ((d.length : Int) - 32) = ((d.length - 32 : Nat) : Int) := by rw [wrap64 (by omega) (by omega)]; omega
    have l1 : (List.take (d.length - 32) d).length = d.length - 32 := by rw [List.length_take]; omega
    have l2 : (List.drop (d.length - 32) d).length = 32 := by rw [List.length_drop]; omega
    have c1 : (leI 0 0 && leI 0 ((d.length - 32 : Nat) : Int) && leI ((d.length - 32 : Nat) : Int) (d.length : Int)) = true := by simp only [Bool.and_eq_true, leI_iff]; omega
    have c3 : (leI 0 ((d.length - 32 : Nat) : Int) && leI ((d.length - 32 : Nat) : Int) (d.length : Int) && leI (d.length : Int) (d.length : Int)) = true := by simp only [Bool.and_eq_true, leI_iff]; omega
    have c2 : (d.length - 32).ble 800000 = true := ble_iff.2 (by omega)
    have c6 : (d.length - 32).ble 1000000000000 = true := ble_iff.2 (by omega)
    have c4 : Nat.ble 32 32 = true := rfl
    have c5 : (0 + 32).ble 32 = true := rfl
    simp only [g, cond_false, w, Int.toNat_natCast, Nat.sub_zero, List.drop_zero, take32, set32, c1, c3, l1, l2, c2, c6, c4, c5, okH_cells, Bool.and_self, cond_true, hn]
    cases hE : (!eqI (getE (List.take (d.length - 32) d)).2 0) with
    | true =>
      simp only [cond_true]
      exact ⟨_, rfl, wk3_zero⟩
    | false =>
      simp only [cond_false]
      cases hA : (!eqAs (cells32 (nxF (cells32 (hdF r)) (List.take (d.length - 32) d))) (spanB (List.drop (d.length - 32) d) 0 32)) with
      | true =>
        simp only [cond_true]
        exact ⟨_, rfl, wk3_zero⟩
      | false =>
        simp only [cond_false]
        exact ⟨_, rfl, .same⟩
theorem ok87 : PureOk Try.prog 87 go87 := by
  refine pureOk_of (c87 rounds) tt87_ok (.cons ok16 (.cons ok52 .nil)) follows rfl Try.func87 (by kernel_rfl) (by kernel_rfl) ?_ ?_
  · intro R stk args ret
    unfold go87
    split
    · simp only [elim_cond]; rfl
    · rfl
  · intro args r objs h hr
    unfold go87 at h
    split at h
    · rename_i d r
      rcases bif_alt h with ⟨hf0, h⟩ | ⟨hf0, h⟩
      · cases h
        rw [Bool.and_eq_true, ble_iff] at hf0
        exact f87_all d r hf0.1 hf0.2
      · cases h
    · cases h

def rdV (E H : List (List AV)) (x : Int × Int) : AV × List AObj := (.tup [.ro (.rows 5 E), .ro (.rows 32 H), .int .i64 x.1, .int .i64 x.2], [])
theorem rd_lend {tt : Tab} {E H : List (List AV)} {g e : Int} : Weak tt (.tup [.own 0, .own 1, .int .i64 g, .int .i64 e], [.arr 26 (.rows 5 E), .arr 52 (.rows 32 H)]) (rdV E H (g, e)) := .lend
theorem fits26r {E : List (List AV)} {r : List AV} (h : E.length ≤ 200000) : appFits ty26 (Pay.rows 5 (E ++ [r])) = true := by
  unfold appFits
  refine ble_iff.2 ?_
  show (E ++ [r]).length * 56 ≤ _
  rw [List.length_append, List.length_singleton]
  omega
theorem fits52r {H : List (List AV)} {r : List AV} (h : H.length ≤ 200000) : appFits ty52 (Pay.rows 32 (H ++ [r])) = true := by
  unfold appFits
  refine ble_iff.2 ?_
  show (H ++ [r]).length * 32 ≤ _
  rw [List.length_append, List.length_singleton]
  omega
theorem f54_run (F : Nat) (b : Txt) (hb : b.length ≤ 100000) : ∀ (n k : Nat) (i : Int) (h : Nat → Int) (E H : List (List AV)), 0 ≤ i → i ≤ b.length → b.length - i < n → n ≤ k → (E.length : Int) ≤ i → (H.length : Int) ≤ i →
    ∃ x, outR (f54_0 F k b i h E H) = some x ∧ Weak (c54 F).tt x (rdV (E ++ (readC b n i h).1) (H ++ (readC b n i h).2.1) (readC b n i h).2.2)
  | 0, k, i, h, E, H, h0, h1, h2, h3, h4, h5 => by omega
  | n + 1, 0, i, h, E, H, h0, h1, h2, h3, h4, h5 => by omega
  | n + 1, k + 1, i, h, E, H, h0, h1, h2, h3, h4, h5 => by
    rw [f54_0_eq, readC]
    have hbb : b.length.ble 140737488355320 = true := ble_iff.2 (by omega)
    have hs := getF_small b i
    have hd : (List.length (getF b i).1).ble 100000 = true := ble_iff.2 (by omega)
    cases hi : ltI i b.length with
    | false =>
      simp only [cond_false, List.append_nil]
      exact ⟨_, rfl, rd_lend⟩
    | true =>
      simp only [cond_true, hbb]
      cases hg : (!eqI (getF b i).2.2 0) with
      | true =>
        simp only [cond_true, List.append_nil]
        exact ⟨_, rfl, rd_lend⟩
      | false =>
        have hz : (getF b i).2.2 = 0 := by rw [Bool.not_eq_false'] at hg; exact eqI_iff.1 hg
        obtain ⟨_, g1, g2, _⟩ := getF_ok hz
        simp only [cond_false, hd, List.drop_zero, take32, okH_cells, Bool.and_self, cond_true]
        cases ho : (!eqI (oneC (getF b i).1 (cells32 h)).2.2 0) with
        | true =>
          simp only [cond_true, List.append_nil]
          exact ⟨_, rfl, rd_lend⟩
        | false =>
          simp only [cond_false, set32]
          rw [bif_pos (fits26r (by omega)), bif_pos (fits52r (by omega))]
          have := f54_run F b hb n k (getF b i).2.1 (oneC (getF b i).1 (cells32 h)).2.1 (E ++ [entRow (oneC (getF b i).1 (cells32 h)).1]) (H ++ [cells32 (oneC (getF b i).1 (cells32 h)).2.1]) (by omega) (by omega) (by omega) (by omega)
            (by rw [List.length_append, List.length_singleton]; omega) (by rw [List.length_append, List.length_singleton]; omega)
          rw [List.append_assoc, List.append_assoc] at this
          exact this
theorem ok54 : PureOk Try.prog 54 go54 := by
  refine pureOk_of (c54 rounds) tt54_ok (.cons ok41 (.cons ok87 .nil)) follows rfl Try.func54 (by kernel_rfl) (by kernel_rfl) ?_ ?_
  · intro R stk args ret
    unfold go54
    split
    · simp only [elim_cond]; rfl
    · rfl
  · intro args r objs h hr
    unfold go54 at h
    split at h
    · rename_i b r
      rcases bif_alt h with ⟨hf0, h⟩ | ⟨hf0, h⟩
      · cases h
        rw [Bool.and_eq_true, ble_iff] at hf0
        have e := f54_eq rounds b (hdF r)
        conv at e => lhs; rw [hd_cells hf0.2]
        rw [apure_out, e]
        have hF := big
        exact f54_run rounds b hf0.1 (b.length + 1) rounds 0 (hdF r) [] [] (by omega) (by omega) (by omega) (by omega) (by simp) (by simp)
      · cases h
    · cases h

theorem f55_run (F : Nat) (b : Txt) (hb : b.length ≤ 100000) : ∀ (n k : Nat) (i : Int) (h : Nat → Int) (E H : List (List AV)), 0 ≤ i → i ≤ b.length → b.length - i < n → n ≤ k → (E.length : Int) ≤ i → (H.length : Int) ≤ i →
    ∃ x, outR (f55_0 F k b i h E H) = some x ∧ Weak (c55 F).tt x (rdV (E ++ (readC b n i h).1) (H ++ (readC b n i h).2.1) (readC b n i h).2.2)
  | 0, k, i, h, E, H, h0, h1, h2, h3, h4, h5 => by omega
  | n + 1, 0, i, h, E, H, h0, h1, h2, h3, h4, h5 => by omega
  | n + 1, k + 1, i, h, E, H, h0, h1, h2, h3, h4, h5 => by
    rw [f55_0_eq, readC]
    have hbb : b.length.ble 140737488355320 = true := ble_iff.2 (by omega)
    have hs := getF_small b i
    cases hi : ltI i b.length with
    | false =>
      simp only [cond_false, List.append_nil]
      exact ⟨_, rfl, rd_lend⟩
    | true =>
      simp only [cond_true, hbb]
      cases hg : (!eqI (getF b i).2.2 0) with
      | true =>
        simp only [cond_true, List.append_nil]
        exact ⟨_, rfl, rd_lend⟩
      | false =>
        have hz : (getF b i).2.2 = 0 := by rw [Bool.not_eq_false'] at hg; exact eqI_iff.1 hg
        obtain ⟨_, g1, g2, _⟩ := getF_ok hz
        simp only [cond_false]
        generalize hdd : (getF b i).1 = d at *
        have nxt : ∀ (x : EntT) (f : Nat → Int), ∃ y, outR (f55_0 F k b (getF b i).2.1 f (E ++ [entRow x]) (H ++ [cells32 f])) = some y ∧ Weak (c55 F).tt y (rdV (E ++ (entRow x :: (readC b n (getF b i).2.1 f).1)) (H ++ (cells32 f :: (readC b n (getF b i).2.1 f).2.1)) (readC b n (getF b i).2.1 f).2.2) := by
          intro x f
          have := f55_run F b hb n k (getF b i).2.1 f (E ++ [entRow x]) (H ++ [cells32 f]) (by omega) (by omega) (by omega) (by omega)
            (by rw [List.length_append, List.length_singleton]; omega) (by rw [List.length_append, List.length_singleton]; omega)
          rw [List.append_assoc, List.append_assoc] at this
          exact this
        unfold oneC
        rcases Nat.lt_or_ge d.length 32 with h32 | h32
        · have g : ltI (d.length : Int) 32 = true := ltI_iff.2 (by omega)
          simp only [g, cond_true]
          have e3 : (!eqI (3 : Int) 0) = true := rfl
          simp only [e3, cond_true, List.append_nil]
          exact ⟨_, rfl, rd_lend⟩
        · have g : ltI (d.length : Int) 32 = false := Bool.eq_false_iff.2 fun x => by rw [ltI_iff] at x; omega
          have w : IntKind.i64.wrap ((d.length : Int) - 32) = ((d.length - 32 : Nat) : Int) := by rw [wrap64 (by omega) (by omega)]; omega
          have l1 : (List.take (d.length - 32) d).length = d.length - 32 := by rw [List.length_take]; omega
          have l2 : (List.drop (d.length - 32) d).length = 32 := by rw [List.length_drop]; omega
          have c1 : (leI 0 0 && leI 0 ((d.length - 32 : Nat) : Int) && leI ((d.length - 32 : Nat) : Int) (d.length : Int)) = true := by simp only [Bool.and_eq_true, leI_iff]; omega
          have c3 : (leI 0 ((d.length - 32 : Nat) : Int) && leI ((d.length - 32 : Nat) : Int) (d.length : Int) && leI (d.length : Int) (d.length : Int)) = true := by simp only [Bool.and_eq_true, leI_iff]; omega
          have c2 : (d.length - 32).ble 800000 = true := ble_iff.2 (by omega)
          have c6 : (d.length - 32).ble 1000000000000 = true := ble_iff.2 (by omega)
          have c4 : Nat.ble 32 32 = true := rfl
          simp only [g, cond_false, w, Int.toNat_natCast, Nat.sub_zero, List.drop_zero, take32, set32, c1, c3, l1, l2, c2, c6, c4, okH_cells, Bool.and_self, cond_true]
          cases hE : (!eqI (getE (List.take (d.length - 32) d)).2 0) with
          | true =>
            simp only [cond_true, hE, List.append_nil]
            exact ⟨_, rfl, rd_lend⟩
          | false =>
            simp only [cond_false]
            cases hA : (!eqAs (cells32 (nxF (cells32 h) (List.take (d.length - 32) d))) (spanB (List.drop (d.length - 32) d) 0 32)) with
            | true =>
              have e4 : (!eqI (4 : Int) 0) = true := rfl
              simp only [cond_true, e4, List.append_nil]
              exact ⟨_, rfl, rd_lend⟩
            | false =>
              have e0 : (!eqI (0 : Int) 0) = false := rfl
              simp only [cond_false, e0]
              rw [bif_pos (fits26r (by omega)), bif_pos (fits52r (by omega))]
              exact nxt _ _
theorem ok55 : PureOk Try.prog 55 go54 := by
  refine pureOk_of (c55 rounds) tt55_ok (.cons ok42 (.cons ok17 (.cons ok53 (.cons ok61 .nil)))) follows rfl Try.func55 (by kernel_rfl) (by kernel_rfl) ?_ ?_
  · intro R stk args ret
    unfold go54
    split
    · simp only [elim_cond]; rfl
    · rfl
  · intro args r objs h hr
    unfold go54 at h
    split at h
    · rename_i b r
      rcases bif_alt h with ⟨hf0, h⟩ | ⟨hf0, h⟩
      · cases h
        rw [Bool.and_eq_true, ble_iff] at hf0
        have e := f55_eq rounds b (hdF r)
        conv at e => lhs; rw [hd_cells hf0.2]
        rw [apure_out, e]
        have hF := big
        exact f55_run rounds b hf0.1 (b.length + 1) rounds 0 (hdF r) [] [] (by omega) (by omega) (by omega) (by omega) (by simp) (by simp)
      · cases h
    · cases h

theorem f56_run (F : Nat) (x y : List (List AV)) (hm : x.length ≤ 1000000) (hx : okEs x = true) (hy : okEs y = true) : ∀ (l m : List (List AV)) (i k : Nat), i + l.length = x.length → x.drop i = l → y.drop i = m → sameRows l m = true → l.length < k →
    f56_0 F k x y (i : Int) = .ret (.bool true) []
  | l, m, i, 0, hi, _, _, _, hk => by omega
  | [], m, i, k + 1, hi, _, _, _, hk => by
    rw [f56_0_eq, bif_neg (by rw [ltI_iff]; simp at hi; omega)]
  | r :: l, [], i, k + 1, hi, _, _, hs, hk => by cases hs
  | r :: l, q :: m, i, k + 1, hi, h1, h2, hs, hk => by
    have hs' : (sameRow r q && sameRows l m) = true := hs
    rw [Bool.and_eq_true] at hs'
    obtain ⟨a1, a2, a3, a4⟩ := dropC_at [] h1
    obtain ⟨b1, b2, b3, b4⟩ := dropC_at [] h2
    have er := List.all_eq_true.1 hx r a4
    have eq := List.all_eq_true.1 hy q b4
    unfold okE at er eq
    simp only [Bool.and_eq_true] at er eq
    obtain ⟨r0, r1, r2, r3, r4, r5⟩ := er
    obtain ⟨q0, q1, q2, q3, q4, q5⟩ := eq
    have hsr := hs'.1
    unfold sameRow at hsr
    rw [f56_0_eq, bif_pos (ltI_iff.2 (by omega)), bif_pos (inB_iff.2 ⟨by omega, by omega⟩), Int.toNat_natCast, a2, b2, nth_take5 r 0 (by decide), nth_take5 r (0 + 1) (by decide), nth_take5 r (0 + 1 + 1) (by decide), nth_take5 r (0 + 1 + 1 + 1) (by decide), nth_take5 r (0 + 1 + 1 + 1 + 1) (by decide),
      nth_take5 q 0 (by decide), nth_take5 q (0 + 1) (by decide), nth_take5 q (0 + 1 + 1) (by decide), nth_take5 q (0 + 1 + 1 + 1) (by decide), nth_take5 q (0 + 1 + 1 + 1 + 1) (by decide),
      bif_pos r0, bif_pos r1, bif_pos r2, bif_pos r3, bif_pos r4, bif_pos (inB_iff.2 ⟨by omega, by omega⟩), bif_pos q0, bif_pos q1, bif_pos q2, bif_pos q3, bif_pos q4, r5, q5, bif_pos (show (true && true) = true from rfl), bif_neg (by rw [Bool.not_eq_true', Bool.not_eq_false]; exact hsr),
      show IntKind.i64.wrap ((i : Int) + 1) = ((i + 1 : Nat) : Int) by rw [wrap64 (by omega) (by omega)]; omega]
    exact f56_run F x y hm hx hy l m (i + 1) k (by simp only [List.length_cons] at hi; omega) a3 b3 hs'.2 (by simp only [List.length_cons] at hk; omega)
theorem ok56 : PureOk Try.prog 56 go56 := by
  refine pureOk_of (c56 rounds) tt56_ok (.cons (ok18.norm _) .nil) follows rfl Try.func56 (by kernel_rfl) (by kernel_rfl) ?_ ?_
  · intro R stk args ret
    unfold go56
    split
    · simp only [elim_cond]; rfl
    · rfl
  · intro args r objs h hr
    unfold go56 at h
    split at h
    · rename_i n x m y
      rcases bif_alt h with ⟨hf0, h⟩ | ⟨hf0, h⟩
      · cases h
        simp only [Bool.and_eq_true] at hf0
        obtain ⟨⟨⟨e1, e2⟩, ⟨e3, e4⟩, e5⟩, e6⟩ := hf0
        have e1 := Nat.eq_of_beq_eq_true e1
        have e2 := Nat.eq_of_beq_eq_true e2
        have e6 := ble_iff.1 e6
        subst e1; subst e2
        refine ⟨_, ?_, .same⟩
        have hl := sameRows_len e5
        have hF := big
        rw [apure_out, f56_eq, bif_neg (by rw [Bool.not_eq_true', Bool.not_eq_false, eqI_iff]; omega)]
        have e := f56_run rounds x y e6 e3 e4 x y 0 rounds (by omega) rfl rfl e5 (by omega)
        exact congrArg outR e
      · cases h
    · cases h
end Go.Proofs.YtmkgmlgklggnlaaG
