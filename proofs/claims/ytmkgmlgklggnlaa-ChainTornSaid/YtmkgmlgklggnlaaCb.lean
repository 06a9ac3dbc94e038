/- A part of the proof: plain laws, and what functions of the given program come to; no condition. -/
import Derived.Test.YtmkgmlgklggnlaaCa
namespace Go.Proofs.YtmkgmlgklggnlaaG
open Go Go.Proofs.YtmkgmlgklggnlaaGm
set_option maxRecDepth 100000
set_option maxHeartbeats 0

def tt18 : Tab := [(0, ty0), (1, ty1), (2, ty2), (3, ty3), (4, ty4), (5, ty5), (24, ty24), (26, ty26), (52, ty52)]
theorem tt18_ok : TabOk Try.prog tt18 := tabOk_of_all ⟨ty0_ok, ty1_ok, ty2_ok, ty3_ok, ty4_ok, ty5_ok, ty24_ok, ty26_ok, ty52_ok, trivial⟩
def c18 (F : Nat) : Cfg := ⟨tt18, [], F, [(0, ⟨[2, 3, 5], []⟩)], [], 0⟩
noncomputable def f18_0 (F k : Nat) (x5 : Int) (xh0 : Int) (xh0_1 : Int) (xh0_2 : Int) (xh0_3 : Int) (xh0_4 : List (List AV)) (xh1 : Int) (xh1_1 : Int) (xh1_2 : Int) (xh1_3 : Int) (xh1_4 : List (List AV)) : Res := aloop (c18 F) Try.f18 0 [] k (St.mk [.top, .top, AV.ptr 0 0, AV.ptr 1 0, .top, AV.int .i64 x5, .top, .top, .top, .top, .top, .top, .top, .top, .top, .top, .top, .top, .top, .top, .top, .top, .top, .top, .top, .top, .top, .top, .top, .top, .top, .top, .top, .top, .top, .top, .top, .top, .top, .top, .top, .top, .top, .top, .top, .top, .top, .top, .top, .top, .top, .top, .top, .top, .top, .top, .top, .top, .top] [AObj.var 26 [AV.int .i64 xh0, AV.int .i64 xh0_1, AV.int .i64 xh0_2, AV.int .i64 xh0_3, AV.ro (Pay.rows 32 xh0_4)], AObj.var 26 [AV.int .i64 xh1, AV.int .i64 xh1_1, AV.int .i64 xh1_2, AV.int .i64 xh1_3, AV.ro (Pay.rows 32 xh1_4)]])
theorem f18_eq (F : Nat) (a0_0 : Int) (a0_1 : Int) (a0_2 : Int) (a0_3 : Int) (a0_4 : List (List AV)) (a1_0 : Int) (a1_1 : Int) (a1_2 : Int) (a1_3 : Int) (a1_4 : List (List AV)) : afun (c18 F) Try.f18 [AV.agg [AV.int .i64 a0_0, AV.int .i64 a0_1, AV.int .i64 a0_2, AV.int .i64 a0_3, AV.ro (Pay.rows 32 a0_4)], AV.agg [AV.int .i64 a1_0, AV.int .i64 a1_1, AV.int .i64 a1_2, AV.int .i64 a1_3, AV.ro (Pay.rows 32 a1_4)]] [] =
 bif !eqI a0_0 a1_0 then
 .ret (AV.bool false) [AObj.var 26 [AV.int .i64 a0_0, AV.int .i64 a0_1, AV.int .i64 a0_2, AV.int .i64 a0_3, AV.ro (Pay.rows 32 a0_4)], AObj.var 26 [AV.int .i64 a1_0, AV.int .i64 a1_1, AV.int .i64 a1_2, AV.int .i64 a1_3, AV.ro (Pay.rows 32 a1_4)]]
 else
 bif !eqI a0_1 a1_1 then
 .ret (AV.bool false) [AObj.var 26 [AV.int .i64 a0_0, AV.int .i64 a0_1, AV.int .i64 a0_2, AV.int .i64 a0_3, AV.ro (Pay.rows 32 a0_4)], AObj.var 26 [AV.int .i64 a1_0, AV.int .i64 a1_1, AV.int .i64 a1_2, AV.int .i64 a1_3, AV.ro (Pay.rows 32 a1_4)]]
 else
 bif !eqI a0_2 a1_2 then
 .ret (AV.bool false) [AObj.var 26 [AV.int .i64 a0_0, AV.int .i64 a0_1, AV.int .i64 a0_2, AV.int .i64 a0_3, AV.ro (Pay.rows 32 a0_4)], AObj.var 26 [AV.int .i64 a1_0, AV.int .i64 a1_1, AV.int .i64 a1_2, AV.int .i64 a1_3, AV.ro (Pay.rows 32 a1_4)]]
 else
 bif !eqI a0_3 a1_3 then
 .ret (AV.bool false) [AObj.var 26 [AV.int .i64 a0_0, AV.int .i64 a0_1, AV.int .i64 a0_2, AV.int .i64 a0_3, AV.ro (Pay.rows 32 a0_4)], AObj.var 26 [AV.int .i64 a1_0, AV.int .i64 a1_1, AV.int .i64 a1_2, AV.int .i64 a1_3, AV.ro (Pay.rows 32 a1_4)]]
 else
 bif !eqI ↑a0_4.length ↑a1_4.length then
 .ret (AV.bool false) [AObj.var 26 [AV.int .i64 a0_0, AV.int .i64 a0_1, AV.int .i64 a0_2, AV.int .i64 a0_3, AV.ro (Pay.rows 32 a0_4)], AObj.var 26 [AV.int .i64 a1_0, AV.int .i64 a1_1, AV.int .i64 a1_2, AV.int .i64 a1_3, AV.ro (Pay.rows 32 a1_4)]]
 else
 f18_0 F F 0 a0_0 a0_1 a0_2 a0_3 a0_4 a1_0 a1_1 a1_2 a1_3 a1_4 := by kernel_rfl
theorem f18_0_eq (F k : Nat) (x5 : Int) (xh0 : Int) (xh0_1 : Int) (xh0_2 : Int) (xh0_3 : Int) (xh0_4 : List (List AV)) (xh1 : Int) (xh1_1 : Int) (xh1_2 : Int) (xh1_3 : Int) (xh1_4 : List (List AV)) : f18_0 F (k + 1) x5 xh0 xh0_1 xh0_2 xh0_3 xh0_4 xh1 xh1_1 xh1_2 xh1_3 xh1_4 =
 bif ltI x5 ↑xh0_4.length then
 bif inB x5 xh0_4.length then
 bif (List.take 32 (List.drop 0 (xh0_4.getD x5.toNat []))).length.beq 32 && (List.take 32 (List.drop 0 (xh0_4.getD x5.toNat []))).all (isInt .u8) then
 bif inB x5 xh1_4.length then
 bif (List.take 32 (List.drop 0 (xh1_4.getD x5.toNat []))).length.beq 32 && (List.take 32 (List.drop 0 (xh1_4.getD x5.toNat []))).all (isInt .u8) then
 bif !eqAs (spanA IntKind.u8 (List.take 32 (List.drop 0 (xh0_4.getD x5.toNat []))) 32) (spanA IntKind.u8 (List.take 32 (List.drop 0 (xh1_4.getD x5.toNat []))) 32) then
 .ret (AV.bool false) [AObj.var 26 [AV.int .i64 xh0, AV.int .i64 xh0_1, AV.int .i64 xh0_2, AV.int .i64 xh0_3, AV.ro (Pay.rows 32 xh0_4)], AObj.var 26 [AV.int .i64 xh1, AV.int .i64 xh1_1, AV.int .i64 xh1_2, AV.int .i64 xh1_3, AV.ro (Pay.rows 32 xh1_4)]]
 else
 f18_0 F k (IntKind.i64.wrap (x5 + 1)) xh0 xh0_1 xh0_2 xh0_3 xh0_4 xh1 xh1_1 xh1_2 xh1_3 xh1_4
 else
 .stuck
 else
 .stuck
 else
 .stuck
 else
 .stuck
 else
 .ret (AV.bool true) [AObj.var 26 [AV.int .i64 xh0, AV.int .i64 xh0_1, AV.int .i64 xh0_2, AV.int .i64 xh0_3, AV.ro (Pay.rows 32 xh0_4)], AObj.var 26 [AV.int .i64 xh1, AV.int .i64 xh1_1, AV.int .i64 xh1_2, AV.int .i64 xh1_3, AV.ro (Pay.rows 32 xh1_4)]] := by kernel_rfl


def tt20 : Tab := [(0, ty0), (1, ty1), (2, ty2), (3, ty3), (4, ty4), (5, ty5), (22, ty22), (24, ty24), (26, ty26), (27, ty27), (52, ty52), (76, ty76)]
theorem tt20_ok : TabOk Try.prog tt20 := tabOk_of_all ⟨ty0_ok, ty1_ok, ty2_ok, ty3_ok, ty4_ok, ty5_ok, ty22_ok, ty24_ok, ty26_ok, ty27_ok, ty52_ok, ty76_ok, trivial⟩
def c20 (F : Nat) : Cfg := ⟨tt20, [(21, .pure go21), (62, .pure go62)], F, [(0, ⟨[4, 21, 22, 23], [(4, 5)]⟩)], [], 0⟩
noncomputable def f20_0 (F k : Nat) (x21 : List (List AV)) (x22 : Int) (x23 : Int) (xh0 : Txt) : Res := aloop (c20 F) Try.f20 0 [] k (St.mk [.top, .top, .top, .top, AV.own 0, .top, .top, .top, .top, .top, .top, .top, .top, .top, .top, .top, .top, .top, .top, .top, .top, AV.ro (Pay.rows 32 x21), AV.int .i64 x22, AV.int .i64 x23, .top, .top, .top, .top, .top, .top, .top, .top] [AObj.arr 5 (Pay.bytes xh0)])
theorem f20_eq (F : Nat) (a0_0 : Int) (a0_1 : Int) (a0_2 : Int) (a0_3 : Int) (a0_4 : List (List AV)) : afun (c20 F) Try.f20 [AV.agg [AV.int .i64 a0_0, AV.int .i64 a0_1, AV.int .i64 a0_2, AV.int .i64 a0_3, AV.ro (Pay.rows 32 a0_4)]] [] =
 bif !rightE a0_0 a0_1 a0_2 a0_3 a0_4.length then
 .ret (AV.tup [AV.nil, AV.int .i64 3]) [AObj.var 26 [AV.int .i64 a0_0, AV.int .i64 a0_1, AV.int .i64 a0_2, AV.int .i64 a0_3, AV.ro (Pay.rows 32 a0_4)]]
 else
 f20_0 F F a0_4 ↑a0_4.length 0 (encN ((([a0_0, 0, 0, 0].set (1, Operand.tmp 13).fst a0_1).set (2, Operand.tmp 15).fst a0_2).set (3, Operand.tmp 17).fst a0_3)) := by kernel_rfl
theorem f20_0_eq (F k : Nat) (x21 : List (List AV)) (x22 : Int) (x23 : Int) (xh0 : Txt) : f20_0 F (k + 1) x21 x22 x23 xh0 =
 bif ltI x23 x22 then
 bif inB x23 x21.length then
 bif (List.take 32 (List.drop 0 (x21.getD x23.toNat []))).length.beq 32 && (List.take 32 (List.drop 0 (x21.getD x23.toNat []))).all (isInt .u8) then
 bif appFits ty5 (Pay.bytes (xh0 ++ u8of [AV.int .u8 (intOf (nth (List.take 32 (List.drop 0 (x21.getD x23.toNat []))) 0)), AV.int .u8 (intOf (nth (List.take 32 (List.drop 0 (x21.getD x23.toNat []))) 1)), AV.int .u8 (intOf (nth (List.take 32 (List.drop 0 (x21.getD x23.toNat []))) 2)), AV.int .u8 (intOf (nth (List.take 32 (List.drop 0 (x21.getD x23.toNat []))) 3)), AV.int .u8 (intOf (nth (List.take 32 (List.drop 0 (x21.getD x23.toNat []))) 4)), AV.int .u8 (intOf (nth (List.take 32 (List.drop 0 (x21.getD x23.toNat []))) 5)), AV.int .u8 (intOf (nth (List.take 32 (List.drop 0 (x21.getD x23.toNat []))) 6)), AV.int .u8 (intOf (nth (List.take 32 (List.drop 0 (x21.getD x23.toNat []))) 7)), AV.int .u8 (intOf (nth (List.take 32 (List.drop 0 (x21.getD x23.toNat []))) 8)), AV.int .u8 (intOf (nth (List.take 32 (List.drop 0 (x21.getD x23.toNat []))) 9)), AV.int .u8 (intOf (nth (List.take 32 (List.drop 0 (x21.getD x23.toNat []))) 10)), AV.int .u8 (intOf (nth (List.take 32 (List.drop 0 (x21.getD x23.toNat []))) 11)), AV.int .u8 (intOf (nth (List.take 32 (List.drop 0 (x21.getD x23.toNat []))) 12)), AV.int .u8 (intOf (nth (List.take 32 (List.drop 0 (x21.getD x23.toNat []))) 13)), AV.int .u8 (intOf (nth (List.take 32 (List.drop 0 (x21.getD x23.toNat []))) 14)), AV.int .u8 (intOf (nth (List.take 32 (List.drop 0 (x21.getD x23.toNat []))) 15)), AV.int .u8 (intOf (nth (List.take 32 (List.drop 0 (x21.getD x23.toNat []))) 16)), AV.int .u8 (intOf (nth (List.take 32 (List.drop 0 (x21.getD x23.toNat []))) 17)), AV.int .u8 (intOf (nth (List.take 32 (List.drop 0 (x21.getD x23.toNat []))) 18)), AV.int .u8 (intOf (nth (List.take 32 (List.drop 0 (x21.getD x23.toNat []))) 19)), AV.int .u8 (intOf (nth (List.take 32 (List.drop 0 (x21.getD x23.toNat []))) 20)), AV.int .u8 (intOf (nth (List.take 32 (List.drop 0 (x21.getD x23.toNat []))) 21)), AV.int .u8 (intOf (nth (List.take 32 (List.drop 0 (x21.getD x23.toNat []))) 22)), AV.int .u8 (intOf (nth (List.take 32 (List.drop 0 (x21.getD x23.toNat []))) 23)), AV.int .u8 (intOf (nth (List.take 32 (List.drop 0 (x21.getD x23.toNat []))) 24)), AV.int .u8 (intOf (nth (List.take 32 (List.drop 0 (x21.getD x23.toNat []))) 25)), AV.int .u8 (intOf (nth (List.take 32 (List.drop 0 (x21.getD x23.toNat []))) 26)), AV.int .u8 (intOf (nth (List.take 32 (List.drop 0 (x21.getD x23.toNat []))) 27)), AV.int .u8 (intOf (nth (List.take 32 (List.drop 0 (x21.getD x23.toNat []))) 28)), AV.int .u8 (intOf (nth (List.take 32 (List.drop 0 (x21.getD x23.toNat []))) 29)), AV.int .u8 (intOf (nth (List.take 32 (List.drop 0 (x21.getD x23.toNat []))) 30)), AV.int .u8 (intOf (nth (List.take 32 (List.drop 0 (x21.getD x23.toNat []))) 31))])) then
 f20_0 F k x21 x22 (IntKind.i64.wrap (x23 + 1)) (xh0 ++ u8of [AV.int .u8 (intOf (nth (List.take 32 (List.drop 0 (x21.getD x23.toNat []))) 0)), AV.int .u8 (intOf (nth (List.take 32 (List.drop 0 (x21.getD x23.toNat []))) 1)), AV.int .u8 (intOf (nth (List.take 32 (List.drop 0 (x21.getD x23.toNat []))) 2)), AV.int .u8 (intOf (nth (List.take 32 (List.drop 0 (x21.getD x23.toNat []))) 3)), AV.int .u8 (intOf (nth (List.take 32 (List.drop 0 (x21.getD x23.toNat []))) 4)), AV.int .u8 (intOf (nth (List.take 32 (List.drop 0 (x21.getD x23.toNat []))) 5)), AV.int .u8 (intOf (nth (List.take 32 (List.drop 0 (x21.getD x23.toNat []))) 6)), AV.int .u8 (intOf (nth (List.take 32 (List.drop 0 (x21.getD x23.toNat []))) 7)), AV.int .u8 (intOf (nth (List.take 32 (List.drop 0 (x21.getD x23.toNat []))) 8)), AV.int .u8 (intOf (nth (List.take 32 (List.drop 0 (x21.getD x23.toNat []))) 9)), AV.int .u8 (intOf (nth (List.take 32 (List.drop 0 (x21.getD x23.toNat []))) 10)), AV.int .u8 (intOf (nth (List.take 32 (List.drop 0 (x21.getD x23.toNat []))) 11)), AV.int .u8 (intOf (nth (List.take 32 (List.drop 0 (x21.getD x23.toNat []))) 12)), AV.int .u8 (intOf (nth (List.take 32 (List.drop 0 (x21.getD x23.toNat []))) 13)), AV.int .u8 (intOf (nth (List.take 32 (List.drop 0 (x21.getD x23.toNat []))) 14)), AV.int .u8 (intOf (nth (List.take 32 (List.drop 0 (x21.getD x23.toNat []))) 15)), AV.int .u8 (intOf (nth (List.take 32 (List.drop 0 (x21.getD x23.toNat []))) 16)), AV.int .u8 (intOf (nth (List.take 32 (List.drop 0 (x21.getD x23.toNat []))) 17)), AV.int .u8 (intOf (nth (List.take 32 (List.drop 0 (x21.getD x23.toNat []))) 18)), AV.int .u8 (intOf (nth (List.take 32 (List.drop 0 (x21.getD x23.toNat []))) 19)), AV.int .u8 (intOf (nth (List.take 32 (List.drop 0 (x21.getD x23.toNat []))) 20)), AV.int .u8 (intOf (nth (List.take 32 (List.drop 0 (x21.getD x23.toNat []))) 21)), AV.int .u8 (intOf (nth (List.take 32 (List.drop 0 (x21.getD x23.toNat []))) 22)), AV.int .u8 (intOf (nth (List.take 32 (List.drop 0 (x21.getD x23.toNat []))) 23)), AV.int .u8 (intOf (nth (List.take 32 (List.drop 0 (x21.getD x23.toNat []))) 24)), AV.int .u8 (intOf (nth (List.take 32 (List.drop 0 (x21.getD x23.toNat []))) 25)), AV.int .u8 (intOf (nth (List.take 32 (List.drop 0 (x21.getD x23.toNat []))) 26)), AV.int .u8 (intOf (nth (List.take 32 (List.drop 0 (x21.getD x23.toNat []))) 27)), AV.int .u8 (intOf (nth (List.take 32 (List.drop 0 (x21.getD x23.toNat []))) 28)), AV.int .u8 (intOf (nth (List.take 32 (List.drop 0 (x21.getD x23.toNat []))) 29)), AV.int .u8 (intOf (nth (List.take 32 (List.drop 0 (x21.getD x23.toNat []))) 30)), AV.int .u8 (intOf (nth (List.take 32 (List.drop 0 (x21.getD x23.toNat []))) 31))])
 else
 .stuck
 else
 .stuck
 else
 .stuck
 else
 .ret (AV.tup [AV.own 0, AV.int .i64 0]) [AObj.arr 5 (Pay.bytes xh0)] := by kernel_rfl


def tt23 : Tab := [(0, ty0), (1, ty1), (2, ty2), (3, ty3), (4, ty4), (5, ty5), (24, ty24), (26, ty26), (52, ty52)]
theorem tt23_ok : TabOk Try.prog tt23 := tabOk_of_all ⟨ty0_ok, ty1_ok, ty2_ok, ty3_ok, ty4_ok, ty5_ok, ty24_ok, ty26_ok, ty52_ok, trivial⟩
def c23 (F : Nat) : Cfg := ⟨tt23, [(63, .pure go63)], F, [], [], 0⟩
theorem f23_eq (F : Nat) (a0_0 : Int) (a0_1 : Int) (a0_2 : Int) (a0_3 : Int) (a0_4 : List (List AV)) (a1_0 : Int) (a1_1 : Int) (a1_2 : Int) (a1_3 : Int) (a1_4 : List (List AV)) : afun (c23 F) Try.f23 [AV.agg [AV.int .i64 a0_0, AV.int .i64 a0_1, AV.int .i64 a0_2, AV.int .i64 a0_3, AV.ro (Pay.rows 32 a0_4)], AV.agg [AV.int .i64 a1_0, AV.int .i64 a1_1, AV.int .i64 a1_2, AV.int .i64 a1_3, AV.ro (Pay.rows 32 a1_4)]] [] =
 bif eqI a0_0 a1_0 then
 bif eqI a0_1 a1_1 then
 bif eqI a0_2 a1_2 then
 bif eqI a0_3 a1_3 then
 bif okS a0_4 && okS a1_4 then
 .ret (AV.bool (eqR a0_4 a1_4)) [AObj.var 26 [AV.int .i64 a0_0, AV.int .i64 a0_1, AV.int .i64 a0_2, AV.int .i64 a0_3, AV.ro (Pay.rows 32 a0_4)], AObj.var 26 [AV.int .i64 a1_0, AV.int .i64 a1_1, AV.int .i64 a1_2, AV.int .i64 a1_3, AV.ro (Pay.rows 32 a1_4)]]
 else
 .stuck
 else
 .ret (AV.bool false) [AObj.var 26 [AV.int .i64 a0_0, AV.int .i64 a0_1, AV.int .i64 a0_2, AV.int .i64 a0_3, AV.ro (Pay.rows 32 a0_4)], AObj.var 26 [AV.int .i64 a1_0, AV.int .i64 a1_1, AV.int .i64 a1_2, AV.int .i64 a1_3, AV.ro (Pay.rows 32 a1_4)]]
 else
 .ret (AV.bool false) [AObj.var 26 [AV.int .i64 a0_0, AV.int .i64 a0_1, AV.int .i64 a0_2, AV.int .i64 a0_3, AV.ro (Pay.rows 32 a0_4)], AObj.var 26 [AV.int .i64 a1_0, AV.int .i64 a1_1, AV.int .i64 a1_2, AV.int .i64 a1_3, AV.ro (Pay.rows 32 a1_4)]]
 else
 .ret (AV.bool false) [AObj.var 26 [AV.int .i64 a0_0, AV.int .i64 a0_1, AV.int .i64 a0_2, AV.int .i64 a0_3, AV.ro (Pay.rows 32 a0_4)], AObj.var 26 [AV.int .i64 a1_0, AV.int .i64 a1_1, AV.int .i64 a1_2, AV.int .i64 a1_3, AV.ro (Pay.rows 32 a1_4)]]
 else
 .ret (AV.bool false) [AObj.var 26 [AV.int .i64 a0_0, AV.int .i64 a0_1, AV.int .i64 a0_2, AV.int .i64 a0_3, AV.ro (Pay.rows 32 a0_4)], AObj.var 26 [AV.int .i64 a1_0, AV.int .i64 a1_1, AV.int .i64 a1_2, AV.int .i64 a1_3, AV.ro (Pay.rows 32 a1_4)]] := by kernel_rfl


def tt24 : Tab := [(0, ty0), (1, ty1), (2, ty2), (3, ty3), (4, ty4), (5, ty5), (22, ty22), (24, ty24), (26, ty26), (52, ty52), (99, ty99)]
theorem tt24_ok : TabOk Try.prog tt24 := tabOk_of_all ⟨ty0_ok, ty1_ok, ty2_ok, ty3_ok, ty4_ok, ty5_ok, ty22_ok, ty24_ok, ty26_ok, ty52_ok, ty99_ok, trivial⟩
def c24 (F : Nat) : Cfg := ⟨tt24, [(64, .pure go64)], F, [(0, ⟨[1, 3, 4], [(3, 5)]⟩), (2, ⟨[1, 3, 4, 5], [(3, 5)]⟩)], [], 0⟩
noncomputable def f24_0 (F k : Nat) (x4 : Int) (xh0 : Int) (xh0_1 : Int) (xh0_2 : Int) (xh0_3 : Int) (xh0_4 : List (List AV)) (xh1 : List UInt8) : Res := aloop (c24 F) Try.f24 0 [] k (St.mk [.top, AV.ptr 0 0, .top, AV.own 1, AV.int .i64 x4, .top, .top, .top, .top, .top, .top, .top, .top, .top, .top, .top, .top, .top, .top, .top, .top, .top, .top, .top, .top, .top, .top, .top, .top, .top, .top, .top, .top, .top, .top, .top, .top, .top, .top, .top, .top, .top, .top, .top, .top, .top, .top] [AObj.var 26 [AV.int .i64 xh0, AV.int .i64 xh0_1, AV.int .i64 xh0_2, AV.int .i64 xh0_3, AV.ro (Pay.rows 32 xh0_4)], AObj.arr 5 (Pay.bytes xh1)])
noncomputable def f24_2 (F k : Nat) (g0 : Nat) (x4 : Int) (x5 : Int) (xh0 : Int) (xh0_1 : Int) (xh0_2 : Int) (xh0_3 : Int) (xh0_4 : List (List AV)) (xh1 : List UInt8) : Res := aloop (c24 F) Try.f24 2 [g0] k (St.mk [.top, AV.ptr 0 0, .top, AV.own 1, AV.int .i64 x4, AV.int .i64 x5, .top, .top, .top, .top, .top, .top, .top, .top, .top, .top, .top, .top, .top, .top, .top, .top, .top, .top, .top, .top, .top, .top, .top, .top, .top, .top, .top, .top, .top, .top, .top, .top, .top, .top, .top, .top, .top, .top, .top, .top, .top] [AObj.var 26 [AV.int .i64 xh0, AV.int .i64 xh0_1, AV.int .i64 xh0_2, AV.int .i64 xh0_3, AV.ro (Pay.rows 32 xh0_4)], AObj.arr 5 (Pay.bytes xh1)])
theorem f24_eq (F : Nat) (a0_0 : Int) (a0_1 : Int) (a0_2 : Int) (a0_3 : Int) (a0_4 : List (List AV)) : afun (c24 F) Try.f24 [AV.agg [AV.int .i64 a0_0, AV.int .i64 a0_1, AV.int .i64 a0_2, AV.int .i64 a0_3, AV.ro (Pay.rows 32 a0_4)]] [] =
 bif appFits ty5 (Pay.bytes (enc (IntKind.u64.wrap a0_0) ++ enc (IntKind.u64.wrap a0_1))) then
 bif appFits ty5 (Pay.bytes (enc (IntKind.u64.wrap a0_0) ++ enc (IntKind.u64.wrap a0_1) ++ enc (IntKind.u64.wrap a0_2))) then
 bif appFits ty5 (Pay.bytes (enc (IntKind.u64.wrap a0_0) ++ enc (IntKind.u64.wrap a0_1) ++ enc (IntKind.u64.wrap a0_2) ++ enc (IntKind.u64.wrap a0_3))) then
 f24_0 F F 0 a0_0 a0_1 a0_2 a0_3 a0_4 (enc (IntKind.u64.wrap a0_0) ++ enc (IntKind.u64.wrap a0_1) ++ enc (IntKind.u64.wrap a0_2) ++ enc (IntKind.u64.wrap a0_3))
 else
 .stuck
 else
 .stuck
 else
 .stuck := by kernel_rfl
theorem f24_0_eq (F k : Nat) (x4 : Int) (xh0 : Int) (xh0_1 : Int) (xh0_2 : Int) (xh0_3 : Int) (xh0_4 : List (List AV)) (xh1 : List UInt8) : f24_0 F (k + 1) x4 xh0 xh0_1 xh0_2 xh0_3 xh0_4 xh1 =
 bif ltI x4 ↑xh0_4.length then
 f24_2 F F k x4 0 xh0 xh0_1 xh0_2 xh0_3 xh0_4 xh1
 else
 .ret (AV.own 1) [AObj.var 26 [AV.int .i64 xh0, AV.int .i64 xh0_1, AV.int .i64 xh0_2, AV.int .i64 xh0_3, AV.ro (Pay.rows 32 xh0_4)], AObj.arr 5 (Pay.bytes xh1)] := by kernel_rfl
theorem f24_2_eq (F k : Nat) (g0 : Nat) (x4 : Int) (x5 : Int) (xh0 : Int) (xh0_1 : Int) (xh0_2 : Int) (xh0_3 : Int) (xh0_4 : List (List AV)) (xh1 : List UInt8) : f24_2 F (k + 1) g0 x4 x5 xh0 xh0_1 xh0_2 xh0_3 xh0_4 xh1 =
 bif ltI x5 32 then
 bif inB x4 xh0_4.length then
 bif inB x5 32 then
 bif (0 + x5.toNat * 1 + 1).ble 32 && true then
 bif isInt .u8 (nth (xh0_4.getD x4.toNat []) (0 + x5.toNat * 1)) then
 bif appFits ty5 (Pay.bytes (xh1 ++ [UInt8.ofNat (intOf (nth (xh0_4.getD x4.toNat []) (0 + x5.toNat * 1))).toNat])) then
 f24_2 F k g0 x4 (IntKind.i64.wrap (x5 + 1)) xh0 xh0_1 xh0_2 xh0_3 xh0_4 (xh1 ++ [UInt8.ofNat (intOf (nth (xh0_4.getD x4.toNat []) (0 + x5.toNat * 1))).toNat])
 else
 .stuck
 else
 .stuck
 else
 .stuck
 else
 .stuck
 else
 .stuck
 else
 f24_0 F g0 (IntKind.i64.wrap (x4 + 1)) xh0 xh0_1 xh0_2 xh0_3 xh0_4 xh1 := by kernel_rfl


theorem span_u8 (r : List AV) (h1 : r.length = 32) (h2 : r.all (isInt .u8) = true) : u8of [AV.int .u8 (intOf (nth r 0)), AV.int .u8 (intOf (nth r 1)), AV.int .u8 (intOf (nth r 2)), AV.int .u8 (intOf (nth r 3)), AV.int .u8 (intOf (nth r 4)), AV.int .u8 (intOf (nth r 5)), AV.int .u8 (intOf (nth r 6)), AV.int .u8 (intOf (nth r 7)), AV.int .u8 (intOf (nth r 8)), AV.int .u8 (intOf (nth r 9)), AV.int .u8 (intOf (nth r 10)), AV.int .u8 (intOf (nth r 11)), AV.int .u8 (intOf (nth r 12)), AV.int .u8 (intOf (nth r 13)), AV.int .u8 (intOf (nth r 14)), AV.int .u8 (intOf (nth r 15)), AV.int .u8 (intOf (nth r 16)), AV.int .u8 (intOf (nth r 17)), AV.int .u8 (intOf (nth r 18)), AV.int .u8 (intOf (nth r 19)), AV.int .u8 (intOf (nth r 20)), AV.int .u8 (intOf (nth r 21)), AV.int .u8 (intOf (nth r 22)), AV.int .u8 (intOf (nth r 23)), AV.int .u8 (intOf (nth r 24)), AV.int .u8 (intOf (nth r 25)), AV.int .u8 (intOf (nth r 26)), AV.int .u8 (intOf (nth r 27)), AV.int .u8 (intOf (nth r 28)), AV.int .u8 (intOf (nth r 29)), AV.int .u8 (intOf (nth r 30)), AV.int .u8 (intOf (nth r 31))] = u8of r := by
  have := spanA_eq (k := .u8) h1 h2
  show u8of (spanA .u8 r 32) = u8of r
  rw [this]
theorem sameE_alt (k a b c : Int) (x : List (List AV)) (k2 a2 b2 c2 : Int) (y : List (List AV)) : sameE k a b c x k2 a2 b2 c2 y = bif eqI k k2 then bif eqI a a2 then bif eqI b b2 then bif eqI c c2 then eqR x y else false else false else false else false := by
  unfold sameE
  cases eqI k k2 <;> cases eqI a a2 <;> cases eqI b b2 <;> cases eqI c c2 <;> rfl
theorem f23_all (F : Nat) (k a b c : Int) (x : List (List AV)) (k2 a2 b2 c2 : Int) (y : List (List AV)) (h : (okS x && okS y) = true) : outR (afun (c23 F) Try.f23 [.agg [.int .i64 k, .int .i64 a, .int .i64 b, .int .i64 c, .ro (.rows 32 x)], .agg [.int .i64 k2, .int .i64 a2, .int .i64 b2, .int .i64 c2, .ro (.rows 32 y)]] []) = some (.bool (sameE k a b c x k2 a2 b2 c2 y), []) := by
  rw [f23_eq, h, sameE_alt]
  cases eqI k k2 <;> cases eqI a a2 <;> cases eqI b b2 <;> cases eqI c c2 <;> rfl
theorem f18_run (F : Nat) (k a b c : Int) (X : List (List AV)) (k2 a2 b2 c2 : Int) (Y : List (List AV)) (hX : okS X = true) (hY : okS Y = true) (hl : X.length = Y.length) (hb : X.length ≤ 9223372036854775807) : ∀ (d m j : Nat), j + d = X.length → d < m → outR (f18_0 F m j k a b c X k2 a2 b2 c2 Y) = some (.bool (eqR (X.drop j) (Y.drop j)), [])
  | d, m + 1, j, h1, h2 => by
    rw [f18_0_eq]
    by_cases hj : j < X.length
    · obtain ⟨d, rfl⟩ : ∃ m, d = m + 1 := ⟨d - 1, by omega⟩
      obtain ⟨p1, p2⟩ := sumOk_out (okS_at hX j hj)
      obtain ⟨q1, q2⟩ := sumOk_out (okS_at hY j (by omega))
      rw [bif_pos (by rw [ltI_iff]; omega), bif_pos (by rw [inB_iff]; omega), Int.toNat_natCast, sum_take p1, sum_take q1, p1, q1, p2, q2, spanA_eq p1 p2, spanA_eq q1 q2, show inB (j : Int) Y.length = true by rw [inB_iff]; omega, wrap64 (n := (j : Int) + 1) (by omega) (by omega),
        drop_getD' X j [] hj, drop_getD' Y j [] (by omega)]
      have ih := f18_run F k a b c X k2 a2 b2 c2 Y hX hY hl hb d m (j + 1) (by omega) (by omega)
      generalize X.getD j [] = x at *
      generalize Y.getD j [] = y at *
      simp only [cond_true, show Nat.beq 32 32 = true from rfl, Bool.and_true]
      show outR (bif !eqAs x y then _ else f18_0 F m ((j + 1 : Nat) : Int) k a b c X k2 a2 b2 c2 Y) = some (AV.bool (eqAs x y && eqR (X.drop (j + 1)) (Y.drop (j + 1))), [])
      cases eqAs x y with
      | true => rw [Bool.not_true, cond_false, ih, Bool.true_and]
      | false => rfl
    · rw [bif_neg (by rw [ltI_iff]; omega), List.drop_eq_nil_of_le (by omega), List.drop_eq_nil_of_le (by omega)]; rfl

theorem f18_all (F : Nat) (k a b c : Int) (x : List (List AV)) (k2 a2 b2 c2 : Int) (y : List (List AV)) (hx : okS x = true) (hy : okS y = true) (hb : x.length ≤ 9223372036854775807) (hF : 9223372036854775807 < F) : outR (afun (c18 F) Try.f18 [.agg [.int .i64 k, .int .i64 a, .int .i64 b, .int .i64 c, .ro (.rows 32 x)], .agg [.int .i64 k2, .int .i64 a2, .int .i64 b2, .int .i64 c2, .ro (.rows 32 y)]] []) = some (.bool (sameE k a b c x k2 a2 b2 c2 y), []) := by
  rw [f18_eq, sameE_alt]
  cases eqI k k2 with
  | false => rfl
  | true =>
  cases eqI a a2 with
  | false => rfl
  | true =>
  cases eqI b b2 with
  | false => rfl
  | true =>
  cases eqI c c2 with
  | false => rfl
  | true =>
  simp only [Bool.not_true, cond_false, cond_true]
  by_cases h : x.length = y.length
  · rw [show (!eqI (x.length : Int) y.length) = false by rw [Bool.not_eq_false', eqI_iff]; omega, cond_false]
    exact f18_run F k a b c x k2 a2 b2 c2 y hx hy h hb x.length F 0 (by omega) (by omega)
  · rw [show (!eqI (x.length : Int) y.length) = true by rw [Bool.not_eq_true', Bool.eq_false_iff, Ne, eqI_iff]; omega, cond_true, eqR_len h]; rfl
theorem rightE_len {k a b c : Int} {n : Nat} (h : rightE k a b c n = true) : n ≤ 2 := by
  rw [rightE_iff] at h
  unfold RightE at h
  omega
theorem f20_run (F : Nat) (X : List (List AV)) (hX : okS X = true) (hb : X.length ≤ 1000) : ∀ (d m j : Nat) (s : Txt), j + d = X.length → d < m → s.length + 32 * d ≤ 1000000 → outR (f20_0 F m X X.length j s) = some (.tup [.own 0, .int .i64 0], [.arr 5 (.bytes (s ++ sumsB (X.drop j)))])
  | d, m + 1, j, s, h1, h2, h3 => by
    rw [f20_0_eq]
    by_cases hj : j < X.length
    · obtain ⟨d, rfl⟩ : ∃ m, d = m + 1 := ⟨d - 1, by omega⟩
      obtain ⟨p1, p2⟩ := sumOk_out (okS_at hX j hj)
      have hu : (u8of (X.getD j [])).length = 32 := by unfold u8of; rw [List.length_map, p1]
      rw [bif_pos (by rw [ltI_iff]; omega), bif_pos (by rw [inB_iff]; omega), Int.toNat_natCast, sum_take p1, span_u8 _ p1 p2, p1, p2, wrap64 (n := (j : Int) + 1) (by omega) (by omega), bif_pos (by rfl),
        bif_pos (fits5.2 (by rw [List.length_append, hu]; omega)), show (j : Int) + 1 = ((j + 1 : Nat) : Int) from rfl, f20_run F X hX hb d m (j + 1) _ (by omega) (by omega) (by rw [List.length_append, hu]; omega), drop_getD' X j [] hj, List.append_assoc]
      rfl
    · rw [bif_neg (by rw [ltI_iff]; omega), List.drop_eq_nil_of_le (by omega), show sumsB [] = [] from rfl, List.append_nil]; rfl
theorem f20_all (F : Nat) (k a b c : Int) (x : List (List AV)) (h : rightE k a b c x.length = true) (hx : okS x = true) (hF : 9223372036854775807 < F) : outR (afun (c20 F) Try.f20 [.agg [.int .i64 k, .int .i64 a, .int .i64 b, .int .i64 c, .ro (.rows 32 x)]] []) = some (.tup [.own 0, .int .i64 0], [.arr 5 (.bytes (encE k a b c x))]) := by
  have hl := rightE_len h
  have he := encN_len [k, a, b, c]
  rw [show [k, a, b, c].length = 4 from rfl] at he
  rw [f20_eq, h, Bool.not_true, cond_false, show (([k, 0, 0, 0].set (1, Operand.tmp 13).fst a).set (2, Operand.tmp 15).fst b).set (3, Operand.tmp 17).fst c = [k, a, b, c] from rfl]
  exact f20_run F x hx (by omega) x.length F 0 _ (by omega) (by omega) (by omega)
theorem f24_in (F g : Nat) (k a b c : Int) (X : List (List AV)) (hX : okS X = true) (j : Nat) (hj : j < X.length) (hb : X.length ≤ 1000) : ∀ (d m i : Nat) (s : Txt), i + d = 32 → d < m → s.length + d ≤ 1000000 → f24_2 F m g j i k a b c X s = f24_0 F g (IntKind.i64.wrap ((j : Int) + 1)) k a b c X (s ++ (u8of (X.getD j [])).drop i)
  | d, m + 1, i, s, h1, h2, h3 => by
    obtain ⟨p1, p2⟩ := sumOk_out (okS_at hX j hj)
    have hu : (u8of (X.getD j [])).length = 32 := by unfold u8of; rw [List.length_map, p1]
    rw [f24_2_eq]
    by_cases hi : i < 32
    · obtain ⟨d, rfl⟩ : ∃ m, d = m + 1 := ⟨d - 1, by omega⟩
      have hn : isInt .u8 (nth (X.getD j []) i) = true := by
        rw [List.all_eq_true] at p2
        refine p2 _ ?_
        rw [nth_eq_getElem?, List.getElem?_eq_getElem (by omega)]
        exact List.getElem_mem _
      have hd : (u8of (X.getD j [])).drop i = UInt8.ofNat (intOf (nth (X.getD j []) i)).toNat :: (u8of (X.getD j [])).drop (i + 1) := by
        rw [drop_getD' _ i 0 (by omega)]
        congr 1
        unfold u8of
        rw [List.getD_eq_getElem?_getD, List.getElem?_map, nth_eq_getElem?, List.getElem?_eq_getElem (by omega)]; rfl
      rw [bif_pos (by rw [ltI_iff]; omega), bif_pos (by rw [inB_iff]; omega), bif_pos (by rw [inB_iff]; omega), Int.toNat_natCast, Int.toNat_natCast, bif_pos (by rw [Bool.and_true, ble_iff]; omega), show 0 + i * 1 = i by omega, hn, cond_true,
        bif_pos (fits5.2 (by rw [List.length_append, List.length_singleton]; omega)), wrap64 (n := (i : Int) + 1) (by omega) (by omega), show (i : Int) + 1 = ((i + 1 : Nat) : Int) from rfl]
      rw [f24_in F g k a b c X hX j hj hb d m (i + 1) _ (by omega) (by omega) (by rw [List.length_append, List.length_singleton]; omega), hd, List.append_assoc]
      rfl
    · rw [bif_neg (by rw [ltI_iff]; omega), List.drop_eq_nil_of_le (by omega), List.append_nil]

theorem f24_run (F : Nat) (k a b c : Int) (X : List (List AV)) (hX : okS X = true) (hb : X.length ≤ 1000) (hF : 9223372036854775807 < F) : ∀ (d m j : Nat) (s : Txt), j + d = X.length → d < m → s.length + 32 * d ≤ 900000 → outR (f24_0 F m j k a b c X s) = some (.own 0, [.arr 5 (.bytes (s ++ sumsB (X.drop j)))])
  | d, m + 1, j, s, h1, h2, h3 => by
    rw [f24_0_eq]
    by_cases hj : j < X.length
    · obtain ⟨d, rfl⟩ : ∃ m, d = m + 1 := ⟨d - 1, by omega⟩
      obtain ⟨p1, p2⟩ := sumOk_out (okS_at hX j hj)
      have hu : (u8of (X.getD j [])).length = 32 := by unfold u8of; rw [List.length_map, p1]
      rw [bif_pos (by rw [ltI_iff]; omega)]
      have := f24_in F m k a b c X hX j hj hb 32 F 0 s (by omega) (by omega) (by omega)
      rw [show ((0 : Nat) : Int) = 0 from rfl, List.drop_zero, wrap64 (n := (j : Int) + 1) (by omega) (by omega)] at this
      rw [this, show (j : Int) + 1 = ((j + 1 : Nat) : Int) from rfl, f24_run F k a b c X hX hb hF d m (j + 1) _ (by omega) (by omega) (by rw [List.length_append, hu]; omega), drop_getD' X j [] hj, List.append_assoc]
      rfl
    · rw [bif_neg (by rw [ltI_iff]; omega), List.drop_eq_nil_of_le (by omega), show sumsB [] = [] from rfl, List.append_nil]; rfl
theorem f24_all (F : Nat) (k a b c : Int) (x : List (List AV)) (h : rightE k a b c x.length = true) (hx : okS x = true) (hF : 9223372036854775807 < F) : outR (afun (c24 F) Try.f24 [.agg [.int .i64 k, .int .i64 a, .int .i64 b, .int .i64 c, .ro (.rows 32 x)]] []) = some (.own 0, [.arr 5 (.bytes (encE k a b c x))]) := by
  have hl := rightE_len h
  have h1 := encN_len [k, a, b, c]
  rw [show [k, a, b, c].length = 4 from rfl] at h1
  have e : enc (IntKind.u64.wrap k) ++ enc (IntKind.u64.wrap a) ++ enc (IntKind.u64.wrap b) ++ enc (IntKind.u64.wrap c) = encN [k, a, b, c] := by simp [encN]
  have hlen := congrArg List.length e
  simp only [List.length_append] at hlen
  rw [f24_eq, bif_pos (fits5.2 (by simp only [List.length_append]; omega)), bif_pos (fits5.2 (by simp only [List.length_append]; omega)), bif_pos (fits5.2 (by simp only [List.length_append]; omega)), e]
  exact f24_run F k a b c x hx (by omega) hF x.length F 0 _ (by omega) (by omega) (by omega)

theorem ok23 : PureOk Try.prog 23 go23 := by
  refine pureOk_of (c23 rounds) tt23_ok (.cons ok63 .nil) follows rfl Try.func23 (by kernel_rfl) (by kernel_rfl) ?_ ?_
  · intro R stk args ret
    unfold go23
    split
    · simp only [elim_cond]; rfl
    · rfl
  · intro args r objs h hr
    unfold go23 at h
    split at h
    · rename_i k a b c x k2 a2 b2 c2 y
      rcases bif_alt h with ⟨hf0, h⟩ | ⟨hf0, h⟩
      · cases h
        refine ⟨_, ?_, .same⟩
        rw [apure_out]
        exact f23_all rounds k a b c x k2 a2 b2 c2 y hf0
      ·
        cases h
    · cases h

theorem ok18 : PureOk Try.prog 18 go23 := by
  refine pureOk_of (c18 rounds) tt18_ok .nil follows rfl Try.func18 (by kernel_rfl) (by kernel_rfl) ?_ ?_
  · intro R stk args ret
    unfold go23
    split
    · simp only [elim_cond]; rfl
    · rfl
  · intro args r objs h hr
    unfold go23 at h
    split at h
    · rename_i k a b c x k2 a2 b2 c2 y
      rcases bif_alt h with ⟨hf0, h⟩ | ⟨hf0, h⟩
      · cases h
        rw [Bool.and_eq_true] at hf0
        have hl := rowsLenN hr.agg.tail.tail.tail.tail
        refine ⟨_, ?_, .same⟩
        rw [apure_out]
        exact f18_all rounds k a b c x k2 a2 b2 c2 y hf0.1 hf0.2 hl big
      ·
        cases h
    · cases h

theorem ok20 : PureOk Try.prog 20 go20 := by
  refine pureOk_of (c20 rounds) tt20_ok (.cons ok21 (.cons ok62 .nil)) follows rfl Try.func20 (by kernel_rfl) (by kernel_rfl) ?_ ?_
  · intro R stk args ret
    unfold go20
    split
    · simp only [elim_cond]; rfl
    · rfl
  · intro args r objs h hr
    unfold go20 at h
    split at h
    · rename_i k a b c x
      rcases bif_alt h with ⟨hf0, h⟩ | ⟨hf0, h⟩
      · cases h
        refine ⟨_, ?_, .same⟩
        rw [apure_out]
        rw [f20_eq, hf0]
        rfl
      ·
        rcases bif_alt h with ⟨hf1, h⟩ | ⟨hf1, h⟩
        · cases h
          rw [Bool.not_eq_false'] at hf0
          refine ⟨_, ?_, .same⟩
          rw [apure_out]
          exact f20_all rounds k a b c x hf0 hf1 big
        ·
          cases h
    · cases h

theorem ok24 : PureOk Try.prog 24 go24 := by
  refine pureOk_of (c24 rounds) tt24_ok (.cons ok64 .nil) follows rfl Try.func24 (by kernel_rfl) (by kernel_rfl) ?_ ?_
  · intro R stk args ret
    unfold go24
    split
    · simp only [elim_cond]; rfl
    · rfl
  · intro args r objs h hr
    unfold go24 at h
    split at h
    · rename_i k a b c x
      rcases bif_alt h with ⟨hf0, h⟩ | ⟨hf0, h⟩
      · cases h
        rw [Bool.and_eq_true] at hf0
        refine ⟨_, ?_, .same⟩
        rw [apure_out]
        exact f24_all rounds k a b c x hf0.2 hf0.1 big
      ·
        cases h
    · cases h

end Go.Proofs.YtmkgmlgklggnlaaG
