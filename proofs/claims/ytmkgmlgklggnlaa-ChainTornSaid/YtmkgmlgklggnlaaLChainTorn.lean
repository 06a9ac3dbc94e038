/- ChainTorn: for every input the law returns true, and the input reads as it did; no condition beyond the row. -/
import Derived.Test.YtmkgmlgklggnlaaRows
import Derived.WalkKit
import Derived.ProofKit
import Derived.OpenShut
import Derived.ShutString
import Derived.ChangeOld
import Derived.Below
import Derived.SizedLaws
import Derived.Carry
import Derived.Test.YtmkgmlgklggnlaaTn
import Derived.Test.YtmkgmlgklggnlaaGmYchainf
import Derived.Test.YtmkgmlgklggnlaaGmYshd
namespace Go.Proofs.YtmkgmlgklggnlaaG
open Go Go.Proofs.YtmkgmlgklggnlaaGm
set_option maxRecDepth 100000
def rdC (b : Txt) (r : List AV) : List (List AV) × List (List AV) × Int × Int := readC b (b.length + 1) 0 (hdF r)
def R5 (x : List (List AV)) (i : Int) : List AV := List.take 5 (List.drop 0 (x.getD i.toNat []))
def tt14 : Tab := [(0, ty0), (1, ty1), (3, ty3), (4, ty4), (5, ty5), (9, ty9), (22, ty22), (24, ty24), (26, ty26), (27, ty27), (52, ty52), (75, ty75), (76, ty76), (86, ty86), (87, ty87), (93, ty93), (95, ty95)]
theorem tt14_ok : TabOk Try.prog tt14 := tabOk_of_all ⟨ty0_ok, ty1_ok, ty3_ok, ty4_ok, ty5_ok, ty9_ok, ty22_ok, ty24_ok, ty26_ok, ty27_ok, ty52_ok, ty75_ok, ty76_ok, ty86_ok, ty87_ok, ty93_ok, ty95_ok, trivial⟩
def c14 (F : Nat) : Cfg := ⟨tt14, [(15, .pure go15), (57, .pure (normGo [.leaf .bytes, .leaf .keep, .agg [.keep, .keep, .keep, .keep, .rows 32]] go57)), (22, .pure (normGo [.agg [.keep, .keep, .keep, .keep, .rows 32]] go21)), (19, .pure go19), (58, .pure (normGo [.leaf .bytes, .leaf .keep, .agg [.keep, .keep, .keep, .keep, .rows 32]] go58)), (54, .pure (normGo [.leaf .bytes, .leaf .keep] go54)), (56, .pure (normGo [.leaf (.rows 5), .leaf (.rows 5)] go56))], F, [(0, ⟨[0, 2, 4, 7, 8, 9, 10, 11], [(8, 3), (9, 26)]⟩), (2, ⟨[4, 7, 8, 9, 17, 18, 19, 20], []⟩)], [], 0⟩
noncomputable def f14_0 (F k : Nat) (x0 : List (List AV)) (x2 : Int) (x11 : Int) (xh0 : Nat → Int) (xh1 : List Int) (xh2 : List (List AV)) (xh3 : Nat → Int) : Res := aloop (c14 F) Try.f14 0 [] k (St.mk [AV.ro (Pay.rows 5 x0), .top, AV.int .u16 x2, .top, AV.ptr 0 0, .top, .top, AV.nil, AV.own 1, AV.own 2, AV.ptr 3 0, AV.int .i64 x11, .top, .top, .top, .top, .top, .top, .top, .top, .top, .top, .top, .top, .top, .top, .top, .top, .top, .top, .top, .top, .top, .top, .top, .top, .top, .top, .top, .top, .top, .top, .top, .top, .top, .top, .top, .top, .top, .top, .top, .top, .top, .top, .top, .top, .top, .top, .top, .top, .top, .top, .top, .top, .top, .top, .top, .top, .top, .top, .top, .top, .top, .top, .top, .top, .top, .top, .top, .top, .top, .top, .top, .top, .top, .top, .top, .top, .top, .top, .top, .top, .top, .top, .top, .top, .top, .top, .top, .top, .top, .top, .top, .top, .top, .top, .top, .top, .top, .top, .top, .top, .top, .top, .top, .top, .top, .top, .top, .top, .top, .top, .top, .top, .top, .top, .top, .top, .top, .top, .top, .top, .top, .top, .top, .top, .top, .top, .top, .top, .top, .top, .top, .top, .top, .top, .top, .top, .top, .top, .top, .top, .top, .top, .top, .top, .top, .top, .top, .top, .top, .top, .top, .top, .top, .top, .top, .top, .top, .top, .top] [AObj.var 52 (cells32 xh0), AObj.arr 3 (Pay.ints .i64 xh1), AObj.arr 26 (Pay.rows 5 xh2), AObj.var 52 (cells32 xh3)])
noncomputable def f14_0_1 (F k : Nat) (x0 : List (List AV)) (x2 : Int) (x7 : List UInt8) (x11 : Int) (xh0 : Nat → Int) (xh1 : List Int) (xh2 : List (List AV)) (xh3 : Nat → Int) : Res := aloop (c14 F) Try.f14 0 [] k (St.mk [AV.ro (Pay.rows 5 x0), .top, AV.int .u16 x2, .top, AV.ptr 0 0, .top, .top, AV.ro (Pay.bytes x7), AV.own 1, AV.own 2, AV.ptr 3 0, AV.int .i64 x11, .top, .top, .top, .top, .top, .top, .top, .top, .top, .top, .top, .top, .top, .top, .top, .top, .top, .top, .top, .top, .top, .top, .top, .top, .top, .top, .top, .top, .top, .top, .top, .top, .top, .top, .top, .top, .top, .top, .top, .top, .top, .top, .top, .top, .top, .top, .top, .top, .top, .top, .top, .top, .top, .top, .top, .top, .top, .top, .top, .top, .top, .top, .top, .top, .top, .top, .top, .top, .top, .top, .top, .top, .top, .top, .top, .top, .top, .top, .top, .top, .top, .top, .top, .top, .top, .top, .top, .top, .top, .top, .top, .top, .top, .top, .top, .top, .top, .top, .top, .top, .top, .top, .top, .top, .top, .top, .top, .top, .top, .top, .top, .top, .top, .top, .top, .top, .top, .top, .top, .top, .top, .top, .top, .top, .top, .top, .top, .top, .top, .top, .top, .top, .top, .top, .top, .top, .top, .top, .top, .top, .top, .top, .top, .top, .top, .top, .top, .top, .top, .top, .top, .top, .top, .top, .top, .top, .top, .top, .top] [AObj.var 52 (cells32 xh0), AObj.arr 3 (Pay.ints .i64 xh1), AObj.arr 26 (Pay.rows 5 xh2), AObj.var 52 (cells32 xh3)])
noncomputable def f14_2 (F k : Nat) (x17 : Int) (x18 : Int) (x19 : Int) (x20 : Int) (xh0 : Nat → Int) (xh1 : List Int) (xh2 : List (List AV)) : Res := aloop (c14 F) Try.f14 2 [] k (St.mk [.top, .top, .top, .top, AV.ptr 0 0, .top, .top, AV.nil, AV.own 1, AV.own 2, .top, .top, .top, .top, .top, .top, .top, AV.int .i64 x17, AV.int .i64 x18, AV.int .i64 x19, AV.int .i64 x20, .top, .top, .top, .top, .top, .top, .top, .top, .top, .top, .top, .top, .top, .top, .top, .top, .top, .top, .top, .top, .top, .top, .top, .top, .top, .top, .top, .top, .top, .top, .top, .top, .top, .top, .top, .top, .top, .top, .top, .top, .top, .top, .top, .top, .top, .top, .top, .top, .top, .top, .top, .top, .top, .top, .top, .top, .top, .top, .top, .top, .top, .top, .top, .top, .top, .top, .top, .top, .top, .top, .top, .top, .top, .top, .top, .top, .top, .top, .top, .top, .top, .top, .top, .top, .top, .top, .top, .top, .top, .top, .top, .top, .top, .top, .top, .top, .top, .top, .top, .top, .top, .top, .top, .top, .top, .top, .top, .top, .top, .top, .top, .top, .top, .top, .top, .top, .top, .top, .top, .top, .top, .top, .top, .top, .top, .top, .top, .top, .top, .top, .top, .top, .top, .top, .top, .top, .top, .top, .top, .top, .top, .top, .top, .top, .top, .top, .top, .top, .top, .top] [AObj.var 52 (cells32 xh0), AObj.arr 3 (Pay.ints .i64 xh1), AObj.arr 26 (Pay.rows 5 xh2)])
noncomputable def f14_2_1 (F k : Nat) (x7 : List UInt8) (x17 : Int) (x18 : Int) (x19 : Int) (x20 : Int) (xh0 : Nat → Int) (xh1 : List Int) (xh2 : List (List AV)) : Res := aloop (c14 F) Try.f14 2 [] k (St.mk [.top, .top, .top, .top, AV.ptr 0 0, .top, .top, AV.ro (Pay.bytes x7), AV.own 1, AV.own 2, .top, .top, .top, .top, .top, .top, .top, AV.int .i64 x17, AV.int .i64 x18, AV.int .i64 x19, AV.int .i64 x20, .top, .top, .top, .top, .top, .top, .top, .top, .top, .top, .top, .top, .top, .top, .top, .top, .top, .top, .top, .top, .top, .top, .top, .top, .top, .top, .top, .top, .top, .top, .top, .top, .top, .top, .top, .top, .top, .top, .top, .top, .top, .top, .top, .top, .top, .top, .top, .top, .top, .top, .top, .top, .top, .top, .top, .top, .top, .top, .top, .top, .top, .top, .top, .top, .top, .top, .top, .top, .top, .top, .top, .top, .top, .top, .top, .top, .top, .top, .top, .top, .top, .top, .top, .top, .top, .top, .top, .top, .top, .top, .top, .top, .top, .top, .top, .top, .top, .top, .top, .top, .top, .top, .top, .top, .top, .top, .top, .top, .top, .top, .top, .top, .top, .top, .top, .top, .top, .top, .top, .top, .top, .top, .top, .top, .top, .top, .top, .top, .top, .top, .top, .top, .top, .top, .top, .top, .top, .top, .top, .top, .top, .top, .top, .top, .top, .top, .top, .top, .top, .top] [AObj.var 52 (cells32 xh0), AObj.arr 3 (Pay.ints .i64 xh1), AObj.arr 26 (Pay.rows 5 xh2)])
theorem f14_eq (F : Nat) (x : List (List AV)) (f : Nat → Int) (cut : Int) : afun (c14 F) Try.f14 [AV.ro (Pay.rows 5 x), AV.arr (cells32 f), AV.int .u16 cut] [] =
 bif ltI 8 ↑x.length then
 .ret (AV.bool true) [AObj.var 52 (cells32 f)]
 else
 f14_0 F F x cut 0 f [] [] f := by kernel_rfl
theorem f14_0_eq (F k : Nat) (x0 : List (List AV)) (x2 : Int) (x11 : Int) (xh0 : Nat → Int) (xh1 : List Int) (xh2 : List (List AV)) (xh3 : Nat → Int) : f14_0 F (k + 1) x0 x2 x11 xh0 xh1 xh2 xh3 =
 bif ltI x11 ↑x0.length then
 bif inB x11 x0.length then
 bif isRo (Pay.rows 32 []) (nth (x0.getD x11.toNat []) 4) then
 bif ltI 10 ↑(rowsOf (nth (x0.getD x11.toNat []) 4)).length then
 .ret (AV.bool true) [AObj.var 52 (cells32 xh0), AObj.arr 3 (Pay.ints .i64 xh1), AObj.arr 26 (Pay.rows 5 xh2), AObj.var 52 (cells32 xh3)]
 else
 bif inB x11 x0.length then
 bif isInt .i64 (nth (R5 x0 x11) 0) then
 bif isInt .i64 (nth (R5 x0 x11) (0 + 1)) then
 bif isInt .i64 (nth (R5 x0 x11) (0 + 1 + 1)) then
 bif isInt .i64 (nth (R5 x0 x11) (0 + 1 + 1 + 1)) then
 bif isRo (Pay.rows 32 []) (nth (R5 x0 x11) (0 + 1 + 1 + 1 + 1)) then
 bif okH (List.take 32 (List.drop 0 (cells32 xh3))) && true then
 bif !rightE (intOf (nth (R5 x0 x11) 0)) (intOf (nth (R5 x0 x11) (0 + 1))) (intOf (nth (R5 x0 x11) (0 + 1 + 1))) (intOf (nth (R5 x0 x11) (0 + 1 + 1 + 1))) (rowsOf (nth (R5 x0 x11) (0 + 1 + 1 + 1 + 1))).length then
 bif inB x11 x0.length then
 bif isInt .i64 (nth (R5 x0 x11) 0) then
 bif isInt .i64 (nth (R5 x0 x11) (0 + 1)) then
 bif isInt .i64 (nth (R5 x0 x11) (0 + 1 + 1)) then
 bif isInt .i64 (nth (R5 x0 x11) (0 + 1 + 1 + 1)) then
 bif isRo (Pay.rows 32 []) (nth (R5 x0 x11) (0 + 1 + 1 + 1 + 1)) then
 bif !rightE (intOf (nth (R5 x0 x11) 0)) (intOf (nth (R5 x0 x11) (0 + 1))) (intOf (nth (R5 x0 x11) (0 + 1 + 1))) (intOf (nth (R5 x0 x11) (0 + 1 + 1 + 1))) (rowsOf (nth (R5 x0 x11) (0 + 1 + 1 + 1 + 1))).length then
 bif !eqAs (List.take 32 (List.drop 0 (setRange (List.replicate 32 (AV.int .u8 0)) 0 (List.take 32 (List.drop 0 (cells32 xh3)))))) (List.take 32 (List.drop 0 (cells32 xh3))) then
 .ret (AV.bool false) [AObj.var 52 (cells32 xh0), AObj.arr 3 (Pay.ints .i64 xh1), AObj.arr 26 (Pay.rows 5 xh2), AObj.var 52 (cells32 xh3), AObj.var 52 (cells32 xh3)]
 else
 f14_0 F k x0 x2 (IntKind.i64.wrap (x11 + 1)) xh0 xh1 xh2 xh3
 else
 bif inB x11 x0.length then
 bif isInt .i64 (nth (R5 x0 x11) 0) then
 bif isInt .i64 (nth (R5 x0 x11) (0 + 1)) then
 bif isInt .i64 (nth (R5 x0 x11) (0 + 1 + 1)) then
 bif isInt .i64 (nth (R5 x0 x11) (0 + 1 + 1 + 1)) then
 bif isRo (Pay.rows 32 []) (nth (R5 x0 x11) (0 + 1 + 1 + 1 + 1)) then
 bif okH (List.take 32 (List.drop 0 (cells32 xh3))) && true && (okS (rowsOf (nth (R5 x0 x11) (0 + 1 + 1 + 1 + 1))) && rightE (intOf (nth (R5 x0 x11) 0)) (intOf (nth (R5 x0 x11) (0 + 1))) (intOf (nth (R5 x0 x11) (0 + 1 + 1))) (intOf (nth (R5 x0 x11) (0 + 1 + 1 + 1))) (rowsOf (nth (R5 x0 x11) (0 + 1 + 1 + 1 + 1))).length) then
 .ret (AV.bool false) [AObj.var 52 (cells32 xh0), AObj.arr 3 (Pay.ints .i64 xh1), AObj.arr 26 (Pay.rows 5 xh2), AObj.var 52 (cells32 xh3), AObj.var 52 (cells32 xh3), AObj.var 52 (cells32 (nxF (List.take 32 (List.drop 0 (cells32 xh3))) (encE (intOf (nth (R5 x0 x11) 0)) (intOf (nth (R5 x0 x11) (0 + 1))) (intOf (nth (R5 x0 x11) (0 + 1 + 1))) (intOf (nth (R5 x0 x11) (0 + 1 + 1 + 1))) (rowsOf (nth (R5 x0 x11) (0 + 1 + 1 + 1 + 1))))))]
 else
 .stuck
 else
 .stuck
 else
 .stuck
 else
 .stuck
 else
 .stuck
 else
 .stuck
 else
 .stuck
 else
 .stuck
 else
 .stuck
 else
 .stuck
 else
 .stuck
 else
 .stuck
 else
 .stuck
 else
 bif okS (rowsOf (nth (R5 x0 x11) (0 + 1 + 1 + 1 + 1))) then
 bif inB x11 x0.length then
 bif isInt .i64 (nth (R5 x0 x11) 0) then
 bif isInt .i64 (nth (R5 x0 x11) (0 + 1)) then
 bif isInt .i64 (nth (R5 x0 x11) (0 + 1 + 1)) then
 bif isInt .i64 (nth (R5 x0 x11) (0 + 1 + 1 + 1)) then
 bif isRo (Pay.rows 32 []) (nth (R5 x0 x11) (0 + 1 + 1 + 1 + 1)) then
 bif !rightE (intOf (nth (R5 x0 x11) 0)) (intOf (nth (R5 x0 x11) (0 + 1))) (intOf (nth (R5 x0 x11) (0 + 1 + 1))) (intOf (nth (R5 x0 x11) (0 + 1 + 1 + 1))) (rowsOf (nth (R5 x0 x11) (0 + 1 + 1 + 1 + 1))).length then
 bif !eqI (↑(([] : List UInt8) ++ (encF ((encE (intOf (nth (R5 x0 x11) 0)) (intOf (nth (R5 x0 x11) (0 + 1))) (intOf (nth (R5 x0 x11) (0 + 1 + 1))) (intOf (nth (R5 x0 x11) (0 + 1 + 1 + 1))) (rowsOf (nth (R5 x0 x11) (0 + 1 + 1 + 1 + 1)))) ++ hdB (nxF (List.take 32 (List.drop 0 (cells32 xh3))) (encE (intOf (nth (R5 x0 x11) 0)) (intOf (nth (R5 x0 x11) (0 + 1))) (intOf (nth (R5 x0 x11) (0 + 1 + 1))) (intOf (nth (R5 x0 x11) (0 + 1 + 1 + 1))) (rowsOf (nth (R5 x0 x11) (0 + 1 + 1 + 1 + 1)))))))).length) 0 then
 .ret (AV.bool false) [AObj.var 52 (cells32 xh0), AObj.arr 3 (Pay.ints .i64 xh1), AObj.arr 26 (Pay.rows 5 xh2), AObj.var 52 (cells32 xh3), AObj.var 52 (cells32 (nxF (List.take 32 (List.drop 0 (cells32 xh3))) (encE (intOf (nth (R5 x0 x11) 0)) (intOf (nth (R5 x0 x11) (0 + 1))) (intOf (nth (R5 x0 x11) (0 + 1 + 1))) (intOf (nth (R5 x0 x11) (0 + 1 + 1 + 1))) (rowsOf (nth (R5 x0 x11) (0 + 1 + 1 + 1 + 1))))))]
 else
 bif !eqAs (List.take 32 (List.drop 0 (setRange (List.replicate 32 (AV.int .u8 0)) 0 (cells32 (nxF (List.take 32 (List.drop 0 (cells32 xh3))) (encE (intOf (nth (R5 x0 x11) 0)) (intOf (nth (R5 x0 x11) (0 + 1))) (intOf (nth (R5 x0 x11) (0 + 1 + 1))) (intOf (nth (R5 x0 x11) (0 + 1 + 1 + 1))) (rowsOf (nth (R5 x0 x11) (0 + 1 + 1 + 1 + 1))))))))) (List.take 32 (List.drop 0 (cells32 xh3))) then
 .ret (AV.bool false) [AObj.var 52 (cells32 xh0), AObj.arr 3 (Pay.ints .i64 xh1), AObj.arr 26 (Pay.rows 5 xh2), AObj.var 52 (cells32 xh3), AObj.var 52 (cells32 (nxF (List.take 32 (List.drop 0 (cells32 xh3))) (encE (intOf (nth (R5 x0 x11) 0)) (intOf (nth (R5 x0 x11) (0 + 1))) (intOf (nth (R5 x0 x11) (0 + 1 + 1))) (intOf (nth (R5 x0 x11) (0 + 1 + 1 + 1))) (rowsOf (nth (R5 x0 x11) (0 + 1 + 1 + 1 + 1))))))]
 else
 .ret (AV.bool false) [AObj.var 52 (cells32 xh0), AObj.arr 3 (Pay.ints .i64 xh1), AObj.arr 26 (Pay.rows 5 xh2), AObj.var 52 (cells32 xh3), AObj.var 52 (cells32 (nxF (List.take 32 (List.drop 0 (cells32 xh3))) (encE (intOf (nth (R5 x0 x11) 0)) (intOf (nth (R5 x0 x11) (0 + 1))) (intOf (nth (R5 x0 x11) (0 + 1 + 1))) (intOf (nth (R5 x0 x11) (0 + 1 + 1 + 1))) (rowsOf (nth (R5 x0 x11) (0 + 1 + 1 + 1 + 1))))))]
 else
 bif inB x11 x0.length then
 bif isInt .i64 (nth (R5 x0 x11) 0) then
 bif isInt .i64 (nth (R5 x0 x11) (0 + 1)) then
 bif isInt .i64 (nth (R5 x0 x11) (0 + 1 + 1)) then
 bif isInt .i64 (nth (R5 x0 x11) (0 + 1 + 1 + 1)) then
 bif isRo (Pay.rows 32 []) (nth (R5 x0 x11) (0 + 1 + 1 + 1 + 1)) then
 bif okH (List.take 32 (List.drop 0 (cells32 xh3))) && true && (okS (rowsOf (nth (R5 x0 x11) (0 + 1 + 1 + 1 + 1))) && rightE (intOf (nth (R5 x0 x11) 0)) (intOf (nth (R5 x0 x11) (0 + 1))) (intOf (nth (R5 x0 x11) (0 + 1 + 1))) (intOf (nth (R5 x0 x11) (0 + 1 + 1 + 1))) (rowsOf (nth (R5 x0 x11) (0 + 1 + 1 + 1 + 1))).length) then
 bif !eqS ([] ++ (encF ((encE (intOf (nth (R5 x0 x11) 0)) (intOf (nth (R5 x0 x11) (0 + 1))) (intOf (nth (R5 x0 x11) (0 + 1 + 1))) (intOf (nth (R5 x0 x11) (0 + 1 + 1 + 1))) (rowsOf (nth (R5 x0 x11) (0 + 1 + 1 + 1 + 1)))) ++ hdB (nxF (List.take 32 (List.drop 0 (cells32 xh3))) (encE (intOf (nth (R5 x0 x11) 0)) (intOf (nth (R5 x0 x11) (0 + 1))) (intOf (nth (R5 x0 x11) (0 + 1 + 1))) (intOf (nth (R5 x0 x11) (0 + 1 + 1 + 1))) (rowsOf (nth (R5 x0 x11) (0 + 1 + 1 + 1 + 1)))))))) ([] ++ (encF ((encE (intOf (nth (R5 x0 x11) 0)) (intOf (nth (R5 x0 x11) (0 + 1))) (intOf (nth (R5 x0 x11) (0 + 1 + 1))) (intOf (nth (R5 x0 x11) (0 + 1 + 1 + 1))) (rowsOf (nth (R5 x0 x11) (0 + 1 + 1 + 1 + 1)))) ++ hdB (nxF (List.take 32 (List.drop 0 (cells32 xh3))) (encE (intOf (nth (R5 x0 x11) 0)) (intOf (nth (R5 x0 x11) (0 + 1))) (intOf (nth (R5 x0 x11) (0 + 1 + 1))) (intOf (nth (R5 x0 x11) (0 + 1 + 1 + 1))) (rowsOf (nth (R5 x0 x11) (0 + 1 + 1 + 1 + 1)))))))) then
 .ret (AV.bool false) [AObj.var 52 (cells32 xh0), AObj.arr 3 (Pay.ints .i64 xh1), AObj.arr 26 (Pay.rows 5 xh2), AObj.var 52 (cells32 xh3), AObj.var 52 (cells32 (nxF (List.take 32 (List.drop 0 (cells32 xh3))) (encE (intOf (nth (R5 x0 x11) 0)) (intOf (nth (R5 x0 x11) (0 + 1))) (intOf (nth (R5 x0 x11) (0 + 1 + 1))) (intOf (nth (R5 x0 x11) (0 + 1 + 1 + 1))) (rowsOf (nth (R5 x0 x11) (0 + 1 + 1 + 1 + 1)))))), AObj.var 52 (cells32 (nxF (List.take 32 (List.drop 0 (cells32 xh3))) (encE (intOf (nth (R5 x0 x11) 0)) (intOf (nth (R5 x0 x11) (0 + 1))) (intOf (nth (R5 x0 x11) (0 + 1 + 1))) (intOf (nth (R5 x0 x11) (0 + 1 + 1 + 1))) (rowsOf (nth (R5 x0 x11) (0 + 1 + 1 + 1 + 1))))))]
 else
 bif !eqAs (List.take 32 (List.drop 0 (setRange (List.replicate 32 (AV.int .u8 0)) 0 (cells32 (nxF (List.take 32 (List.drop 0 (cells32 xh3))) (encE (intOf (nth (R5 x0 x11) 0)) (intOf (nth (R5 x0 x11) (0 + 1))) (intOf (nth (R5 x0 x11) (0 + 1 + 1))) (intOf (nth (R5 x0 x11) (0 + 1 + 1 + 1))) (rowsOf (nth (R5 x0 x11) (0 + 1 + 1 + 1 + 1))))))))) (List.take 32 (List.drop 0 (setRange (List.replicate 32 (AV.int .u8 0)) 0 (cells32 (nxF (List.take 32 (List.drop 0 (cells32 xh3))) (encE (intOf (nth (R5 x0 x11) 0)) (intOf (nth (R5 x0 x11) (0 + 1))) (intOf (nth (R5 x0 x11) (0 + 1 + 1))) (intOf (nth (R5 x0 x11) (0 + 1 + 1 + 1))) (rowsOf (nth (R5 x0 x11) (0 + 1 + 1 + 1 + 1))))))))) then
 .ret (AV.bool false) [AObj.var 52 (cells32 xh0), AObj.arr 3 (Pay.ints .i64 xh1), AObj.arr 26 (Pay.rows 5 xh2), AObj.var 52 (cells32 xh3), AObj.var 52 (cells32 (nxF (List.take 32 (List.drop 0 (cells32 xh3))) (encE (intOf (nth (R5 x0 x11) 0)) (intOf (nth (R5 x0 x11) (0 + 1))) (intOf (nth (R5 x0 x11) (0 + 1 + 1))) (intOf (nth (R5 x0 x11) (0 + 1 + 1 + 1))) (rowsOf (nth (R5 x0 x11) (0 + 1 + 1 + 1 + 1)))))), AObj.var 52 (cells32 (nxF (List.take 32 (List.drop 0 (cells32 xh3))) (encE (intOf (nth (R5 x0 x11) 0)) (intOf (nth (R5 x0 x11) (0 + 1))) (intOf (nth (R5 x0 x11) (0 + 1 + 1))) (intOf (nth (R5 x0 x11) (0 + 1 + 1 + 1))) (rowsOf (nth (R5 x0 x11) (0 + 1 + 1 + 1 + 1))))))]
 else
 bif appFits ty3 (Pay.ints .i64 (xh1 ++ [(((([] : List UInt8) ++ (encF ((encE (intOf (nth (R5 x0 x11) 0)) (intOf (nth (R5 x0 x11) (0 + 1))) (intOf (nth (R5 x0 x11) (0 + 1 + 1))) (intOf (nth (R5 x0 x11) (0 + 1 + 1 + 1))) (rowsOf (nth (R5 x0 x11) (0 + 1 + 1 + 1 + 1)))) ++ hdB (nxF (List.take 32 (List.drop 0 (cells32 xh3))) (encE (intOf (nth (R5 x0 x11) 0)) (intOf (nth (R5 x0 x11) (0 + 1))) (intOf (nth (R5 x0 x11) (0 + 1 + 1))) (intOf (nth (R5 x0 x11) (0 + 1 + 1 + 1))) (rowsOf (nth (R5 x0 x11) (0 + 1 + 1 + 1 + 1)))))))).length : Nat) : Int)])) then
 bif inB x11 x0.length then
 bif isInt .i64 (nth (R5 x0 x11) 0) then
 bif isInt .i64 (nth (R5 x0 x11) (0 + 1)) then
 bif isInt .i64 (nth (R5 x0 x11) (0 + 1 + 1)) then
 bif isInt .i64 (nth (R5 x0 x11) (0 + 1 + 1 + 1)) then
 bif isRo (Pay.rows 32 []) (nth (R5 x0 x11) (0 + 1 + 1 + 1 + 1)) then
 bif appFits ty26 (Pay.rows 5 (xh2 ++ [setRange [AV.int .i64 0, AV.int .i64 0, AV.int .i64 0, AV.int .i64 0, AV.ro (Pay.rows 32 [])] 0 [AV.int .i64 (intOf (nth (R5 x0 x11) 0)), AV.int .i64 (intOf (nth (R5 x0 x11) (0 + 1))), AV.int .i64 (intOf (nth (R5 x0 x11) (0 + 1 + 1))), AV.int .i64 (intOf (nth (R5 x0 x11) (0 + 1 + 1 + 1))), AV.ro (Pay.rows 32 (rowsOf (nth (R5 x0 x11) (0 + 1 + 1 + 1 + 1))))]])) then
 f14_0_1 F k x0 x2 ([] ++ (encF ((encE (intOf (nth (R5 x0 x11) 0)) (intOf (nth (R5 x0 x11) (0 + 1))) (intOf (nth (R5 x0 x11) (0 + 1 + 1))) (intOf (nth (R5 x0 x11) (0 + 1 + 1 + 1))) (rowsOf (nth (R5 x0 x11) (0 + 1 + 1 + 1 + 1)))) ++ hdB (nxF (List.take 32 (List.drop 0 (cells32 xh3))) (encE (intOf (nth (R5 x0 x11) 0)) (intOf (nth (R5 x0 x11) (0 + 1))) (intOf (nth (R5 x0 x11) (0 + 1 + 1))) (intOf (nth (R5 x0 x11) (0 + 1 + 1 + 1))) (rowsOf (nth (R5 x0 x11) (0 + 1 + 1 + 1 + 1)))))))) (IntKind.i64.wrap (x11 + 1)) xh0 (xh1 ++ [(((([] : List UInt8) ++ (encF ((encE (intOf (nth (R5 x0 x11) 0)) (intOf (nth (R5 x0 x11) (0 + 1))) (intOf (nth (R5 x0 x11) (0 + 1 + 1))) (intOf (nth (R5 x0 x11) (0 + 1 + 1 + 1))) (rowsOf (nth (R5 x0 x11) (0 + 1 + 1 + 1 + 1)))) ++ hdB (nxF (List.take 32 (List.drop 0 (cells32 xh3))) (encE (intOf (nth (R5 x0 x11) 0)) (intOf (nth (R5 x0 x11) (0 + 1))) (intOf (nth (R5 x0 x11) (0 + 1 + 1))) (intOf (nth (R5 x0 x11) (0 + 1 + 1 + 1))) (rowsOf (nth (R5 x0 x11) (0 + 1 + 1 + 1 + 1)))))))).length : Nat) : Int)]) (xh2 ++ [setRange [AV.int .i64 0, AV.int .i64 0, AV.int .i64 0, AV.int .i64 0, AV.ro (Pay.rows 32 [])] 0 [AV.int .i64 (intOf (nth (R5 x0 x11) 0)), AV.int .i64 (intOf (nth (R5 x0 x11) (0 + 1))), AV.int .i64 (intOf (nth (R5 x0 x11) (0 + 1 + 1))), AV.int .i64 (intOf (nth (R5 x0 x11) (0 + 1 + 1 + 1))), AV.ro (Pay.rows 32 (rowsOf (nth (R5 x0 x11) (0 + 1 + 1 + 1 + 1))))]]) (nxF (List.take 32 (List.drop 0 (cells32 xh3))) (encE (intOf (nth (R5 x0 x11) 0)) (intOf (nth (R5 x0 x11) (0 + 1))) (intOf (nth (R5 x0 x11) (0 + 1 + 1))) (intOf (nth (R5 x0 x11) (0 + 1 + 1 + 1))) (rowsOf (nth (R5 x0 x11) (0 + 1 + 1 + 1 + 1)))))
 else
 .stuck
 else
 .stuck
 else
 .stuck
 else
 .stuck
 else
 .stuck
 else
 .stuck
 else
 .stuck
 else
 .stuck
 else
 .stuck
 else
 .stuck
 else
 .stuck
 else
 .stuck
 else
 .stuck
 else
 .stuck
 else
 .stuck
 else
 .stuck
 else
 .stuck
 else
 .stuck
 else
 .stuck
 else
 .stuck
 else
 .stuck
 else
 .stuck
 else
 .stuck
 else
 .stuck
 else
 .stuck
 else
 .stuck
 else
 .stuck
 else
 .stuck
 else
 .stuck
 else
 .stuck
 else
 .stuck
 else
 f14_2 F F (irem (IntKind.i64.wrap x2) (IntKind.i64.wrap (↑([] : List UInt8).length + 1))) 0 0 0 xh0 xh1 xh2 := by kernel_rfl
theorem f14_0_1_eq (F k : Nat) (x0 : List (List AV)) (x2 : Int) (x7 : List UInt8) (x11 : Int) (xh0 : Nat → Int) (xh1 : List Int) (xh2 : List (List AV)) (xh3 : Nat → Int) : f14_0_1 F (k + 1) x0 x2 x7 x11 xh0 xh1 xh2 xh3 =
 bif ltI x11 ↑x0.length then
 bif inB x11 x0.length then
 bif isRo (Pay.rows 32 []) (nth (x0.getD x11.toNat []) 4) then
 bif ltI 10 ↑(rowsOf (nth (x0.getD x11.toNat []) 4)).length then
 .ret (AV.bool true) [AObj.var 52 (cells32 xh0), AObj.arr 3 (Pay.ints .i64 xh1), AObj.arr 26 (Pay.rows 5 xh2), AObj.var 52 (cells32 xh3)]
 else
 bif inB x11 x0.length then
 bif isInt .i64 (nth (R5 x0 x11) 0) then
 bif isInt .i64 (nth (R5 x0 x11) (0 + 1)) then
 bif isInt .i64 (nth (R5 x0 x11) (0 + 1 + 1)) then
 bif isInt .i64 (nth (R5 x0 x11) (0 + 1 + 1 + 1)) then
 bif isRo (Pay.rows 32 []) (nth (R5 x0 x11) (0 + 1 + 1 + 1 + 1)) then
 bif okH (List.take 32 (List.drop 0 (cells32 xh3))) && x7.length.ble 1000000 then
 bif !rightE (intOf (nth (R5 x0 x11) 0)) (intOf (nth (R5 x0 x11) (0 + 1))) (intOf (nth (R5 x0 x11) (0 + 1 + 1))) (intOf (nth (R5 x0 x11) (0 + 1 + 1 + 1))) (rowsOf (nth (R5 x0 x11) (0 + 1 + 1 + 1 + 1))).length then
 bif inB x11 x0.length then
 bif isInt .i64 (nth (R5 x0 x11) 0) then
 bif isInt .i64 (nth (R5 x0 x11) (0 + 1)) then
 bif isInt .i64 (nth (R5 x0 x11) (0 + 1 + 1)) then
 bif isInt .i64 (nth (R5 x0 x11) (0 + 1 + 1 + 1)) then
 bif isRo (Pay.rows 32 []) (nth (R5 x0 x11) (0 + 1 + 1 + 1 + 1)) then
 bif !rightE (intOf (nth (R5 x0 x11) 0)) (intOf (nth (R5 x0 x11) (0 + 1))) (intOf (nth (R5 x0 x11) (0 + 1 + 1))) (intOf (nth (R5 x0 x11) (0 + 1 + 1 + 1))) (rowsOf (nth (R5 x0 x11) (0 + 1 + 1 + 1 + 1))).length then
 bif !eqAs (List.take 32 (List.drop 0 (setRange (List.replicate 32 (AV.int .u8 0)) 0 (List.take 32 (List.drop 0 (cells32 xh3)))))) (List.take 32 (List.drop 0 (cells32 xh3))) then
 .ret (AV.bool false) [AObj.var 52 (cells32 xh0), AObj.arr 3 (Pay.ints .i64 xh1), AObj.arr 26 (Pay.rows 5 xh2), AObj.var 52 (cells32 xh3), AObj.var 52 (cells32 xh3)]
 else
 f14_0_1 F k x0 x2 x7 (IntKind.i64.wrap (x11 + 1)) xh0 xh1 xh2 xh3
 else
 bif inB x11 x0.length then
 bif isInt .i64 (nth (R5 x0 x11) 0) then
 bif isInt .i64 (nth (R5 x0 x11) (0 + 1)) then
 bif isInt .i64 (nth (R5 x0 x11) (0 + 1 + 1)) then
 bif isInt .i64 (nth (R5 x0 x11) (0 + 1 + 1 + 1)) then
 bif isRo (Pay.rows 32 []) (nth (R5 x0 x11) (0 + 1 + 1 + 1 + 1)) then
 bif okH (List.take 32 (List.drop 0 (cells32 xh3))) && x7.length.ble 1000000 && (okS (rowsOf (nth (R5 x0 x11) (0 + 1 + 1 + 1 + 1))) && rightE (intOf (nth (R5 x0 x11) 0)) (intOf (nth (R5 x0 x11) (0 + 1))) (intOf (nth (R5 x0 x11) (0 + 1 + 1))) (intOf (nth (R5 x0 x11) (0 + 1 + 1 + 1))) (rowsOf (nth (R5 x0 x11) (0 + 1 + 1 + 1 + 1))).length) then
 .ret (AV.bool false) [AObj.var 52 (cells32 xh0), AObj.arr 3 (Pay.ints .i64 xh1), AObj.arr 26 (Pay.rows 5 xh2), AObj.var 52 (cells32 xh3), AObj.var 52 (cells32 xh3), AObj.var 52 (cells32 (nxF (List.take 32 (List.drop 0 (cells32 xh3))) (encE (intOf (nth (R5 x0 x11) 0)) (intOf (nth (R5 x0 x11) (0 + 1))) (intOf (nth (R5 x0 x11) (0 + 1 + 1))) (intOf (nth (R5 x0 x11) (0 + 1 + 1 + 1))) (rowsOf (nth (R5 x0 x11) (0 + 1 + 1 + 1 + 1))))))]
 else
 .stuck
 else
 .stuck
 else
 .stuck
 else
 .stuck
 else
 .stuck
 else
 .stuck
 else
 .stuck
 else
 .stuck
 else
 .stuck
 else
 .stuck
 else
 .stuck
 else
 .stuck
 else
 .stuck
 else
 bif okS (rowsOf (nth (R5 x0 x11) (0 + 1 + 1 + 1 + 1))) then
 bif inB x11 x0.length then
 bif isInt .i64 (nth (R5 x0 x11) 0) then
 bif isInt .i64 (nth (R5 x0 x11) (0 + 1)) then
 bif isInt .i64 (nth (R5 x0 x11) (0 + 1 + 1)) then
 bif isInt .i64 (nth (R5 x0 x11) (0 + 1 + 1 + 1)) then
 bif isRo (Pay.rows 32 []) (nth (R5 x0 x11) (0 + 1 + 1 + 1 + 1)) then
 bif !rightE (intOf (nth (R5 x0 x11) 0)) (intOf (nth (R5 x0 x11) (0 + 1))) (intOf (nth (R5 x0 x11) (0 + 1 + 1))) (intOf (nth (R5 x0 x11) (0 + 1 + 1 + 1))) (rowsOf (nth (R5 x0 x11) (0 + 1 + 1 + 1 + 1))).length then
 bif !eqI (↑(x7 ++ (encF ((encE (intOf (nth (R5 x0 x11) 0)) (intOf (nth (R5 x0 x11) (0 + 1))) (intOf (nth (R5 x0 x11) (0 + 1 + 1))) (intOf (nth (R5 x0 x11) (0 + 1 + 1 + 1))) (rowsOf (nth (R5 x0 x11) (0 + 1 + 1 + 1 + 1)))) ++ hdB (nxF (List.take 32 (List.drop 0 (cells32 xh3))) (encE (intOf (nth (R5 x0 x11) 0)) (intOf (nth (R5 x0 x11) (0 + 1))) (intOf (nth (R5 x0 x11) (0 + 1 + 1))) (intOf (nth (R5 x0 x11) (0 + 1 + 1 + 1))) (rowsOf (nth (R5 x0 x11) (0 + 1 + 1 + 1 + 1)))))))).length) 0 then
 .ret (AV.bool false) [AObj.var 52 (cells32 xh0), AObj.arr 3 (Pay.ints .i64 xh1), AObj.arr 26 (Pay.rows 5 xh2), AObj.var 52 (cells32 xh3), AObj.var 52 (cells32 (nxF (List.take 32 (List.drop 0 (cells32 xh3))) (encE (intOf (nth (R5 x0 x11) 0)) (intOf (nth (R5 x0 x11) (0 + 1))) (intOf (nth (R5 x0 x11) (0 + 1 + 1))) (intOf (nth (R5 x0 x11) (0 + 1 + 1 + 1))) (rowsOf (nth (R5 x0 x11) (0 + 1 + 1 + 1 + 1))))))]
 else
 bif !eqAs (List.take 32 (List.drop 0 (setRange (List.replicate 32 (AV.int .u8 0)) 0 (cells32 (nxF (List.take 32 (List.drop 0 (cells32 xh3))) (encE (intOf (nth (R5 x0 x11) 0)) (intOf (nth (R5 x0 x11) (0 + 1))) (intOf (nth (R5 x0 x11) (0 + 1 + 1))) (intOf (nth (R5 x0 x11) (0 + 1 + 1 + 1))) (rowsOf (nth (R5 x0 x11) (0 + 1 + 1 + 1 + 1))))))))) (List.take 32 (List.drop 0 (cells32 xh3))) then
 .ret (AV.bool false) [AObj.var 52 (cells32 xh0), AObj.arr 3 (Pay.ints .i64 xh1), AObj.arr 26 (Pay.rows 5 xh2), AObj.var 52 (cells32 xh3), AObj.var 52 (cells32 (nxF (List.take 32 (List.drop 0 (cells32 xh3))) (encE (intOf (nth (R5 x0 x11) 0)) (intOf (nth (R5 x0 x11) (0 + 1))) (intOf (nth (R5 x0 x11) (0 + 1 + 1))) (intOf (nth (R5 x0 x11) (0 + 1 + 1 + 1))) (rowsOf (nth (R5 x0 x11) (0 + 1 + 1 + 1 + 1))))))]
 else
 .ret (AV.bool false) [AObj.var 52 (cells32 xh0), AObj.arr 3 (Pay.ints .i64 xh1), AObj.arr 26 (Pay.rows 5 xh2), AObj.var 52 (cells32 xh3), AObj.var 52 (cells32 (nxF (List.take 32 (List.drop 0 (cells32 xh3))) (encE (intOf (nth (R5 x0 x11) 0)) (intOf (nth (R5 x0 x11) (0 + 1))) (intOf (nth (R5 x0 x11) (0 + 1 + 1))) (intOf (nth (R5 x0 x11) (0 + 1 + 1 + 1))) (rowsOf (nth (R5 x0 x11) (0 + 1 + 1 + 1 + 1))))))]
 else
 bif inB x11 x0.length then
 bif isInt .i64 (nth (R5 x0 x11) 0) then
 bif isInt .i64 (nth (R5 x0 x11) (0 + 1)) then
 bif isInt .i64 (nth (R5 x0 x11) (0 + 1 + 1)) then
 bif isInt .i64 (nth (R5 x0 x11) (0 + 1 + 1 + 1)) then
 bif isRo (Pay.rows 32 []) (nth (R5 x0 x11) (0 + 1 + 1 + 1 + 1)) then
 bif okH (List.take 32 (List.drop 0 (cells32 xh3))) && x7.length.ble 1000000 && (okS (rowsOf (nth (R5 x0 x11) (0 + 1 + 1 + 1 + 1))) && rightE (intOf (nth (R5 x0 x11) 0)) (intOf (nth (R5 x0 x11) (0 + 1))) (intOf (nth (R5 x0 x11) (0 + 1 + 1))) (intOf (nth (R5 x0 x11) (0 + 1 + 1 + 1))) (rowsOf (nth (R5 x0 x11) (0 + 1 + 1 + 1 + 1))).length) then
 bif !eqS (x7 ++ (encF ((encE (intOf (nth (R5 x0 x11) 0)) (intOf (nth (R5 x0 x11) (0 + 1))) (intOf (nth (R5 x0 x11) (0 + 1 + 1))) (intOf (nth (R5 x0 x11) (0 + 1 + 1 + 1))) (rowsOf (nth (R5 x0 x11) (0 + 1 + 1 + 1 + 1)))) ++ hdB (nxF (List.take 32 (List.drop 0 (cells32 xh3))) (encE (intOf (nth (R5 x0 x11) 0)) (intOf (nth (R5 x0 x11) (0 + 1))) (intOf (nth (R5 x0 x11) (0 + 1 + 1))) (intOf (nth (R5 x0 x11) (0 + 1 + 1 + 1))) (rowsOf (nth (R5 x0 x11) (0 + 1 + 1 + 1 + 1)))))))) (x7 ++ (encF ((encE (intOf (nth (R5 x0 x11) 0)) (intOf (nth (R5 x0 x11) (0 + 1))) (intOf (nth (R5 x0 x11) (0 + 1 + 1))) (intOf (nth (R5 x0 x11) (0 + 1 + 1 + 1))) (rowsOf (nth (R5 x0 x11) (0 + 1 + 1 + 1 + 1)))) ++ hdB (nxF (List.take 32 (List.drop 0 (cells32 xh3))) (encE (intOf (nth (R5 x0 x11) 0)) (intOf (nth (R5 x0 x11) (0 + 1))) (intOf (nth (R5 x0 x11) (0 + 1 + 1))) (intOf (nth (R5 x0 x11) (0 + 1 + 1 + 1))) (rowsOf (nth (R5 x0 x11) (0 + 1 + 1 + 1 + 1)))))))) then
 .ret (AV.bool false) [AObj.var 52 (cells32 xh0), AObj.arr 3 (Pay.ints .i64 xh1), AObj.arr 26 (Pay.rows 5 xh2), AObj.var 52 (cells32 xh3), AObj.var 52 (cells32 (nxF (List.take 32 (List.drop 0 (cells32 xh3))) (encE (intOf (nth (R5 x0 x11) 0)) (intOf (nth (R5 x0 x11) (0 + 1))) (intOf (nth (R5 x0 x11) (0 + 1 + 1))) (intOf (nth (R5 x0 x11) (0 + 1 + 1 + 1))) (rowsOf (nth (R5 x0 x11) (0 + 1 + 1 + 1 + 1)))))), AObj.var 52 (cells32 (nxF (List.take 32 (List.drop 0 (cells32 xh3))) (encE (intOf (nth (R5 x0 x11) 0)) (intOf (nth (R5 x0 x11) (0 + 1))) (intOf (nth (R5 x0 x11) (0 + 1 + 1))) (intOf (nth (R5 x0 x11) (0 + 1 + 1 + 1))) (rowsOf (nth (R5 x0 x11) (0 + 1 + 1 + 1 + 1))))))]
 else
 bif !eqAs (List.take 32 (List.drop 0 (setRange (List.replicate 32 (AV.int .u8 0)) 0 (cells32 (nxF (List.take 32 (List.drop 0 (cells32 xh3))) (encE (intOf (nth (R5 x0 x11) 0)) (intOf (nth (R5 x0 x11) (0 + 1))) (intOf (nth (R5 x0 x11) (0 + 1 + 1))) (intOf (nth (R5 x0 x11) (0 + 1 + 1 + 1))) (rowsOf (nth (R5 x0 x11) (0 + 1 + 1 + 1 + 1))))))))) (List.take 32 (List.drop 0 (setRange (List.replicate 32 (AV.int .u8 0)) 0 (cells32 (nxF (List.take 32 (List.drop 0 (cells32 xh3))) (encE (intOf (nth (R5 x0 x11) 0)) (intOf (nth (R5 x0 x11) (0 + 1))) (intOf (nth (R5 x0 x11) (0 + 1 + 1))) (intOf (nth (R5 x0 x11) (0 + 1 + 1 + 1))) (rowsOf (nth (R5 x0 x11) (0 + 1 + 1 + 1 + 1))))))))) then
 .ret (AV.bool false) [AObj.var 52 (cells32 xh0), AObj.arr 3 (Pay.ints .i64 xh1), AObj.arr 26 (Pay.rows 5 xh2), AObj.var 52 (cells32 xh3), AObj.var 52 (cells32 (nxF (List.take 32 (List.drop 0 (cells32 xh3))) (encE (intOf (nth (R5 x0 x11) 0)) (intOf (nth (R5 x0 x11) (0 + 1))) (intOf (nth (R5 x0 x11) (0 + 1 + 1))) (intOf (nth (R5 x0 x11) (0 + 1 + 1 + 1))) (rowsOf (nth (R5 x0 x11) (0 + 1 + 1 + 1 + 1)))))), AObj.var 52 (cells32 (nxF (List.take 32 (List.drop 0 (cells32 xh3))) (encE (intOf (nth (R5 x0 x11) 0)) (intOf (nth (R5 x0 x11) (0 + 1))) (intOf (nth (R5 x0 x11) (0 + 1 + 1))) (intOf (nth (R5 x0 x11) (0 + 1 + 1 + 1))) (rowsOf (nth (R5 x0 x11) (0 + 1 + 1 + 1 + 1))))))]
 else
 bif appFits ty3 (Pay.ints .i64 (xh1 ++ [(((x7 ++ (encF ((encE (intOf (nth (R5 x0 x11) 0)) (intOf (nth (R5 x0 x11) (0 + 1))) (intOf (nth (R5 x0 x11) (0 + 1 + 1))) (intOf (nth (R5 x0 x11) (0 + 1 + 1 + 1))) (rowsOf (nth (R5 x0 x11) (0 + 1 + 1 + 1 + 1)))) ++ hdB (nxF (List.take 32 (List.drop 0 (cells32 xh3))) (encE (intOf (nth (R5 x0 x11) 0)) (intOf (nth (R5 x0 x11) (0 + 1))) (intOf (nth (R5 x0 x11) (0 + 1 + 1))) (intOf (nth (R5 x0 x11) (0 + 1 + 1 + 1))) (rowsOf (nth (R5 x0 x11) (0 + 1 + 1 + 1 + 1)))))))).length : Nat) : Int)])) then
 bif inB x11 x0.length then
 bif isInt .i64 (nth (R5 x0 x11) 0) then
 bif isInt .i64 (nth (R5 x0 x11) (0 + 1)) then
 bif isInt .i64 (nth (R5 x0 x11) (0 + 1 + 1)) then
 bif isInt .i64 (nth (R5 x0 x11) (0 + 1 + 1 + 1)) then
 bif isRo (Pay.rows 32 []) (nth (R5 x0 x11) (0 + 1 + 1 + 1 + 1)) then
 bif appFits ty26 (Pay.rows 5 (xh2 ++ [setRange [AV.int .i64 0, AV.int .i64 0, AV.int .i64 0, AV.int .i64 0, AV.ro (Pay.rows 32 [])] 0 [AV.int .i64 (intOf (nth (R5 x0 x11) 0)), AV.int .i64 (intOf (nth (R5 x0 x11) (0 + 1))), AV.int .i64 (intOf (nth (R5 x0 x11) (0 + 1 + 1))), AV.int .i64 (intOf (nth (R5 x0 x11) (0 + 1 + 1 + 1))), AV.ro (Pay.rows 32 (rowsOf (nth (R5 x0 x11) (0 + 1 + 1 + 1 + 1))))]])) then
 f14_0_1 F k x0 x2 (x7 ++ (encF ((encE (intOf (nth (R5 x0 x11) 0)) (intOf (nth (R5 x0 x11) (0 + 1))) (intOf (nth (R5 x0 x11) (0 + 1 + 1))) (intOf (nth (R5 x0 x11) (0 + 1 + 1 + 1))) (rowsOf (nth (R5 x0 x11) (0 + 1 + 1 + 1 + 1)))) ++ hdB (nxF (List.take 32 (List.drop 0 (cells32 xh3))) (encE (intOf (nth (R5 x0 x11) 0)) (intOf (nth (R5 x0 x11) (0 + 1))) (intOf (nth (R5 x0 x11) (0 + 1 + 1))) (intOf (nth (R5 x0 x11) (0 + 1 + 1 + 1))) (rowsOf (nth (R5 x0 x11) (0 + 1 + 1 + 1 + 1)))))))) (IntKind.i64.wrap (x11 + 1)) xh0 (xh1 ++ [(((x7 ++ (encF ((encE (intOf (nth (R5 x0 x11) 0)) (intOf (nth (R5 x0 x11) (0 + 1))) (intOf (nth (R5 x0 x11) (0 + 1 + 1))) (intOf (nth (R5 x0 x11) (0 + 1 + 1 + 1))) (rowsOf (nth (R5 x0 x11) (0 + 1 + 1 + 1 + 1)))) ++ hdB (nxF (List.take 32 (List.drop 0 (cells32 xh3))) (encE (intOf (nth (R5 x0 x11) 0)) (intOf (nth (R5 x0 x11) (0 + 1))) (intOf (nth (R5 x0 x11) (0 + 1 + 1))) (intOf (nth (R5 x0 x11) (0 + 1 + 1 + 1))) (rowsOf (nth (R5 x0 x11) (0 + 1 + 1 + 1 + 1)))))))).length : Nat) : Int)]) (xh2 ++ [setRange [AV.int .i64 0, AV.int .i64 0, AV.int .i64 0, AV.int .i64 0, AV.ro (Pay.rows 32 [])] 0 [AV.int .i64 (intOf (nth (R5 x0 x11) 0)), AV.int .i64 (intOf (nth (R5 x0 x11) (0 + 1))), AV.int .i64 (intOf (nth (R5 x0 x11) (0 + 1 + 1))), AV.int .i64 (intOf (nth (R5 x0 x11) (0 + 1 + 1 + 1))), AV.ro (Pay.rows 32 (rowsOf (nth (R5 x0 x11) (0 + 1 + 1 + 1 + 1))))]]) (nxF (List.take 32 (List.drop 0 (cells32 xh3))) (encE (intOf (nth (R5 x0 x11) 0)) (intOf (nth (R5 x0 x11) (0 + 1))) (intOf (nth (R5 x0 x11) (0 + 1 + 1))) (intOf (nth (R5 x0 x11) (0 + 1 + 1 + 1))) (rowsOf (nth (R5 x0 x11) (0 + 1 + 1 + 1 + 1)))))
 else
 .stuck
 else
 .stuck
 else
 .stuck
 else
 .stuck
 else
 .stuck
 else
 .stuck
 else
 .stuck
 else
 .stuck
 else
 .stuck
 else
 .stuck
 else
 .stuck
 else
 .stuck
 else
 .stuck
 else
 .stuck
 else
 .stuck
 else
 .stuck
 else
 .stuck
 else
 .stuck
 else
 .stuck
 else
 .stuck
 else
 .stuck
 else
 .stuck
 else
 .stuck
 else
 .stuck
 else
 .stuck
 else
 .stuck
 else
 .stuck
 else
 .stuck
 else
 .stuck
 else
 .stuck
 else
 .stuck
 else
 bif eqI (IntKind.i64.wrap (↑x7.length + 1)) 0 then
 .stuck
 else
 f14_2_1 F F x7 (irem (IntKind.i64.wrap x2) (IntKind.i64.wrap (↑x7.length + 1))) 0 0 0 xh0 xh1 xh2 := by kernel_rfl
theorem f14_2_eq (F k : Nat) (x17 : Int) (x18 : Int) (x19 : Int) (x20 : Int) (xh0 : Nat → Int) (xh1 : List Int) (xh2 : List (List AV)) : f14_2 F (k + 1) x17 x18 x19 x20 xh0 xh1 xh2 =
 bif ltI x20 ↑xh1.length then
 bif inB x20 xh1.length then
 bif leI (xh1.getD x20.toNat 0) x17 then
 bif inB x20 xh1.length then
 f14_2 F k x17 (IntKind.i64.wrap (x20 + 1)) (xh1.getD x20.toNat 0) (IntKind.i64.wrap (x20 + 1)) xh0 xh1 xh2
 else
 .stuck
 else
 bif leI 0 0 && leI 0 x17 && leI x17 0 then
 bif okH (List.take 32 (List.drop 0 (cells32 xh0))) then
 bif leI 0 0 && leI 0 x18 && leI x18 ↑xh2.length then
 bif okEs (rdC [] (List.take 32 (List.drop 0 (cells32 xh0)))).fst && okEs (List.take (x18.toNat - 0) (List.drop 0 xh2)) && sameRows (rdC [] (List.take 32 (List.drop 0 (cells32 xh0)))).fst (List.take (x18.toNat - 0) (List.drop 0 xh2)) && (rdC [] (List.take 32 (List.drop 0 (cells32 xh0)))).fst.length.ble 1000000 then
 bif eqI (rdC [] (List.take 32 (List.drop 0 (cells32 xh0)))).snd.snd.fst x19 then
 bif eqI (rdC [] (List.take 32 (List.drop 0 (cells32 xh0)))).snd.snd.snd 0 == eqI x19 x17 then
 .ret (AV.bool true) [AObj.var 52 (cells32 xh0), AObj.arr 3 (Pay.ints .i64 xh1), AObj.arr 26 (Pay.rows 5 xh2)]
 else
 .ret (AV.bool false) [AObj.var 52 (cells32 xh0), AObj.arr 3 (Pay.ints .i64 xh1), AObj.arr 26 (Pay.rows 5 xh2)]
 else
 .ret (AV.bool false) [AObj.var 52 (cells32 xh0), AObj.arr 3 (Pay.ints .i64 xh1), AObj.arr 26 (Pay.rows 5 xh2)]
 else
 .stuck
 else
 .stuck
 else
 .stuck
 else
 .stuck
 else
 .stuck
 else
 bif leI 0 0 && leI 0 x17 && leI x17 0 then
 bif okH (List.take 32 (List.drop 0 (cells32 xh0))) then
 bif leI 0 0 && leI 0 x18 && leI x18 ↑xh2.length then
 bif okEs (rdC [] (List.take 32 (List.drop 0 (cells32 xh0)))).fst && okEs (List.take (x18.toNat - 0) (List.drop 0 xh2)) && sameRows (rdC [] (List.take 32 (List.drop 0 (cells32 xh0)))).fst (List.take (x18.toNat - 0) (List.drop 0 xh2)) && (rdC [] (List.take 32 (List.drop 0 (cells32 xh0)))).fst.length.ble 1000000 then
 bif eqI (rdC [] (List.take 32 (List.drop 0 (cells32 xh0)))).snd.snd.fst x19 then
 bif eqI (rdC [] (List.take 32 (List.drop 0 (cells32 xh0)))).snd.snd.snd 0 == eqI x19 x17 then
 .ret (AV.bool true) [AObj.var 52 (cells32 xh0), AObj.arr 3 (Pay.ints .i64 xh1), AObj.arr 26 (Pay.rows 5 xh2)]
 else
 .ret (AV.bool false) [AObj.var 52 (cells32 xh0), AObj.arr 3 (Pay.ints .i64 xh1), AObj.arr 26 (Pay.rows 5 xh2)]
 else
 .ret (AV.bool false) [AObj.var 52 (cells32 xh0), AObj.arr 3 (Pay.ints .i64 xh1), AObj.arr 26 (Pay.rows 5 xh2)]
 else
 .stuck
 else
 .stuck
 else
 .stuck
 else
 .stuck := by kernel_rfl
theorem f14_2_1_eq (F k : Nat) (x7 : List UInt8) (x17 : Int) (x18 : Int) (x19 : Int) (x20 : Int) (xh0 : Nat → Int) (xh1 : List Int) (xh2 : List (List AV)) : f14_2_1 F (k + 1) x7 x17 x18 x19 x20 xh0 xh1 xh2 =
 bif ltI x20 ↑xh1.length then
 bif inB x20 xh1.length then
 bif leI (xh1.getD x20.toNat 0) x17 then
 bif inB x20 xh1.length then
 f14_2_1 F k x7 x17 (IntKind.i64.wrap (x20 + 1)) (xh1.getD x20.toNat 0) (IntKind.i64.wrap (x20 + 1)) xh0 xh1 xh2
 else
 .stuck
 else
 bif leI 0 0 && leI 0 x17 && leI x17 ↑x7.length then
 bif (List.take (x17.toNat - 0) (List.drop 0 x7)).length.ble 100000 && okH (List.take 32 (List.drop 0 (cells32 xh0))) then
 bif leI 0 0 && leI 0 x18 && leI x18 ↑xh2.length then
 bif okEs (rdC (List.take (x17.toNat - 0) (List.drop 0 x7)) (List.take 32 (List.drop 0 (cells32 xh0)))).fst && okEs (List.take (x18.toNat - 0) (List.drop 0 xh2)) && sameRows (rdC (List.take (x17.toNat - 0) (List.drop 0 x7)) (List.take 32 (List.drop 0 (cells32 xh0)))).fst (List.take (x18.toNat - 0) (List.drop 0 xh2)) && (rdC (List.take (x17.toNat - 0) (List.drop 0 x7)) (List.take 32 (List.drop 0 (cells32 xh0)))).fst.length.ble 1000000 then
 bif eqI (rdC (List.take (x17.toNat - 0) (List.drop 0 x7)) (List.take 32 (List.drop 0 (cells32 xh0)))).snd.snd.fst x19 then
 bif eqI (rdC (List.take (x17.toNat - 0) (List.drop 0 x7)) (List.take 32 (List.drop 0 (cells32 xh0)))).snd.snd.snd 0 == eqI x19 x17 then
 .ret (AV.bool true) [AObj.var 52 (cells32 xh0), AObj.arr 3 (Pay.ints .i64 xh1), AObj.arr 26 (Pay.rows 5 xh2)]
 else
 .ret (AV.bool false) [AObj.var 52 (cells32 xh0), AObj.arr 3 (Pay.ints .i64 xh1), AObj.arr 26 (Pay.rows 5 xh2)]
 else
 .ret (AV.bool false) [AObj.var 52 (cells32 xh0), AObj.arr 3 (Pay.ints .i64 xh1), AObj.arr 26 (Pay.rows 5 xh2)]
 else
 .stuck
 else
 .stuck
 else
 .stuck
 else
 .stuck
 else
 .stuck
 else
 bif leI 0 0 && leI 0 x17 && leI x17 ↑x7.length then
 bif (List.take (x17.toNat - 0) (List.drop 0 x7)).length.ble 100000 && okH (List.take 32 (List.drop 0 (cells32 xh0))) then
 bif leI 0 0 && leI 0 x18 && leI x18 ↑xh2.length then
 bif okEs (rdC (List.take (x17.toNat - 0) (List.drop 0 x7)) (List.take 32 (List.drop 0 (cells32 xh0)))).fst && okEs (List.take (x18.toNat - 0) (List.drop 0 xh2)) && sameRows (rdC (List.take (x17.toNat - 0) (List.drop 0 x7)) (List.take 32 (List.drop 0 (cells32 xh0)))).fst (List.take (x18.toNat - 0) (List.drop 0 xh2)) && (rdC (List.take (x17.toNat - 0) (List.drop 0 x7)) (List.take 32 (List.drop 0 (cells32 xh0)))).fst.length.ble 1000000 then
 bif eqI (rdC (List.take (x17.toNat - 0) (List.drop 0 x7)) (List.take 32 (List.drop 0 (cells32 xh0)))).snd.snd.fst x19 then
 bif eqI (rdC (List.take (x17.toNat - 0) (List.drop 0 x7)) (List.take 32 (List.drop 0 (cells32 xh0)))).snd.snd.snd 0 == eqI x19 x17 then
 .ret (AV.bool true) [AObj.var 52 (cells32 xh0), AObj.arr 3 (Pay.ints .i64 xh1), AObj.arr 26 (Pay.rows 5 xh2)]
 else
 .ret (AV.bool false) [AObj.var 52 (cells32 xh0), AObj.arr 3 (Pay.ints .i64 xh1), AObj.arr 26 (Pay.rows 5 xh2)]
 else
 .ret (AV.bool false) [AObj.var 52 (cells32 xh0), AObj.arr 3 (Pay.ints .i64 xh1), AObj.arr 26 (Pay.rows 5 xh2)]
 else
 .stuck
 else
 .stuck
 else
 .stuck
 else
 .stuck := by kernel_rfl


theorem yes_pos {c : Bool} {x y : Res} (h : c = true) (hx : Yes x) : Yes (bif c then x else y) := by rw [h]; exact hx
theorem yes_neg {c : Bool} {x y : Res} (h : c = false) (hy : Yes y) : Yes (bif c then x else y) := by rw [h]; exact hy
theorem yes_bif {c : Bool} {x y : Res} (h1 : c = true → Yes x) (h2 : c = false → Yes y) : Yes (bif c then x else y) := by
  cases c with
  | true => exact h1 rfl
  | false => exact h2 rfl

theorem rdC_eq (b : Txt) (h : Nat → Int) : rdC b (cells32 h) = readC b (b.length + 1) 0 h := readC_hd b b.length 0 h
theorem fits3 {l : List Int} (h : l.length ≤ 1000000) : appFits ty3 (Pay.ints .i64 l) = true := by
  unfold appFits
  refine ble_iff.2 ?_
  show l.length * 8 ≤ _
  omega
theorem ltF {a b : Int} (h : ¬ a < b) : ltI a b = false := Bool.eq_false_iff.2 fun x => h (ltI_iff.1 x)
theorem eqF {a b : Int} (h : ¬ a = b) : eqI a b = false := Bool.eq_false_iff.2 fun x => h (eqI_iff.1 x)
theorem leF {a b : Int} (h : ¬ a ≤ b) : leI a b = false := Bool.eq_false_iff.2 fun x => h (leI_iff.1 x)
/-- The end of the law: what is read of a log that is cut off. -/
theorem torn_end (K : List (List AV)) (h0 : Nat → Int) (hK : ∀ r ∈ K, Fine r) (h8 : K.length ≤ 8) (kk w : Nat) (h1 : kk ≤ (logB h0 K).length) (h2 : w ≤ K.length) (h3 : (logB h0 (K.take w)).length ≤ kk) (h4 : w < K.length → kk < (logB h0 (K.take (w + 1))).length) :
    okEs (rdC ((logB h0 K).take kk) (cells32 h0)).1 = true ∧ okEs (K.take w) = true ∧ sameRows (rdC ((logB h0 K).take kk) (cells32 h0)).1 (K.take w) = true ∧ (rdC ((logB h0 K).take kk) (cells32 h0)).1.length.ble 1000000 = true ∧
      eqI (rdC ((logB h0 K).take kk) (cells32 h0)).2.2.1 ((logB h0 (K.take w)).length : Int) = true ∧ (eqI (rdC ((logB h0 K).take kk) (cells32 h0)).2.2.2 0 == eqI ((logB h0 (K.take w)).length : Int) (kk : Int)) = true := by
  rw [rdC_eq]
  have hl := logB_len K h0 hK
  have ht : ((logB h0 K).take kk).length = kk := by rw [List.length_take]; omega
  have hw : w ≤ (logB h0 (K.take w)).length := by
    have := logB_len (K.take w) h0 fun r hr => hK r (List.mem_of_mem_take hr)
    have e : (K.take w).length = w := by rw [List.length_take]; omega
    omega
  obtain ⟨g1, g2, g3⟩ := read_cut K h0 hK kk w h1 h2 h3 h4 (((logB h0 K).take kk).length + 1) (by omega)
  have g4 := readC_len ((logB h0 K).take kk) (((logB h0 K).take kk).length + 1) 0 h0
  refine ⟨readC_ok _ _ _ _, ?_, g1, ble_iff.2 (by omega), eqI_iff.2 g2, ?_⟩
  · unfold okEs
    rw [List.all_eq_true]
    intro r hr
    exact (hK r (List.mem_of_mem_take hr)).1
  · rw [g3]; simp
theorem f14_2_1_run (F : Nat) (K : List (List AV)) (h0 : Nat → Int) (hK : ∀ r ∈ K, Fine r) (h8 : K.length ≤ 8) (kk : Nat) (h1 : kk ≤ (logB h0 K).length) : ∀ (d w k : Nat), w + d = K.length → d < k → (logB h0 (K.take w)).length ≤ kk →
    Yes (f14_2_1 F k (logB h0 K) (kk : Int) (w : Int) ((logB h0 (K.take w)).length : Int) (w : Int) h0 (endsL 0 h0 K) K)
  | d, w, 0, hd, hk, hw => by omega
  | d, w, k + 1, hd, hk, hw => by
    have hl := logB_len K h0 hK
    have hfin : (w < K.length → kk < (logB h0 (K.take (w + 1))).length) → Yes (bif leI 0 0 && leI 0 (kk : Int) && leI (kk : Int) ((logB h0 K).length : Int) then
        bif (List.take ((kk : Int).toNat - 0) (List.drop 0 (logB h0 K))).length.ble 100000 && okH (List.take 32 (List.drop 0 (cells32 h0))) then
          bif leI 0 0 && leI 0 (w : Int) && leI (w : Int) (K.length : Int) then
            bif okEs (rdC (List.take ((kk : Int).toNat - 0) (List.drop 0 (logB h0 K))) (List.take 32 (List.drop 0 (cells32 h0)))).fst && okEs (List.take ((w : Int).toNat - 0) (List.drop 0 K)) && sameRows (rdC (List.take ((kk : Int).toNat - 0) (List.drop 0 (logB h0 K))) (List.take 32 (List.drop 0 (cells32 h0)))).fst (List.take ((w : Int).toNat - 0) (List.drop 0 K)) && (rdC (List.take ((kk : Int).toNat - 0) (List.drop 0 (logB h0 K))) (List.take 32 (List.drop 0 (cells32 h0)))).fst.length.ble 1000000 then
              bif eqI (rdC (List.take ((kk : Int).toNat - 0) (List.drop 0 (logB h0 K))) (List.take 32 (List.drop 0 (cells32 h0)))).snd.snd.fst ((logB h0 (K.take w)).length : Int) then
                bif eqI (rdC (List.take ((kk : Int).toNat - 0) (List.drop 0 (logB h0 K))) (List.take 32 (List.drop 0 (cells32 h0)))).snd.snd.snd 0 == eqI ((logB h0 (K.take w)).length : Int) (kk : Int) then
                  .ret (AV.bool true) [AObj.var 52 (cells32 h0), AObj.arr 3 (Pay.ints .i64 (endsL 0 h0 K)), AObj.arr 26 (Pay.rows 5 K)]
                else .ret (AV.bool false) [AObj.var 52 (cells32 h0), AObj.arr 3 (Pay.ints .i64 (endsL 0 h0 K)), AObj.arr 26 (Pay.rows 5 K)]
              else .ret (AV.bool false) [AObj.var 52 (cells32 h0), AObj.arr 3 (Pay.ints .i64 (endsL 0 h0 K)), AObj.arr 26 (Pay.rows 5 K)]
            else .stuck
          else .stuck
        else .stuck
      else .stuck) := by
      intro h4
      obtain ⟨e1, e2, e3, e4, e5, e6⟩ := torn_end K h0 hK h8 kk w h1 (by omega) hw h4
      have c1 : (leI 0 0 && leI 0 (kk : Int) && leI (kk : Int) ((logB h0 K).length : Int)) = true := by simp only [Bool.and_eq_true, leI_iff]; omega
      have c2 : (leI 0 0 && leI 0 (w : Int) && leI (w : Int) (K.length : Int)) = true := by simp only [Bool.and_eq_true, leI_iff]; omega
      have c3 : ((logB h0 K).take kk).length.ble 100000 = true := ble_iff.2 (by rw [List.length_take]; omega)
      simp only [Int.toNat_natCast, Nat.sub_zero, List.drop_zero, take32, c1, c2, c3, e1, e2, e3, e4, e5, e6, okH_cells, Bool.and_self, cond_true]
      exact .ret
    rw [f14_2_1_eq, endsL_len]
    rcases Nat.lt_or_ge w K.length with hlt | hge
    · have hin : inB (w : Int) K.length = true := inB_iff.2 ⟨by omega, by omega⟩
      have hat := endsL_at K 0 h0 w hlt
      rw [Nat.zero_add] at hat
      rw [bif_pos (ltI_iff.2 (by omega)), bif_pos hin, Int.toNat_natCast, hat]
      rcases Nat.lt_or_ge kk (logB h0 (K.take (w + 1))).length with h5 | h5
      · rw [leF (by omega), cond_false]
        exact hfin fun _ => h5
      · rw [leI_iff.2 (by omega), cond_true, bif_pos hin, show IntKind.i64.wrap ((w : Int) + 1) = ((w + 1 : Nat) : Int) by rw [wrap64 (by omega) (by omega)]; omega]
        exact f14_2_1_run F K h0 hK h8 kk h1 (d - 1) (w + 1) k (by omega) (by omega) h5
    · rw [ltF (by omega), cond_false]
      exact hfin fun h => by omega
theorem wrap_cut {cut : Int} (h : IntKind.u16.has cut) : 0 ≤ cut ∧ cut ≤ 65535 ∧ IntKind.i64.wrap cut = cut := by
  have : 0 ≤ cut ∧ cut ≤ 65535 := by simpa [IntKind.has, IntKind.min, IntKind.max, IntKind.signed, IntKind.bits] using h
  exact ⟨this.1, this.2, wrap64 (by omega) (by omega)⟩
theorem rem_nat (a b : Nat) (hb : 0 < b) : irem (a : Int) (b : Int) = ((a % b : Nat) : Int) := by rw [irem_eq (by omega)]; omega
theorem f14_1_run (F : Nat) (hF : 1000 < F) (x0 : List (List AV)) (hx : okEs x0 = true) (hB : ∀ r ∈ x0, Bytes32 r) (h8 : x0.length ≤ 8) (cut : Int) (hc : IntKind.u16.has cut) (h0 : Nat → Int) : ∀ (l : List (List AV)) (i k : Nat) (K : List (List AV)), i + l.length = x0.length → x0.drop i = l → l.length < k → K.length ≤ i → (∀ r ∈ K, Fine r) →
    Yes (f14_0_1 F k x0 cut (logB h0 K) (i : Int) h0 (endsL 0 h0 K) K (headA h0 K))
  | l, i, 0, K, hi, hl, hk, hK, hf => by omega
  | [], i, k + 1, K, hi, hl, hk, hK, hf => by
    have hlen := logB_len K h0 hf
    obtain ⟨c0, c1, c2⟩ := wrap_cut hc
    obtain ⟨n, rfl⟩ := Int.eq_ofNat_of_zero_le c0
    have hi' : i = x0.length := by simpa using hi
    have w1 : IntKind.i64.wrap (((logB h0 K).length : Int) + 1) = (((logB h0 K).length + 1 : Nat) : Int) := by rw [wrap64 (by omega) (by omega)]; omega
    rw [f14_0_1_eq, ltF (by omega), cond_false, c2, w1, eqF (by omega), cond_false, rem_nat _ _ (by omega)]
    have hm : n % ((logB h0 K).length + 1) < (logB h0 K).length + 1 := Nat.mod_lt _ (by omega)
    exact f14_2_1_run F K h0 hf (by omega) (n % ((logB h0 K).length + 1)) (by omega) K.length 0 F (by omega) (by omega) (by rw [List.take_zero, logB_nil]; simp)
  | r :: l, i, k + 1, K, hi, hl, hk, hK, hf => by
    obtain ⟨h1, h2, h3, h4⟩ := dropC_at [] hl
    have hlen := logB_len K h0 hf
    have er := List.all_eq_true.1 hx r h4
    have hs := okE_sums er
    have er2 := er
    unfold okE at er2
    simp only [Bool.and_eq_true] at er2
    obtain ⟨r0, r1, r2, r3, r4, r5⟩ := er2
    have hin : inB (i : Int) x0.length = true := inB_iff.2 ⟨by omega, by omega⟩
    have t0 : nth (List.take 5 r) 0 = nth r 0 := nth_take5 r 0 (by decide)
    have t1 : nth (List.take 5 r) 1 = nth r 1 := nth_take5 r 1 (by decide)
    have t2 : nth (List.take 5 r) 2 = nth r 2 := nth_take5 r 2 (by decide)
    have t3 : nth (List.take 5 r) 3 = nth r 3 := nth_take5 r 3 (by decide)
    have t4 : nth (List.take 5 r) 4 = nth r 4 := nth_take5 r 4 (by decide)
    have wi : IntKind.i64.wrap ((i : Int) + 1) = ((i + 1 : Nat) : Int) := by rw [wrap64 (by omega) (by omega)]; omega
    have hb : (logB h0 K).length.ble 1000000 = true := ble_iff.2 (by omega)
    have hi2 : ltI (i : Int) (x0.length : Int) = true := ltI_iff.2 (by omega)
    rw [f14_0_1_eq]
    simp only [R5, Int.toNat_natCast, h2, hi2, hin, cond_true, List.drop_zero, t0, t1, t2, t3, t4, r0, r1, r2, r3, r4, r5, take32, set32, okH_cells, hb, Bool.and_self, wi, Nat.reduceAdd, Nat.zero_add]
    refine yes_bif (fun _ => .ret) fun h10 => ?_
    have hl' : l.length < k := by simp only [List.length_cons] at hk; omega
    have hi3 : (i + 1) + l.length = x0.length := by simp only [List.length_cons] at hi; omega
    cases hR : rightE (intOf (nth r 0)) (intOf (nth r 1)) (intOf (nth r 2)) (intOf (nth r 3)) (rowsOf (nth r 4)).length with
    | false =>
      simp only [Bool.not_false, cond_true, eqAs_same, Bool.not_true, cond_false]
      exact f14_1_run F hF x0 hx hB h8 cut hc h0 l (i + 1) k K hi3 h3 hl' (by omega) hf
    | true =>
      simp only [Bool.not_true, cond_false, cond_true, Bool.and_self]
      have hfine := fine_ent er hR (hB r h4)
      have hfr := frR_len (headA h0 K) hfine
      have eS : eqS (logB h0 K ++ encF (encE (intOf (nth r 0)) (intOf (nth r 1)) (intOf (nth r 2)) (intOf (nth r 3)) (rowsOf (nth r 4)) ++ hdB (nxF (cells32 (headA h0 K)) (encE (intOf (nth r 0)) (intOf (nth r 1)) (intOf (nth r 2)) (intOf (nth r 3)) (rowsOf (nth r 4)))))) (logB h0 K ++ encF (encE (intOf (nth r 0)) (intOf (nth r 1)) (intOf (nth r 2)) (intOf (nth r 3)) (rowsOf (nth r 4)) ++ hdB (nxF (cells32 (headA h0 K)) (encE (intOf (nth r 0)) (intOf (nth r 1)) (intOf (nth r 2)) (intOf (nth r 3)) (rowsOf (nth r 4)))))) = true := eqS_iff.2 rfl
      have f3 : ∀ v : Int, appFits ty3 (Pay.ints .i64 (endsL 0 h0 K ++ [v])) = true := fun v => fits3 (by rw [List.length_append, endsL_len, List.length_singleton]; omega)
      have f26 : ∀ q : List AV, appFits ty26 (Pay.rows 5 (K ++ [q])) = true := fun q => fits26r (by omega)
      simp only [eS, Bool.not_true, cond_false, eqAs_same, f3, f26, cond_true]
      have key := f14_1_run F hF x0 hx hB h8 cut hc h0 l (i + 1) k (K ++ [entRow (entR r)]) hi3 h3 hl' (by rw [List.length_append, List.length_singleton]; omega)
        (fun q hq => by
          rcases List.mem_append.1 hq with hq | hq
          · exact hf q hq
          · rw [List.mem_singleton.1 hq]; exact hfine)
      rw [logB_snoc, headA_snoc, endsL_snoc, Nat.zero_add] at key
      exact key
theorem f14_0_run (F : Nat) (hF : 1000 < F) (x0 : List (List AV)) (hx : okEs x0 = true) (hB : ∀ r ∈ x0, Bytes32 r) (h8 : x0.length ≤ 8) (cut : Int) (hc : IntKind.u16.has cut) (h0 : Nat → Int) : ∀ (l : List (List AV)) (i k : Nat), i + l.length = x0.length → x0.drop i = l → l.length < k →
    Yes (f14_0 F k x0 cut (i : Int) h0 [] [] h0)
  | l, i, 0, hi, hl, hk => by omega
  | [], i, k + 1, hi, hl, hk => by
    obtain ⟨c0, c1, c2⟩ := wrap_cut hc
    obtain ⟨n, rfl⟩ := Int.eq_ofNat_of_zero_le c0
    have hi' : i = x0.length := by simpa using hi
    obtain ⟨F', rfl⟩ : ∃ F', F = F' + 1 := ⟨F - 1, by omega⟩
    have e1 : irem (n : Int) (IntKind.i64.wrap (((([] : List UInt8).length : Nat) : Int) + 1)) = 0 := by
      rw [show IntKind.i64.wrap (((([] : List UInt8).length : Nat) : Int) + 1) = ((1 : Nat) : Int) by decide +kernel, rem_nat _ _ (by omega), Nat.mod_one]
      rfl
    rw [f14_0_eq, ltF (by omega), cond_false, c2, e1, f14_2_eq, ltF (by decide), cond_false]
    obtain ⟨e1, e2, e3, e4, e5, e6⟩ := torn_end [] h0 (fun r hr => by cases hr) (by decide) 0 0 (by omega) (by decide) (by rw [List.take_zero, logB_nil]; exact Nat.le_refl _) (fun h => by cases h)
    rw [logB_nil] at e1 e3 e4 e5 e6
    simp only [List.take_zero, List.take_nil, logB_nil, List.length_nil, Int.natCast_zero] at e1 e2 e3 e4 e5 e6
    simp only [List.drop_zero, take32, okH_cells, e1, e2, e3, e4, e5, e6, Bool.and_self, cond_true, List.take_nil, List.drop_nil, List.length_nil, Int.natCast_zero]
    exact .ret
  | r :: l, i, k + 1, hi, hl, hk => by
    obtain ⟨h1, h2, h3, h4⟩ := dropC_at [] hl
    have er := List.all_eq_true.1 hx r h4
    have hs := okE_sums er
    have er2 := er
    unfold okE at er2
    simp only [Bool.and_eq_true] at er2
    obtain ⟨r0, r1, r2, r3, r4, r5⟩ := er2
    have hin : inB (i : Int) x0.length = true := inB_iff.2 ⟨by omega, by omega⟩
    have t0 : nth (List.take 5 r) 0 = nth r 0 := nth_take5 r 0 (by decide)
    have t1 : nth (List.take 5 r) 1 = nth r 1 := nth_take5 r 1 (by decide)
    have t2 : nth (List.take 5 r) 2 = nth r 2 := nth_take5 r 2 (by decide)
    have t3 : nth (List.take 5 r) 3 = nth r 3 := nth_take5 r 3 (by decide)
    have t4 : nth (List.take 5 r) 4 = nth r 4 := nth_take5 r 4 (by decide)
    have wi : IntKind.i64.wrap ((i : Int) + 1) = ((i + 1 : Nat) : Int) := by rw [wrap64 (by omega) (by omega)]; omega
    have hi2 : ltI (i : Int) (x0.length : Int) = true := ltI_iff.2 (by omega)
    rw [f14_0_eq]
    simp only [R5, Int.toNat_natCast, h2, hi2, hin, cond_true, List.drop_zero, t0, t1, t2, t3, t4, r0, r1, r2, r3, r4, r5, take32, set32, okH_cells, Bool.and_self, wi, Nat.reduceAdd, Nat.zero_add]
    refine yes_bif (fun _ => .ret) fun h10 => ?_
    have hl' : l.length < k := by simp only [List.length_cons] at hk; omega
    have hi3 : (i + 1) + l.length = x0.length := by simp only [List.length_cons] at hi; omega
    cases hR : rightE (intOf (nth r 0)) (intOf (nth r 1)) (intOf (nth r 2)) (intOf (nth r 3)) (rowsOf (nth r 4)).length with
    | false =>
      simp only [Bool.not_false, cond_true, eqAs_same, Bool.not_true, cond_false]
      exact f14_0_run F hF x0 hx hB h8 cut hc h0 l (i + 1) k hi3 h3 hl'
    | true =>
      simp only [Bool.not_true, cond_false, cond_true, Bool.and_self]
      have hfine := fine_ent er hR (hB r h4)
      have eS : ∀ a : List UInt8, eqS a a = true := fun a => eqS_iff.2 rfl
      have f3 : ∀ v : Int, appFits ty3 (Pay.ints .i64 ([] ++ [v])) = true := fun v => fits3 (by simp)
      have f26 : ∀ q : List AV, appFits ty26 (Pay.rows 5 ([] ++ [q])) = true := fun q => fits26r (by simp)
      simp only [eS, Bool.not_true, cond_false, eqAs_same, f3, f26, cond_true]
      have key := f14_1_run F hF x0 hx hB h8 cut hc h0 l (i + 1) k ([] ++ [entRow (entR r)]) hi3 h3 hl' (by simp)
        (fun q hq => by
          have hq : q = entRow (entR r) := by simpa using hq
          rw [hq]; exact hfine)
      rw [logB_snoc, headA_snoc, endsL_snoc, Nat.zero_add, logB_nil, headA_nil, endsL_nil] at key
      exact key
theorem law14 (x : List (List AV)) (r : List AV) (cut : Int) (hx : x.all okEnt = true) (hf : r.length = 32 ∧ r.all (isInt .u8) = true) (hr : Real [.ro (.rows 5 x), .arr r, .int .u16 cut]) : apure (c14 rounds) Try.f14 [.ro (.rows 5 x), .arr r, .int .u16 cut] = some (.bool true, []) := by
  obtain ⟨hl, ha⟩ := hf
  have hh : okH r = true := by unfold okH; rw [hl, ha]; rfl
  have hB := rows_bytes hr hx
  have hc := hr.tail.tail.int
  refine apure_yes ?_
  have e := f14_eq rounds x (hdF r) cut
  conv at e => lhs; rw [hd_cells hh]
  rw [e]
  refine yes_bif (fun _ => .ret) fun g => ?_
  have g := ltI_f.1 g
  have hF := big
  exact f14_0_run rounds (by omega) x hx hB (by omega) cut hc (hdF r) x 0 rounds (by omega) rfl (by omega)
end Go.Proofs.YtmkgmlgklggnlaaG

namespace Go.Proofs.Ytmkgmlgklggnlaa.chainTorn
open Go.ChangeShapes Go.WideShapes Go.ChangeAt Go.RowKit Go.Proofs.YtmkgmlgklggnlaaGm Go.Proofs.YtmkgmlgklggnlaaG
open Go.ChangeMaps (open_string shut_string)
set_option linter.unusedVariables false
theorem own : ownKnob Try.prog.godebug = none := by kernel_rfl
theorem laidOut : laidOutB Try.prog = true := by kernel_rfl
set_option maxRecDepth 100000 in
theorem lifted (os : Os) (started : os.Started) (H : Type) (enc : TypeId × Value → H) :
    ReturnsInHanded {} Try.checked os 14 .any (Rows.chainTornSpec.pre6 enc Try.prog Try.f14 Rows.chainTornRow.domain false) (Rows.chainTornSpec.post enc Try.prog Try.f14 false true false false) := by
  refine returnsInHanded_of_change_sized (C := Try.checked) own started (by kernel_rfl) Try.func14
    (ChangeSpec.witness6 (enc := enc) (C := Try.checked) false ⟨#[], #[.slice none 0 0, .agg #[.int .u8 0, .int .u8 0, .int .u8 0, .int .u8 0, .int .u8 0, .int .u8 0, .int .u8 0, .int .u8 0, .int .u8 0, .int .u8 0, .int .u8 0, .int .u8 0, .int .u8 0, .int .u8 0, .int .u8 0, .int .u8 0, .int .u8 0, .int .u8 0, .int .u8 0, .int .u8 0, .int .u8 0, .int .u8 0, .int .u8 0, .int .u8 0, .int .u8 0, .int .u8 0, .int .u8 0, .int .u8 0, .int .u8 0, .int .u8 0, .int .u8 0, .int .u8 0], .int .u16 0], []⟩ 8 (by kernel_rfl) (by kernel_rfl) (by kernel_rfl) (by kernel_rfl)) ?_
  intro W base args ds gs before hval0 hW hcnd hsz0 _
  have hval : ∀ (j : Nat) t v, Try.f14.params[j]? = some t → args[j]? = some v → Value.okWide Try.prog W .any base t v := hval0
  have hW' := hW
  obtain ⟨p, q, hA0, hV, rfl, hfz, hnd⟩ := hW
  have hA : DataW.TrodAll enc Try.prog W 0 (fun _ => true) true Try.f14.params.toList args.toList ds p := hA0
  rw [Try.params14] at hA hval
  obtain ⟨v0, vs0, d0, ds0, p0, q0, hargs, rfl, rfl, h0, r0⟩ := trodAll_cons hA
  obtain ⟨v1, vs1, d1, ds1, p1, q1, rfl, rfl, rfl, h1, r1⟩ := trodAll_cons r0
  obtain ⟨v2, vs2, d2, ds2, p2, q2, rfl, rfl, rfl, h2, r2⟩ := trodAll_cons r1
  obtain ⟨rfl, rfl, rfl⟩ := trodAll_nil r2
  obtain rfl : args = #[v0, v1, v2] := by cases args; simp_all
  obtain ⟨rfl, rfl⟩ := trodVars_none hV
  have k0 := h0
  have lt0 : ∀ x ∈ p0, x.block < W.heap.size := by obtain ⟨m, hm⟩ := k0; exact DataW.trod_lt m _ _ _ hm
  have z0 : Sized Try.prog 86 d0 := fun n hn => by simpa using List.all_eq_true.1 hsz0 _ (DataW.weights_mem_each (j := 0) (t := 86) (by kernel_rfl) rfl n hn)
  obtain ⟨V0, R0, f0⟩ := open_arg (sh := (.slice (.struct [(.int .i64), (.int .i64), (.int .i64), (.int .i64), (.slice (.array 32 (.int .u8)))]))) (.slice Try.underlying86 (by kernel_rfl) (by decide) (.struct Try.underlying26 (by kernel_rfl) (.cons rfl (by kernel_rfl) (.int Try.underlying3) (.cons rfl (by kernel_rfl) (.int Try.underlying3) (.cons rfl (by kernel_rfl) (.int Try.underlying3) (.cons rfl (by kernel_rfl) (.int Try.underlying3) (.cons rfl (by kernel_rfl) (.slice Try.underlying24 (by kernel_rfl) (by decide) (.array Try.underlying52 (by kernel_rfl) (by kernel_rfl) (.int Try.underlying5))) .nil))))))) (hval 0 86 v0 rfl rfl) h0 z0 (fun _ _ h => by cases h)
  obtain ⟨l0, rfl, b0⟩ := fits_entries f0
  have k1 := h1
  have lt1 : ∀ x ∈ p1, x.block < W.heap.size := by obtain ⟨m, hm⟩ := k1; exact DataW.trod_lt m _ _ _ hm
  have z1 : Sized Try.prog 52 d1 := fun n hn => by simpa using List.all_eq_true.1 hsz0 _ (DataW.weights_mem_each (j := 1) (t := 52) (by kernel_rfl) rfl n hn)
  obtain ⟨V1, R1, f1⟩ := open_arg (sh := (.array 32 (.int .u8))) (.array Try.underlying52 (by kernel_rfl) (by kernel_rfl) (.int Try.underlying5)) (hval 1 52 v1 rfl rfl) h1 z1 (harr_ints .u8)
  obtain ⟨l1, rfl, b1⟩ := fits_sum f1
  obtain ⟨a2, rfl, rfl, rfl, w2⟩ := open_int Try.underlying75 (hval 2 75 v2 rfl rfl) h2
  have R2 : RepV W (fun _ => False) [] (.int .u16 a2) (.int .u16 a2) := .int (by simpa [Lit.wf, IntKind.has] using w2)
  clear hA0 hval0 hsz0
  have hreal : RepL W (fun _ => False) [] _ _ := (.cons R0 (.cons R1 (.cons R2 .nil)))
  refine (law_calls (c14 rounds) tt14_ok (.cons ok15 (.cons (ok57.norm _) (.cons (ok22.norm _) (.cons ok19 (.cons (ok58.norm _) (.cons (ok54.norm _) (.cons (ok56.norm _) .nil))))))) follows rfl Try.func14 (law14 l0 l1 a2 b0 b1 ⟨_, _, _, hreal⟩) hreal).mono fun e W' ⟨he, bel⟩ => ?_
  subst he
  exact ⟨_, rfl, _, _, _, [], _, [], hW', trodAll_mk1 (shut_bool Try.underlying4 _), (trodAll_cons_mk (Below.trod laidOut (by kernel_rfl) (of_decide_eq_true (by kernel_rfl)) k0 bel lt0) (trodAll_cons_mk (Below.trod laidOut (by kernel_rfl) (of_decide_eq_true (by kernel_rfl)) k1 bel lt1) (trodAll_cons_mk (shut_int Try.underlying75 w2) trodAll_mk0))), rfl, bel.frame _, fun h => by cases h⟩
theorem over : Rows.chainTornRow.holds Try.pinned (OpenSpec.ofChange Rows.chainTornSpec) :=
  OpenClaim.holds_of_wide 14 Try.f14 rfl rfl rfl rfl rfl rfl rfl ⟨rfl, rfl, rfl, rfl, rfl⟩ rfl rfl rfl rfl rfl (by kernel_rfl) Try.func14 (by kernel_rfl)
    (of_decide_eq_true (by kernel_rfl)) (by unfold Func.isWrapper; first | (rw [if_pos (by decide +kernel)]; kernel_rfl) | (rw [if_neg (by decide +kernel)]; exact ⟨rfl, rfl⟩))
    (fun os started H enc _ => lifted os started H enc)
theorem proved : Rows.ChainTornSaid := over
end Go.Proofs.Ytmkgmlgklggnlaa.chainTorn
namespace Go.Proofs.Ytmkgmlgklggnlaa
/-- The row, under a short name, for the claim. -/
theorem chainTorn_holds : Rows.ChainTornSaid := chainTorn.proved
#print axioms chainTorn_holds
end Go.Proofs.Ytmkgmlgklggnlaa
