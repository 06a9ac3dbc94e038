/- A part of the proof: plain laws, and what functions of the given program come to; no condition. -/
import Derived.Test.YthejefgpanceoaaGp
namespace Go.Proofs.YthejefgpanceoaaG
open Go Go.Proofs.YthejefgpanceoaaGm
set_option maxRecDepth 100000

def tt13 : Tab := [(0, ty0), (3, ty3), (4, ty4), (5, ty5), (9, ty9), (22, ty22), (26, ty26), (28, ty28), (29, ty29), (30, ty30)]
theorem tt13_ok : TabOk Try.prog tt13 := tabOk_of_all ⟨ty0_ok, ty3_ok, ty4_ok, ty5_ok, ty9_ok, ty22_ok, ty26_ok, ty28_ok, ty29_ok, ty30_ok, trivial⟩
def c13 (F : Nat) : Cfg := ⟨tt13, [(17, .pure go17), (19, .pure go19)], F, [(0, ⟨[0, 1, 4, 6, 11, 12], []⟩)], [], 0⟩
noncomputable def f13_0 (F k : Nat) (x0 : Int) (x1 : List (List AV)) (x11 : Int) (x12 : Int) (xh0 : Int) (xh0_1 : Int) (xh0_2 : List UInt8) (xh0_3 : Int) (xh1 : Int) (xh1_1 : Int) (xh1_2 : List UInt8) (xh1_3 : Int) : Res := aloop (c13 F) Try.f13 0 [] k (St.mk [AV.int IntKind.i64 x0, AV.ro (Pay.rows 3 x1), AV.top, AV.top, AV.ptr 0 0, AV.top, AV.ptr 1 0, AV.top, AV.top, AV.top, AV.top, AV.int IntKind.i64 x11, AV.int IntKind.i64 x12, AV.top, AV.top, AV.top, AV.top, AV.top, AV.top, AV.top, AV.top, AV.top, AV.top, AV.top, AV.top, AV.top, AV.top, AV.top, AV.top, AV.top, AV.top, AV.top, AV.top, AV.top] [AObj.var 28 [AV.int IntKind.u8 xh0, AV.int IntKind.i64 xh0_1, AV.str xh0_2, AV.int IntKind.i64 xh0_3], AObj.var 28 [AV.int IntKind.u8 xh1, AV.int IntKind.i64 xh1_1, AV.str xh1_2, AV.int IntKind.i64 xh1_3]])
theorem f13_eq (F : Nat) (a0 : Int) (vs : List Vl) : afun (c13 F) Try.f13 [AV.int IntKind.i64 a0, AV.ro (Pay.rows 3 (List.map valRow vs))] [] =
  f13_0 F F a0 (List.map valRow vs) (↑(List.map valRow vs).length) 0 0 0 [] 0 0 0 [] 0 := by kernel_rfl
theorem f13_0_eq (F k : Nat) (x0 : Int) (x1 : List (List AV)) (x11 : Int) (x12 : Int) (xh0 : Int) (xh0_1 : Int) (xh0_2 : List UInt8) (xh0_3 : Int) (xh1 : Int) (xh1_1 : Int) (xh1_2 : List UInt8) (xh1_3 : Int) : f13_0 F (k + 1) x0 x1 x11 x12 xh0 xh0_1 xh0_2 xh0_3 xh1 xh1_1 xh1_2 xh1_3 =
  bif ltI x12 x11 then
    bif inB x12 x1.length then
      bif isInt IntKind.u8 (nth (List.take 3 (List.drop 0 (List.getD x1 x12.toNat []))) 0) then
        bif isInt IntKind.i64 (nth (List.take 3 (List.drop 0 (List.getD x1 x12.toNat []))) (0 + 1)) then
          bif isStr (nth (List.take 3 (List.drop 0 (List.getD x1 x12.toNat []))) (0 + 1 + 1)) then
            bif xh1_2.length.ble roomB then
              bif (oneP x0 (intOf (nth (List.take 3 (List.drop 0 (List.getD x1 x12.toNat []))) 0), intOf (nth (List.take 3 (List.drop 0 (List.getD x1 x12.toNat []))) (0 + 1)), strOf (nth (List.take 3 (List.drop 0 (List.getD x1 x12.toNat []))) (0 + 1 + 1)))).fst.snd.snd.length.ble roomB then
                bif !eqI (joinP x0 ((xh1, xh1_1, xh1_2), xh1_3) (((oneP x0 (intOf (nth (List.take 3 (List.drop 0 (List.getD x1 x12.toNat []))) 0), intOf (nth (List.take 3 (List.drop 0 (List.getD x1 x12.toNat []))) (0 + 1)), strOf (nth (List.take 3 (List.drop 0 (List.getD x1 x12.toNat []))) (0 + 1 + 1)))).fst.fst, (oneP x0 (intOf (nth (List.take 3 (List.drop 0 (List.getD x1 x12.toNat []))) 0), intOf (nth (List.take 3 (List.drop 0 (List.getD x1 x12.toNat []))) (0 + 1)), strOf (nth (List.take 3 (List.drop 0 (List.getD x1 x12.toNat []))) (0 + 1 + 1)))).fst.snd.fst, (oneP x0 (intOf (nth (List.take 3 (List.drop 0 (List.getD x1 x12.toNat []))) 0), intOf (nth (List.take 3 (List.drop 0 (List.getD x1 x12.toNat []))) (0 + 1)), strOf (nth (List.take 3 (List.drop 0 (List.getD x1 x12.toNat []))) (0 + 1 + 1)))).fst.snd.snd), (oneP x0 (intOf (nth (List.take 3 (List.drop 0 (List.getD x1 x12.toNat []))) 0), intOf (nth (List.take 3 (List.drop 0 (List.getD x1 x12.toNat []))) (0 + 1)), strOf (nth (List.take 3 (List.drop 0 (List.getD x1 x12.toNat []))) (0 + 1 + 1)))).snd)).snd 0 then
                  .ret (AV.tup [AV.agg [AV.int IntKind.u8 0, AV.int IntKind.i64 0, AV.str [], AV.int IntKind.i64 0], AV.int IntKind.i64 (joinP x0 ((xh1, xh1_1, xh1_2), xh1_3) (((oneP x0 (intOf (nth (List.take 3 (List.drop 0 (List.getD x1 x12.toNat []))) 0), intOf (nth (List.take 3 (List.drop 0 (List.getD x1 x12.toNat []))) (0 + 1)), strOf (nth (List.take 3 (List.drop 0 (List.getD x1 x12.toNat []))) (0 + 1 + 1)))).fst.fst, (oneP x0 (intOf (nth (List.take 3 (List.drop 0 (List.getD x1 x12.toNat []))) 0), intOf (nth (List.take 3 (List.drop 0 (List.getD x1 x12.toNat []))) (0 + 1)), strOf (nth (List.take 3 (List.drop 0 (List.getD x1 x12.toNat []))) (0 + 1 + 1)))).fst.snd.fst, (oneP x0 (intOf (nth (List.take 3 (List.drop 0 (List.getD x1 x12.toNat []))) 0), intOf (nth (List.take 3 (List.drop 0 (List.getD x1 x12.toNat []))) (0 + 1)), strOf (nth (List.take 3 (List.drop 0 (List.getD x1 x12.toNat []))) (0 + 1 + 1)))).fst.snd.snd), (oneP x0 (intOf (nth (List.take 3 (List.drop 0 (List.getD x1 x12.toNat []))) 0), intOf (nth (List.take 3 (List.drop 0 (List.getD x1 x12.toNat []))) (0 + 1)), strOf (nth (List.take 3 (List.drop 0 (List.getD x1 x12.toNat []))) (0 + 1 + 1)))).snd)).snd]) [AObj.var 28 [AV.int IntKind.u8 0, AV.int IntKind.i64 0, AV.str [], AV.int IntKind.i64 0], AObj.var 28 [AV.int IntKind.u8 xh1, AV.int IntKind.i64 xh1_1, AV.str xh1_2, AV.int IntKind.i64 xh1_3], AObj.var 28 [AV.int IntKind.u8 (joinP x0 ((xh1, xh1_1, xh1_2), xh1_3) (((oneP x0 (intOf (nth (List.take 3 (List.drop 0 (List.getD x1 x12.toNat []))) 0), intOf (nth (List.take 3 (List.drop 0 (List.getD x1 x12.toNat []))) (0 + 1)), strOf (nth (List.take 3 (List.drop 0 (List.getD x1 x12.toNat []))) (0 + 1 + 1)))).fst.fst, (oneP x0 (intOf (nth (List.take 3 (List.drop 0 (List.getD x1 x12.toNat []))) 0), intOf (nth (List.take 3 (List.drop 0 (List.getD x1 x12.toNat []))) (0 + 1)), strOf (nth (List.take 3 (List.drop 0 (List.getD x1 x12.toNat []))) (0 + 1 + 1)))).fst.snd.fst, (oneP x0 (intOf (nth (List.take 3 (List.drop 0 (List.getD x1 x12.toNat []))) 0), intOf (nth (List.take 3 (List.drop 0 (List.getD x1 x12.toNat []))) (0 + 1)), strOf (nth (List.take 3 (List.drop 0 (List.getD x1 x12.toNat []))) (0 + 1 + 1)))).fst.snd.snd), (oneP x0 (intOf (nth (List.take 3 (List.drop 0 (List.getD x1 x12.toNat []))) 0), intOf (nth (List.take 3 (List.drop 0 (List.getD x1 x12.toNat []))) (0 + 1)), strOf (nth (List.take 3 (List.drop 0 (List.getD x1 x12.toNat []))) (0 + 1 + 1)))).snd)).fst.fst.fst, AV.int IntKind.i64 (joinP x0 ((xh1, xh1_1, xh1_2), xh1_3) (((oneP x0 (intOf (nth (List.take 3 (List.drop 0 (List.getD x1 x12.toNat []))) 0), intOf (nth (List.take 3 (List.drop 0 (List.getD x1 x12.toNat []))) (0 + 1)), strOf (nth (List.take 3 (List.drop 0 (List.getD x1 x12.toNat []))) (0 + 1 + 1)))).fst.fst, (oneP x0 (intOf (nth (List.take 3 (List.drop 0 (List.getD x1 x12.toNat []))) 0), intOf (nth (List.take 3 (List.drop 0 (List.getD x1 x12.toNat []))) (0 + 1)), strOf (nth (List.take 3 (List.drop 0 (List.getD x1 x12.toNat []))) (0 + 1 + 1)))).fst.snd.fst, (oneP x0 (intOf (nth (List.take 3 (List.drop 0 (List.getD x1 x12.toNat []))) 0), intOf (nth (List.take 3 (List.drop 0 (List.getD x1 x12.toNat []))) (0 + 1)), strOf (nth (List.take 3 (List.drop 0 (List.getD x1 x12.toNat []))) (0 + 1 + 1)))).fst.snd.snd), (oneP x0 (intOf (nth (List.take 3 (List.drop 0 (List.getD x1 x12.toNat []))) 0), intOf (nth (List.take 3 (List.drop 0 (List.getD x1 x12.toNat []))) (0 + 1)), strOf (nth (List.take 3 (List.drop 0 (List.getD x1 x12.toNat []))) (0 + 1 + 1)))).snd)).fst.fst.snd.fst, AV.str (joinP x0 ((xh1, xh1_1, xh1_2), xh1_3) (((oneP x0 (intOf (nth (List.take 3 (List.drop 0 (List.getD x1 x12.toNat []))) 0), intOf (nth (List.take 3 (List.drop 0 (List.getD x1 x12.toNat []))) (0 + 1)), strOf (nth (List.take 3 (List.drop 0 (List.getD x1 x12.toNat []))) (0 + 1 + 1)))).fst.fst, (oneP x0 (intOf (nth (List.take 3 (List.drop 0 (List.getD x1 x12.toNat []))) 0), intOf (nth (List.take 3 (List.drop 0 (List.getD x1 x12.toNat []))) (0 + 1)), strOf (nth (List.take 3 (List.drop 0 (List.getD x1 x12.toNat []))) (0 + 1 + 1)))).fst.snd.fst, (oneP x0 (intOf (nth (List.take 3 (List.drop 0 (List.getD x1 x12.toNat []))) 0), intOf (nth (List.take 3 (List.drop 0 (List.getD x1 x12.toNat []))) (0 + 1)), strOf (nth (List.take 3 (List.drop 0 (List.getD x1 x12.toNat []))) (0 + 1 + 1)))).fst.snd.snd), (oneP x0 (intOf (nth (List.take 3 (List.drop 0 (List.getD x1 x12.toNat []))) 0), intOf (nth (List.take 3 (List.drop 0 (List.getD x1 x12.toNat []))) (0 + 1)), strOf (nth (List.take 3 (List.drop 0 (List.getD x1 x12.toNat []))) (0 + 1 + 1)))).snd)).fst.fst.snd.snd, AV.int IntKind.i64 (joinP x0 ((xh1, xh1_1, xh1_2), xh1_3) (((oneP x0 (intOf (nth (List.take 3 (List.drop 0 (List.getD x1 x12.toNat []))) 0), intOf (nth (List.take 3 (List.drop 0 (List.getD x1 x12.toNat []))) (0 + 1)), strOf (nth (List.take 3 (List.drop 0 (List.getD x1 x12.toNat []))) (0 + 1 + 1)))).fst.fst, (oneP x0 (intOf (nth (List.take 3 (List.drop 0 (List.getD x1 x12.toNat []))) 0), intOf (nth (List.take 3 (List.drop 0 (List.getD x1 x12.toNat []))) (0 + 1)), strOf (nth (List.take 3 (List.drop 0 (List.getD x1 x12.toNat []))) (0 + 1 + 1)))).fst.snd.fst, (oneP x0 (intOf (nth (List.take 3 (List.drop 0 (List.getD x1 x12.toNat []))) 0), intOf (nth (List.take 3 (List.drop 0 (List.getD x1 x12.toNat []))) (0 + 1)), strOf (nth (List.take 3 (List.drop 0 (List.getD x1 x12.toNat []))) (0 + 1 + 1)))).fst.snd.snd), (oneP x0 (intOf (nth (List.take 3 (List.drop 0 (List.getD x1 x12.toNat []))) 0), intOf (nth (List.take 3 (List.drop 0 (List.getD x1 x12.toNat []))) (0 + 1)), strOf (nth (List.take 3 (List.drop 0 (List.getD x1 x12.toNat []))) (0 + 1 + 1)))).snd)).fst.snd]]
                else
                  f13_0 F k x0 x1 x11 (IntKind.i64.wrap (x12 + 1)) xh0 xh0_1 xh0_2 xh0_3 ((joinP x0 ((xh1, xh1_1, xh1_2), xh1_3) (((oneP x0 (intOf (nth (List.take 3 (List.drop 0 (List.getD x1 x12.toNat []))) 0), intOf (nth (List.take 3 (List.drop 0 (List.getD x1 x12.toNat []))) (0 + 1)), strOf (nth (List.take 3 (List.drop 0 (List.getD x1 x12.toNat []))) (0 + 1 + 1)))).fst.fst, (oneP x0 (intOf (nth (List.take 3 (List.drop 0 (List.getD x1 x12.toNat []))) 0), intOf (nth (List.take 3 (List.drop 0 (List.getD x1 x12.toNat []))) (0 + 1)), strOf (nth (List.take 3 (List.drop 0 (List.getD x1 x12.toNat []))) (0 + 1 + 1)))).fst.snd.fst, (oneP x0 (intOf (nth (List.take 3 (List.drop 0 (List.getD x1 x12.toNat []))) 0), intOf (nth (List.take 3 (List.drop 0 (List.getD x1 x12.toNat []))) (0 + 1)), strOf (nth (List.take 3 (List.drop 0 (List.getD x1 x12.toNat []))) (0 + 1 + 1)))).fst.snd.snd), (oneP x0 (intOf (nth (List.take 3 (List.drop 0 (List.getD x1 x12.toNat []))) 0), intOf (nth (List.take 3 (List.drop 0 (List.getD x1 x12.toNat []))) (0 + 1)), strOf (nth (List.take 3 (List.drop 0 (List.getD x1 x12.toNat []))) (0 + 1 + 1)))).snd)).fst.fst.fst) ((joinP x0 ((xh1, xh1_1, xh1_2), xh1_3) (((oneP x0 (intOf (nth (List.take 3 (List.drop 0 (List.getD x1 x12.toNat []))) 0), intOf (nth (List.take 3 (List.drop 0 (List.getD x1 x12.toNat []))) (0 + 1)), strOf (nth (List.take 3 (List.drop 0 (List.getD x1 x12.toNat []))) (0 + 1 + 1)))).fst.fst, (oneP x0 (intOf (nth (List.take 3 (List.drop 0 (List.getD x1 x12.toNat []))) 0), intOf (nth (List.take 3 (List.drop 0 (List.getD x1 x12.toNat []))) (0 + 1)), strOf (nth (List.take 3 (List.drop 0 (List.getD x1 x12.toNat []))) (0 + 1 + 1)))).fst.snd.fst, (oneP x0 (intOf (nth (List.take 3 (List.drop 0 (List.getD x1 x12.toNat []))) 0), intOf (nth (List.take 3 (List.drop 0 (List.getD x1 x12.toNat []))) (0 + 1)), strOf (nth (List.take 3 (List.drop 0 (List.getD x1 x12.toNat []))) (0 + 1 + 1)))).fst.snd.snd), (oneP x0 (intOf (nth (List.take 3 (List.drop 0 (List.getD x1 x12.toNat []))) 0), intOf (nth (List.take 3 (List.drop 0 (List.getD x1 x12.toNat []))) (0 + 1)), strOf (nth (List.take 3 (List.drop 0 (List.getD x1 x12.toNat []))) (0 + 1 + 1)))).snd)).fst.fst.snd.fst) ((joinP x0 ((xh1, xh1_1, xh1_2), xh1_3) (((oneP x0 (intOf (nth (List.take 3 (List.drop 0 (List.getD x1 x12.toNat []))) 0), intOf (nth (List.take 3 (List.drop 0 (List.getD x1 x12.toNat []))) (0 + 1)), strOf (nth (List.take 3 (List.drop 0 (List.getD x1 x12.toNat []))) (0 + 1 + 1)))).fst.fst, (oneP x0 (intOf (nth (List.take 3 (List.drop 0 (List.getD x1 x12.toNat []))) 0), intOf (nth (List.take 3 (List.drop 0 (List.getD x1 x12.toNat []))) (0 + 1)), strOf (nth (List.take 3 (List.drop 0 (List.getD x1 x12.toNat []))) (0 + 1 + 1)))).fst.snd.fst, (oneP x0 (intOf (nth (List.take 3 (List.drop 0 (List.getD x1 x12.toNat []))) 0), intOf (nth (List.take 3 (List.drop 0 (List.getD x1 x12.toNat []))) (0 + 1)), strOf (nth (List.take 3 (List.drop 0 (List.getD x1 x12.toNat []))) (0 + 1 + 1)))).fst.snd.snd), (oneP x0 (intOf (nth (List.take 3 (List.drop 0 (List.getD x1 x12.toNat []))) 0), intOf (nth (List.take 3 (List.drop 0 (List.getD x1 x12.toNat []))) (0 + 1)), strOf (nth (List.take 3 (List.drop 0 (List.getD x1 x12.toNat []))) (0 + 1 + 1)))).snd)).fst.fst.snd.snd) ((joinP x0 ((xh1, xh1_1, xh1_2), xh1_3) (((oneP x0 (intOf (nth (List.take 3 (List.drop 0 (List.getD x1 x12.toNat []))) 0), intOf (nth (List.take 3 (List.drop 0 (List.getD x1 x12.toNat []))) (0 + 1)), strOf (nth (List.take 3 (List.drop 0 (List.getD x1 x12.toNat []))) (0 + 1 + 1)))).fst.fst, (oneP x0 (intOf (nth (List.take 3 (List.drop 0 (List.getD x1 x12.toNat []))) 0), intOf (nth (List.take 3 (List.drop 0 (List.getD x1 x12.toNat []))) (0 + 1)), strOf (nth (List.take 3 (List.drop 0 (List.getD x1 x12.toNat []))) (0 + 1 + 1)))).fst.snd.fst, (oneP x0 (intOf (nth (List.take 3 (List.drop 0 (List.getD x1 x12.toNat []))) 0), intOf (nth (List.take 3 (List.drop 0 (List.getD x1 x12.toNat []))) (0 + 1)), strOf (nth (List.take 3 (List.drop 0 (List.getD x1 x12.toNat []))) (0 + 1 + 1)))).fst.snd.snd), (oneP x0 (intOf (nth (List.take 3 (List.drop 0 (List.getD x1 x12.toNat []))) 0), intOf (nth (List.take 3 (List.drop 0 (List.getD x1 x12.toNat []))) (0 + 1)), strOf (nth (List.take 3 (List.drop 0 (List.getD x1 x12.toNat []))) (0 + 1 + 1)))).snd)).fst.snd)
              else
                .stuck
            else
              .stuck
          else
            .stuck
        else
          .stuck
      else
        .stuck
    else
      .stuck
  else
    .ret (AV.tup [AV.agg [AV.int IntKind.u8 xh1, AV.int IntKind.i64 xh1_1, AV.str xh1_2, AV.int IntKind.i64 xh1_3], AV.int IntKind.i64 0]) [AObj.var 28 [AV.int IntKind.u8 xh1, AV.int IntKind.i64 xh1_1, AV.str xh1_2, AV.int IntKind.i64 xh1_3], AObj.var 28 [AV.int IntKind.u8 xh1, AV.int IntKind.i64 xh1_1, AV.str xh1_2, AV.int IntKind.i64 xh1_3]] := by kernel_rfl


def tt14 : Tab := [(0, ty0), (3, ty3), (4, ty4), (5, ty5), (9, ty9), (22, ty22), (26, ty26), (28, ty28), (32, ty32)]
theorem tt14_ok : TabOk Try.prog tt14 := tabOk_of_all ⟨ty0_ok, ty3_ok, ty4_ok, ty5_ok, ty9_ok, ty22_ok, ty26_ok, ty28_ok, ty32_ok, trivial⟩
def c14 (F : Nat) : Cfg := ⟨tt14, [(18, .pure go17), (20, .pure go19)], F, [(0, ⟨[0, 1, 4, 6, 7], []⟩)], [], 0⟩
noncomputable def f14_0 (F k : Nat) (x0 : Int) (x1 : List (List AV)) (x7 : Int) (xh0 : Int) (xh0_1 : Int) (xh0_2 : List UInt8) (xh0_3 : Int) (xh1 : Int) (xh1_1 : Int) (xh1_2 : List UInt8) (xh1_3 : Int) : Res := aloop (c14 F) Try.f14 0 [] k (St.mk [AV.int IntKind.i64 x0, AV.ro (Pay.rows 3 x1), AV.top, AV.top, AV.ptr 0 0, AV.top, AV.ptr 1 0, AV.int IntKind.i64 x7, AV.top, AV.top, AV.top, AV.top, AV.top, AV.top, AV.top, AV.top, AV.top, AV.top, AV.top, AV.top, AV.top, AV.top, AV.top, AV.top, AV.top, AV.top, AV.top, AV.top, AV.top, AV.top, AV.top, AV.top, AV.top, AV.top] [AObj.var 28 [AV.int IntKind.u8 xh0, AV.int IntKind.i64 xh0_1, AV.str xh0_2, AV.int IntKind.i64 xh0_3], AObj.var 28 [AV.int IntKind.u8 xh1, AV.int IntKind.i64 xh1_1, AV.str xh1_2, AV.int IntKind.i64 xh1_3]])
theorem f14_eq (F : Nat) (a0 : Int) (vs : List Vl) : afun (c14 F) Try.f14 [AV.int IntKind.i64 a0, AV.ro (Pay.rows 3 (List.map valRow vs))] [] =
  f14_0 F F a0 (List.map valRow vs) 0 0 0 [] 0 0 0 [] 0 := by kernel_rfl
theorem f14_0_eq (F k : Nat) (x0 : Int) (x1 : List (List AV)) (x7 : Int) (xh0 : Int) (xh0_1 : Int) (xh0_2 : List UInt8) (xh0_3 : Int) (xh1 : Int) (xh1_1 : Int) (xh1_2 : List UInt8) (xh1_3 : Int) : f14_0 F (k + 1) x0 x1 x7 xh0 xh0_1 xh0_2 xh0_3 xh1 xh1_1 xh1_2 xh1_3 =
  bif ltI x7 ↑x1.length then
    bif inB x7 x1.length then
      bif isInt IntKind.u8 (nth (List.take 3 (List.drop 0 (List.getD x1 x7.toNat []))) 0) then
        bif isInt IntKind.i64 (nth (List.take 3 (List.drop 0 (List.getD x1 x7.toNat []))) (0 + 1)) then
          bif isStr (nth (List.take 3 (List.drop 0 (List.getD x1 x7.toNat []))) (0 + 1 + 1)) then
            bif xh1_2.length.ble roomB then
              bif (oneP x0 (intOf (nth (List.take 3 (List.drop 0 (List.getD x1 x7.toNat []))) 0), intOf (nth (List.take 3 (List.drop 0 (List.getD x1 x7.toNat []))) (0 + 1)), strOf (nth (List.take 3 (List.drop 0 (List.getD x1 x7.toNat []))) (0 + 1 + 1)))).fst.snd.snd.length.ble roomB then
                bif !eqI (joinP x0 ((xh1, xh1_1, xh1_2), xh1_3) (((oneP x0 (intOf (nth (List.take 3 (List.drop 0 (List.getD x1 x7.toNat []))) 0), intOf (nth (List.take 3 (List.drop 0 (List.getD x1 x7.toNat []))) (0 + 1)), strOf (nth (List.take 3 (List.drop 0 (List.getD x1 x7.toNat []))) (0 + 1 + 1)))).fst.fst, (oneP x0 (intOf (nth (List.take 3 (List.drop 0 (List.getD x1 x7.toNat []))) 0), intOf (nth (List.take 3 (List.drop 0 (List.getD x1 x7.toNat []))) (0 + 1)), strOf (nth (List.take 3 (List.drop 0 (List.getD x1 x7.toNat []))) (0 + 1 + 1)))).fst.snd.fst, (oneP x0 (intOf (nth (List.take 3 (List.drop 0 (List.getD x1 x7.toNat []))) 0), intOf (nth (List.take 3 (List.drop 0 (List.getD x1 x7.toNat []))) (0 + 1)), strOf (nth (List.take 3 (List.drop 0 (List.getD x1 x7.toNat []))) (0 + 1 + 1)))).fst.snd.snd), (oneP x0 (intOf (nth (List.take 3 (List.drop 0 (List.getD x1 x7.toNat []))) 0), intOf (nth (List.take 3 (List.drop 0 (List.getD x1 x7.toNat []))) (0 + 1)), strOf (nth (List.take 3 (List.drop 0 (List.getD x1 x7.toNat []))) (0 + 1 + 1)))).snd)).snd 0 then
                  .ret (AV.tup [AV.agg [AV.int IntKind.u8 0, AV.int IntKind.i64 0, AV.str [], AV.int IntKind.i64 0], AV.int IntKind.i64 (joinP x0 ((xh1, xh1_1, xh1_2), xh1_3) (((oneP x0 (intOf (nth (List.take 3 (List.drop 0 (List.getD x1 x7.toNat []))) 0), intOf (nth (List.take 3 (List.drop 0 (List.getD x1 x7.toNat []))) (0 + 1)), strOf (nth (List.take 3 (List.drop 0 (List.getD x1 x7.toNat []))) (0 + 1 + 1)))).fst.fst, (oneP x0 (intOf (nth (List.take 3 (List.drop 0 (List.getD x1 x7.toNat []))) 0), intOf (nth (List.take 3 (List.drop 0 (List.getD x1 x7.toNat []))) (0 + 1)), strOf (nth (List.take 3 (List.drop 0 (List.getD x1 x7.toNat []))) (0 + 1 + 1)))).fst.snd.fst, (oneP x0 (intOf (nth (List.take 3 (List.drop 0 (List.getD x1 x7.toNat []))) 0), intOf (nth (List.take 3 (List.drop 0 (List.getD x1 x7.toNat []))) (0 + 1)), strOf (nth (List.take 3 (List.drop 0 (List.getD x1 x7.toNat []))) (0 + 1 + 1)))).fst.snd.snd), (oneP x0 (intOf (nth (List.take 3 (List.drop 0 (List.getD x1 x7.toNat []))) 0), intOf (nth (List.take 3 (List.drop 0 (List.getD x1 x7.toNat []))) (0 + 1)), strOf (nth (List.take 3 (List.drop 0 (List.getD x1 x7.toNat []))) (0 + 1 + 1)))).snd)).snd]) [AObj.var 28 [AV.int IntKind.u8 0, AV.int IntKind.i64 0, AV.str [], AV.int IntKind.i64 0], AObj.var 28 [AV.int IntKind.u8 xh1, AV.int IntKind.i64 xh1_1, AV.str xh1_2, AV.int IntKind.i64 xh1_3], AObj.var 28 [AV.int IntKind.u8 (joinP x0 ((xh1, xh1_1, xh1_2), xh1_3) (((oneP x0 (intOf (nth (List.take 3 (List.drop 0 (List.getD x1 x7.toNat []))) 0), intOf (nth (List.take 3 (List.drop 0 (List.getD x1 x7.toNat []))) (0 + 1)), strOf (nth (List.take 3 (List.drop 0 (List.getD x1 x7.toNat []))) (0 + 1 + 1)))).fst.fst, (oneP x0 (intOf (nth (List.take 3 (List.drop 0 (List.getD x1 x7.toNat []))) 0), intOf (nth (List.take 3 (List.drop 0 (List.getD x1 x7.toNat []))) (0 + 1)), strOf (nth (List.take 3 (List.drop 0 (List.getD x1 x7.toNat []))) (0 + 1 + 1)))).fst.snd.fst, (oneP x0 (intOf (nth (List.take 3 (List.drop 0 (List.getD x1 x7.toNat []))) 0), intOf (nth (List.take 3 (List.drop 0 (List.getD x1 x7.toNat []))) (0 + 1)), strOf (nth (List.take 3 (List.drop 0 (List.getD x1 x7.toNat []))) (0 + 1 + 1)))).fst.snd.snd), (oneP x0 (intOf (nth (List.take 3 (List.drop 0 (List.getD x1 x7.toNat []))) 0), intOf (nth (List.take 3 (List.drop 0 (List.getD x1 x7.toNat []))) (0 + 1)), strOf (nth (List.take 3 (List.drop 0 (List.getD x1 x7.toNat []))) (0 + 1 + 1)))).snd)).fst.fst.fst, AV.int IntKind.i64 (joinP x0 ((xh1, xh1_1, xh1_2), xh1_3) (((oneP x0 (intOf (nth (List.take 3 (List.drop 0 (List.getD x1 x7.toNat []))) 0), intOf (nth (List.take 3 (List.drop 0 (List.getD x1 x7.toNat []))) (0 + 1)), strOf (nth (List.take 3 (List.drop 0 (List.getD x1 x7.toNat []))) (0 + 1 + 1)))).fst.fst, (oneP x0 (intOf (nth (List.take 3 (List.drop 0 (List.getD x1 x7.toNat []))) 0), intOf (nth (List.take 3 (List.drop 0 (List.getD x1 x7.toNat []))) (0 + 1)), strOf (nth (List.take 3 (List.drop 0 (List.getD x1 x7.toNat []))) (0 + 1 + 1)))).fst.snd.fst, (oneP x0 (intOf (nth (List.take 3 (List.drop 0 (List.getD x1 x7.toNat []))) 0), intOf (nth (List.take 3 (List.drop 0 (List.getD x1 x7.toNat []))) (0 + 1)), strOf (nth (List.take 3 (List.drop 0 (List.getD x1 x7.toNat []))) (0 + 1 + 1)))).fst.snd.snd), (oneP x0 (intOf (nth (List.take 3 (List.drop 0 (List.getD x1 x7.toNat []))) 0), intOf (nth (List.take 3 (List.drop 0 (List.getD x1 x7.toNat []))) (0 + 1)), strOf (nth (List.take 3 (List.drop 0 (List.getD x1 x7.toNat []))) (0 + 1 + 1)))).snd)).fst.fst.snd.fst, AV.str (joinP x0 ((xh1, xh1_1, xh1_2), xh1_3) (((oneP x0 (intOf (nth (List.take 3 (List.drop 0 (List.getD x1 x7.toNat []))) 0), intOf (nth (List.take 3 (List.drop 0 (List.getD x1 x7.toNat []))) (0 + 1)), strOf (nth (List.take 3 (List.drop 0 (List.getD x1 x7.toNat []))) (0 + 1 + 1)))).fst.fst, (oneP x0 (intOf (nth (List.take 3 (List.drop 0 (List.getD x1 x7.toNat []))) 0), intOf (nth (List.take 3 (List.drop 0 (List.getD x1 x7.toNat []))) (0 + 1)), strOf (nth (List.take 3 (List.drop 0 (List.getD x1 x7.toNat []))) (0 + 1 + 1)))).fst.snd.fst, (oneP x0 (intOf (nth (List.take 3 (List.drop 0 (List.getD x1 x7.toNat []))) 0), intOf (nth (List.take 3 (List.drop 0 (List.getD x1 x7.toNat []))) (0 + 1)), strOf (nth (List.take 3 (List.drop 0 (List.getD x1 x7.toNat []))) (0 + 1 + 1)))).fst.snd.snd), (oneP x0 (intOf (nth (List.take 3 (List.drop 0 (List.getD x1 x7.toNat []))) 0), intOf (nth (List.take 3 (List.drop 0 (List.getD x1 x7.toNat []))) (0 + 1)), strOf (nth (List.take 3 (List.drop 0 (List.getD x1 x7.toNat []))) (0 + 1 + 1)))).snd)).fst.fst.snd.snd, AV.int IntKind.i64 (joinP x0 ((xh1, xh1_1, xh1_2), xh1_3) (((oneP x0 (intOf (nth (List.take 3 (List.drop 0 (List.getD x1 x7.toNat []))) 0), intOf (nth (List.take 3 (List.drop 0 (List.getD x1 x7.toNat []))) (0 + 1)), strOf (nth (List.take 3 (List.drop 0 (List.getD x1 x7.toNat []))) (0 + 1 + 1)))).fst.fst, (oneP x0 (intOf (nth (List.take 3 (List.drop 0 (List.getD x1 x7.toNat []))) 0), intOf (nth (List.take 3 (List.drop 0 (List.getD x1 x7.toNat []))) (0 + 1)), strOf (nth (List.take 3 (List.drop 0 (List.getD x1 x7.toNat []))) (0 + 1 + 1)))).fst.snd.fst, (oneP x0 (intOf (nth (List.take 3 (List.drop 0 (List.getD x1 x7.toNat []))) 0), intOf (nth (List.take 3 (List.drop 0 (List.getD x1 x7.toNat []))) (0 + 1)), strOf (nth (List.take 3 (List.drop 0 (List.getD x1 x7.toNat []))) (0 + 1 + 1)))).fst.snd.snd), (oneP x0 (intOf (nth (List.take 3 (List.drop 0 (List.getD x1 x7.toNat []))) 0), intOf (nth (List.take 3 (List.drop 0 (List.getD x1 x7.toNat []))) (0 + 1)), strOf (nth (List.take 3 (List.drop 0 (List.getD x1 x7.toNat []))) (0 + 1 + 1)))).snd)).fst.snd]]
                else
                  f14_0 F k x0 x1 (IntKind.i64.wrap (x7 + 1)) xh0 xh0_1 xh0_2 xh0_3 ((joinP x0 ((xh1, xh1_1, xh1_2), xh1_3) (((oneP x0 (intOf (nth (List.take 3 (List.drop 0 (List.getD x1 x7.toNat []))) 0), intOf (nth (List.take 3 (List.drop 0 (List.getD x1 x7.toNat []))) (0 + 1)), strOf (nth (List.take 3 (List.drop 0 (List.getD x1 x7.toNat []))) (0 + 1 + 1)))).fst.fst, (oneP x0 (intOf (nth (List.take 3 (List.drop 0 (List.getD x1 x7.toNat []))) 0), intOf (nth (List.take 3 (List.drop 0 (List.getD x1 x7.toNat []))) (0 + 1)), strOf (nth (List.take 3 (List.drop 0 (List.getD x1 x7.toNat []))) (0 + 1 + 1)))).fst.snd.fst, (oneP x0 (intOf (nth (List.take 3 (List.drop 0 (List.getD x1 x7.toNat []))) 0), intOf (nth (List.take 3 (List.drop 0 (List.getD x1 x7.toNat []))) (0 + 1)), strOf (nth (List.take 3 (List.drop 0 (List.getD x1 x7.toNat []))) (0 + 1 + 1)))).fst.snd.snd), (oneP x0 (intOf (nth (List.take 3 (List.drop 0 (List.getD x1 x7.toNat []))) 0), intOf (nth (List.take 3 (List.drop 0 (List.getD x1 x7.toNat []))) (0 + 1)), strOf (nth (List.take 3 (List.drop 0 (List.getD x1 x7.toNat []))) (0 + 1 + 1)))).snd)).fst.fst.fst) ((joinP x0 ((xh1, xh1_1, xh1_2), xh1_3) (((oneP x0 (intOf (nth (List.take 3 (List.drop 0 (List.getD x1 x7.toNat []))) 0), intOf (nth (List.take 3 (List.drop 0 (List.getD x1 x7.toNat []))) (0 + 1)), strOf (nth (List.take 3 (List.drop 0 (List.getD x1 x7.toNat []))) (0 + 1 + 1)))).fst.fst, (oneP x0 (intOf (nth (List.take 3 (List.drop 0 (List.getD x1 x7.toNat []))) 0), intOf (nth (List.take 3 (List.drop 0 (List.getD x1 x7.toNat []))) (0 + 1)), strOf (nth (List.take 3 (List.drop 0 (List.getD x1 x7.toNat []))) (0 + 1 + 1)))).fst.snd.fst, (oneP x0 (intOf (nth (List.take 3 (List.drop 0 (List.getD x1 x7.toNat []))) 0), intOf (nth (List.take 3 (List.drop 0 (List.getD x1 x7.toNat []))) (0 + 1)), strOf (nth (List.take 3 (List.drop 0 (List.getD x1 x7.toNat []))) (0 + 1 + 1)))).fst.snd.snd), (oneP x0 (intOf (nth (List.take 3 (List.drop 0 (List.getD x1 x7.toNat []))) 0), intOf (nth (List.take 3 (List.drop 0 (List.getD x1 x7.toNat []))) (0 + 1)), strOf (nth (List.take 3 (List.drop 0 (List.getD x1 x7.toNat []))) (0 + 1 + 1)))).snd)).fst.fst.snd.fst) ((joinP x0 ((xh1, xh1_1, xh1_2), xh1_3) (((oneP x0 (intOf (nth (List.take 3 (List.drop 0 (List.getD x1 x7.toNat []))) 0), intOf (nth (List.take 3 (List.drop 0 (List.getD x1 x7.toNat []))) (0 + 1)), strOf (nth (List.take 3 (List.drop 0 (List.getD x1 x7.toNat []))) (0 + 1 + 1)))).fst.fst, (oneP x0 (intOf (nth (List.take 3 (List.drop 0 (List.getD x1 x7.toNat []))) 0), intOf (nth (List.take 3 (List.drop 0 (List.getD x1 x7.toNat []))) (0 + 1)), strOf (nth (List.take 3 (List.drop 0 (List.getD x1 x7.toNat []))) (0 + 1 + 1)))).fst.snd.fst, (oneP x0 (intOf (nth (List.take 3 (List.drop 0 (List.getD x1 x7.toNat []))) 0), intOf (nth (List.take 3 (List.drop 0 (List.getD x1 x7.toNat []))) (0 + 1)), strOf (nth (List.take 3 (List.drop 0 (List.getD x1 x7.toNat []))) (0 + 1 + 1)))).fst.snd.snd), (oneP x0 (intOf (nth (List.take 3 (List.drop 0 (List.getD x1 x7.toNat []))) 0), intOf (nth (List.take 3 (List.drop 0 (List.getD x1 x7.toNat []))) (0 + 1)), strOf (nth (List.take 3 (List.drop 0 (List.getD x1 x7.toNat []))) (0 + 1 + 1)))).snd)).fst.fst.snd.snd) ((joinP x0 ((xh1, xh1_1, xh1_2), xh1_3) (((oneP x0 (intOf (nth (List.take 3 (List.drop 0 (List.getD x1 x7.toNat []))) 0), intOf (nth (List.take 3 (List.drop 0 (List.getD x1 x7.toNat []))) (0 + 1)), strOf (nth (List.take 3 (List.drop 0 (List.getD x1 x7.toNat []))) (0 + 1 + 1)))).fst.fst, (oneP x0 (intOf (nth (List.take 3 (List.drop 0 (List.getD x1 x7.toNat []))) 0), intOf (nth (List.take 3 (List.drop 0 (List.getD x1 x7.toNat []))) (0 + 1)), strOf (nth (List.take 3 (List.drop 0 (List.getD x1 x7.toNat []))) (0 + 1 + 1)))).fst.snd.fst, (oneP x0 (intOf (nth (List.take 3 (List.drop 0 (List.getD x1 x7.toNat []))) 0), intOf (nth (List.take 3 (List.drop 0 (List.getD x1 x7.toNat []))) (0 + 1)), strOf (nth (List.take 3 (List.drop 0 (List.getD x1 x7.toNat []))) (0 + 1 + 1)))).fst.snd.snd), (oneP x0 (intOf (nth (List.take 3 (List.drop 0 (List.getD x1 x7.toNat []))) 0), intOf (nth (List.take 3 (List.drop 0 (List.getD x1 x7.toNat []))) (0 + 1)), strOf (nth (List.take 3 (List.drop 0 (List.getD x1 x7.toNat []))) (0 + 1 + 1)))).snd)).fst.snd)
              else
                .stuck
            else
              .stuck
          else
            .stuck
        else
          .stuck
      else
        .stuck
    else
      .stuck
  else
    .ret (AV.tup [AV.agg [AV.int IntKind.u8 xh1, AV.int IntKind.i64 xh1_1, AV.str xh1_2, AV.int IntKind.i64 xh1_3], AV.int IntKind.i64 0]) [AObj.var 28 [AV.int IntKind.u8 xh1, AV.int IntKind.i64 xh1_1, AV.str xh1_2, AV.int IntKind.i64 xh1_3], AObj.var 28 [AV.int IntKind.u8 xh1, AV.int IntKind.i64 xh1_1, AV.str xh1_2, AV.int IntKind.i64 xh1_3]] := by kernel_rfl


def tt15 : Tab := [(0, ty0), (1, ty1), (3, ty3), (4, ty4), (5, ty5), (9, ty9), (26, ty26), (28, ty28)]
theorem tt15_ok : TabOk Try.prog tt15 := tabOk_of_all ⟨ty0_ok, ty1_ok, ty3_ok, ty4_ok, ty5_ok, ty9_ok, ty26_ok, ty28_ok, trivial⟩
def c15 (F : Nat) : Cfg := ⟨tt15, [(40, .pure go40V)], F, [], [], 0⟩
theorem f15_eq (F : Nat) (a0_0_0 : Int) (a0_0_1 : Int) (a0_0_2 : List UInt8) (a0_1 : Int) (a1_0_0 : Int) (a1_0_1 : Int) (a1_0_2 : List UInt8) (a1_1 : Int) : afun (c15 F) Try.f15 [AV.agg [AV.int IntKind.u8 a0_0_0, AV.int IntKind.i64 a0_0_1, AV.str a0_0_2, AV.int IntKind.i64 a0_1], AV.agg [AV.int IntKind.u8 a1_0_0, AV.int IntKind.i64 a1_0_1, AV.str a1_0_2, AV.int IntKind.i64 a1_1]] [] =
  bif eqI a0_1 a1_1 then
    .ret (AV.bool (eqI (vOrd a0_0_0 a0_0_1 a0_0_2 a1_0_0 a1_0_1 a1_0_2) 0)) [AObj.var 28 [AV.int IntKind.u8 a0_0_0, AV.int IntKind.i64 a0_0_1, AV.str a0_0_2, AV.int IntKind.i64 a0_1], AObj.var 28 [AV.int IntKind.u8 a1_0_0, AV.int IntKind.i64 a1_0_1, AV.str a1_0_2, AV.int IntKind.i64 a1_1]]
  else
    .ret (AV.bool false) [AObj.var 28 [AV.int IntKind.u8 a0_0_0, AV.int IntKind.i64 a0_0_1, AV.str a0_0_2, AV.int IntKind.i64 a0_1], AObj.var 28 [AV.int IntKind.u8 a1_0_0, AV.int IntKind.i64 a1_0_1, AV.str a1_0_2, AV.int IntKind.i64 a1_1]] := by kernel_rfl


theorem f13_run (F : Nat) (f : Int) (vs : List Vl) (hv : ∀ v ∈ vs, v.2.2.length ≤ roomB) (hl : vs.length ≤ maxLen) : ∀ (d k j : Nat) (q p : Pt), j + d = vs.length → d < k → p.1.2.2.length ≤ roomB →
    ∃ objs, f13_0 F k f (vs.map valRow) (vs.length : Int) (j : Int) q.1.1 q.1.2.1 q.1.2.2 q.2 p.1.1 p.1.2.1 p.1.2.2 p.2 = .ret (.tup [ptA (allP f p (vs.drop j)).1, .int .i64 (allP f p (vs.drop j)).2]) objs
  | 0, k + 1, j, q, p, h1, h2, h3 => by
    rw [f13_0_eq, bif_neg (by rw [ltI_iff]; omega), List.drop_eq_nil_of_le (by omega)]
    exact ⟨_, rfl⟩
  | d + 1, k + 1, j, q, p, h1, h2, h3 => by
    have hj : j < vs.length := by omega
    unfold maxLen at hl
    have e := mapRow_getD vs j hj
    have hm : vs.getD j (0, 0, []) ∈ vs := by rw [List.getD_eq_getElem?_getD, List.getElem?_eq_getElem hj]; exact List.getElem_mem hj
    rw [f13_0_eq, bif_pos (by rw [ltI_iff]; omega), bif_pos (by rw [inB_iff]; rw [List.length_map]; omega), show (j : Int).toNat = j by omega, e, drop_getD vs j (0, 0, []) hj]
    generalize vs.getD j (0, 0, []) = v at hm ⊢
    have hvl := hv v hm
    have ho := oneP_len (k := f) hvl
    have hjl := joinP_len (k := f) h3 ho
    have n0 : nth (List.take 3 (List.drop 0 (valRow v))) 0 = .int .u8 v.1 := rfl
    have n1 : nth (List.take 3 (List.drop 0 (valRow v))) (0 + 1) = .int .i64 v.2.1 := rfl
    have n2 : nth (List.take 3 (List.drop 0 (valRow v))) (0 + 1 + 1) = .str v.2.2 := rfl
    rw [n0, n1, n2, bif_pos (c := isInt .u8 _) rfl, bif_pos (c := isInt .i64 _) rfl, bif_pos (c := isStr _) rfl]
    have eP : ∀ p : Pt, ((p.1.1, p.1.2.1, p.1.2.2), p.2) = p := fun _ => rfl
    have eV : ∀ v : Vl, (v.1, v.2.1, v.2.2) = v := fun _ => rfl
    simp only [intOf, strOf, eP, eV]
    rw [bif_pos (ble_iff.2 h3), bif_pos (ble_iff.2 ho), bif_neI]
    unfold allP
    by_cases hz : (joinP f p (oneP f v)).2 = 0
    · rw [if_pos hz, if_pos hz, wrap64 (by omega) (by omega), show (j : Int) + 1 = ((j + 1 : Nat) : Int) by omega]
      exact f13_run F f vs hv (by unfold maxLen; omega) d k (j + 1) q (joinP f p (oneP f v)).1 (by omega) (by omega) hjl
    · rw [if_neg hz, if_neg hz]
      exact ⟨_, rfl⟩

theorem ok13 : PureOk Try.prog 13 go13 := by
  refine pureOk_of (c13 rounds) tt13_ok (.cons ok17 (.cons ok19 .nil)) follows rfl Try.func13 (by kernel_rfl) (by kernel_rfl) ?_ ?_
  · intro R stk args k; unfold go13; split
    · rename_i f l; cases allVal l <;> rfl
    · rfl
  · intro args r objs h hr
    unfold go13 at h
    split at h
    · rename_i f l
      obtain ⟨ha, h⟩ := cond_out h
      cases h
      obtain ⟨hl, hv⟩ := allVal_out ha
      have hlen := hr.tail.rowsLen
      generalize decVals l = vs at hl hv ⊢
      subst hl
      rw [List.length_map] at hlen
      refine ⟨_, ?_, .same⟩
      unfold apure
      have hlen2 := hlen
      unfold maxLen at hlen
      rw [f13_eq, List.length_map]
      obtain ⟨objs, e⟩ := f13_run rounds f vs hv hlen2 vs.length rounds 0 ((0, 0, []), 0) ((0, 0, []), 0) (by omega) (by unfold rounds; omega) (Nat.zero_le _)
      rw [List.drop_zero] at e
      rw [show (0 : Int) = ((0 : Nat) : Int) from rfl] at *
      rw [e]
      rfl
    · cases h

theorem f14_run (F : Nat) (f : Int) (vs : List Vl) (hv : ∀ v ∈ vs, v.2.2.length ≤ roomB) (hl : vs.length ≤ maxLen) : ∀ (d k j : Nat) (q p : Pt), j + d = vs.length → d < k → p.1.2.2.length ≤ roomB →
    ∃ objs, f14_0 F k f (vs.map valRow) (j : Int) q.1.1 q.1.2.1 q.1.2.2 q.2 p.1.1 p.1.2.1 p.1.2.2 p.2 = .ret (.tup [ptA (allP f p (vs.drop j)).1, .int .i64 (allP f p (vs.drop j)).2]) objs
  | 0, k + 1, j, q, p, h1, h2, h3 => by
    rw [f14_0_eq, bif_neg (by rw [ltI_iff]; rw [List.length_map]; omega), List.drop_eq_nil_of_le (by omega)]
    exact ⟨_, rfl⟩
  | d + 1, k + 1, j, q, p, h1, h2, h3 => by
    have hj : j < vs.length := by omega
    unfold maxLen at hl
    have e := mapRow_getD vs j hj
    have hm : vs.getD j (0, 0, []) ∈ vs := by rw [List.getD_eq_getElem?_getD, List.getElem?_eq_getElem hj]; exact List.getElem_mem hj
    rw [f14_0_eq, bif_pos (by rw [ltI_iff]; rw [List.length_map]; omega), bif_pos (by rw [inB_iff]; rw [List.length_map]; omega), show (j : Int).toNat = j by omega, e, drop_getD vs j (0, 0, []) hj]
    generalize vs.getD j (0, 0, []) = v at hm ⊢
    have hvl := hv v hm
    have ho := oneP_len (k := f) hvl
    have hjl := joinP_len (k := f) h3 ho
    have n0 : nth (List.take 3 (List.drop 0 (valRow v))) 0 = .int .u8 v.1 := rfl
    have n1 : nth (List.take 3 (List.drop 0 (valRow v))) (0 + 1) = .int .i64 v.2.1 := rfl
    have n2 : nth (List.take 3 (List.drop 0 (valRow v))) (0 + 1 + 1) = .str v.2.2 := rfl
    rw [n0, n1, n2, bif_pos (c := isInt .u8 _) rfl, bif_pos (c := isInt .i64 _) rfl, bif_pos (c := isStr _) rfl]
    have eP : ∀ p : Pt, ((p.1.1, p.1.2.1, p.1.2.2), p.2) = p := fun _ => rfl
    have eV : ∀ v : Vl, (v.1, v.2.1, v.2.2) = v := fun _ => rfl
    simp only [intOf, strOf, eP, eV]
    rw [bif_pos (ble_iff.2 h3), bif_pos (ble_iff.2 ho), bif_neI]
    unfold allP
    by_cases hz : (joinP f p (oneP f v)).2 = 0
    · rw [if_pos hz, if_pos hz, wrap64 (by omega) (by omega), show (j : Int) + 1 = ((j + 1 : Nat) : Int) by omega]
      exact f14_run F f vs hv (by unfold maxLen; omega) d k (j + 1) q (joinP f p (oneP f v)).1 (by omega) (by omega) hjl
    · rw [if_neg hz, if_neg hz]
      exact ⟨_, rfl⟩

theorem ok14 : PureOk Try.prog 14 go13 := by
  refine pureOk_of (c14 rounds) tt14_ok (.cons ok18 (.cons ok20 .nil)) follows rfl Try.func14 (by kernel_rfl) (by kernel_rfl) ?_ ?_
  · intro R stk args k; unfold go13; split
    · rename_i f l; cases allVal l <;> rfl
    · rfl
  · intro args r objs h hr
    unfold go13 at h
    split at h
    · rename_i f l
      obtain ⟨ha, h⟩ := cond_out h
      cases h
      obtain ⟨hl, hv⟩ := allVal_out ha
      have hlen := hr.tail.rowsLen
      generalize decVals l = vs at hl hv ⊢
      subst hl
      rw [List.length_map] at hlen
      refine ⟨_, ?_, .same⟩
      unfold apure
      have hlen2 := hlen
      unfold maxLen at hlen
      rw [f14_eq]
      obtain ⟨objs, e⟩ := f14_run rounds f vs hv hlen2 vs.length rounds 0 ((0, 0, []), 0) ((0, 0, []), 0) (by omega) (by unfold rounds; omega) (Nat.zero_le _)
      rw [List.drop_zero] at e
      rw [show (0 : Int) = ((0 : Nat) : Int) from rfl] at *
      rw [e]
      rfl
    · cases h

theorem ok15 : PureOk Try.prog 15 go15 := by
  refine pureOk_of (c15 rounds) tt15_ok (.cons ok40 .nil) follows rfl Try.func15 (by kernel_rfl) (by kernel_rfl) ?_ ?_
  · intro R stk args k; unfold go15; split <;> rfl
  · intro args r objs h hr
    unfold go15 at h
    split at h
    · rename_i p n s c q m t d
      cases h
      refine ⟨_, ?_, .same⟩
      unfold apure
      rw [f15_eq]
      unfold sameP vO
      cases eqI c d <;> rfl
    · cases h

end Go.Proofs.YthejefgpanceoaaG
