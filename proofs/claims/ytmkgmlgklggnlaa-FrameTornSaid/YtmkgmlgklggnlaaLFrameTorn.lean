/- FrameTorn: for every input the law returns true, and the input reads as it did; no condition beyond the row. -/
import Derived.Test.YtmkgmlgklggnlaaRows
import Derived.WalkKit
import Derived.ProofKit
import Derived.OpenShut
import Derived.ShutString
import Derived.ChangeOld
import Derived.Below
import Derived.SizedLaws
import Derived.Carry
import Derived.Test.YtmkgmlgklggnlaaGw
import Derived.Test.YtmkgmlgklggnlaaGmYframef
namespace Go.Proofs.YtmkgmlgklggnlaaG
open Go Go.Proofs.YtmkgmlgklggnlaaGm
set_option maxRecDepth 100000
def tt9 : Tab := [(0, ty0), (1, ty1), (3, ty3), (4, ty4), (5, ty5), (22, ty22), (27, ty27), (35, ty35), (68, ty68), (69, ty69), (75, ty75), (76, ty76)]
theorem tt9_ok : TabOk Try.prog tt9 := tabOk_of_all ⟨ty0_ok, ty1_ok, ty3_ok, ty4_ok, ty5_ok, ty22_ok, ty27_ok, ty35_ok, ty68_ok, ty69_ok, ty75_ok, ty76_ok, trivial⟩
def c9 (F : Nat) : Cfg := ⟨tt9, [(40, .pure go40), (43, .pure (normGo [.leaf .bytes] go43)), (45, .pure go45), (46, .pure go46), (47, .pure (normGo [.leaf .bytes, .leaf .bytes] go47))], F, [(0, ⟨[0, 1, 5, 6, 7], [(6, 3)]⟩), (2, ⟨[0, 5, 6, 10, 11, 12, 13], []⟩)], [], 0⟩
noncomputable def f9_0 (F k : Nat) (x0 : List (List AV)) (x1 : Int) (x7 : Int) (xh0 : List Int) : Res := aloop (c9 F) Try.f9 0 [] k (St.mk [AV.ro (Pay.rows 1 x0), AV.int IntKind.u16 x1, AV.top, AV.top, AV.top, AV.nil, AV.own 0, AV.int IntKind.i64 x7, AV.top, AV.top, AV.top, AV.top, AV.top, AV.top, AV.top, AV.top, AV.top, AV.top, AV.top, AV.top, AV.top, AV.top, AV.top, AV.top, AV.top, AV.top, AV.top, AV.top, AV.top, AV.top, AV.top, AV.top, AV.top, AV.top, AV.top, AV.top, AV.top, AV.top, AV.top, AV.top, AV.top, AV.top, AV.top, AV.top, AV.top, AV.top, AV.top, AV.top, AV.top, AV.top, AV.top, AV.top, AV.top, AV.top, AV.top, AV.top, AV.top, AV.top, AV.top, AV.top, AV.top, AV.top, AV.top, AV.top, AV.top, AV.top, AV.top, AV.top, AV.top, AV.top, AV.top, AV.top, AV.top, AV.top, AV.top, AV.top, AV.top, AV.top, AV.top, AV.top, AV.top, AV.top, AV.top, AV.top, AV.top, AV.top, AV.top, AV.top, AV.top, AV.top, AV.top, AV.top, AV.top, AV.top, AV.top, AV.top, AV.top, AV.top, AV.top, AV.top, AV.top, AV.top, AV.top, AV.top, AV.top, AV.top, AV.top, AV.top, AV.top, AV.top, AV.top, AV.top, AV.top, AV.top, AV.top, AV.top, AV.top] [AObj.arr 3 (Pay.ints IntKind.i64 xh0)])
noncomputable def f9_0_1 (F k : Nat) (x0 : List (List AV)) (x1 : Int) (x7 : Int) (xh0 : List UInt8) (xh1 : List Int) : Res := aloop (c9 F) Try.f9 0 [] k (St.mk [AV.ro (Pay.rows 1 x0), AV.int IntKind.u16 x1, AV.top, AV.top, AV.top, AV.own 0, AV.own 1, AV.int IntKind.i64 x7, AV.top, AV.top, AV.top, AV.top, AV.top, AV.top, AV.top, AV.top, AV.top, AV.top, AV.top, AV.top, AV.top, AV.top, AV.top, AV.top, AV.top, AV.top, AV.top, AV.top, AV.top, AV.top, AV.top, AV.top, AV.top, AV.top, AV.top, AV.top, AV.top, AV.top, AV.top, AV.top, AV.top, AV.top, AV.top, AV.top, AV.top, AV.top, AV.top, AV.top, AV.top, AV.top, AV.top, AV.top, AV.top, AV.top, AV.top, AV.top, AV.top, AV.top, AV.top, AV.top, AV.top, AV.top, AV.top, AV.top, AV.top, AV.top, AV.top, AV.top, AV.top, AV.top, AV.top, AV.top, AV.top, AV.top, AV.top, AV.top, AV.top, AV.top, AV.top, AV.top, AV.top, AV.top, AV.top, AV.top, AV.top, AV.top, AV.top, AV.top, AV.top, AV.top, AV.top, AV.top, AV.top, AV.top, AV.top, AV.top, AV.top, AV.top, AV.top, AV.top, AV.top, AV.top, AV.top, AV.top, AV.top, AV.top, AV.top, AV.top, AV.top, AV.top, AV.top, AV.top, AV.top, AV.top, AV.top, AV.top, AV.top] [AObj.arr 5 (Pay.bytes xh0), AObj.arr 3 (Pay.ints IntKind.i64 xh1)])
noncomputable def f9_2 (F k : Nat) (x0 : List (List AV)) (x10 : Int) (x11 : Int) (x12 : Int) (x13 : Int) (xh0 : List Int) : Res := aloop (c9 F) Try.f9 2 [] k (St.mk [AV.ro (Pay.rows 1 x0), AV.top, AV.top, AV.top, AV.top, AV.nil, AV.own 0, AV.top, AV.top, AV.top, AV.int IntKind.i64 x10, AV.int IntKind.i64 x11, AV.int IntKind.i64 x12, AV.int IntKind.i64 x13, AV.top, AV.top, AV.top, AV.top, AV.top, AV.top, AV.top, AV.top, AV.top, AV.top, AV.top, AV.top, AV.top, AV.top, AV.top, AV.top, AV.top, AV.top, AV.top, AV.top, AV.top, AV.top, AV.top, AV.top, AV.top, AV.top, AV.top, AV.top, AV.top, AV.top, AV.top, AV.top, AV.top, AV.top, AV.top, AV.top, AV.top, AV.top, AV.top, AV.top, AV.top, AV.top, AV.top, AV.top, AV.top, AV.top, AV.top, AV.top, AV.top, AV.top, AV.top, AV.top, AV.top, AV.top, AV.top, AV.top, AV.top, AV.top, AV.top, AV.top, AV.top, AV.top, AV.top, AV.top, AV.top, AV.top, AV.top, AV.top, AV.top, AV.top, AV.top, AV.top, AV.top, AV.top, AV.top, AV.top, AV.top, AV.top, AV.top, AV.top, AV.top, AV.top, AV.top, AV.top, AV.top, AV.top, AV.top, AV.top, AV.top, AV.top, AV.top, AV.top, AV.top, AV.top, AV.top, AV.top, AV.top, AV.top, AV.top, AV.top, AV.top, AV.top, AV.top] [AObj.arr 3 (Pay.ints IntKind.i64 xh0)])
noncomputable def f9_2_1 (F k : Nat) (x0 : List (List AV)) (x10 : Int) (x11 : Int) (x12 : Int) (x13 : Int) (xh0 : List UInt8) (xh1 : List Int) : Res := aloop (c9 F) Try.f9 2 [] k (St.mk [AV.ro (Pay.rows 1 x0), AV.top, AV.top, AV.top, AV.top, AV.own 0, AV.own 1, AV.top, AV.top, AV.top, AV.int IntKind.i64 x10, AV.int IntKind.i64 x11, AV.int IntKind.i64 x12, AV.int IntKind.i64 x13, AV.top, AV.top, AV.top, AV.top, AV.top, AV.top, AV.top, AV.top, AV.top, AV.top, AV.top, AV.top, AV.top, AV.top, AV.top, AV.top, AV.top, AV.top, AV.top, AV.top, AV.top, AV.top, AV.top, AV.top, AV.top, AV.top, AV.top, AV.top, AV.top, AV.top, AV.top, AV.top, AV.top, AV.top, AV.top, AV.top, AV.top, AV.top, AV.top, AV.top, AV.top, AV.top, AV.top, AV.top, AV.top, AV.top, AV.top, AV.top, AV.top, AV.top, AV.top, AV.top, AV.top, AV.top, AV.top, AV.top, AV.top, AV.top, AV.top, AV.top, AV.top, AV.top, AV.top, AV.top, AV.top, AV.top, AV.top, AV.top, AV.top, AV.top, AV.top, AV.top, AV.top, AV.top, AV.top, AV.top, AV.top, AV.top, AV.top, AV.top, AV.top, AV.top, AV.top, AV.top, AV.top, AV.top, AV.top, AV.top, AV.top, AV.top, AV.top, AV.top, AV.top, AV.top, AV.top, AV.top, AV.top, AV.top, AV.top, AV.top, AV.top, AV.top, AV.top] [AObj.arr 5 (Pay.bytes xh0), AObj.arr 3 (Pay.ints IntKind.i64 xh1)])
theorem f9_eq (F : Nat) (a0 : List (List AV)) (a1 : Int) : afun (c9 F) Try.f9 [AV.ro (Pay.rows 1 a0), AV.int IntKind.u16 a1] [] =
  bif ltI 30 ↑a0.length then
    .ret (AV.bool true) []
  else
    f9_0 F F a0 a1 0 [] := by kernel_rfl
theorem f9_0_eq (F k : Nat) (x0 : List (List AV)) (x1 : Int) (x7 : Int) (xh0 : List Int) : f9_0 F (k + 1) x0 x1 x7 xh0 =
  bif ltI x7 ↑x0.length then
    bif inB x7 x0.length then
      bif isRo (Pay.bytes []) (nth (x0.getD x7.toNat []) 0) then
        bif ltI 300 ↑(bytesOf (nth (x0.getD x7.toNat []) 0)).length then
          .ret (AV.bool true) [AObj.arr 3 (Pay.ints IntKind.i64 xh0)]
        else
          bif inB x7 x0.length then
            bif isRo (Pay.bytes []) (nth (x0.getD x7.toNat []) 0) then
              bif Nat.blt 1048576 (bytesOf (nth (x0.getD x7.toNat []) 0)).length then
                .ret (AV.bool false) [AObj.arr 3 (Pay.ints IntKind.i64 xh0)]
              else
                bif appFits ty3 (Pay.ints IntKind.i64 (xh0 ++ [(([] ++ encF (bytesOf (nth (x0.getD x7.toNat []) 0))).length : Int)])) then
                  f9_0_1 F k x0 x1 (IntKind.i64.wrap (x7 + 1)) ([] ++ encF (bytesOf (nth (x0.getD x7.toNat []) 0))) (xh0 ++ [(([] ++ encF (bytesOf (nth (x0.getD x7.toNat []) 0))).length : Int)])
                else
                  .stuck
            else
              .stuck
          else
            .stuck
      else
        .stuck
    else
      .stuck
  else
    f9_2 F F x0 (irem (IntKind.i64.wrap x1) (IntKind.i64.wrap ((([] : List UInt8).length : Int) + 1))) 0 0 0 xh0 := by kernel_rfl
theorem f9_0_1_eq (F k : Nat) (x0 : List (List AV)) (x1 : Int) (x7 : Int) (xh0 : List UInt8) (xh1 : List Int) : f9_0_1 F (k + 1) x0 x1 x7 xh0 xh1 =
  bif ltI x7 ↑x0.length then
    bif inB x7 x0.length then
      bif isRo (Pay.bytes []) (nth (x0.getD x7.toNat []) 0) then
        bif ltI 300 ↑(bytesOf (nth (x0.getD x7.toNat []) 0)).length then
          .ret (AV.bool true) [AObj.arr 5 (Pay.bytes xh0), AObj.arr 3 (Pay.ints IntKind.i64 xh1)]
        else
          bif inB x7 x0.length then
            bif isRo (Pay.bytes []) (nth (x0.getD x7.toNat []) 0) then
              bif Nat.blt 1048576 (bytesOf (nth (x0.getD x7.toNat []) 0)).length then
                .ret (AV.bool false) [AObj.arr 5 (Pay.bytes xh0), AObj.arr 3 (Pay.ints IntKind.i64 xh1)]
              else
                bif xh0.length.ble 35184372088832 then
                  bif appFits ty3 (Pay.ints IntKind.i64 (xh1 ++ [((xh0 ++ encF (bytesOf (nth (x0.getD x7.toNat []) 0))).length : Int)])) then
                    f9_0_1 F k x0 x1 (IntKind.i64.wrap (x7 + 1)) (xh0 ++ encF (bytesOf (nth (x0.getD x7.toNat []) 0))) (xh1 ++ [((xh0 ++ encF (bytesOf (nth (x0.getD x7.toNat []) 0))).length : Int)])
                  else
                    .stuck
                else
                  .stuck
            else
              .stuck
          else
            .stuck
      else
        .stuck
    else
      .stuck
  else
    bif eqI (IntKind.i64.wrap (↑xh0.length + 1)) 0 then
      .stuck
    else
      f9_2_1 F F x0 (irem (IntKind.i64.wrap x1) (IntKind.i64.wrap (↑xh0.length + 1))) 0 0 0 xh0 xh1 := by kernel_rfl
theorem f9_2_eq (F k : Nat) (x0 : List (List AV)) (x10 : Int) (x11 : Int) (x12 : Int) (x13 : Int) (xh0 : List Int) : f9_2 F (k + 1) x0 x10 x11 x12 x13 xh0 =
  bif ltI x13 ↑xh0.length then
    bif inB x13 xh0.length then
      bif leI (xh0.getD x13.toNat 0) x10 then
        bif inB x13 xh0.length then
          f9_2 F k x0 x10 (IntKind.i64.wrap (x13 + 1)) (xh0.getD x13.toNat 0) (IntKind.i64.wrap (x13 + 1)) xh0
        else
          .stuck
      else
        bif leI 0 0 && leI 0 x10 && leI x10 0 then
          bif leI 0 0 && leI 0 x11 && leI x11 ↑x0.length then
            bif okB (List.map byteRow (allF [] (([] : List UInt8).length + 1) 0).fst) && okB (List.take (x11.toNat - Int.toNat 0) (List.drop (Int.toNat 0) x0)) then
              bif decide (decB (List.map byteRow (allF [] (([] : List UInt8).length + 1) 0).fst) = decB (List.take (x11.toNat - Int.toNat 0) (List.drop (Int.toNat 0) x0))) then
                bif eqI (allF [] (([] : List UInt8).length + 1) 0).snd.fst x12 then
                  bif eqI (allF [] (([] : List UInt8).length + 1) 0).snd.snd 2 == ltI x12 x10 then
                    bif eqI (allF [] (([] : List UInt8).length + 1) 0).snd.snd 0 == eqI x12 x10 then
                      .ret (AV.bool true) [AObj.arr 3 (Pay.ints IntKind.i64 xh0)]
                    else
                      .ret (AV.bool false) [AObj.arr 3 (Pay.ints IntKind.i64 xh0)]
                  else
                    .ret (AV.bool false) [AObj.arr 3 (Pay.ints IntKind.i64 xh0)]
                else
                  .ret (AV.bool false) [AObj.arr 3 (Pay.ints IntKind.i64 xh0)]
              else
                .ret (AV.bool false) [AObj.arr 3 (Pay.ints IntKind.i64 xh0)]
            else
              .stuck
          else
            .stuck
        else
          .stuck
    else
      .stuck
  else
    bif leI 0 0 && leI 0 x10 && leI x10 0 then
      bif leI 0 0 && leI 0 x11 && leI x11 ↑x0.length then
        bif okB (List.map byteRow (allF [] (([] : List UInt8).length + 1) 0).fst) && okB (List.take (x11.toNat - Int.toNat 0) (List.drop (Int.toNat 0) x0)) then
          bif decide (decB (List.map byteRow (allF [] (([] : List UInt8).length + 1) 0).fst) = decB (List.take (x11.toNat - Int.toNat 0) (List.drop (Int.toNat 0) x0))) then
            bif eqI (allF [] (([] : List UInt8).length + 1) 0).snd.fst x12 then
              bif eqI (allF [] (([] : List UInt8).length + 1) 0).snd.snd 2 == ltI x12 x10 then
                bif eqI (allF [] (([] : List UInt8).length + 1) 0).snd.snd 0 == eqI x12 x10 then
                  .ret (AV.bool true) [AObj.arr 3 (Pay.ints IntKind.i64 xh0)]
                else
                  .ret (AV.bool false) [AObj.arr 3 (Pay.ints IntKind.i64 xh0)]
              else
                .ret (AV.bool false) [AObj.arr 3 (Pay.ints IntKind.i64 xh0)]
            else
              .ret (AV.bool false) [AObj.arr 3 (Pay.ints IntKind.i64 xh0)]
          else
            .ret (AV.bool false) [AObj.arr 3 (Pay.ints IntKind.i64 xh0)]
        else
          .stuck
      else
        .stuck
    else
      .stuck := by kernel_rfl
theorem f9_2_1_eq (F k : Nat) (x0 : List (List AV)) (x10 : Int) (x11 : Int) (x12 : Int) (x13 : Int) (xh0 : List UInt8) (xh1 : List Int) : f9_2_1 F (k + 1) x0 x10 x11 x12 x13 xh0 xh1 =
  bif ltI x13 ↑xh1.length then
    bif inB x13 xh1.length then
      bif leI (xh1.getD x13.toNat 0) x10 then
        bif inB x13 xh1.length then
          f9_2_1 F k x0 x10 (IntKind.i64.wrap (x13 + 1)) (xh1.getD x13.toNat 0) (IntKind.i64.wrap (x13 + 1)) xh0 xh1
        else
          .stuck
      else
        bif leI 0 0 && leI 0 x10 && leI x10 ↑xh0.length then
          bif (List.take (x10.toNat - Int.toNat 0) (List.drop (Int.toNat 0) xh0)).length.ble 17592186044416 then
            bif leI 0 0 && leI 0 x11 && leI x11 ↑x0.length then
              bif okB (List.map byteRow (allF (List.take (x10.toNat - Int.toNat 0) (List.drop (Int.toNat 0) xh0)) ((List.take (x10.toNat - Int.toNat 0) (List.drop (Int.toNat 0) xh0)).length + 1) 0).fst) && okB (List.take (x11.toNat - Int.toNat 0) (List.drop (Int.toNat 0) x0)) then
                bif decide (decB (List.map byteRow (allF (List.take (x10.toNat - Int.toNat 0) (List.drop (Int.toNat 0) xh0)) ((List.take (x10.toNat - Int.toNat 0) (List.drop (Int.toNat 0) xh0)).length + 1) 0).fst) = decB (List.take (x11.toNat - Int.toNat 0) (List.drop (Int.toNat 0) x0))) then
                  bif eqI (allF (List.take (x10.toNat - Int.toNat 0) (List.drop (Int.toNat 0) xh0)) ((List.take (x10.toNat - Int.toNat 0) (List.drop (Int.toNat 0) xh0)).length + 1) 0).snd.fst x12 then
                    bif eqI (allF (List.take (x10.toNat - Int.toNat 0) (List.drop (Int.toNat 0) xh0)) ((List.take (x10.toNat - Int.toNat 0) (List.drop (Int.toNat 0) xh0)).length + 1) 0).snd.snd 2 == ltI x12 x10 then
                      bif eqI (allF (List.take (x10.toNat - Int.toNat 0) (List.drop (Int.toNat 0) xh0)) ((List.take (x10.toNat - Int.toNat 0) (List.drop (Int.toNat 0) xh0)).length + 1) 0).snd.snd 0 == eqI x12 x10 then
                        .ret (AV.bool true) [AObj.dead, AObj.arr 3 (Pay.ints IntKind.i64 xh1)]
                      else
                        .ret (AV.bool false) [AObj.dead, AObj.arr 3 (Pay.ints IntKind.i64 xh1)]
                    else
                      .ret (AV.bool false) [AObj.dead, AObj.arr 3 (Pay.ints IntKind.i64 xh1)]
                  else
                    .ret (AV.bool false) [AObj.dead, AObj.arr 3 (Pay.ints IntKind.i64 xh1)]
                else
                  .ret (AV.bool false) [AObj.dead, AObj.arr 3 (Pay.ints IntKind.i64 xh1)]
              else
                .stuck
            else
              .stuck
          else
            .stuck
        else
          .stuck
    else
      .stuck
  else
    bif leI 0 0 && leI 0 x10 && leI x10 ↑xh0.length then
      bif (List.take (x10.toNat - Int.toNat 0) (List.drop (Int.toNat 0) xh0)).length.ble 17592186044416 then
        bif leI 0 0 && leI 0 x11 && leI x11 ↑x0.length then
          bif okB (List.map byteRow (allF (List.take (x10.toNat - Int.toNat 0) (List.drop (Int.toNat 0) xh0)) ((List.take (x10.toNat - Int.toNat 0) (List.drop (Int.toNat 0) xh0)).length + 1) 0).fst) && okB (List.take (x11.toNat - Int.toNat 0) (List.drop (Int.toNat 0) x0)) then
            bif decide (decB (List.map byteRow (allF (List.take (x10.toNat - Int.toNat 0) (List.drop (Int.toNat 0) xh0)) ((List.take (x10.toNat - Int.toNat 0) (List.drop (Int.toNat 0) xh0)).length + 1) 0).fst) = decB (List.take (x11.toNat - Int.toNat 0) (List.drop (Int.toNat 0) x0))) then
              bif eqI (allF (List.take (x10.toNat - Int.toNat 0) (List.drop (Int.toNat 0) xh0)) ((List.take (x10.toNat - Int.toNat 0) (List.drop (Int.toNat 0) xh0)).length + 1) 0).snd.fst x12 then
                bif eqI (allF (List.take (x10.toNat - Int.toNat 0) (List.drop (Int.toNat 0) xh0)) ((List.take (x10.toNat - Int.toNat 0) (List.drop (Int.toNat 0) xh0)).length + 1) 0).snd.snd 2 == ltI x12 x10 then
                  bif eqI (allF (List.take (x10.toNat - Int.toNat 0) (List.drop (Int.toNat 0) xh0)) ((List.take (x10.toNat - Int.toNat 0) (List.drop (Int.toNat 0) xh0)).length + 1) 0).snd.snd 0 == eqI x12 x10 then
                    .ret (AV.bool true) [AObj.dead, AObj.arr 3 (Pay.ints IntKind.i64 xh1)]
                  else
                    .ret (AV.bool false) [AObj.dead, AObj.arr 3 (Pay.ints IntKind.i64 xh1)]
                else
                  .ret (AV.bool false) [AObj.dead, AObj.arr 3 (Pay.ints IntKind.i64 xh1)]
              else
                .ret (AV.bool false) [AObj.dead, AObj.arr 3 (Pay.ints IntKind.i64 xh1)]
            else
              .ret (AV.bool false) [AObj.dead, AObj.arr 3 (Pay.ints IntKind.i64 xh1)]
          else
            .stuck
        else
          .stuck
      else
        .stuck
    else
      .stuck := by kernel_rfl


theorem yes_pos {c : Bool} {x y : Res} (h : c = true) (hx : Yes x) : Yes (bif c then x else y) := by rw [h]; exact hx
theorem yes_neg {c : Bool} {x y : Res} (h : c = false) (hy : Yes y) : Yes (bif c then x else y) := by rw [h]; exact hy
theorem yes_bif {c : Bool} {x y : Res} (h1 : c = true → Yes x) (h2 : c = false → Yes y) : Yes (bif c then x else y) := by
  cases c with
  | true => exact h1 rfl
  | false => exact h2 rfl

def ends (X : List Txt) (n : Nat) : List Int := (List.range n).map fun i => ((encFs (X.take (i + 1))).length : Int)
theorem ends_len (X : List Txt) (n : Nat) : (ends X n).length = n := by unfold ends; rw [List.length_map, List.length_range]
theorem ends_at (X : List Txt) (n j : Nat) (h : j < n) : (ends X n).getD j 0 = ((encFs (X.take (j + 1))).length : Int) := by
  unfold ends
  rw [List.getD_eq_getElem?_getD, List.getElem?_map, List.getElem?_range h]; rfl
theorem ends_snoc (X : List Txt) (n : Nat) : ends X n ++ [((encFs (X.take (n + 1))).length : Int)] = ends X (n + 1) := by
  unfold ends
  rw [List.range_succ, List.map_append]; rfl
theorem take_snoc (X : List Txt) (j : Nat) (h : j < X.length) : X.take (j + 1) = X.take j ++ [X.getD j []] := by
  rw [List.take_add_one, List.getD_eq_getElem?_getD, List.getElem?_eq_getElem h]; rfl
theorem encFs_snoc (X : List Txt) (x : Txt) : encFs (X ++ [x]) = encFs X ++ encF x := by rw [encFs_app, encFs_cons, show encFs [] = [] from rfl, List.append_nil]
theorem encFs_small (X : List Txt) (h : ∀ x ∈ X, x.length ≤ 300) : ((encFs X).length : Int) ≤ 313 * X.length := by
  induction X with
  | nil => simp [encFs]
  | cons x X ih =>
    have := ih fun y hy => h y (by simp [hy])
    have h1 := h x (by simp)
    have h2 := encF_len x
    have h3 := len9_range (x.length : Int)
    rw [encFs_cons, List.length_append, List.length_cons]
    omega
theorem fits3 (l : List Int) (h : l.length ≤ 100) : appFits ty3 (.ints .i64 l) = true := by
  unfold appFits
  rw [ble_iff]
  show l.length * 8 ≤ _
  omega
/-- What is checked at the end. -/
theorem fin9 {x y : Res} (X : List Txt) (w k : Nat) (hX : ∀ x ∈ X, x.length ≤ 300) (hn : X.length ≤ 30) (hw : w ≤ X.length) (hk : k ≤ (encFs X).length) (h1 : (encFs (X.take w)).length ≤ k) (h2 : w = X.length ∨ k < (encFs (X.take (w + 1))).length) (hx : Yes x) :
    Yes (bif leI 0 0 && leI 0 (k : Int) && leI (k : Int) (encFs X).length then
      bif (List.take ((k : Int).toNat - Int.toNat 0) (List.drop (Int.toNat 0) (encFs X))).length.ble 17592186044416 then
        bif leI 0 0 && leI 0 (w : Int) && leI (w : Int) (X.map byteRow).length then
          bif okB (List.map byteRow (allF (List.take ((k : Int).toNat - Int.toNat 0) (List.drop (Int.toNat 0) (encFs X))) ((List.take ((k : Int).toNat - Int.toNat 0) (List.drop (Int.toNat 0) (encFs X))).length + 1) 0).fst) && okB (List.take ((w : Int).toNat - Int.toNat 0) (List.drop (Int.toNat 0) (X.map byteRow))) then
            bif decide (decB (List.map byteRow (allF (List.take ((k : Int).toNat - Int.toNat 0) (List.drop (Int.toNat 0) (encFs X))) ((List.take ((k : Int).toNat - Int.toNat 0) (List.drop (Int.toNat 0) (encFs X))).length + 1) 0).fst) = decB (List.take ((w : Int).toNat - Int.toNat 0) (List.drop (Int.toNat 0) (X.map byteRow)))) then
              bif eqI (allF (List.take ((k : Int).toNat - Int.toNat 0) (List.drop (Int.toNat 0) (encFs X))) ((List.take ((k : Int).toNat - Int.toNat 0) (List.drop (Int.toNat 0) (encFs X))).length + 1) 0).snd.fst ((encFs (X.take w)).length : Int) then
                bif eqI (allF (List.take ((k : Int).toNat - Int.toNat 0) (List.drop (Int.toNat 0) (encFs X))) ((List.take ((k : Int).toNat - Int.toNat 0) (List.drop (Int.toNat 0) (encFs X))).length + 1) 0).snd.snd 2 == ltI ((encFs (X.take w)).length : Int) k then
                  bif eqI (allF (List.take ((k : Int).toNat - Int.toNat 0) (List.drop (Int.toNat 0) (encFs X))) ((List.take ((k : Int).toNat - Int.toNat 0) (List.drop (Int.toNat 0) (encFs X))).length + 1) 0).snd.snd 0 == eqI ((encFs (X.take w)).length : Int) k then x else y
                else y
              else y
            else y
          else .stuck
        else .stuck
      else .stuck
    else .stuck) := by
  have hs := encFs_small X hX
  have h3 : ∀ x ∈ X, x.length ≤ 1048576 := fun x hx => by have := hX x hx; omega
  have h4 : ∀ x ∈ X.take w, x.length ≤ 1048576 := fun x hx => h3 x (List.mem_of_mem_take hx)
  have e0 : List.take ((w : Int).toNat - Int.toNat 0) (List.drop (Int.toNat 0) (X.map byteRow)) = (X.take w).map byteRow := by
    rw [show (w : Int).toNat - Int.toNat 0 = w from rfl, show Int.toNat 0 = 0 from rfl, List.drop_zero, List.map_take]
  have hlk : (List.take ((k : Int).toNat - Int.toNat 0) (List.drop (Int.toNat 0) (encFs X))).length = k := by
    rw [show (k : Int).toNat - Int.toNat 0 = k from rfl, show Int.toNat 0 = 0 from rfl, List.drop_zero, List.length_take]; omega
  have hlw : (X.take w).length = w := by rw [List.length_take]; omega
  have hwk : w ≤ (encFs (X.take w)).length := by
    have : ∀ Y : List Txt, Y.length ≤ (encFs Y).length := by
      intro Y
      induction Y with
      | nil => simp
      | cons y Y ih =>
        have h2 := encF_len y
        have h3 := len9_range (y.length : Int)
        rw [encFs_cons, List.length_append, List.length_cons]; omega
    have := this (X.take w)
    omega
  have key : allF (List.take ((k : Int).toNat - Int.toNat 0) (List.drop (Int.toNat 0) (encFs X))) (k + 1) 0 = (X.take w, ((encFs (X.take w)).length : Int), if (encFs (X.take w)).length = k then 0 else 2) := by
    rw [show (k : Int).toNat - Int.toNat 0 = k from rfl, show Int.toNat 0 = 0 from rfl, List.drop_zero]
    rcases h2 with h2 | h2
    · have e : X.take w = X := by rw [h2, List.take_length]
      rw [e] at h1 ⊢
      rw [show k = (encFs X).length by omega, List.take_length, if_pos rfl]
      exact allF_whole X h3 _ (by rw [e] at hlw; rw [e] at hwk; omega)
    · by_cases hwl : w < X.length
      · have e2 : encFs (X.take (w + 1)) = encFs (X.take w) ++ encF (X.getD w []) := by rw [take_snoc X w hwl, encFs_snoc]
        rw [e2, List.length_append] at h2
        have hd : (X.getD w []).length ≤ 1048576 := h3 _ (by rw [List.getD_eq_getElem?_getD, List.getElem?_eq_getElem hwl]; exact List.getElem_mem hwl)
        have e3 : encFs X = encFs (X.take w) ++ encF (X.getD w []) ++ encFs (X.drop (w + 1)) := by rw [← e2, ← encFs_app, List.take_append_drop]
        have e4 : (encFs X).take k = encFs (X.take w) ++ (encF (X.getD w [])).take (k - (encFs (X.take w)).length) := by
          rw [e3, List.append_assoc, List.take_append, List.take_of_length_le (by omega), List.take_append_of_le_length (by omega)]
        rw [e4, allF_torn (X.take w) _ _ h4 hd (by omega) (k + 1) (by omega)]
        congr 2
        by_cases h : (encFs (X.take w)).length = k
        · rw [if_pos h, if_pos (by omega)]
        · rw [if_neg h, if_neg (by omega)]
      · exfalso
        rw [List.take_of_length_le (show X.length ≤ w by omega)] at h1
        rw [List.take_of_length_le (by omega)] at h2
        omega
  rw [hlk, key, e0]
  dsimp only
  rw [okB_map, decB_map, List.length_map]
  refine yes_pos (by simp only [Bool.and_eq_true, leI_iff]; omega) (yes_pos (by rw [ble_iff]; omega) (yes_pos (by simp only [Bool.and_eq_true, leI_iff]; omega) (yes_pos rfl (yes_pos (decide_eq_true rfl) (yes_pos (eqI_iff.2 rfl) (yes_pos ?_ (yes_pos ?_ hx)))))))
  · by_cases h : (encFs (X.take w)).length = k
    · rw [if_pos h, show eqI 0 2 = false from rfl, ltI_f.2 (by omega)]; rfl
    · rw [if_neg h, show eqI 2 2 = true from rfl, ltI_iff.2 (by omega)]; rfl
  · by_cases h : (encFs (X.take w)).length = k
    · rw [if_pos h, show eqI 0 0 = true from rfl, eqI_iff.2 (by omega)]; rfl
    · rw [if_neg h, show eqI 2 0 = false from rfl, show eqI ((encFs (X.take w)).length : Int) k = false by rw [Bool.eq_false_iff, Ne, eqI_iff]; omega]; rfl
theorem run9b (F : Nat) (X : List Txt) (c : Nat) (hX : ∀ x ∈ X, x.length ≤ 300) (hn : X.length ≤ 30) (hc : c ≤ (encFs X).length) : ∀ (d k j : Nat), j + d = X.length → d < k → (encFs (X.take j)).length ≤ c →
    Yes (f9_2_1 F k (X.map byteRow) c j (encFs (X.take j)).length j (encFs X) (ends X X.length))
  | d, k + 1, j, h1, h2, h3 => by
    rw [f9_2_1_eq, ends_len]
    refine yes_bif (fun g => ?_) fun g => ?_
    · have g := ltI_iff.1 g
      obtain ⟨d, rfl⟩ : ∃ m, d = m + 1 := ⟨d - 1, by omega⟩
      have hj : j < X.length := by omega
      rw [Int.toNat_natCast, ends_at X X.length j hj, wrap64 (n := (j : Int) + 1) (by omega) (by omega)]
      refine yes_pos (by rw [inB_iff]; omega) (yes_bif (fun g1 => ?_) fun g1 => ?_)
      · have g1 := leI_iff.1 g1
        exact yes_pos (by rw [inB_iff]; omega) (run9b F X c hX hn hc d k (j + 1) (by omega) (by omega) (by omega))
      · have g1 := leI_f.1 g1
        exact fin9 X j c hX hn (by omega) hc h3 (.inr (by omega)) .ret
    · have g := ltI_f.1 g
      exact fin9 X j c hX hn (by omega) hc h3 (.inl (by omega)) .ret
theorem run9a (F : Nat) (X : List Txt) (c : Int) (hn : X.length ≤ 30) (hc : 0 ≤ c ∧ c ≤ 65535) (hF : 1000 ≤ F) : ∀ (d k j : Nat), j + d = X.length → d < k → (∀ x ∈ X.take j, x.length ≤ 300) →
    Yes (f9_0_1 F k (X.map byteRow) c j (encFs (X.take j)) (ends X j))
  | d, k + 1, j, h1, h2, h3 => by
    rw [f9_0_1_eq, List.length_map]
    have hs := encFs_small (X.take j) h3
    have hlj : (X.take j).length = j := by rw [List.length_take]; omega
    refine yes_bif (fun g => ?_) fun g => ?_
    · have g := ltI_iff.1 g
      obtain ⟨d, rfl⟩ : ∃ m, d = m + 1 := ⟨d - 1, by omega⟩
      have hj : j < X.length := by omega
      rw [Int.toNat_natCast, byteRow_getD X j hj, nB, isRB, ofB, show inB (j : Int) X.length = true by rw [inB_iff]; omega, wrap64 (n := (j : Int) + 1) (by omega) (by omega)]
      refine yes_pos rfl (yes_pos rfl (yes_bif (fun _ => .ret) fun g1 => ?_))
      have g1 := ltI_f.1 g1
      have e : X.take (j + 1) = X.take j ++ [X.getD j []] := take_snoc X j hj
      rw [← encFs_snoc, ← e]
      have hm : ∀ x ∈ X.take (j + 1), x.length ≤ 300 := by
        intro x hx
        rw [e] at hx
        rcases List.mem_append.1 hx with hx | hx
        · exact h3 x hx
        · rw [List.mem_singleton] at hx; subst hx; omega
      rw [ends_snoc]
      exact yes_pos rfl (yes_pos rfl (yes_neg (by rw [Bool.eq_false_iff, Ne, blt_iff]; omega) (yes_pos (by rw [ble_iff]; omega) (yes_pos (fits3 _ (by rw [ends_len]; omega)) (run9a F X c hn hc hF d k (j + 1) (by omega) (by omega) hm)))))
    · have g := ltI_f.1 g
      have e : X.take j = X := List.take_of_length_le (by omega)
      have ej : j = X.length := by omega
      rw [e] at h3 hs ⊢
      rw [wrap64 (n := c) (by omega) (by omega), wrap64 (n := ((encFs X).length : Int) + 1) (by omega) (by omega), irem_eq hc.1, ej]
      refine yes_neg (by rw [Bool.eq_false_iff, Ne, eqI_iff]; omega) ?_
      have hm : 0 ≤ c % (((encFs X).length : Int) + 1) ∧ c % (((encFs X).length : Int) + 1) < (encFs X).length + 1 := ⟨Int.emod_nonneg _ (by omega), Int.emod_lt_of_pos _ (by omega)⟩
      obtain ⟨w, hw⟩ : ∃ w : Nat, c % (((encFs X).length : Int) + 1) = w := ⟨(c % (((encFs X).length : Int) + 1)).toNat, by omega⟩
      rw [hw] at hm ⊢
      exact run9b F X w h3 hn (by omega) X.length F 0 (by omega) (by omega) (by simp [encFs])
theorem law9 (X : List Txt) (c : Int) (_ : True) (hr : Real [.ro (.rows 1 (X.map byteRow)), .int .u16 c]) : apure (c9 rounds) Try.f9 [.ro (.rows 1 (X.map byteRow)), .int .u16 c] = some (.bool true, []) := by
  have h0 : 0 ≤ c ∧ c ≤ 65535 := by simpa [IntKind.has, IntKind.min, IntKind.max, IntKind.signed, IntKind.bits] using hr.tail.int
  refine apure_yes ?_
  rw [f9_eq, List.length_map]
  refine yes_bif (fun _ => .ret) fun g => ?_
  have g := ltI_f.1 g
  have hk : ∀ F k : Nat, 1000 ≤ F → 1000 ≤ k → Yes (f9_0 F k (X.map byteRow) c 0 []) := by
    intro F k hF hk
    obtain ⟨k, rfl⟩ : ∃ m, k = m + 1 := ⟨k - 1, by omega⟩
    rw [f9_0_eq, List.length_map]
    refine yes_bif (fun g => ?_) fun g => ?_
    · have g := ltI_iff.1 g
      have hj : 0 < X.length := by omega
      rw [show (0 : Int).toNat = 0 from rfl, byteRow_getD X 0 hj, nB, isRB, ofB, show inB (0 : Int) X.length = true by rw [inB_iff]; omega, wrap64 (n := (0 : Int) + 1) (by omega) (by omega)]
      refine yes_pos rfl (yes_pos rfl (yes_bif (fun _ => .ret) fun g1 => ?_))
      have g1 := ltI_f.1 g1
      have e : X.take 1 = [X.getD 0 []] := by
        have := take_snoc X 0 hj
        rw [List.take_zero, List.nil_append] at this
        exact this
      have e1 : ([] ++ encF (X.getD 0 [])) = encFs (X.take 1) := by rw [e, encFs_cons, show encFs [] = [] from rfl, List.append_nil, List.nil_append]
      rw [e1]
      have e2 : ([] : List Int) ++ [((encFs (X.take 1)).length : Int)] = ends X 1 := by
        have := ends_snoc X 0
        exact this
      rw [e2]
      have key := run9a F X c (by omega) h0 hF (X.length - 1) k 1 (by omega) (by omega) (by intro x hx; rw [e, List.mem_singleton] at hx; subst hx; omega)
      exact yes_pos rfl (yes_pos rfl (yes_neg (by rw [Bool.eq_false_iff, Ne, blt_iff]; omega) (yes_pos (fits3 _ (by rw [ends_len]; omega)) key)))
    · have g := ltI_f.1 g
      have : X = [] := List.eq_nil_of_length_eq_zero (by omega)
      subst this
      obtain ⟨m, rfl⟩ : ∃ m, F = m + 1 := ⟨F - 1, by omega⟩
      rw [wrap64 (n := c) (by omega) (by omega), show IntKind.i64.wrap ((([] : List UInt8).length : Int) + 1) = 1 from rfl, irem_eq h0.1, show c % 1 = 0 by omega]
      rw [f9_2_eq]
      exact yes_neg rfl (yes_pos rfl (yes_pos rfl (yes_pos rfl (yes_pos rfl (yes_pos rfl (yes_pos rfl (yes_pos rfl .ret)))))))
  exact hk rounds rounds (Nat.le_of_lt (Nat.lt_trans (by decide) big)) (Nat.le_of_lt (Nat.lt_trans (by decide) big))
end Go.Proofs.YtmkgmlgklggnlaaG

namespace Go.Proofs.Ytmkgmlgklggnlaa.frameTorn
open Go.ChangeShapes Go.WideShapes Go.ChangeAt Go.RowKit Go.Proofs.YtmkgmlgklggnlaaGm Go.Proofs.YtmkgmlgklggnlaaG
open Go.ChangeMaps (open_string shut_string)
set_option linter.unusedVariables false
theorem own : ownKnob Try.prog.godebug = none := by kernel_rfl
theorem laidOut : laidOutB Try.prog = true := by kernel_rfl
set_option maxRecDepth 100000 in
theorem lifted (os : Os) (started : os.Started) (H : Type) (enc : TypeId × Value → H) :
    ReturnsInHanded {} Try.checked os 9 .any (Rows.frameTornSpec.pre6 enc Try.prog Try.f9 Rows.frameTornRow.domain false) (Rows.frameTornSpec.post enc Try.prog Try.f9 false true false false) := by
  refine returnsInHanded_of_change_sized (C := Try.checked) own started (by kernel_rfl) Try.func9
    (ChangeSpec.witness6 (enc := enc) (C := Try.checked) false ⟨#[], #[.slice none 0 0, .int .u16 0], []⟩ 8 (by kernel_rfl) (by kernel_rfl) (by kernel_rfl) (by kernel_rfl)) ?_
  intro W base args ds gs before hval0 hW hcnd hsz0 _
  have hval : ∀ (j : Nat) t v, Try.f9.params[j]? = some t → args[j]? = some v → Value.okWide Try.prog W .any base t v := hval0
  have hW' := hW
  obtain ⟨p, q, hA0, hV, rfl, hfz, hnd⟩ := hW
  have hA : DataW.TrodAll enc Try.prog W 0 (fun _ => true) true Try.f9.params.toList args.toList ds p := hA0
  rw [Try.params9] at hA hval
  obtain ⟨v0, vs0, d0, ds0, p0, q0, hargs, rfl, rfl, h0, r0⟩ := trodAll_cons hA
  obtain ⟨v1, vs1, d1, ds1, p1, q1, rfl, rfl, rfl, h1, r1⟩ := trodAll_cons r0
  obtain ⟨rfl, rfl, rfl⟩ := trodAll_nil r1
  obtain rfl : args = #[v0, v1] := by cases args; simp_all
  obtain ⟨rfl, rfl⟩ := trodVars_none hV
  have k0 := h0
  have lt0 : ∀ x ∈ p0, x.block < W.heap.size := by obtain ⟨m, hm⟩ := k0; exact DataW.trod_lt m _ _ _ hm
  have z0 : Sized Try.prog 68 d0 := fun n hn => by simpa using List.all_eq_true.1 hsz0 _ (DataW.weights_mem_each (j := 0) (t := 68) (by kernel_rfl) rfl n hn)
  obtain ⟨V0, R0, f0⟩ := open_arg (sh := (.slice (.slice (.int .u8)))) (.slice Try.underlying68 (by kernel_rfl) (by decide) (.slice Try.underlying22 (by kernel_rfl) (by decide) (.int Try.underlying5))) (hval 0 68 v0 rfl rfl) h0 z0 (fun _ _ h => by cases h)
  obtain ⟨l0, rfl, b0⟩ := fits_frames f0
  obtain ⟨a1, rfl, rfl, rfl, w1⟩ := open_int Try.underlying75 (hval 1 75 v1 rfl rfl) h1
  have R1 : RepV W (fun _ => False) [] (.int .u16 a1) (.int .u16 a1) := .int (by simpa [Lit.wf, IntKind.has] using w1)
  clear hA0 hval0 hsz0
  have hreal : RepL W (fun _ => False) [] _ _ := (.cons R0 (.cons R1 .nil))
  refine (law_calls (c9 rounds) tt9_ok (.cons ok40 (.cons (ok43.norm _) (.cons ok45 (.cons ok46 (.cons (ok47.norm _) .nil))))) follows rfl Try.func9 (law9 l0 a1 b0 ⟨_, _, _, hreal⟩) hreal).mono fun e W' ⟨he, bel⟩ => ?_
  subst he
  exact ⟨_, rfl, _, _, _, [], _, [], hW', trodAll_mk1 (shut_bool Try.underlying4 _), (trodAll_cons_mk (Below.trod laidOut (by kernel_rfl) (of_decide_eq_true (by kernel_rfl)) k0 bel lt0) (trodAll_cons_mk (shut_int Try.underlying75 w1) trodAll_mk0)), rfl, bel.frame _, fun h => by cases h⟩
theorem over : Rows.frameTornRow.holds Try.pinned (OpenSpec.ofChange Rows.frameTornSpec) :=
  OpenClaim.holds_of_wide 9 Try.f9 rfl rfl rfl rfl rfl rfl rfl ⟨rfl, rfl, rfl, rfl, rfl⟩ rfl rfl rfl rfl rfl (by kernel_rfl) Try.func9 (by kernel_rfl)
    (of_decide_eq_true (by kernel_rfl)) (by unfold Func.isWrapper; first | (rw [if_pos (by decide +kernel)]; kernel_rfl) | (rw [if_neg (by decide +kernel)]; exact ⟨rfl, rfl⟩))
    (fun os started H enc _ => lifted os started H enc)
theorem proved : Rows.FrameTornSaid := over
end Go.Proofs.Ytmkgmlgklggnlaa.frameTorn
namespace Go.Proofs.Ytmkgmlgklggnlaa
/-- The row, under a short name, for the claim. -/
theorem frameTorn_holds : Rows.FrameTornSaid := frameTorn.proved
#print axioms frameTorn_holds
end Go.Proofs.Ytmkgmlgklggnlaa
