/- RecBounds: for every input the law returns true, and the input reads as it did; no condition beyond the row. -/
import Derived.Test.YtdkihlkcnnlkcaaRows
import Derived.WalkKit
import Derived.ProofKit
import Derived.OpenShut
import Derived.ShutString
import Derived.ChangeOld
import Derived.Below
import Derived.SizedLaws
import Derived.Carry
import Derived.Test.YtdkihlkcnnlkcaaGo
import Derived.Test.YtdkihlkcnnlkcaaGm3
namespace Go.Proofs.YtdkihlkcnnlkcaaG
open Go Go.Proofs.YtdkihlkcnnlkcaaGm
set_option maxRecDepth 100000
def tt6 : Tab := [(0, ty0), (1, ty1), (3, ty3), (4, ty4), (5, ty5), (9, ty9), (22, ty22), (23, ty23), (25, ty25), (42, ty42), (44, ty44), (47, ty47), (48, ty48)]
theorem tt6_ok : TabOk Try.prog tt6 := tabOk_of_all ⟨ty0_ok, ty1_ok, ty3_ok, ty4_ok, ty5_ok, ty9_ok, ty22_ok, ty23_ok, ty25_ok, ty42_ok, ty44_ok, ty47_ok, ty48_ok, trivial⟩
def c6 (F : Nat) : Cfg := ⟨tt6, [(19, .pure go19), (20, .pure go20), (21, .pure go21), (22, .pure go22)], F, [], [], 0⟩
theorem f6_eq (F : Nat) (a0 : Int) (a1 : Int) : afun (c6 F) Try.f6 [AV.int IntKind.u32 a0, AV.int IntKind.u32 a1] [] =
  bif leI 0 (irem (IntKind.i64.wrap a0) 70000) && leI (irem (IntKind.i64.wrap a0) 70000) (irem (IntKind.i64.wrap a0) 70000) && leI (irem (IntKind.i64.wrap a0) 70000 * ↑16) 140737488355328 && true then
    bif Nat.blt 65536 (List.replicate (irem (IntKind.i64.wrap a0) 70000).toNat [AV.str ByteArray.empty.data.toList]).length then
      bif leI 0 (irem (IntKind.i64.wrap a1) 70000) && leI (irem (IntKind.i64.wrap a1) 70000) (irem (IntKind.i64.wrap a1) 70000) && leI (irem (IntKind.i64.wrap a1) 70000 * ↑1) 140737488355328 && true then
        bif longT (decRows [[AV.str (List.replicate (irem (IntKind.i64.wrap a1) 70000).toNat 0)]]).flatten && okRows 1 [[AV.str (List.replicate (irem (IntKind.i64.wrap a1) 70000).toNat 0)]] && (9 + szT (decRows [[AV.str (List.replicate (irem (IntKind.i64.wrap a1) 70000).toNat 0)]]).flatten).ble 140737488355328 then
          bif leI 0 (irem (IntKind.i64.wrap a1) 70000) && leI (irem (IntKind.i64.wrap a1) 70000) (irem (IntKind.i64.wrap a1) 70000) && leI (irem (IntKind.i64.wrap a1) 70000 * ↑1) 140737488355328 && true then
            bif longT (decRows [[AV.str ByteArray.empty.data.toList, AV.str (List.replicate (irem (IntKind.i64.wrap a1) 70000).toNat 0)]]).flatten && okRows 2 [[AV.str ByteArray.empty.data.toList, AV.str (List.replicate (irem (IntKind.i64.wrap a1) 70000).toNat 0)]] && (9 + szT (decRows [[AV.str ByteArray.empty.data.toList, AV.str (List.replicate (irem (IntKind.i64.wrap a1) 70000).toNat 0)]]).flatten).ble 140737488355328 then
              bif eqI 9 9 == ltI 65536 (irem (IntKind.i64.wrap a0) 70000) then
                bif eqI 5 5 == ltI 65536 (irem (IntKind.i64.wrap a1) 70000) then
                  .ret (AV.bool true) [AObj.arr 9 (Pay.rows 1 (List.replicate (irem (IntKind.i64.wrap a0) 70000).toNat [AV.str ByteArray.empty.data.toList])), AObj.arr 5 (Pay.bytes (List.replicate (irem (IntKind.i64.wrap a1) 70000).toNat 0)), AObj.arr 9 (Pay.rows 1 [[AV.str (List.replicate (irem (IntKind.i64.wrap a1) 70000).toNat 0)]]), AObj.arr 5 (Pay.bytes (List.replicate (irem (IntKind.i64.wrap a1) 70000).toNat 0)), AObj.arr 47 (Pay.rows 2 [[AV.str ByteArray.empty.data.toList, AV.str (List.replicate (irem (IntKind.i64.wrap a1) 70000).toNat 0)]])]
                else
                  .ret (AV.bool false) [AObj.arr 9 (Pay.rows 1 (List.replicate (irem (IntKind.i64.wrap a0) 70000).toNat [AV.str ByteArray.empty.data.toList])), AObj.arr 5 (Pay.bytes (List.replicate (irem (IntKind.i64.wrap a1) 70000).toNat 0)), AObj.arr 9 (Pay.rows 1 [[AV.str (List.replicate (irem (IntKind.i64.wrap a1) 70000).toNat 0)]]), AObj.arr 5 (Pay.bytes (List.replicate (irem (IntKind.i64.wrap a1) 70000).toNat 0)), AObj.arr 47 (Pay.rows 2 [[AV.str ByteArray.empty.data.toList, AV.str (List.replicate (irem (IntKind.i64.wrap a1) 70000).toNat 0)]])]
              else
                .ret (AV.bool false) [AObj.arr 9 (Pay.rows 1 (List.replicate (irem (IntKind.i64.wrap a0) 70000).toNat [AV.str ByteArray.empty.data.toList])), AObj.arr 5 (Pay.bytes (List.replicate (irem (IntKind.i64.wrap a1) 70000).toNat 0)), AObj.arr 9 (Pay.rows 1 [[AV.str (List.replicate (irem (IntKind.i64.wrap a1) 70000).toNat 0)]]), AObj.arr 5 (Pay.bytes (List.replicate (irem (IntKind.i64.wrap a1) 70000).toNat 0)), AObj.arr 47 (Pay.rows 2 [[AV.str ByteArray.empty.data.toList, AV.str (List.replicate (irem (IntKind.i64.wrap a1) 70000).toNat 0)]])]
            else
              bif okRows 2 [[AV.str ByteArray.empty.data.toList, AV.str (List.replicate (irem (IntKind.i64.wrap a1) 70000).toNat 0)]] && (9 + szT (decRows [[AV.str ByteArray.empty.data.toList, AV.str (List.replicate (irem (IntKind.i64.wrap a1) 70000).toNat 0)]]).flatten).ble 140737488355328 then
                bif eqI 9 9 == ltI 65536 (irem (IntKind.i64.wrap a0) 70000) then
                  bif eqI 5 5 == ltI 65536 (irem (IntKind.i64.wrap a1) 70000) then
                    .ret (AV.bool false) [AObj.arr 9 (Pay.rows 1 (List.replicate (irem (IntKind.i64.wrap a0) 70000).toNat [AV.str ByteArray.empty.data.toList])), AObj.arr 5 (Pay.bytes (List.replicate (irem (IntKind.i64.wrap a1) 70000).toNat 0)), AObj.arr 9 (Pay.rows 1 [[AV.str (List.replicate (irem (IntKind.i64.wrap a1) 70000).toNat 0)]]), AObj.arr 5 (Pay.bytes (List.replicate (irem (IntKind.i64.wrap a1) 70000).toNat 0)), AObj.arr 47 (Pay.rows 2 [[AV.str ByteArray.empty.data.toList, AV.str (List.replicate (irem (IntKind.i64.wrap a1) 70000).toNat 0)]]), AObj.arr 5 (Pay.bytes (enc ↑[[AV.str ByteArray.empty.data.toList, AV.str (List.replicate (irem (IntKind.i64.wrap a1) 70000).toNat 0)]].length ++ encTs (decRows [[AV.str ByteArray.empty.data.toList, AV.str (List.replicate (irem (IntKind.i64.wrap a1) 70000).toNat 0)]]).flatten))]
                  else
                    .ret (AV.bool false) [AObj.arr 9 (Pay.rows 1 (List.replicate (irem (IntKind.i64.wrap a0) 70000).toNat [AV.str ByteArray.empty.data.toList])), AObj.arr 5 (Pay.bytes (List.replicate (irem (IntKind.i64.wrap a1) 70000).toNat 0)), AObj.arr 9 (Pay.rows 1 [[AV.str (List.replicate (irem (IntKind.i64.wrap a1) 70000).toNat 0)]]), AObj.arr 5 (Pay.bytes (List.replicate (irem (IntKind.i64.wrap a1) 70000).toNat 0)), AObj.arr 47 (Pay.rows 2 [[AV.str ByteArray.empty.data.toList, AV.str (List.replicate (irem (IntKind.i64.wrap a1) 70000).toNat 0)]]), AObj.arr 5 (Pay.bytes (enc ↑[[AV.str ByteArray.empty.data.toList, AV.str (List.replicate (irem (IntKind.i64.wrap a1) 70000).toNat 0)]].length ++ encTs (decRows [[AV.str ByteArray.empty.data.toList, AV.str (List.replicate (irem (IntKind.i64.wrap a1) 70000).toNat 0)]]).flatten))]
                else
                  .ret (AV.bool false) [AObj.arr 9 (Pay.rows 1 (List.replicate (irem (IntKind.i64.wrap a0) 70000).toNat [AV.str ByteArray.empty.data.toList])), AObj.arr 5 (Pay.bytes (List.replicate (irem (IntKind.i64.wrap a1) 70000).toNat 0)), AObj.arr 9 (Pay.rows 1 [[AV.str (List.replicate (irem (IntKind.i64.wrap a1) 70000).toNat 0)]]), AObj.arr 5 (Pay.bytes (List.replicate (irem (IntKind.i64.wrap a1) 70000).toNat 0)), AObj.arr 47 (Pay.rows 2 [[AV.str ByteArray.empty.data.toList, AV.str (List.replicate (irem (IntKind.i64.wrap a1) 70000).toNat 0)]]), AObj.arr 5 (Pay.bytes (enc ↑[[AV.str ByteArray.empty.data.toList, AV.str (List.replicate (irem (IntKind.i64.wrap a1) 70000).toNat 0)]].length ++ encTs (decRows [[AV.str ByteArray.empty.data.toList, AV.str (List.replicate (irem (IntKind.i64.wrap a1) 70000).toNat 0)]]).flatten))]
              else
                .stuck
          else
            .stuck
        else
          bif okRows 1 [[AV.str (List.replicate (irem (IntKind.i64.wrap a1) 70000).toNat 0)]] && (9 + szT (decRows [[AV.str (List.replicate (irem (IntKind.i64.wrap a1) 70000).toNat 0)]]).flatten).ble 140737488355328 then
            bif leI 0 (irem (IntKind.i64.wrap a1) 70000) && leI (irem (IntKind.i64.wrap a1) 70000) (irem (IntKind.i64.wrap a1) 70000) && leI (irem (IntKind.i64.wrap a1) 70000 * ↑1) 140737488355328 && true then
              bif longT (decRows [[AV.str ByteArray.empty.data.toList, AV.str (List.replicate (irem (IntKind.i64.wrap a1) 70000).toNat 0)]]).flatten && okRows 2 [[AV.str ByteArray.empty.data.toList, AV.str (List.replicate (irem (IntKind.i64.wrap a1) 70000).toNat 0)]] && (9 + szT (decRows [[AV.str ByteArray.empty.data.toList, AV.str (List.replicate (irem (IntKind.i64.wrap a1) 70000).toNat 0)]]).flatten).ble 140737488355328 then
                bif eqI 9 9 == ltI 65536 (irem (IntKind.i64.wrap a0) 70000) then
                  bif eqI 0 5 == ltI 65536 (irem (IntKind.i64.wrap a1) 70000) then
                    .ret (AV.bool false) [AObj.arr 9 (Pay.rows 1 (List.replicate (irem (IntKind.i64.wrap a0) 70000).toNat [AV.str ByteArray.empty.data.toList])), AObj.arr 5 (Pay.bytes (List.replicate (irem (IntKind.i64.wrap a1) 70000).toNat 0)), AObj.arr 9 (Pay.rows 1 [[AV.str (List.replicate (irem (IntKind.i64.wrap a1) 70000).toNat 0)]]), AObj.arr 5 (Pay.bytes (enc ↑[[AV.str (List.replicate (irem (IntKind.i64.wrap a1) 70000).toNat 0)]].length ++ encTs (decRows [[AV.str (List.replicate (irem (IntKind.i64.wrap a1) 70000).toNat 0)]]).flatten)), AObj.arr 5 (Pay.bytes (List.replicate (irem (IntKind.i64.wrap a1) 70000).toNat 0)), AObj.arr 47 (Pay.rows 2 [[AV.str ByteArray.empty.data.toList, AV.str (List.replicate (irem (IntKind.i64.wrap a1) 70000).toNat 0)]])]
                  else
                    .ret (AV.bool false) [AObj.arr 9 (Pay.rows 1 (List.replicate (irem (IntKind.i64.wrap a0) 70000).toNat [AV.str ByteArray.empty.data.toList])), AObj.arr 5 (Pay.bytes (List.replicate (irem (IntKind.i64.wrap a1) 70000).toNat 0)), AObj.arr 9 (Pay.rows 1 [[AV.str (List.replicate (irem (IntKind.i64.wrap a1) 70000).toNat 0)]]), AObj.arr 5 (Pay.bytes (enc ↑[[AV.str (List.replicate (irem (IntKind.i64.wrap a1) 70000).toNat 0)]].length ++ encTs (decRows [[AV.str (List.replicate (irem (IntKind.i64.wrap a1) 70000).toNat 0)]]).flatten)), AObj.arr 5 (Pay.bytes (List.replicate (irem (IntKind.i64.wrap a1) 70000).toNat 0)), AObj.arr 47 (Pay.rows 2 [[AV.str ByteArray.empty.data.toList, AV.str (List.replicate (irem (IntKind.i64.wrap a1) 70000).toNat 0)]])]
                else
                  .ret (AV.bool false) [AObj.arr 9 (Pay.rows 1 (List.replicate (irem (IntKind.i64.wrap a0) 70000).toNat [AV.str ByteArray.empty.data.toList])), AObj.arr 5 (Pay.bytes (List.replicate (irem (IntKind.i64.wrap a1) 70000).toNat 0)), AObj.arr 9 (Pay.rows 1 [[AV.str (List.replicate (irem (IntKind.i64.wrap a1) 70000).toNat 0)]]), AObj.arr 5 (Pay.bytes (enc ↑[[AV.str (List.replicate (irem (IntKind.i64.wrap a1) 70000).toNat 0)]].length ++ encTs (decRows [[AV.str (List.replicate (irem (IntKind.i64.wrap a1) 70000).toNat 0)]]).flatten)), AObj.arr 5 (Pay.bytes (List.replicate (irem (IntKind.i64.wrap a1) 70000).toNat 0)), AObj.arr 47 (Pay.rows 2 [[AV.str ByteArray.empty.data.toList, AV.str (List.replicate (irem (IntKind.i64.wrap a1) 70000).toNat 0)]])]
              else
                bif okRows 2 [[AV.str ByteArray.empty.data.toList, AV.str (List.replicate (irem (IntKind.i64.wrap a1) 70000).toNat 0)]] && (9 + szT (decRows [[AV.str ByteArray.empty.data.toList, AV.str (List.replicate (irem (IntKind.i64.wrap a1) 70000).toNat 0)]]).flatten).ble 140737488355328 then
                  bif eqI 9 9 == ltI 65536 (irem (IntKind.i64.wrap a0) 70000) then
                    bif eqI 0 5 == ltI 65536 (irem (IntKind.i64.wrap a1) 70000) then
                      .ret (AV.bool true) [AObj.arr 9 (Pay.rows 1 (List.replicate (irem (IntKind.i64.wrap a0) 70000).toNat [AV.str ByteArray.empty.data.toList])), AObj.arr 5 (Pay.bytes (List.replicate (irem (IntKind.i64.wrap a1) 70000).toNat 0)), AObj.arr 9 (Pay.rows 1 [[AV.str (List.replicate (irem (IntKind.i64.wrap a1) 70000).toNat 0)]]), AObj.arr 5 (Pay.bytes (enc ↑[[AV.str (List.replicate (irem (IntKind.i64.wrap a1) 70000).toNat 0)]].length ++ encTs (decRows [[AV.str (List.replicate (irem (IntKind.i64.wrap a1) 70000).toNat 0)]]).flatten)), AObj.arr 5 (Pay.bytes (List.replicate (irem (IntKind.i64.wrap a1) 70000).toNat 0)), AObj.arr 47 (Pay.rows 2 [[AV.str ByteArray.empty.data.toList, AV.str (List.replicate (irem (IntKind.i64.wrap a1) 70000).toNat 0)]]), AObj.arr 5 (Pay.bytes (enc ↑[[AV.str ByteArray.empty.data.toList, AV.str (List.replicate (irem (IntKind.i64.wrap a1) 70000).toNat 0)]].length ++ encTs (decRows [[AV.str ByteArray.empty.data.toList, AV.str (List.replicate (irem (IntKind.i64.wrap a1) 70000).toNat 0)]]).flatten))]
                    else
                      .ret (AV.bool false) [AObj.arr 9 (Pay.rows 1 (List.replicate (irem (IntKind.i64.wrap a0) 70000).toNat [AV.str ByteArray.empty.data.toList])), AObj.arr 5 (Pay.bytes (List.replicate (irem (IntKind.i64.wrap a1) 70000).toNat 0)), AObj.arr 9 (Pay.rows 1 [[AV.str (List.replicate (irem (IntKind.i64.wrap a1) 70000).toNat 0)]]), AObj.arr 5 (Pay.bytes (enc ↑[[AV.str (List.replicate (irem (IntKind.i64.wrap a1) 70000).toNat 0)]].length ++ encTs (decRows [[AV.str (List.replicate (irem (IntKind.i64.wrap a1) 70000).toNat 0)]]).flatten)), AObj.arr 5 (Pay.bytes (List.replicate (irem (IntKind.i64.wrap a1) 70000).toNat 0)), AObj.arr 47 (Pay.rows 2 [[AV.str ByteArray.empty.data.toList, AV.str (List.replicate (irem (IntKind.i64.wrap a1) 70000).toNat 0)]]), AObj.arr 5 (Pay.bytes (enc ↑[[AV.str ByteArray.empty.data.toList, AV.str (List.replicate (irem (IntKind.i64.wrap a1) 70000).toNat 0)]].length ++ encTs (decRows [[AV.str ByteArray.empty.data.toList, AV.str (List.replicate (irem (IntKind.i64.wrap a1) 70000).toNat 0)]]).flatten))]
                  else
                    .ret (AV.bool false) [AObj.arr 9 (Pay.rows 1 (List.replicate (irem (IntKind.i64.wrap a0) 70000).toNat [AV.str ByteArray.empty.data.toList])), AObj.arr 5 (Pay.bytes (List.replicate (irem (IntKind.i64.wrap a1) 70000).toNat 0)), AObj.arr 9 (Pay.rows 1 [[AV.str (List.replicate (irem (IntKind.i64.wrap a1) 70000).toNat 0)]]), AObj.arr 5 (Pay.bytes (enc ↑[[AV.str (List.replicate (irem (IntKind.i64.wrap a1) 70000).toNat 0)]].length ++ encTs (decRows [[AV.str (List.replicate (irem (IntKind.i64.wrap a1) 70000).toNat 0)]]).flatten)), AObj.arr 5 (Pay.bytes (List.replicate (irem (IntKind.i64.wrap a1) 70000).toNat 0)), AObj.arr 47 (Pay.rows 2 [[AV.str ByteArray.empty.data.toList, AV.str (List.replicate (irem (IntKind.i64.wrap a1) 70000).toNat 0)]]), AObj.arr 5 (Pay.bytes (enc ↑[[AV.str ByteArray.empty.data.toList, AV.str (List.replicate (irem (IntKind.i64.wrap a1) 70000).toNat 0)]].length ++ encTs (decRows [[AV.str ByteArray.empty.data.toList, AV.str (List.replicate (irem (IntKind.i64.wrap a1) 70000).toNat 0)]]).flatten))]
                else
                  .stuck
            else
              .stuck
          else
            .stuck
      else
        .stuck
    else
      bif longT (decRows (List.replicate (irem (IntKind.i64.wrap a0) 70000).toNat [AV.str ByteArray.empty.data.toList])).flatten && okRows 1 (List.replicate (irem (IntKind.i64.wrap a0) 70000).toNat [AV.str ByteArray.empty.data.toList]) && (9 + szT (decRows (List.replicate (irem (IntKind.i64.wrap a0) 70000).toNat [AV.str ByteArray.empty.data.toList])).flatten).ble 140737488355328 then
        bif leI 0 (irem (IntKind.i64.wrap a1) 70000) && leI (irem (IntKind.i64.wrap a1) 70000) (irem (IntKind.i64.wrap a1) 70000) && leI (irem (IntKind.i64.wrap a1) 70000 * ↑1) 140737488355328 && true then
          bif longT (decRows [[AV.str (List.replicate (irem (IntKind.i64.wrap a1) 70000).toNat 0)]]).flatten && okRows 1 [[AV.str (List.replicate (irem (IntKind.i64.wrap a1) 70000).toNat 0)]] && (9 + szT (decRows [[AV.str (List.replicate (irem (IntKind.i64.wrap a1) 70000).toNat 0)]]).flatten).ble 140737488355328 then
            bif leI 0 (irem (IntKind.i64.wrap a1) 70000) && leI (irem (IntKind.i64.wrap a1) 70000) (irem (IntKind.i64.wrap a1) 70000) && leI (irem (IntKind.i64.wrap a1) 70000 * ↑1) 140737488355328 && true then
              bif longT (decRows [[AV.str ByteArray.empty.data.toList, AV.str (List.replicate (irem (IntKind.i64.wrap a1) 70000).toNat 0)]]).flatten && okRows 2 [[AV.str ByteArray.empty.data.toList, AV.str (List.replicate (irem (IntKind.i64.wrap a1) 70000).toNat 0)]] && (9 + szT (decRows [[AV.str ByteArray.empty.data.toList, AV.str (List.replicate (irem (IntKind.i64.wrap a1) 70000).toNat 0)]]).flatten).ble 140737488355328 then
                bif eqI 5 9 == ltI 65536 (irem (IntKind.i64.wrap a0) 70000) then
                  bif eqI 5 5 == ltI 65536 (irem (IntKind.i64.wrap a1) 70000) then
                    .ret (AV.bool true) [AObj.arr 9 (Pay.rows 1 (List.replicate (irem (IntKind.i64.wrap a0) 70000).toNat [AV.str ByteArray.empty.data.toList])), AObj.arr 5 (Pay.bytes (List.replicate (irem (IntKind.i64.wrap a1) 70000).toNat 0)), AObj.arr 9 (Pay.rows 1 [[AV.str (List.replicate (irem (IntKind.i64.wrap a1) 70000).toNat 0)]]), AObj.arr 5 (Pay.bytes (List.replicate (irem (IntKind.i64.wrap a1) 70000).toNat 0)), AObj.arr 47 (Pay.rows 2 [[AV.str ByteArray.empty.data.toList, AV.str (List.replicate (irem (IntKind.i64.wrap a1) 70000).toNat 0)]])]
                  else
                    .ret (AV.bool false) [AObj.arr 9 (Pay.rows 1 (List.replicate (irem (IntKind.i64.wrap a0) 70000).toNat [AV.str ByteArray.empty.data.toList])), AObj.arr 5 (Pay.bytes (List.replicate (irem (IntKind.i64.wrap a1) 70000).toNat 0)), AObj.arr 9 (Pay.rows 1 [[AV.str (List.replicate (irem (IntKind.i64.wrap a1) 70000).toNat 0)]]), AObj.arr 5 (Pay.bytes (List.replicate (irem (IntKind.i64.wrap a1) 70000).toNat 0)), AObj.arr 47 (Pay.rows 2 [[AV.str ByteArray.empty.data.toList, AV.str (List.replicate (irem (IntKind.i64.wrap a1) 70000).toNat 0)]])]
                else
                  .ret (AV.bool false) [AObj.arr 9 (Pay.rows 1 (List.replicate (irem (IntKind.i64.wrap a0) 70000).toNat [AV.str ByteArray.empty.data.toList])), AObj.arr 5 (Pay.bytes (List.replicate (irem (IntKind.i64.wrap a1) 70000).toNat 0)), AObj.arr 9 (Pay.rows 1 [[AV.str (List.replicate (irem (IntKind.i64.wrap a1) 70000).toNat 0)]]), AObj.arr 5 (Pay.bytes (List.replicate (irem (IntKind.i64.wrap a1) 70000).toNat 0)), AObj.arr 47 (Pay.rows 2 [[AV.str ByteArray.empty.data.toList, AV.str (List.replicate (irem (IntKind.i64.wrap a1) 70000).toNat 0)]])]
              else
                bif okRows 2 [[AV.str ByteArray.empty.data.toList, AV.str (List.replicate (irem (IntKind.i64.wrap a1) 70000).toNat 0)]] && (9 + szT (decRows [[AV.str ByteArray.empty.data.toList, AV.str (List.replicate (irem (IntKind.i64.wrap a1) 70000).toNat 0)]]).flatten).ble 140737488355328 then
                  bif eqI 5 9 == ltI 65536 (irem (IntKind.i64.wrap a0) 70000) then
                    bif eqI 5 5 == ltI 65536 (irem (IntKind.i64.wrap a1) 70000) then
                      .ret (AV.bool false) [AObj.arr 9 (Pay.rows 1 (List.replicate (irem (IntKind.i64.wrap a0) 70000).toNat [AV.str ByteArray.empty.data.toList])), AObj.arr 5 (Pay.bytes (List.replicate (irem (IntKind.i64.wrap a1) 70000).toNat 0)), AObj.arr 9 (Pay.rows 1 [[AV.str (List.replicate (irem (IntKind.i64.wrap a1) 70000).toNat 0)]]), AObj.arr 5 (Pay.bytes (List.replicate (irem (IntKind.i64.wrap a1) 70000).toNat 0)), AObj.arr 47 (Pay.rows 2 [[AV.str ByteArray.empty.data.toList, AV.str (List.replicate (irem (IntKind.i64.wrap a1) 70000).toNat 0)]]), AObj.arr 5 (Pay.bytes (enc ↑[[AV.str ByteArray.empty.data.toList, AV.str (List.replicate (irem (IntKind.i64.wrap a1) 70000).toNat 0)]].length ++ encTs (decRows [[AV.str ByteArray.empty.data.toList, AV.str (List.replicate (irem (IntKind.i64.wrap a1) 70000).toNat 0)]]).flatten))]
                    else
                      .ret (AV.bool false) [AObj.arr 9 (Pay.rows 1 (List.replicate (irem (IntKind.i64.wrap a0) 70000).toNat [AV.str ByteArray.empty.data.toList])), AObj.arr 5 (Pay.bytes (List.replicate (irem (IntKind.i64.wrap a1) 70000).toNat 0)), AObj.arr 9 (Pay.rows 1 [[AV.str (List.replicate (irem (IntKind.i64.wrap a1) 70000).toNat 0)]]), AObj.arr 5 (Pay.bytes (List.replicate (irem (IntKind.i64.wrap a1) 70000).toNat 0)), AObj.arr 47 (Pay.rows 2 [[AV.str ByteArray.empty.data.toList, AV.str (List.replicate (irem (IntKind.i64.wrap a1) 70000).toNat 0)]]), AObj.arr 5 (Pay.bytes (enc ↑[[AV.str ByteArray.empty.data.toList, AV.str (List.replicate (irem (IntKind.i64.wrap a1) 70000).toNat 0)]].length ++ encTs (decRows [[AV.str ByteArray.empty.data.toList, AV.str (List.replicate (irem (IntKind.i64.wrap a1) 70000).toNat 0)]]).flatten))]
                  else
                    .ret (AV.bool false) [AObj.arr 9 (Pay.rows 1 (List.replicate (irem (IntKind.i64.wrap a0) 70000).toNat [AV.str ByteArray.empty.data.toList])), AObj.arr 5 (Pay.bytes (List.replicate (irem (IntKind.i64.wrap a1) 70000).toNat 0)), AObj.arr 9 (Pay.rows 1 [[AV.str (List.replicate (irem (IntKind.i64.wrap a1) 70000).toNat 0)]]), AObj.arr 5 (Pay.bytes (List.replicate (irem (IntKind.i64.wrap a1) 70000).toNat 0)), AObj.arr 47 (Pay.rows 2 [[AV.str ByteArray.empty.data.toList, AV.str (List.replicate (irem (IntKind.i64.wrap a1) 70000).toNat 0)]]), AObj.arr 5 (Pay.bytes (enc ↑[[AV.str ByteArray.empty.data.toList, AV.str (List.replicate (irem (IntKind.i64.wrap a1) 70000).toNat 0)]].length ++ encTs (decRows [[AV.str ByteArray.empty.data.toList, AV.str (List.replicate (irem (IntKind.i64.wrap a1) 70000).toNat 0)]]).flatten))]
                else
                  .stuck
            else
              .stuck
          else
            bif okRows 1 [[AV.str (List.replicate (irem (IntKind.i64.wrap a1) 70000).toNat 0)]] && (9 + szT (decRows [[AV.str (List.replicate (irem (IntKind.i64.wrap a1) 70000).toNat 0)]]).flatten).ble 140737488355328 then
              bif leI 0 (irem (IntKind.i64.wrap a1) 70000) && leI (irem (IntKind.i64.wrap a1) 70000) (irem (IntKind.i64.wrap a1) 70000) && leI (irem (IntKind.i64.wrap a1) 70000 * ↑1) 140737488355328 && true then
                bif longT (decRows [[AV.str ByteArray.empty.data.toList, AV.str (List.replicate (irem (IntKind.i64.wrap a1) 70000).toNat 0)]]).flatten && okRows 2 [[AV.str ByteArray.empty.data.toList, AV.str (List.replicate (irem (IntKind.i64.wrap a1) 70000).toNat 0)]] && (9 + szT (decRows [[AV.str ByteArray.empty.data.toList, AV.str (List.replicate (irem (IntKind.i64.wrap a1) 70000).toNat 0)]]).flatten).ble 140737488355328 then
                  bif eqI 5 9 == ltI 65536 (irem (IntKind.i64.wrap a0) 70000) then
                    bif eqI 0 5 == ltI 65536 (irem (IntKind.i64.wrap a1) 70000) then
                      .ret (AV.bool false) [AObj.arr 9 (Pay.rows 1 (List.replicate (irem (IntKind.i64.wrap a0) 70000).toNat [AV.str ByteArray.empty.data.toList])), AObj.arr 5 (Pay.bytes (List.replicate (irem (IntKind.i64.wrap a1) 70000).toNat 0)), AObj.arr 9 (Pay.rows 1 [[AV.str (List.replicate (irem (IntKind.i64.wrap a1) 70000).toNat 0)]]), AObj.arr 5 (Pay.bytes (enc ↑[[AV.str (List.replicate (irem (IntKind.i64.wrap a1) 70000).toNat 0)]].length ++ encTs (decRows [[AV.str (List.replicate (irem (IntKind.i64.wrap a1) 70000).toNat 0)]]).flatten)), AObj.arr 5 (Pay.bytes (List.replicate (irem (IntKind.i64.wrap a1) 70000).toNat 0)), AObj.arr 47 (Pay.rows 2 [[AV.str ByteArray.empty.data.toList, AV.str (List.replicate (irem (IntKind.i64.wrap a1) 70000).toNat 0)]])]
                    else
                      .ret (AV.bool false) [AObj.arr 9 (Pay.rows 1 (List.replicate (irem (IntKind.i64.wrap a0) 70000).toNat [AV.str ByteArray.empty.data.toList])), AObj.arr 5 (Pay.bytes (List.replicate (irem (IntKind.i64.wrap a1) 70000).toNat 0)), AObj.arr 9 (Pay.rows 1 [[AV.str (List.replicate (irem (IntKind.i64.wrap a1) 70000).toNat 0)]]), AObj.arr 5 (Pay.bytes (enc ↑[[AV.str (List.replicate (irem (IntKind.i64.wrap a1) 70000).toNat 0)]].length ++ encTs (decRows [[AV.str (List.replicate (irem (IntKind.i64.wrap a1) 70000).toNat 0)]]).flatten)), AObj.arr 5 (Pay.bytes (List.replicate (irem (IntKind.i64.wrap a1) 70000).toNat 0)), AObj.arr 47 (Pay.rows 2 [[AV.str ByteArray.empty.data.toList, AV.str (List.replicate (irem (IntKind.i64.wrap a1) 70000).toNat 0)]])]
                  else
                    .ret (AV.bool false) [AObj.arr 9 (Pay.rows 1 (List.replicate (irem (IntKind.i64.wrap a0) 70000).toNat [AV.str ByteArray.empty.data.toList])), AObj.arr 5 (Pay.bytes (List.replicate (irem (IntKind.i64.wrap a1) 70000).toNat 0)), AObj.arr 9 (Pay.rows 1 [[AV.str (List.replicate (irem (IntKind.i64.wrap a1) 70000).toNat 0)]]), AObj.arr 5 (Pay.bytes (enc ↑[[AV.str (List.replicate (irem (IntKind.i64.wrap a1) 70000).toNat 0)]].length ++ encTs (decRows [[AV.str (List.replicate (irem (IntKind.i64.wrap a1) 70000).toNat 0)]]).flatten)), AObj.arr 5 (Pay.bytes (List.replicate (irem (IntKind.i64.wrap a1) 70000).toNat 0)), AObj.arr 47 (Pay.rows 2 [[AV.str ByteArray.empty.data.toList, AV.str (List.replicate (irem (IntKind.i64.wrap a1) 70000).toNat 0)]])]
                else
                  bif okRows 2 [[AV.str ByteArray.empty.data.toList, AV.str (List.replicate (irem (IntKind.i64.wrap a1) 70000).toNat 0)]] && (9 + szT (decRows [[AV.str ByteArray.empty.data.toList, AV.str (List.replicate (irem (IntKind.i64.wrap a1) 70000).toNat 0)]]).flatten).ble 140737488355328 then
                    bif eqI 5 9 == ltI 65536 (irem (IntKind.i64.wrap a0) 70000) then
                      bif eqI 0 5 == ltI 65536 (irem (IntKind.i64.wrap a1) 70000) then
                        .ret (AV.bool true) [AObj.arr 9 (Pay.rows 1 (List.replicate (irem (IntKind.i64.wrap a0) 70000).toNat [AV.str ByteArray.empty.data.toList])), AObj.arr 5 (Pay.bytes (List.replicate (irem (IntKind.i64.wrap a1) 70000).toNat 0)), AObj.arr 9 (Pay.rows 1 [[AV.str (List.replicate (irem (IntKind.i64.wrap a1) 70000).toNat 0)]]), AObj.arr 5 (Pay.bytes (enc ↑[[AV.str (List.replicate (irem (IntKind.i64.wrap a1) 70000).toNat 0)]].length ++ encTs (decRows [[AV.str (List.replicate (irem (IntKind.i64.wrap a1) 70000).toNat 0)]]).flatten)), AObj.arr 5 (Pay.bytes (List.replicate (irem (IntKind.i64.wrap a1) 70000).toNat 0)), AObj.arr 47 (Pay.rows 2 [[AV.str ByteArray.empty.data.toList, AV.str (List.replicate (irem (IntKind.i64.wrap a1) 70000).toNat 0)]]), AObj.arr 5 (Pay.bytes (enc ↑[[AV.str ByteArray.empty.data.toList, AV.str (List.replicate (irem (IntKind.i64.wrap a1) 70000).toNat 0)]].length ++ encTs (decRows [[AV.str ByteArray.empty.data.toList, AV.str (List.replicate (irem (IntKind.i64.wrap a1) 70000).toNat 0)]]).flatten))]
                      else
                        .ret (AV.bool false) [AObj.arr 9 (Pay.rows 1 (List.replicate (irem (IntKind.i64.wrap a0) 70000).toNat [AV.str ByteArray.empty.data.toList])), AObj.arr 5 (Pay.bytes (List.replicate (irem (IntKind.i64.wrap a1) 70000).toNat 0)), AObj.arr 9 (Pay.rows 1 [[AV.str (List.replicate (irem (IntKind.i64.wrap a1) 70000).toNat 0)]]), AObj.arr 5 (Pay.bytes (enc ↑[[AV.str (List.replicate (irem (IntKind.i64.wrap a1) 70000).toNat 0)]].length ++ encTs (decRows [[AV.str (List.replicate (irem (IntKind.i64.wrap a1) 70000).toNat 0)]]).flatten)), AObj.arr 5 (Pay.bytes (List.replicate (irem (IntKind.i64.wrap a1) 70000).toNat 0)), AObj.arr 47 (Pay.rows 2 [[AV.str ByteArray.empty.data.toList, AV.str (List.replicate (irem (IntKind.i64.wrap a1) 70000).toNat 0)]]), AObj.arr 5 (Pay.bytes (enc ↑[[AV.str ByteArray.empty.data.toList, AV.str (List.replicate (irem (IntKind.i64.wrap a1) 70000).toNat 0)]].length ++ encTs (decRows [[AV.str ByteArray.empty.data.toList, AV.str (List.replicate (irem (IntKind.i64.wrap a1) 70000).toNat 0)]]).flatten))]
                    else
                      .ret (AV.bool false) [AObj.arr 9 (Pay.rows 1 (List.replicate (irem (IntKind.i64.wrap a0) 70000).toNat [AV.str ByteArray.empty.data.toList])), AObj.arr 5 (Pay.bytes (List.replicate (irem (IntKind.i64.wrap a1) 70000).toNat 0)), AObj.arr 9 (Pay.rows 1 [[AV.str (List.replicate (irem (IntKind.i64.wrap a1) 70000).toNat 0)]]), AObj.arr 5 (Pay.bytes (enc ↑[[AV.str (List.replicate (irem (IntKind.i64.wrap a1) 70000).toNat 0)]].length ++ encTs (decRows [[AV.str (List.replicate (irem (IntKind.i64.wrap a1) 70000).toNat 0)]]).flatten)), AObj.arr 5 (Pay.bytes (List.replicate (irem (IntKind.i64.wrap a1) 70000).toNat 0)), AObj.arr 47 (Pay.rows 2 [[AV.str ByteArray.empty.data.toList, AV.str (List.replicate (irem (IntKind.i64.wrap a1) 70000).toNat 0)]]), AObj.arr 5 (Pay.bytes (enc ↑[[AV.str ByteArray.empty.data.toList, AV.str (List.replicate (irem (IntKind.i64.wrap a1) 70000).toNat 0)]].length ++ encTs (decRows [[AV.str ByteArray.empty.data.toList, AV.str (List.replicate (irem (IntKind.i64.wrap a1) 70000).toNat 0)]]).flatten))]
                  else
                    .stuck
              else
                .stuck
            else
              .stuck
        else
          .stuck
      else
        bif okRows 1 (List.replicate (irem (IntKind.i64.wrap a0) 70000).toNat [AV.str ByteArray.empty.data.toList]) && (9 + szT (decRows (List.replicate (irem (IntKind.i64.wrap a0) 70000).toNat [AV.str ByteArray.empty.data.toList])).flatten).ble 140737488355328 then
          bif leI 0 (irem (IntKind.i64.wrap a1) 70000) && leI (irem (IntKind.i64.wrap a1) 70000) (irem (IntKind.i64.wrap a1) 70000) && leI (irem (IntKind.i64.wrap a1) 70000 * ↑1) 140737488355328 && true then
            bif longT (decRows [[AV.str (List.replicate (irem (IntKind.i64.wrap a1) 70000).toNat 0)]]).flatten && okRows 1 [[AV.str (List.replicate (irem (IntKind.i64.wrap a1) 70000).toNat 0)]] && (9 + szT (decRows [[AV.str (List.replicate (irem (IntKind.i64.wrap a1) 70000).toNat 0)]]).flatten).ble 140737488355328 then
              bif leI 0 (irem (IntKind.i64.wrap a1) 70000) && leI (irem (IntKind.i64.wrap a1) 70000) (irem (IntKind.i64.wrap a1) 70000) && leI (irem (IntKind.i64.wrap a1) 70000 * ↑1) 140737488355328 && true then
                bif longT (decRows [[AV.str ByteArray.empty.data.toList, AV.str (List.replicate (irem (IntKind.i64.wrap a1) 70000).toNat 0)]]).flatten && okRows 2 [[AV.str ByteArray.empty.data.toList, AV.str (List.replicate (irem (IntKind.i64.wrap a1) 70000).toNat 0)]] && (9 + szT (decRows [[AV.str ByteArray.empty.data.toList, AV.str (List.replicate (irem (IntKind.i64.wrap a1) 70000).toNat 0)]]).flatten).ble 140737488355328 then
                  bif eqI 0 9 == ltI 65536 (irem (IntKind.i64.wrap a0) 70000) then
                    bif eqI 5 5 == ltI 65536 (irem (IntKind.i64.wrap a1) 70000) then
                      .ret (AV.bool true) [AObj.arr 9 (Pay.rows 1 (List.replicate (irem (IntKind.i64.wrap a0) 70000).toNat [AV.str ByteArray.empty.data.toList])), AObj.arr 5 (Pay.bytes (enc ↑(List.replicate (irem (IntKind.i64.wrap a0) 70000).toNat [AV.str ByteArray.empty.data.toList]).length ++ encTs (decRows (List.replicate (irem (IntKind.i64.wrap a0) 70000).toNat [AV.str ByteArray.empty.data.toList])).flatten)), AObj.arr 5 (Pay.bytes (List.replicate (irem (IntKind.i64.wrap a1) 70000).toNat 0)), AObj.arr 9 (Pay.rows 1 [[AV.str (List.replicate (irem (IntKind.i64.wrap a1) 70000).toNat 0)]]), AObj.arr 5 (Pay.bytes (List.replicate (irem (IntKind.i64.wrap a1) 70000).toNat 0)), AObj.arr 47 (Pay.rows 2 [[AV.str ByteArray.empty.data.toList, AV.str (List.replicate (irem (IntKind.i64.wrap a1) 70000).toNat 0)]])]
                    else
                      .ret (AV.bool false) [AObj.arr 9 (Pay.rows 1 (List.replicate (irem (IntKind.i64.wrap a0) 70000).toNat [AV.str ByteArray.empty.data.toList])), AObj.arr 5 (Pay.bytes (enc ↑(List.replicate (irem (IntKind.i64.wrap a0) 70000).toNat [AV.str ByteArray.empty.data.toList]).length ++ encTs (decRows (List.replicate (irem (IntKind.i64.wrap a0) 70000).toNat [AV.str ByteArray.empty.data.toList])).flatten)), AObj.arr 5 (Pay.bytes (List.replicate (irem (IntKind.i64.wrap a1) 70000).toNat 0)), AObj.arr 9 (Pay.rows 1 [[AV.str (List.replicate (irem (IntKind.i64.wrap a1) 70000).toNat 0)]]), AObj.arr 5 (Pay.bytes (List.replicate (irem (IntKind.i64.wrap a1) 70000).toNat 0)), AObj.arr 47 (Pay.rows 2 [[AV.str ByteArray.empty.data.toList, AV.str (List.replicate (irem (IntKind.i64.wrap a1) 70000).toNat 0)]])]
                  else
                    .ret (AV.bool false) [AObj.arr 9 (Pay.rows 1 (List.replicate (irem (IntKind.i64.wrap a0) 70000).toNat [AV.str ByteArray.empty.data.toList])), AObj.arr 5 (Pay.bytes (enc ↑(List.replicate (irem (IntKind.i64.wrap a0) 70000).toNat [AV.str ByteArray.empty.data.toList]).length ++ encTs (decRows (List.replicate (irem (IntKind.i64.wrap a0) 70000).toNat [AV.str ByteArray.empty.data.toList])).flatten)), AObj.arr 5 (Pay.bytes (List.replicate (irem (IntKind.i64.wrap a1) 70000).toNat 0)), AObj.arr 9 (Pay.rows 1 [[AV.str (List.replicate (irem (IntKind.i64.wrap a1) 70000).toNat 0)]]), AObj.arr 5 (Pay.bytes (List.replicate (irem (IntKind.i64.wrap a1) 70000).toNat 0)), AObj.arr 47 (Pay.rows 2 [[AV.str ByteArray.empty.data.toList, AV.str (List.replicate (irem (IntKind.i64.wrap a1) 70000).toNat 0)]])]
                else
                  bif okRows 2 [[AV.str ByteArray.empty.data.toList, AV.str (List.replicate (irem (IntKind.i64.wrap a1) 70000).toNat 0)]] && (9 + szT (decRows [[AV.str ByteArray.empty.data.toList, AV.str (List.replicate (irem (IntKind.i64.wrap a1) 70000).toNat 0)]]).flatten).ble 140737488355328 then
                    bif eqI 0 9 == ltI 65536 (irem (IntKind.i64.wrap a0) 70000) then
                      bif eqI 5 5 == ltI 65536 (irem (IntKind.i64.wrap a1) 70000) then
                        .ret (AV.bool false) [AObj.arr 9 (Pay.rows 1 (List.replicate (irem (IntKind.i64.wrap a0) 70000).toNat [AV.str ByteArray.empty.data.toList])), AObj.arr 5 (Pay.bytes (enc ↑(List.replicate (irem (IntKind.i64.wrap a0) 70000).toNat [AV.str ByteArray.empty.data.toList]).length ++ encTs (decRows (List.replicate (irem (IntKind.i64.wrap a0) 70000).toNat [AV.str ByteArray.empty.data.toList])).flatten)), AObj.arr 5 (Pay.bytes (List.replicate (irem (IntKind.i64.wrap a1) 70000).toNat 0)), AObj.arr 9 (Pay.rows 1 [[AV.str (List.replicate (irem (IntKind.i64.wrap a1) 70000).toNat 0)]]), AObj.arr 5 (Pay.bytes (List.replicate (irem (IntKind.i64.wrap a1) 70000).toNat 0)), AObj.arr 47 (Pay.rows 2 [[AV.str ByteArray.empty.data.toList, AV.str (List.replicate (irem (IntKind.i64.wrap a1) 70000).toNat 0)]]), AObj.arr 5 (Pay.bytes (enc ↑[[AV.str ByteArray.empty.data.toList, AV.str (List.replicate (irem (IntKind.i64.wrap a1) 70000).toNat 0)]].length ++ encTs (decRows [[AV.str ByteArray.empty.data.toList, AV.str (List.replicate (irem (IntKind.i64.wrap a1) 70000).toNat 0)]]).flatten))]
                      else
                        .ret (AV.bool false) [AObj.arr 9 (Pay.rows 1 (List.replicate (irem (IntKind.i64.wrap a0) 70000).toNat [AV.str ByteArray.empty.data.toList])), AObj.arr 5 (Pay.bytes (enc ↑(List.replicate (irem (IntKind.i64.wrap a0) 70000).toNat [AV.str ByteArray.empty.data.toList]).length ++ encTs (decRows (List.replicate (irem (IntKind.i64.wrap a0) 70000).toNat [AV.str ByteArray.empty.data.toList])).flatten)), AObj.arr 5 (Pay.bytes (List.replicate (irem (IntKind.i64.wrap a1) 70000).toNat 0)), AObj.arr 9 (Pay.rows 1 [[AV.str (List.replicate (irem (IntKind.i64.wrap a1) 70000).toNat 0)]]), AObj.arr 5 (Pay.bytes (List.replicate (irem (IntKind.i64.wrap a1) 70000).toNat 0)), AObj.arr 47 (Pay.rows 2 [[AV.str ByteArray.empty.data.toList, AV.str (List.replicate (irem (IntKind.i64.wrap a1) 70000).toNat 0)]]), AObj.arr 5 (Pay.bytes (enc ↑[[AV.str ByteArray.empty.data.toList, AV.str (List.replicate (irem (IntKind.i64.wrap a1) 70000).toNat 0)]].length ++ encTs (decRows [[AV.str ByteArray.empty.data.toList, AV.str (List.replicate (irem (IntKind.i64.wrap a1) 70000).toNat 0)]]).flatten))]
                    else
                      .ret (AV.bool false) [AObj.arr 9 (Pay.rows 1 (List.replicate (irem (IntKind.i64.wrap a0) 70000).toNat [AV.str ByteArray.empty.data.toList])), AObj.arr 5 (Pay.bytes (enc ↑(List.replicate (irem (IntKind.i64.wrap a0) 70000).toNat [AV.str ByteArray.empty.data.toList]).length ++ encTs (decRows (List.replicate (irem (IntKind.i64.wrap a0) 70000).toNat [AV.str ByteArray.empty.data.toList])).flatten)), AObj.arr 5 (Pay.bytes (List.replicate (irem (IntKind.i64.wrap a1) 70000).toNat 0)), AObj.arr 9 (Pay.rows 1 [[AV.str (List.replicate (irem (IntKind.i64.wrap a1) 70000).toNat 0)]]), AObj.arr 5 (Pay.bytes (List.replicate (irem (IntKind.i64.wrap a1) 70000).toNat 0)), AObj.arr 47 (Pay.rows 2 [[AV.str ByteArray.empty.data.toList, AV.str (List.replicate (irem (IntKind.i64.wrap a1) 70000).toNat 0)]]), AObj.arr 5 (Pay.bytes (enc ↑[[AV.str ByteArray.empty.data.toList, AV.str (List.replicate (irem (IntKind.i64.wrap a1) 70000).toNat 0)]].length ++ encTs (decRows [[AV.str ByteArray.empty.data.toList, AV.str (List.replicate (irem (IntKind.i64.wrap a1) 70000).toNat 0)]]).flatten))]
                  else
                    .stuck
              else
                .stuck
            else
              bif okRows 1 [[AV.str (List.replicate (irem (IntKind.i64.wrap a1) 70000).toNat 0)]] && (9 + szT (decRows [[AV.str (List.replicate (irem (IntKind.i64.wrap a1) 70000).toNat 0)]]).flatten).ble 140737488355328 then
                bif leI 0 (irem (IntKind.i64.wrap a1) 70000) && leI (irem (IntKind.i64.wrap a1) 70000) (irem (IntKind.i64.wrap a1) 70000) && leI (irem (IntKind.i64.wrap a1) 70000 * ↑1) 140737488355328 && true then
                  bif longT (decRows [[AV.str ByteArray.empty.data.toList, AV.str (List.replicate (irem (IntKind.i64.wrap a1) 70000).toNat 0)]]).flatten && okRows 2 [[AV.str ByteArray.empty.data.toList, AV.str (List.replicate (irem (IntKind.i64.wrap a1) 70000).toNat 0)]] && (9 + szT (decRows [[AV.str ByteArray.empty.data.toList, AV.str (List.replicate (irem (IntKind.i64.wrap a1) 70000).toNat 0)]]).flatten).ble 140737488355328 then
                    bif eqI 0 9 == ltI 65536 (irem (IntKind.i64.wrap a0) 70000) then
                      bif eqI 0 5 == ltI 65536 (irem (IntKind.i64.wrap a1) 70000) then
                        .ret (AV.bool false) [AObj.arr 9 (Pay.rows 1 (List.replicate (irem (IntKind.i64.wrap a0) 70000).toNat [AV.str ByteArray.empty.data.toList])), AObj.arr 5 (Pay.bytes (enc ↑(List.replicate (irem (IntKind.i64.wrap a0) 70000).toNat [AV.str ByteArray.empty.data.toList]).length ++ encTs (decRows (List.replicate (irem (IntKind.i64.wrap a0) 70000).toNat [AV.str ByteArray.empty.data.toList])).flatten)), AObj.arr 5 (Pay.bytes (List.replicate (irem (IntKind.i64.wrap a1) 70000).toNat 0)), AObj.arr 9 (Pay.rows 1 [[AV.str (List.replicate (irem (IntKind.i64.wrap a1) 70000).toNat 0)]]), AObj.arr 5 (Pay.bytes (enc ↑[[AV.str (List.replicate (irem (IntKind.i64.wrap a1) 70000).toNat 0)]].length ++ encTs (decRows [[AV.str (List.replicate (irem (IntKind.i64.wrap a1) 70000).toNat 0)]]).flatten)), AObj.arr 5 (Pay.bytes (List.replicate (irem (IntKind.i64.wrap a1) 70000).toNat 0)), AObj.arr 47 (Pay.rows 2 [[AV.str ByteArray.empty.data.toList, AV.str (List.replicate (irem (IntKind.i64.wrap a1) 70000).toNat 0)]])]
                      else
                        .ret (AV.bool false) [AObj.arr 9 (Pay.rows 1 (List.replicate (irem (IntKind.i64.wrap a0) 70000).toNat [AV.str ByteArray.empty.data.toList])), AObj.arr 5 (Pay.bytes (enc ↑(List.replicate (irem (IntKind.i64.wrap a0) 70000).toNat [AV.str ByteArray.empty.data.toList]).length ++ encTs (decRows (List.replicate (irem (IntKind.i64.wrap a0) 70000).toNat [AV.str ByteArray.empty.data.toList])).flatten)), AObj.arr 5 (Pay.bytes (List.replicate (irem (IntKind.i64.wrap a1) 70000).toNat 0)), AObj.arr 9 (Pay.rows 1 [[AV.str (List.replicate (irem (IntKind.i64.wrap a1) 70000).toNat 0)]]), AObj.arr 5 (Pay.bytes (enc ↑[[AV.str (List.replicate (irem (IntKind.i64.wrap a1) 70000).toNat 0)]].length ++ encTs (decRows [[AV.str (List.replicate (irem (IntKind.i64.wrap a1) 70000).toNat 0)]]).flatten)), AObj.arr 5 (Pay.bytes (List.replicate (irem (IntKind.i64.wrap a1) 70000).toNat 0)), AObj.arr 47 (Pay.rows 2 [[AV.str ByteArray.empty.data.toList, AV.str (List.replicate (irem (IntKind.i64.wrap a1) 70000).toNat 0)]])]
                    else
                      .ret (AV.bool false) [AObj.arr 9 (Pay.rows 1 (List.replicate (irem (IntKind.i64.wrap a0) 70000).toNat [AV.str ByteArray.empty.data.toList])), AObj.arr 5 (Pay.bytes (enc ↑(List.replicate (irem (IntKind.i64.wrap a0) 70000).toNat [AV.str ByteArray.empty.data.toList]).length ++ encTs (decRows (List.replicate (irem (IntKind.i64.wrap a0) 70000).toNat [AV.str ByteArray.empty.data.toList])).flatten)), AObj.arr 5 (Pay.bytes (List.replicate (irem (IntKind.i64.wrap a1) 70000).toNat 0)), AObj.arr 9 (Pay.rows 1 [[AV.str (List.replicate (irem (IntKind.i64.wrap a1) 70000).toNat 0)]]), AObj.arr 5 (Pay.bytes (enc ↑[[AV.str (List.replicate (irem (IntKind.i64.wrap a1) 70000).toNat 0)]].length ++ encTs (decRows [[AV.str (List.replicate (irem (IntKind.i64.wrap a1) 70000).toNat 0)]]).flatten)), AObj.arr 5 (Pay.bytes (List.replicate (irem (IntKind.i64.wrap a1) 70000).toNat 0)), AObj.arr 47 (Pay.rows 2 [[AV.str ByteArray.empty.data.toList, AV.str (List.replicate (irem (IntKind.i64.wrap a1) 70000).toNat 0)]])]
                  else
                    bif okRows 2 [[AV.str ByteArray.empty.data.toList, AV.str (List.replicate (irem (IntKind.i64.wrap a1) 70000).toNat 0)]] && (9 + szT (decRows [[AV.str ByteArray.empty.data.toList, AV.str (List.replicate (irem (IntKind.i64.wrap a1) 70000).toNat 0)]]).flatten).ble 140737488355328 then
                      bif eqI 0 9 == ltI 65536 (irem (IntKind.i64.wrap a0) 70000) then
                        bif eqI 0 5 == ltI 65536 (irem (IntKind.i64.wrap a1) 70000) then
                          .ret (AV.bool true) [AObj.arr 9 (Pay.rows 1 (List.replicate (irem (IntKind.i64.wrap a0) 70000).toNat [AV.str ByteArray.empty.data.toList])), AObj.arr 5 (Pay.bytes (enc ↑(List.replicate (irem (IntKind.i64.wrap a0) 70000).toNat [AV.str ByteArray.empty.data.toList]).length ++ encTs (decRows (List.replicate (irem (IntKind.i64.wrap a0) 70000).toNat [AV.str ByteArray.empty.data.toList])).flatten)), AObj.arr 5 (Pay.bytes (List.replicate (irem (IntKind.i64.wrap a1) 70000).toNat 0)), AObj.arr 9 (Pay.rows 1 [[AV.str (List.replicate (irem (IntKind.i64.wrap a1) 70000).toNat 0)]]), AObj.arr 5 (Pay.bytes (enc ↑[[AV.str (List.replicate (irem (IntKind.i64.wrap a1) 70000).toNat 0)]].length ++ encTs (decRows [[AV.str (List.replicate (irem (IntKind.i64.wrap a1) 70000).toNat 0)]]).flatten)), AObj.arr 5 (Pay.bytes (List.replicate (irem (IntKind.i64.wrap a1) 70000).toNat 0)), AObj.arr 47 (Pay.rows 2 [[AV.str ByteArray.empty.data.toList, AV.str (List.replicate (irem (IntKind.i64.wrap a1) 70000).toNat 0)]]), AObj.arr 5 (Pay.bytes (enc ↑[[AV.str ByteArray.empty.data.toList, AV.str (List.replicate (irem (IntKind.i64.wrap a1) 70000).toNat 0)]].length ++ encTs (decRows [[AV.str ByteArray.empty.data.toList, AV.str (List.replicate (irem (IntKind.i64.wrap a1) 70000).toNat 0)]]).flatten))]
                        else
                          .ret (AV.bool false) [AObj.arr 9 (Pay.rows 1 (List.replicate (irem (IntKind.i64.wrap a0) 70000).toNat [AV.str ByteArray.empty.data.toList])), AObj.arr 5 (Pay.bytes (enc ↑(List.replicate (irem (IntKind.i64.wrap a0) 70000).toNat [AV.str ByteArray.empty.data.toList]).length ++ encTs (decRows (List.replicate (irem (IntKind.i64.wrap a0) 70000).toNat [AV.str ByteArray.empty.data.toList])).flatten)), AObj.arr 5 (Pay.bytes (List.replicate (irem (IntKind.i64.wrap a1) 70000).toNat 0)), AObj.arr 9 (Pay.rows 1 [[AV.str (List.replicate (irem (IntKind.i64.wrap a1) 70000).toNat 0)]]), AObj.arr 5 (Pay.bytes (enc ↑[[AV.str (List.replicate (irem (IntKind.i64.wrap a1) 70000).toNat 0)]].length ++ encTs (decRows [[AV.str (List.replicate (irem (IntKind.i64.wrap a1) 70000).toNat 0)]]).flatten)), AObj.arr 5 (Pay.bytes (List.replicate (irem (IntKind.i64.wrap a1) 70000).toNat 0)), AObj.arr 47 (Pay.rows 2 [[AV.str ByteArray.empty.data.toList, AV.str (List.replicate (irem (IntKind.i64.wrap a1) 70000).toNat 0)]]), AObj.arr 5 (Pay.bytes (enc ↑[[AV.str ByteArray.empty.data.toList, AV.str (List.replicate (irem (IntKind.i64.wrap a1) 70000).toNat 0)]].length ++ encTs (decRows [[AV.str ByteArray.empty.data.toList, AV.str (List.replicate (irem (IntKind.i64.wrap a1) 70000).toNat 0)]]).flatten))]
                      else
                        .ret (AV.bool false) [AObj.arr 9 (Pay.rows 1 (List.replicate (irem (IntKind.i64.wrap a0) 70000).toNat [AV.str ByteArray.empty.data.toList])), AObj.arr 5 (Pay.bytes (enc ↑(List.replicate (irem (IntKind.i64.wrap a0) 70000).toNat [AV.str ByteArray.empty.data.toList]).length ++ encTs (decRows (List.replicate (irem (IntKind.i64.wrap a0) 70000).toNat [AV.str ByteArray.empty.data.toList])).flatten)), AObj.arr 5 (Pay.bytes (List.replicate (irem (IntKind.i64.wrap a1) 70000).toNat 0)), AObj.arr 9 (Pay.rows 1 [[AV.str (List.replicate (irem (IntKind.i64.wrap a1) 70000).toNat 0)]]), AObj.arr 5 (Pay.bytes (enc ↑[[AV.str (List.replicate (irem (IntKind.i64.wrap a1) 70000).toNat 0)]].length ++ encTs (decRows [[AV.str (List.replicate (irem (IntKind.i64.wrap a1) 70000).toNat 0)]]).flatten)), AObj.arr 5 (Pay.bytes (List.replicate (irem (IntKind.i64.wrap a1) 70000).toNat 0)), AObj.arr 47 (Pay.rows 2 [[AV.str ByteArray.empty.data.toList, AV.str (List.replicate (irem (IntKind.i64.wrap a1) 70000).toNat 0)]]), AObj.arr 5 (Pay.bytes (enc ↑[[AV.str ByteArray.empty.data.toList, AV.str (List.replicate (irem (IntKind.i64.wrap a1) 70000).toNat 0)]].length ++ encTs (decRows [[AV.str ByteArray.empty.data.toList, AV.str (List.replicate (irem (IntKind.i64.wrap a1) 70000).toNat 0)]]).flatten))]
                    else
                      .stuck
                else
                  .stuck
              else
                .stuck
          else
            .stuck
        else
          .stuck
  else
    .stuck := by kernel_rfl


theorem yes_pos {c : Bool} {x y : Res} (h : c = true) (hx : Yes x) : Yes (bif c then x else y) := by rw [h]; exact hx
theorem yes_neg {c : Bool} {x y : Res} (h : c = false) (hy : Yes y) : Yes (bif c then x else y) := by rw [h]; exact hy
theorem yes_bif {c : Bool} {x y : Res} (h1 : c = true → Yes x) (h2 : c = false → Yes y) : Yes (bif c then x else y) := by
  cases c with
  | true => exact h1 rfl
  | false => exact h2 rfl

theorem law6 (a0 a1 : Int) (hr : Real [.int .u32 a0, .int .u32 a1]) : apure (c6 rounds) Try.f6 [.int .u32 a0, .int .u32 a1] = some (.bool true, []) := by
  have h0 : 0 ≤ a0 ∧ a0 ≤ 4294967295 := by simpa [IntKind.has, IntKind.min, IntKind.max, IntKind.signed, IntKind.bits] using hr.int
  have h1 : 0 ≤ a1 ∧ a1 ≤ 4294967295 := by simpa [IntKind.has, IntKind.min, IntKind.max, IntKind.signed, IntKind.bits] using hr.tail.int
  refine apure_yes ?_
  rw [f6_eq, wrap64 (n := a0) (by omega) (by omega), wrap64 (n := a1) (by omega) (by omega), irem_eq h0.1, irem_eq h1.1]
  have k0 : 0 ≤ a0 % 70000 ∧ a0 % 70000 < 70000 := by omega
  have m0 : 0 ≤ a1 % 70000 ∧ a1 % 70000 < 70000 := by omega
  generalize a0 % 70000 = k at k0
  generalize a1 % 70000 = m at m0
  have C1 : leI 0 k = true := leI_iff.2 k0.1
  have C2 : leI k k = true := leI_iff.2 (Int.le_refl _)
  have C3 : leI (k * ↑16) 140737488355328 = true := leI_iff.2 (by omega)
  have D1 : leI 0 m = true := leI_iff.2 m0.1
  have D2 : leI m m = true := leI_iff.2 (Int.le_refl _)
  have D3 : leI (m * ↑1) 140737488355328 = true := leI_iff.2 (by omega)
  have B1 : ∀ x : List AV, Nat.blt 65536 (List.replicate k.toNat x).length = ltI 65536 k := fun x => by
    rw [Bool.eq_iff_iff, blt_iff, ltI_iff, List.length_replicate]; omega
  have L1 : longT (decRows [[AV.str (List.replicate m.toNat 0)]]).flatten = ltI 65536 m := by
    show (Nat.blt 65536 (List.replicate m.toNat (0 : UInt8)).length || false) = _
    rw [Bool.or_false, Bool.eq_iff_iff, blt_iff, ltI_iff, List.length_replicate]; omega
  have L2 : longT (decRows [[AV.str ByteArray.empty.data.toList, AV.str (List.replicate m.toNat 0)]]).flatten = ltI 65536 m := by
    show (false || (Nat.blt 65536 (List.replicate m.toNat (0 : UInt8)).length || false)) = _
    rw [Bool.or_false, Bool.false_or, Bool.eq_iff_iff, blt_iff, ltI_iff, List.length_replicate]; omega
  have O1 : okRows 1 [[AV.str (List.replicate m.toNat 0)]] = true := rfl
  have O2 : okRows 2 [[AV.str ByteArray.empty.data.toList, AV.str (List.replicate m.toNat 0)]] = true := rfl
  have Z1 : (9 + szT (decRows [[AV.str (List.replicate m.toNat 0)]]).flatten).ble 140737488355328 = true := by
    rw [ble_iff]
    show 9 + ((List.replicate m.toNat (0 : UInt8)).length + 9 + 0) ≤ _
    rw [List.length_replicate]; omega
  have Z2 : (9 + szT (decRows [[AV.str ByteArray.empty.data.toList, AV.str (List.replicate m.toNat 0)]]).flatten).ble 140737488355328 = true := by
    rw [ble_iff]
    show 9 + (0 + 9 + ((List.replicate m.toNat (0 : UInt8)).length + 9 + 0)) ≤ _
    rw [List.length_replicate]; omega
  have tss : decRows (List.replicate k.toNat [AV.str ByteArray.empty.data.toList]) = List.replicate k.toNat [[]] := by unfold decRows; rw [List.map_replicate]; rfl
  have O0 : okRows 1 (List.replicate k.toNat [AV.str ByteArray.empty.data.toList]) = true := by
    have := okRows_map (n := 1) (tss := List.replicate k.toNat [[]]) (by intro ts hts; rw [List.mem_replicate] at hts; rw [hts.2]; rfl)
    rw [List.map_replicate] at this
    exact this
  have fl : ∀ n : Nat, (List.replicate n [([] : Txt)]).flatten = List.replicate n [] := by
    intro n
    induction n with
    | zero => rfl
    | succ n ih => rw [List.replicate_succ, List.flatten_cons, ih]; rfl
  have L0 : longT (decRows (List.replicate k.toNat [AV.str ByteArray.empty.data.toList])).flatten = false := by
    rw [tss, fl]
    unfold longT
    rw [List.any_eq_false]
    intro s hs
    rw [List.mem_replicate] at hs
    rw [hs.2]; decide
  have Z0 : (9 + szT (decRows (List.replicate k.toNat [AV.str ByteArray.empty.data.toList])).flatten).ble 140737488355328 = true := by
    rw [tss, fl, ble_iff]
    have : ∀ n : Nat, szT (List.replicate n []) = 9 * n := by
      intro n
      induction n with
      | zero => rfl
      | succ n ih => rw [List.replicate_succ, szT_cons, ih]; simp; omega
    rw [this]; omega
  simp only [C1, C2, C3, D1, D2, D3, B1, L0, L1, L2, O0, O1, O2, Z0, Z1, Z2, Bool.and_true, Bool.true_and, Bool.false_and, cond_true, cond_false]
  cases ltI 65536 k <;> cases ltI 65536 m <;> exact .ret
end Go.Proofs.YtdkihlkcnnlkcaaG

namespace Go.Proofs.Ytdkihlkcnnlkcaa.recBounds
open Go.ChangeShapes Go.WideShapes Go.ChangeAt Go.RowKit Go.Proofs.YtdkihlkcnnlkcaaGm Go.Proofs.YtdkihlkcnnlkcaaG
open Go.ChangeMaps (open_string shut_string)
set_option linter.unusedVariables false
theorem own : ownKnob Try.prog.godebug = none := by kernel_rfl
theorem laidOut : laidOutB Try.prog = true := by kernel_rfl
set_option maxRecDepth 100000 in
theorem lifted (os : Os) (started : os.Started) (H : Type) (enc : TypeId × Value → H) :
    ReturnsInHanded {} Try.checked os 6 .any (Rows.recBoundsSpec.pre6 enc Try.prog Try.f6 Rows.recBoundsRow.domain false) (Rows.recBoundsSpec.post enc Try.prog Try.f6 false true false false) := by
  refine returnsInHanded_of_change_sized (C := Try.checked) own started (by kernel_rfl) Try.func6
    (ChangeSpec.witness6 (enc := enc) (C := Try.checked) false ⟨#[], #[.int .u32 0, .int .u32 0], []⟩ 8 (by kernel_rfl) (by kernel_rfl) (by kernel_rfl) (by kernel_rfl)) ?_
  intro W base args ds gs before hval0 hW hcnd hsz0 _
  have hval : ∀ (j : Nat) t v, Try.f6.params[j]? = some t → args[j]? = some v → Value.okWide Try.prog W .any base t v := hval0
  have hW' := hW
  obtain ⟨p, q, hA0, hV, rfl, hfz, hnd⟩ := hW
  have hA : DataW.TrodAll enc Try.prog W 0 (fun _ => true) true Try.f6.params.toList args.toList ds p := hA0
  rw [Try.params6] at hA hval
  obtain ⟨v0, vs0, d0, ds0, p0, q0, hargs, rfl, rfl, h0, r0⟩ := trodAll_cons hA
  obtain ⟨v1, vs1, d1, ds1, p1, q1, rfl, rfl, rfl, h1, r1⟩ := trodAll_cons r0
  obtain ⟨rfl, rfl, rfl⟩ := trodAll_nil r1
  obtain rfl : args = #[v0, v1] := by cases args; simp_all
  obtain ⟨rfl, rfl⟩ := trodVars_none hV
  obtain ⟨a0, rfl, rfl, rfl, w0⟩ := open_int Try.underlying22 (hval 0 22 v0 rfl rfl) h0
  have R0 : RepV W (fun _ => False) [] (.int .u32 a0) (.int .u32 a0) := .int (by simpa [Lit.wf, IntKind.has] using w0)
  obtain ⟨a1, rfl, rfl, rfl, w1⟩ := open_int Try.underlying22 (hval 1 22 v1 rfl rfl) h1
  have R1 : RepV W (fun _ => False) [] (.int .u32 a1) (.int .u32 a1) := .int (by simpa [Lit.wf, IntKind.has] using w1)
  clear hA0 hval0 hsz0
  have hreal : RepL W (fun _ => False) [] _ _ := (.cons R0 (.cons R1 .nil))
  refine (law_calls (c6 rounds) tt6_ok (.cons ok19 (.cons ok20 (.cons ok21 (.cons ok22 .nil)))) follows rfl Try.func6 (law6 a0 a1 ⟨_, _, _, hreal⟩) hreal).mono fun e W' ⟨he, bel⟩ => ?_
  subst he
  exact ⟨_, rfl, _, _, _, [], _, [], hW', trodAll_mk1 (shut_bool Try.underlying4 _), (trodAll_cons_mk (shut_int Try.underlying22 w0) (trodAll_cons_mk (shut_int Try.underlying22 w1) trodAll_mk0)), rfl, bel.frame _, fun h => by cases h⟩
theorem over : Rows.recBoundsRow.holds Try.pinned (OpenSpec.ofChange Rows.recBoundsSpec) :=
  OpenClaim.holds_of_wide 6 Try.f6 rfl rfl rfl rfl rfl rfl rfl ⟨rfl, rfl, rfl, rfl, rfl⟩ rfl rfl rfl rfl rfl (by kernel_rfl) Try.func6 (by kernel_rfl)
    (of_decide_eq_true (by kernel_rfl)) (by unfold Func.isWrapper; first | (rw [if_pos (by decide +kernel)]; kernel_rfl) | (rw [if_neg (by decide +kernel)]; exact ⟨rfl, rfl⟩))
    (fun os started H enc _ => lifted os started H enc)
theorem proved : Rows.RecBoundsSaid := over
end Go.Proofs.Ytdkihlkcnnlkcaa.recBounds
namespace Go.Proofs.Ytdkihlkcnnlkcaa
/-- The row, under a short name, for the claim. -/
theorem recBounds_holds : Rows.RecBoundsSaid := recBounds.proved
#print axioms recBounds_holds
end Go.Proofs.Ytdkihlkcnnlkcaa
