/- NoteGets: for every input the law returns true, and the input reads as it did; no condition beyond the row. -/
import Derived.Test.YtjdojmjkldpgnaaRows
import Derived.WalkKit
import Derived.ProofKit
import Derived.OpenShut
import Derived.ShutString
import Derived.ChangeOld
import Derived.Below
import Derived.SizedLaws
import Derived.Carry
import Derived.Test.YtjdojmjkldpgnaaGs
import Derived.Test.YtjdojmjkldpgnaaGmYnotef
namespace Go.Proofs.YtjdojmjkldpgnaaG
open Go Go.Proofs.YtjdojmjkldpgnaaGm
set_option maxRecDepth 100000
def tt3 : Tab := [(0, ty0), (3, ty3), (4, ty4), (5, ty5), (9, ty9), (22, ty22), (24, ty24), (26, ty26), (27, ty27), (28, ty28), (30, ty30), (32, ty32), (37, ty37)]
theorem tt3_ok : TabOk Try.prog tt3 := tabOk_of_all ⟨ty0_ok, ty3_ok, ty4_ok, ty5_ok, ty9_ok, ty22_ok, ty24_ok, ty26_ok, ty27_ok, ty28_ok, ty30_ok, ty32_ok, ty37_ok, trivial⟩
def c3 (F : Nat) : Cfg := ⟨tt3, [(5, .pure go5), (6, .pure go6), (7, .pure go6), (8, .pure go8), (9, .pure go16), (10, .pure go10), (11, .pure go11), (12, .pure go12)], F, [], [], 0⟩
theorem f3_eq (F : Nat) (a0 : List UInt8) (a1 : Int) : afun (c3 F) Try.f3 [AV.ro (Pay.bytes a0), AV.int IntKind.i64 a1] [] =
  bif ltI 1000 ↑a0.length then
    .ret (AV.bool true) []
  else
    bif leI 0 a1 then
      bif ltI a1 11 then
        bif inB a1 (List.map (fun (s : List UInt8) => [AV.str s]) nameTs).length then
          bif isStr (nth ((List.map (fun (s : List UInt8) => [AV.str s]) nameTs).getD a1.toNat []) 0) then
            bif !decide (NoteV.mk (getNote a0).fst.k (getNote a0).fst.t (getNote a0).fst.y (getNote a0).fst.p (getNote a0).fst.w (getNote a0).fst.a (getNote a0).fst.b = NoteV.mk (getNote a0).fst.k (getNote a0).fst.t (getNote a0).fst.y (getNote a0).fst.p (getNote a0).fst.w (getNote a0).fst.a (getNote a0).fst.b) then
              .ret (AV.bool false) [AObj.var 26 [AV.int IntKind.i64 (getNote a0).fst.k, AV.int IntKind.i64 (getNote a0).fst.t, AV.int IntKind.i64 (getNote a0).fst.y, AV.int IntKind.i64 (getNote a0).fst.p, AV.ro (Pay.ints IntKind.i64 (getNote a0).fst.w), AV.ro (Pay.bytes (getNote a0).fst.a), AV.ro (Pay.bytes (getNote a0).fst.b)], AObj.var 26 [AV.int IntKind.i64 (getNote a0).fst.k, AV.int IntKind.i64 (getNote a0).fst.t, AV.int IntKind.i64 (getNote a0).fst.y, AV.int IntKind.i64 (getNote a0).fst.p, AV.ro (Pay.ints IntKind.i64 (getNote a0).fst.w), AV.ro (Pay.bytes (getNote a0).fst.a), AV.ro (Pay.bytes (getNote a0).fst.b)], AObj.arr 9 (Pay.rows 1 (List.map (fun (s : List UInt8) => [AV.str s]) nameTs))]
            else
              bif !eqI (getNote a0).snd (getNote a0).snd then
                .ret (AV.bool false) [AObj.var 26 [AV.int IntKind.i64 (getNote a0).fst.k, AV.int IntKind.i64 (getNote a0).fst.t, AV.int IntKind.i64 (getNote a0).fst.y, AV.int IntKind.i64 (getNote a0).fst.p, AV.ro (Pay.ints IntKind.i64 (getNote a0).fst.w), AV.ro (Pay.bytes (getNote a0).fst.a), AV.ro (Pay.bytes (getNote a0).fst.b)], AObj.var 26 [AV.int IntKind.i64 (getNote a0).fst.k, AV.int IntKind.i64 (getNote a0).fst.t, AV.int IntKind.i64 (getNote a0).fst.y, AV.int IntKind.i64 (getNote a0).fst.p, AV.ro (Pay.ints IntKind.i64 (getNote a0).fst.w), AV.ro (Pay.bytes (getNote a0).fst.a), AV.ro (Pay.bytes (getNote a0).fst.b)], AObj.arr 9 (Pay.rows 1 (List.map (fun (s : List UInt8) => [AV.str s]) nameTs))]
              else
                bif !eqS (nameOf a1) (strOf (nth ((List.map (fun (s : List UInt8) => [AV.str s]) nameTs).getD a1.toNat []) 0)) then
                  .ret (AV.bool false) [AObj.var 26 [AV.int IntKind.i64 (getNote a0).fst.k, AV.int IntKind.i64 (getNote a0).fst.t, AV.int IntKind.i64 (getNote a0).fst.y, AV.int IntKind.i64 (getNote a0).fst.p, AV.ro (Pay.ints IntKind.i64 (getNote a0).fst.w), AV.ro (Pay.bytes (getNote a0).fst.a), AV.ro (Pay.bytes (getNote a0).fst.b)], AObj.var 26 [AV.int IntKind.i64 (getNote a0).fst.k, AV.int IntKind.i64 (getNote a0).fst.t, AV.int IntKind.i64 (getNote a0).fst.y, AV.int IntKind.i64 (getNote a0).fst.p, AV.ro (Pay.ints IntKind.i64 (getNote a0).fst.w), AV.ro (Pay.bytes (getNote a0).fst.a), AV.ro (Pay.bytes (getNote a0).fst.b)], AObj.arr 9 (Pay.rows 1 (List.map (fun (s : List UInt8) => [AV.str s]) nameTs))]
                else
                  bif eqI (getNote a0).snd 0 then
                    bif (9 * (getNote a0).fst.w.length + List.length (getNote a0).fst.a + List.length (getNote a0).fst.b + 100).ble 140737488355328 then
                      bif eqI (putN (NoteV.mk (getNote a0).fst.k (getNote a0).fst.t (getNote a0).fst.y (getNote a0).fst.p (getNote a0).fst.w (getNote a0).fst.a (getNote a0).fst.b)).snd 0 then
                        bif eqS (putN (NoteV.mk (getNote a0).fst.k (getNote a0).fst.t (getNote a0).fst.y (getNote a0).fst.p (getNote a0).fst.w (getNote a0).fst.a (getNote a0).fst.b)).fst a0 then
                          .ret (AV.bool true) [AObj.var 26 [AV.int IntKind.i64 (getNote a0).fst.k, AV.int IntKind.i64 (getNote a0).fst.t, AV.int IntKind.i64 (getNote a0).fst.y, AV.int IntKind.i64 (getNote a0).fst.p, AV.ro (Pay.ints IntKind.i64 (getNote a0).fst.w), AV.ro (Pay.bytes (getNote a0).fst.a), AV.ro (Pay.bytes (getNote a0).fst.b)], AObj.var 26 [AV.int IntKind.i64 (getNote a0).fst.k, AV.int IntKind.i64 (getNote a0).fst.t, AV.int IntKind.i64 (getNote a0).fst.y, AV.int IntKind.i64 (getNote a0).fst.p, AV.ro (Pay.ints IntKind.i64 (getNote a0).fst.w), AV.ro (Pay.bytes (getNote a0).fst.a), AV.ro (Pay.bytes (getNote a0).fst.b)], AObj.arr 9 (Pay.rows 1 (List.map (fun (s : List UInt8) => [AV.str s]) nameTs))]
                        else
                          .ret (AV.bool false) [AObj.var 26 [AV.int IntKind.i64 (getNote a0).fst.k, AV.int IntKind.i64 (getNote a0).fst.t, AV.int IntKind.i64 (getNote a0).fst.y, AV.int IntKind.i64 (getNote a0).fst.p, AV.ro (Pay.ints IntKind.i64 (getNote a0).fst.w), AV.ro (Pay.bytes (getNote a0).fst.a), AV.ro (Pay.bytes (getNote a0).fst.b)], AObj.var 26 [AV.int IntKind.i64 (getNote a0).fst.k, AV.int IntKind.i64 (getNote a0).fst.t, AV.int IntKind.i64 (getNote a0).fst.y, AV.int IntKind.i64 (getNote a0).fst.p, AV.ro (Pay.ints IntKind.i64 (getNote a0).fst.w), AV.ro (Pay.bytes (getNote a0).fst.a), AV.ro (Pay.bytes (getNote a0).fst.b)], AObj.arr 9 (Pay.rows 1 (List.map (fun (s : List UInt8) => [AV.str s]) nameTs))]
                      else
                        .ret (AV.bool false) [AObj.var 26 [AV.int IntKind.i64 (getNote a0).fst.k, AV.int IntKind.i64 (getNote a0).fst.t, AV.int IntKind.i64 (getNote a0).fst.y, AV.int IntKind.i64 (getNote a0).fst.p, AV.ro (Pay.ints IntKind.i64 (getNote a0).fst.w), AV.ro (Pay.bytes (getNote a0).fst.a), AV.ro (Pay.bytes (getNote a0).fst.b)], AObj.var 26 [AV.int IntKind.i64 (getNote a0).fst.k, AV.int IntKind.i64 (getNote a0).fst.t, AV.int IntKind.i64 (getNote a0).fst.y, AV.int IntKind.i64 (getNote a0).fst.p, AV.ro (Pay.ints IntKind.i64 (getNote a0).fst.w), AV.ro (Pay.bytes (getNote a0).fst.a), AV.ro (Pay.bytes (getNote a0).fst.b)], AObj.arr 9 (Pay.rows 1 (List.map (fun (s : List UInt8) => [AV.str s]) nameTs))]
                    else
                      .stuck
                  else
                    .ret (AV.bool true) [AObj.var 26 [AV.int IntKind.i64 (getNote a0).fst.k, AV.int IntKind.i64 (getNote a0).fst.t, AV.int IntKind.i64 (getNote a0).fst.y, AV.int IntKind.i64 (getNote a0).fst.p, AV.ro (Pay.ints IntKind.i64 (getNote a0).fst.w), AV.ro (Pay.bytes (getNote a0).fst.a), AV.ro (Pay.bytes (getNote a0).fst.b)], AObj.var 26 [AV.int IntKind.i64 (getNote a0).fst.k, AV.int IntKind.i64 (getNote a0).fst.t, AV.int IntKind.i64 (getNote a0).fst.y, AV.int IntKind.i64 (getNote a0).fst.p, AV.ro (Pay.ints IntKind.i64 (getNote a0).fst.w), AV.ro (Pay.bytes (getNote a0).fst.a), AV.ro (Pay.bytes (getNote a0).fst.b)], AObj.arr 9 (Pay.rows 1 (List.map (fun (s : List UInt8) => [AV.str s]) nameTs))]
          else
            .stuck
        else
          .stuck
      else
        bif !decide (NoteV.mk (getNote a0).fst.k (getNote a0).fst.t (getNote a0).fst.y (getNote a0).fst.p (getNote a0).fst.w (getNote a0).fst.a (getNote a0).fst.b = NoteV.mk (getNote a0).fst.k (getNote a0).fst.t (getNote a0).fst.y (getNote a0).fst.p (getNote a0).fst.w (getNote a0).fst.a (getNote a0).fst.b) then
          .ret (AV.bool false) [AObj.var 26 [AV.int IntKind.i64 (getNote a0).fst.k, AV.int IntKind.i64 (getNote a0).fst.t, AV.int IntKind.i64 (getNote a0).fst.y, AV.int IntKind.i64 (getNote a0).fst.p, AV.ro (Pay.ints IntKind.i64 (getNote a0).fst.w), AV.ro (Pay.bytes (getNote a0).fst.a), AV.ro (Pay.bytes (getNote a0).fst.b)], AObj.var 26 [AV.int IntKind.i64 (getNote a0).fst.k, AV.int IntKind.i64 (getNote a0).fst.t, AV.int IntKind.i64 (getNote a0).fst.y, AV.int IntKind.i64 (getNote a0).fst.p, AV.ro (Pay.ints IntKind.i64 (getNote a0).fst.w), AV.ro (Pay.bytes (getNote a0).fst.a), AV.ro (Pay.bytes (getNote a0).fst.b)]]
        else
          bif !eqI (getNote a0).snd (getNote a0).snd then
            .ret (AV.bool false) [AObj.var 26 [AV.int IntKind.i64 (getNote a0).fst.k, AV.int IntKind.i64 (getNote a0).fst.t, AV.int IntKind.i64 (getNote a0).fst.y, AV.int IntKind.i64 (getNote a0).fst.p, AV.ro (Pay.ints IntKind.i64 (getNote a0).fst.w), AV.ro (Pay.bytes (getNote a0).fst.a), AV.ro (Pay.bytes (getNote a0).fst.b)], AObj.var 26 [AV.int IntKind.i64 (getNote a0).fst.k, AV.int IntKind.i64 (getNote a0).fst.t, AV.int IntKind.i64 (getNote a0).fst.y, AV.int IntKind.i64 (getNote a0).fst.p, AV.ro (Pay.ints IntKind.i64 (getNote a0).fst.w), AV.ro (Pay.bytes (getNote a0).fst.a), AV.ro (Pay.bytes (getNote a0).fst.b)]]
          else
            bif !eqS (nameOf a1) (ByteArray.mk #[63]).data.toList then
              .ret (AV.bool false) [AObj.var 26 [AV.int IntKind.i64 (getNote a0).fst.k, AV.int IntKind.i64 (getNote a0).fst.t, AV.int IntKind.i64 (getNote a0).fst.y, AV.int IntKind.i64 (getNote a0).fst.p, AV.ro (Pay.ints IntKind.i64 (getNote a0).fst.w), AV.ro (Pay.bytes (getNote a0).fst.a), AV.ro (Pay.bytes (getNote a0).fst.b)], AObj.var 26 [AV.int IntKind.i64 (getNote a0).fst.k, AV.int IntKind.i64 (getNote a0).fst.t, AV.int IntKind.i64 (getNote a0).fst.y, AV.int IntKind.i64 (getNote a0).fst.p, AV.ro (Pay.ints IntKind.i64 (getNote a0).fst.w), AV.ro (Pay.bytes (getNote a0).fst.a), AV.ro (Pay.bytes (getNote a0).fst.b)]]
            else
              bif eqI (getNote a0).snd 0 then
                bif (9 * (getNote a0).fst.w.length + List.length (getNote a0).fst.a + List.length (getNote a0).fst.b + 100).ble 140737488355328 then
                  bif eqI (putN (NoteV.mk (getNote a0).fst.k (getNote a0).fst.t (getNote a0).fst.y (getNote a0).fst.p (getNote a0).fst.w (getNote a0).fst.a (getNote a0).fst.b)).snd 0 then
                    bif eqS (putN (NoteV.mk (getNote a0).fst.k (getNote a0).fst.t (getNote a0).fst.y (getNote a0).fst.p (getNote a0).fst.w (getNote a0).fst.a (getNote a0).fst.b)).fst a0 then
                      .ret (AV.bool true) [AObj.var 26 [AV.int IntKind.i64 (getNote a0).fst.k, AV.int IntKind.i64 (getNote a0).fst.t, AV.int IntKind.i64 (getNote a0).fst.y, AV.int IntKind.i64 (getNote a0).fst.p, AV.ro (Pay.ints IntKind.i64 (getNote a0).fst.w), AV.ro (Pay.bytes (getNote a0).fst.a), AV.ro (Pay.bytes (getNote a0).fst.b)], AObj.var 26 [AV.int IntKind.i64 (getNote a0).fst.k, AV.int IntKind.i64 (getNote a0).fst.t, AV.int IntKind.i64 (getNote a0).fst.y, AV.int IntKind.i64 (getNote a0).fst.p, AV.ro (Pay.ints IntKind.i64 (getNote a0).fst.w), AV.ro (Pay.bytes (getNote a0).fst.a), AV.ro (Pay.bytes (getNote a0).fst.b)]]
                    else
                      .ret (AV.bool false) [AObj.var 26 [AV.int IntKind.i64 (getNote a0).fst.k, AV.int IntKind.i64 (getNote a0).fst.t, AV.int IntKind.i64 (getNote a0).fst.y, AV.int IntKind.i64 (getNote a0).fst.p, AV.ro (Pay.ints IntKind.i64 (getNote a0).fst.w), AV.ro (Pay.bytes (getNote a0).fst.a), AV.ro (Pay.bytes (getNote a0).fst.b)], AObj.var 26 [AV.int IntKind.i64 (getNote a0).fst.k, AV.int IntKind.i64 (getNote a0).fst.t, AV.int IntKind.i64 (getNote a0).fst.y, AV.int IntKind.i64 (getNote a0).fst.p, AV.ro (Pay.ints IntKind.i64 (getNote a0).fst.w), AV.ro (Pay.bytes (getNote a0).fst.a), AV.ro (Pay.bytes (getNote a0).fst.b)]]
                  else
                    .ret (AV.bool false) [AObj.var 26 [AV.int IntKind.i64 (getNote a0).fst.k, AV.int IntKind.i64 (getNote a0).fst.t, AV.int IntKind.i64 (getNote a0).fst.y, AV.int IntKind.i64 (getNote a0).fst.p, AV.ro (Pay.ints IntKind.i64 (getNote a0).fst.w), AV.ro (Pay.bytes (getNote a0).fst.a), AV.ro (Pay.bytes (getNote a0).fst.b)], AObj.var 26 [AV.int IntKind.i64 (getNote a0).fst.k, AV.int IntKind.i64 (getNote a0).fst.t, AV.int IntKind.i64 (getNote a0).fst.y, AV.int IntKind.i64 (getNote a0).fst.p, AV.ro (Pay.ints IntKind.i64 (getNote a0).fst.w), AV.ro (Pay.bytes (getNote a0).fst.a), AV.ro (Pay.bytes (getNote a0).fst.b)]]
                else
                  .stuck
              else
                .ret (AV.bool true) [AObj.var 26 [AV.int IntKind.i64 (getNote a0).fst.k, AV.int IntKind.i64 (getNote a0).fst.t, AV.int IntKind.i64 (getNote a0).fst.y, AV.int IntKind.i64 (getNote a0).fst.p, AV.ro (Pay.ints IntKind.i64 (getNote a0).fst.w), AV.ro (Pay.bytes (getNote a0).fst.a), AV.ro (Pay.bytes (getNote a0).fst.b)], AObj.var 26 [AV.int IntKind.i64 (getNote a0).fst.k, AV.int IntKind.i64 (getNote a0).fst.t, AV.int IntKind.i64 (getNote a0).fst.y, AV.int IntKind.i64 (getNote a0).fst.p, AV.ro (Pay.ints IntKind.i64 (getNote a0).fst.w), AV.ro (Pay.bytes (getNote a0).fst.a), AV.ro (Pay.bytes (getNote a0).fst.b)]]
    else
      bif !decide (NoteV.mk (getNote a0).fst.k (getNote a0).fst.t (getNote a0).fst.y (getNote a0).fst.p (getNote a0).fst.w (getNote a0).fst.a (getNote a0).fst.b = NoteV.mk (getNote a0).fst.k (getNote a0).fst.t (getNote a0).fst.y (getNote a0).fst.p (getNote a0).fst.w (getNote a0).fst.a (getNote a0).fst.b) then
        .ret (AV.bool false) [AObj.var 26 [AV.int IntKind.i64 (getNote a0).fst.k, AV.int IntKind.i64 (getNote a0).fst.t, AV.int IntKind.i64 (getNote a0).fst.y, AV.int IntKind.i64 (getNote a0).fst.p, AV.ro (Pay.ints IntKind.i64 (getNote a0).fst.w), AV.ro (Pay.bytes (getNote a0).fst.a), AV.ro (Pay.bytes (getNote a0).fst.b)], AObj.var 26 [AV.int IntKind.i64 (getNote a0).fst.k, AV.int IntKind.i64 (getNote a0).fst.t, AV.int IntKind.i64 (getNote a0).fst.y, AV.int IntKind.i64 (getNote a0).fst.p, AV.ro (Pay.ints IntKind.i64 (getNote a0).fst.w), AV.ro (Pay.bytes (getNote a0).fst.a), AV.ro (Pay.bytes (getNote a0).fst.b)]]
      else
        bif !eqI (getNote a0).snd (getNote a0).snd then
          .ret (AV.bool false) [AObj.var 26 [AV.int IntKind.i64 (getNote a0).fst.k, AV.int IntKind.i64 (getNote a0).fst.t, AV.int IntKind.i64 (getNote a0).fst.y, AV.int IntKind.i64 (getNote a0).fst.p, AV.ro (Pay.ints IntKind.i64 (getNote a0).fst.w), AV.ro (Pay.bytes (getNote a0).fst.a), AV.ro (Pay.bytes (getNote a0).fst.b)], AObj.var 26 [AV.int IntKind.i64 (getNote a0).fst.k, AV.int IntKind.i64 (getNote a0).fst.t, AV.int IntKind.i64 (getNote a0).fst.y, AV.int IntKind.i64 (getNote a0).fst.p, AV.ro (Pay.ints IntKind.i64 (getNote a0).fst.w), AV.ro (Pay.bytes (getNote a0).fst.a), AV.ro (Pay.bytes (getNote a0).fst.b)]]
        else
          bif !eqS (nameOf a1) (ByteArray.mk #[63]).data.toList then
            .ret (AV.bool false) [AObj.var 26 [AV.int IntKind.i64 (getNote a0).fst.k, AV.int IntKind.i64 (getNote a0).fst.t, AV.int IntKind.i64 (getNote a0).fst.y, AV.int IntKind.i64 (getNote a0).fst.p, AV.ro (Pay.ints IntKind.i64 (getNote a0).fst.w), AV.ro (Pay.bytes (getNote a0).fst.a), AV.ro (Pay.bytes (getNote a0).fst.b)], AObj.var 26 [AV.int IntKind.i64 (getNote a0).fst.k, AV.int IntKind.i64 (getNote a0).fst.t, AV.int IntKind.i64 (getNote a0).fst.y, AV.int IntKind.i64 (getNote a0).fst.p, AV.ro (Pay.ints IntKind.i64 (getNote a0).fst.w), AV.ro (Pay.bytes (getNote a0).fst.a), AV.ro (Pay.bytes (getNote a0).fst.b)]]
          else
            bif eqI (getNote a0).snd 0 then
              bif (9 * (getNote a0).fst.w.length + List.length (getNote a0).fst.a + List.length (getNote a0).fst.b + 100).ble 140737488355328 then
                bif eqI (putN (NoteV.mk (getNote a0).fst.k (getNote a0).fst.t (getNote a0).fst.y (getNote a0).fst.p (getNote a0).fst.w (getNote a0).fst.a (getNote a0).fst.b)).snd 0 then
                  bif eqS (putN (NoteV.mk (getNote a0).fst.k (getNote a0).fst.t (getNote a0).fst.y (getNote a0).fst.p (getNote a0).fst.w (getNote a0).fst.a (getNote a0).fst.b)).fst a0 then
                    .ret (AV.bool true) [AObj.var 26 [AV.int IntKind.i64 (getNote a0).fst.k, AV.int IntKind.i64 (getNote a0).fst.t, AV.int IntKind.i64 (getNote a0).fst.y, AV.int IntKind.i64 (getNote a0).fst.p, AV.ro (Pay.ints IntKind.i64 (getNote a0).fst.w), AV.ro (Pay.bytes (getNote a0).fst.a), AV.ro (Pay.bytes (getNote a0).fst.b)], AObj.var 26 [AV.int IntKind.i64 (getNote a0).fst.k, AV.int IntKind.i64 (getNote a0).fst.t, AV.int IntKind.i64 (getNote a0).fst.y, AV.int IntKind.i64 (getNote a0).fst.p, AV.ro (Pay.ints IntKind.i64 (getNote a0).fst.w), AV.ro (Pay.bytes (getNote a0).fst.a), AV.ro (Pay.bytes (getNote a0).fst.b)]]
                  else
                    .ret (AV.bool false) [AObj.var 26 [AV.int IntKind.i64 (getNote a0).fst.k, AV.int IntKind.i64 (getNote a0).fst.t, AV.int IntKind.i64 (getNote a0).fst.y, AV.int IntKind.i64 (getNote a0).fst.p, AV.ro (Pay.ints IntKind.i64 (getNote a0).fst.w), AV.ro (Pay.bytes (getNote a0).fst.a), AV.ro (Pay.bytes (getNote a0).fst.b)], AObj.var 26 [AV.int IntKind.i64 (getNote a0).fst.k, AV.int IntKind.i64 (getNote a0).fst.t, AV.int IntKind.i64 (getNote a0).fst.y, AV.int IntKind.i64 (getNote a0).fst.p, AV.ro (Pay.ints IntKind.i64 (getNote a0).fst.w), AV.ro (Pay.bytes (getNote a0).fst.a), AV.ro (Pay.bytes (getNote a0).fst.b)]]
                else
                  .ret (AV.bool false) [AObj.var 26 [AV.int IntKind.i64 (getNote a0).fst.k, AV.int IntKind.i64 (getNote a0).fst.t, AV.int IntKind.i64 (getNote a0).fst.y, AV.int IntKind.i64 (getNote a0).fst.p, AV.ro (Pay.ints IntKind.i64 (getNote a0).fst.w), AV.ro (Pay.bytes (getNote a0).fst.a), AV.ro (Pay.bytes (getNote a0).fst.b)], AObj.var 26 [AV.int IntKind.i64 (getNote a0).fst.k, AV.int IntKind.i64 (getNote a0).fst.t, AV.int IntKind.i64 (getNote a0).fst.y, AV.int IntKind.i64 (getNote a0).fst.p, AV.ro (Pay.ints IntKind.i64 (getNote a0).fst.w), AV.ro (Pay.bytes (getNote a0).fst.a), AV.ro (Pay.bytes (getNote a0).fst.b)]]
              else
                .stuck
            else
              .ret (AV.bool true) [AObj.var 26 [AV.int IntKind.i64 (getNote a0).fst.k, AV.int IntKind.i64 (getNote a0).fst.t, AV.int IntKind.i64 (getNote a0).fst.y, AV.int IntKind.i64 (getNote a0).fst.p, AV.ro (Pay.ints IntKind.i64 (getNote a0).fst.w), AV.ro (Pay.bytes (getNote a0).fst.a), AV.ro (Pay.bytes (getNote a0).fst.b)], AObj.var 26 [AV.int IntKind.i64 (getNote a0).fst.k, AV.int IntKind.i64 (getNote a0).fst.t, AV.int IntKind.i64 (getNote a0).fst.y, AV.int IntKind.i64 (getNote a0).fst.p, AV.ro (Pay.ints IntKind.i64 (getNote a0).fst.w), AV.ro (Pay.bytes (getNote a0).fst.a), AV.ro (Pay.bytes (getNote a0).fst.b)]] := by kernel_rfl


theorem yes_pos {c : Bool} {x y : Res} (h : c = true) (hx : Yes x) : Yes (bif c then x else y) := by rw [h]; exact hx
theorem yes_neg {c : Bool} {x y : Res} (h : c = false) (hy : Yes y) : Yes (bif c then x else y) := by rw [h]; exact hy
theorem yes_bif {c : Bool} {x y : Res} (h1 : c = true → Yes x) (h2 : c = false → Yes y) : Yes (bif c then x else y) := by
  cases c with
  | true => exact h1 rfl
  | false => exact h2 rfl

theorem names_in (n : Int) (h : 0 ≤ n ∧ n < 11) : ∃ j : Nat, j < 11 ∧ n = j := ⟨n.toNat, by omega, by omega⟩
theorem names_at : ∀ j : Nat, j < 11 → (nameTs.map fun s => [AV.str s]).getD j [] = [AV.str (nameTs.getD j [])]
  | 0, _ | 1, _ | 2, _ | 3, _ | 4, _ | 5, _ | 6, _ | 7, _ | 8, _ | 9, _ | 10, _ => rfl
  | n + 11, h => absurd h (by omega)
theorem law3 (l : List UInt8) (n : Int) (_ : Real [.ro (.bytes l), .int .i64 n]) : apure (c3 rounds) Try.f3 [.ro (.bytes l), .int .i64 n] = some (.bool true, []) := by
  refine apure_yes ?_
  rw [f3_eq]
  refine yes_bif (fun _ => .ret) fun g0 => yes_bif (fun g1 => yes_bif (fun g2 => ?_) fun g2 => ?_) fun g1 => ?_
  · have g1 := leI_iff.1 g1
    have g2 := ltI_iff.1 g2
    have hn : nameOf n = nameTs.getD n.toNat [] := if_pos ⟨g1, g2⟩
    rw [names_at n.toNat (by omega)]
    refine yes_pos (by rw [inB_iff]; exact ⟨g1, by show n < ((11 : Nat) : Int); omega⟩) (yes_pos rfl (yes_neg (by rw [decide_eq_true rfl]; rfl) (yes_neg (by rw [eqI_iff.2 rfl]; rfl) (yes_neg (by rw [show eqS (nameOf n) (strOf (nth [AV.str (nameTs.getD n.toNat [])] 0)) = true from eqS_iff.2 hn]; rfl) (yes_bif (fun h => ?_) fun _ => .ret)))))
    obtain ⟨hR, he⟩ := getNote_ok (eqI_iff.1 h)
    have hp : putN ((getNote l).1) = (l, 0) := by unfold putN; rw [if_pos hR, he]
    have hw := hR.2.2.2.2.2.1.1
    have ha := hR.2.2.2.2.2.2.1.1
    have hb := hR.2.2.2.2.2.2.2.1
    exact yes_pos (by rw [ble_iff]; omega) (yes_pos (by rw [show (putN (NoteV.mk _ _ _ _ _ _ _)) = _ from hp]; rfl) (yes_pos (by rw [show (putN (NoteV.mk _ _ _ _ _ _ _)) = _ from hp]; exact eqS_iff.2 rfl) .ret))
  · have g2 := ltI_f.1 g2
    have hn : nameOf n = [63] := if_neg fun x => g2 x.2
    refine yes_neg (by rw [decide_eq_true rfl]; rfl) (yes_neg (by rw [eqI_iff.2 rfl]; rfl) (yes_neg (by rw [eqS_iff.2 hn]; rfl) (yes_bif (fun h => ?_) fun _ => .ret)))
    obtain ⟨hR, he⟩ := getNote_ok (eqI_iff.1 h)
    have hp : putN ((getNote l).1) = (l, 0) := by unfold putN; rw [if_pos hR, he]
    have hw := hR.2.2.2.2.2.1.1
    have ha := hR.2.2.2.2.2.2.1.1
    have hb := hR.2.2.2.2.2.2.2.1
    exact yes_pos (by rw [ble_iff]; omega) (yes_pos (by rw [show (putN (NoteV.mk _ _ _ _ _ _ _)) = _ from hp]; rfl) (yes_pos (by rw [show (putN (NoteV.mk _ _ _ _ _ _ _)) = _ from hp]; exact eqS_iff.2 rfl) .ret))
  · have g1 := leI_f.1 g1
    have hn : nameOf n = [63] := if_neg fun x => g1 x.1
    refine yes_neg (by rw [decide_eq_true rfl]; rfl) (yes_neg (by rw [eqI_iff.2 rfl]; rfl) (yes_neg (by rw [eqS_iff.2 hn]; rfl) (yes_bif (fun h => ?_) fun _ => .ret)))
    obtain ⟨hR, he⟩ := getNote_ok (eqI_iff.1 h)
    have hp : putN ((getNote l).1) = (l, 0) := by unfold putN; rw [if_pos hR, he]
    have hw := hR.2.2.2.2.2.1.1
    have ha := hR.2.2.2.2.2.2.1.1
    have hb := hR.2.2.2.2.2.2.2.1
    exact yes_pos (by rw [ble_iff]; omega) (yes_pos (by rw [show (putN (NoteV.mk _ _ _ _ _ _ _)) = _ from hp]; rfl) (yes_pos (by rw [show (putN (NoteV.mk _ _ _ _ _ _ _)) = _ from hp]; exact eqS_iff.2 rfl) .ret))
end Go.Proofs.YtjdojmjkldpgnaaG

namespace Go.Proofs.Ytjdojmjkldpgnaa.noteGets
open Go.ChangeShapes Go.WideShapes Go.ChangeAt Go.RowKit Go.Proofs.YtjdojmjkldpgnaaGm Go.Proofs.YtjdojmjkldpgnaaG
open Go.ChangeMaps (open_string shut_string)
set_option linter.unusedVariables false
theorem own : ownKnob Try.prog.godebug = none := by kernel_rfl
theorem laidOut : laidOutB Try.prog = true := by kernel_rfl
set_option maxRecDepth 100000 in
theorem lifted (os : Os) (started : os.Started) (H : Type) (enc : TypeId × Value → H) :
    ReturnsInHanded {} Try.checked os 3 .any (Rows.noteGetsSpec.pre6 enc Try.prog Try.f3 Rows.noteGetsRow.domain false) (Rows.noteGetsSpec.post enc Try.prog Try.f3 false true false false) := by
  refine returnsInHanded_of_change_sized (C := Try.checked) own started (by kernel_rfl) Try.func3
    (ChangeSpec.witness6 (enc := enc) (C := Try.checked) false ⟨#[], #[.slice none 0 0, .int .i64 0], []⟩ 8 (by kernel_rfl) (by kernel_rfl) (by kernel_rfl) (by kernel_rfl)) ?_
  intro W base args ds gs before hval0 hW hcnd hsz0 _
  have hval : ∀ (j : Nat) t v, Try.f3.params[j]? = some t → args[j]? = some v → Value.okWide Try.prog W .any base t v := hval0
  have hW' := hW
  obtain ⟨p, q, hA0, hV, rfl, hfz, hnd⟩ := hW
  have hA : DataW.TrodAll enc Try.prog W 0 (fun _ => true) true Try.f3.params.toList args.toList ds p := hA0
  rw [Try.params3] at hA hval
  obtain ⟨v0, vs0, d0, ds0, p0, q0, hargs, rfl, rfl, h0, r0⟩ := trodAll_cons hA
  obtain ⟨v1, vs1, d1, ds1, p1, q1, rfl, rfl, rfl, h1, r1⟩ := trodAll_cons r0
  obtain ⟨rfl, rfl, rfl⟩ := trodAll_nil r1
  obtain rfl : args = #[v0, v1] := by cases args; simp_all
  obtain ⟨rfl, rfl⟩ := trodVars_none hV
  obtain ⟨a0, len0, cap0, rfl⟩ := okWide_slice Try.underlying22 (hval 0 22 v0 rfl rfl)
  have k0 := h0
  have lt0 : ∀ x ∈ p0, x.block < W.heap.size := by obtain ⟨m, hm⟩ := k0; exact DataW.trod_lt m _ _ _ hm
  obtain ⟨z0, w0⟩ : ∃ zs, IsRow .u8 W a0 len0 cap0 zs := by
    obtain ⟨fuel, hf⟩ := h0
    rcases open_ints Try.underlying22 Try.underlying5 (by kernel_rfl) hf with ⟨hcs, _⟩ | ⟨x, l, c, zs, hcs, _, hl, hm, hz, _, hcell, hwz⟩
    · simp [Value.cells] at hcs
      obtain ⟨rfl, rfl, rfl⟩ := hcs
      exact ⟨[], .inl ⟨rfl, rfl, rfl, rfl⟩⟩
    · simp [Value.cells] at hcs
      obtain ⟨rfl, rfl, rfl⟩ := hcs
      exact ⟨zs, .inr ⟨_, rfl, hl, hm, by simpa using hz, hcell, hwz⟩⟩
  obtain ⟨l0, _, R0⟩ := row_bytes w0
  obtain ⟨a1, rfl, rfl, rfl, w1⟩ := open_int Try.underlying3 (hval 1 3 v1 rfl rfl) h1
  have R1 : RepV W (fun _ => False) [] (.int .i64 a1) (.int .i64 a1) := .int (by simpa [Lit.wf, IntKind.has] using w1)
  clear hA0 hval0 hsz0
  have hreal : RepL W (fun _ => False) [] _ _ := (.cons R0 (.cons R1 .nil))
  refine (law_calls (c3 rounds) tt3_ok (.cons ok5 (.cons ok6 (.cons ok7 (.cons ok8 (.cons ok9 (.cons ok10 (.cons ok11 (.cons ok12 .nil)))))))) follows rfl Try.func3 (law3 l0 a1 ⟨_, _, _, hreal⟩) hreal).mono fun e W' ⟨he, bel⟩ => ?_
  subst he
  exact ⟨_, rfl, _, _, _, [], _, [], hW', trodAll_mk1 (shut_bool Try.underlying4 _), (trodAll_cons_mk (Below.trod laidOut (by kernel_rfl) (of_decide_eq_true (by kernel_rfl)) k0 bel lt0) (trodAll_cons_mk (shut_int Try.underlying3 w1) trodAll_mk0)), rfl, bel.frame _, fun h => by cases h⟩
theorem over : Rows.noteGetsRow.holds Try.pinned (OpenSpec.ofChange Rows.noteGetsSpec) :=
  OpenClaim.holds_of_wide 3 Try.f3 rfl rfl rfl rfl rfl rfl rfl ⟨rfl, rfl, rfl, rfl, rfl⟩ rfl rfl rfl rfl rfl (by kernel_rfl) Try.func3 (by kernel_rfl)
    (of_decide_eq_true (by kernel_rfl)) (by unfold Func.isWrapper; first | (rw [if_pos (by decide +kernel)]; kernel_rfl) | (rw [if_neg (by decide +kernel)]; exact ⟨rfl, rfl⟩))
    (fun os started H enc _ => lifted os started H enc)
theorem proved : Rows.NoteGetsSaid := over
end Go.Proofs.Ytjdojmjkldpgnaa.noteGets
namespace Go.Proofs.Ytjdojmjkldpgnaa
/-- The row, under a short name, for the claim. -/
theorem noteGets_holds : Rows.NoteGetsSaid := noteGets.proved
#print axioms noteGets_holds
end Go.Proofs.Ytjdojmjkldpgnaa
