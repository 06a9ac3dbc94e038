/- FoldBytes: for every input the law returns true, and the input reads as it did; no condition beyond the row. -/
import Derived.Test.YthejefgpanceoaaRows
import Derived.WalkKit
import Derived.ProofKit
import Derived.OpenShut
import Derived.ShutString
import Derived.ChangeOld
import Derived.Below
import Derived.SizedLaws
import Derived.Carry
import Derived.Test.YthejefgpanceoaaGs
import Derived.Test.YthejefgpanceoaaGm3
namespace Go.Proofs.YthejefgpanceoaaG
open Go Go.Proofs.YthejefgpanceoaaGm
set_option maxRecDepth 100000
def tt9 : Tab := [(0, ty0), (1, ty1), (2, ty2), (3, ty3), (4, ty4), (5, ty5), (9, ty9), (22, ty22), (26, ty26), (28, ty28), (29, ty29), (43, ty43), (59, ty59), (61, ty61)]
theorem tt9_ok : TabOk Try.prog tt9 := tabOk_of_all ⟨ty0_ok, ty1_ok, ty2_ok, ty3_ok, ty4_ok, ty5_ok, ty9_ok, ty22_ok, ty26_ok, ty28_ok, ty29_ok, ty43_ok, ty59_ok, ty61_ok, trivial⟩
def c9 (F : Nat) : Cfg := ⟨tt9, [(11, .pure go11), (12, .pure go12), (15, .pure go15), (16, .pure go16), (33, .pure go33), (34, .pure go34), (35, .pure go34), (36, .pure go36)], F, [], [], 0⟩
theorem f9_eq (F : Nat) (a0_0_0 : Int) (a0_0_1 : Int) (a0_0_2 : List UInt8) (a0_1 : Int) (a1 : List UInt8) (a2 : Int) : afun (c9 F) Try.f9 [AV.agg [AV.int IntKind.u8 a0_0_0, AV.int IntKind.i64 a0_0_1, AV.str a0_0_2, AV.int IntKind.i64 a0_1], AV.ro (Pay.bytes a1), AV.int IntKind.i64 a2] [] =
  bif allVal [[AV.int IntKind.u8 a0_0_0, AV.int IntKind.i64 a0_0_1, AV.str a0_0_2]] then
    bif longV (decVals [[AV.int IntKind.u8 a0_0_0, AV.int IntKind.i64 a0_0_1, AV.str a0_0_2]]) 0 0 then
      .ret (AV.bool true) [AObj.var 28 [AV.int IntKind.u8 a0_0_0, AV.int IntKind.i64 a0_0_1, AV.str a0_0_2, AV.int IntKind.i64 a0_1], AObj.arr 26 (Pay.rows 3 [[AV.int IntKind.u8 a0_0_0, AV.int IntKind.i64 a0_0_1, AV.str a0_0_2]])]
    else
      bif ltI 2000 ↑a1.length then
        .ret (AV.bool true) [AObj.var 28 [AV.int IntKind.u8 a0_0_0, AV.int IntKind.i64 a0_0_1, AV.str a0_0_2, AV.int IntKind.i64 a0_1], AObj.arr 26 (Pay.rows 3 [[AV.int IntKind.u8 a0_0_0, AV.int IntKind.i64 a0_0_1, AV.str a0_0_2]])]
      else
        bif ltI 2000 ↑a0_0_2.length then
          .ret (AV.bool true) [AObj.var 28 [AV.int IntKind.u8 a0_0_0, AV.int IntKind.i64 a0_0_1, AV.str a0_0_2, AV.int IntKind.i64 a0_1], AObj.arr 26 (Pay.rows 3 [[AV.int IntKind.u8 a0_0_0, AV.int IntKind.i64 a0_0_1, AV.str a0_0_2]])]
        else
          bif (a1.length + a0_0_2.length + 19).ble 140737488355328 then
            bif (a0_0_2.length + 19).ble 140737488355328 then
              bif (a1.length + (encPart ((a0_0_0, a0_0_1, a0_0_2), a0_1)).length).ble maxLen then
                bif eqS (a1 ++ encPart ((a0_0_0, a0_0_1, a0_0_2), a0_1)) (a1 ++ encPart ((a0_0_0, a0_0_1, a0_0_2), a0_1)) then
                  bif sameP ((a0_0_0, a0_0_1, a0_0_2), a0_1) (((getPart (a1 ++ encPart ((a0_0_0, a0_0_1, a0_0_2), a0_1)) ↑a1.length).fst.fst.fst, (getPart (a1 ++ encPart ((a0_0_0, a0_0_1, a0_0_2), a0_1)) ↑a1.length).fst.fst.snd.fst, (getPart (a1 ++ encPart ((a0_0_0, a0_0_1, a0_0_2), a0_1)) ↑a1.length).fst.fst.snd.snd), (getPart (a1 ++ encPart ((a0_0_0, a0_0_1, a0_0_2), a0_1)) ↑a1.length).fst.snd) then
                    bif eqI (getPart (a1 ++ encPart ((a0_0_0, a0_0_1, a0_0_2), a0_1)) ↑a1.length).snd.fst ↑(a1 ++ encPart ((a0_0_0, a0_0_1, a0_0_2), a0_1)).length then
                      bif eqI (getPart (a1 ++ encPart ((a0_0_0, a0_0_1, a0_0_2), a0_1)) ↑a1.length).snd.snd 0 then
                        bif sameP (((getPart a1 a2).fst.fst.fst, (getPart a1 a2).fst.fst.snd.fst, (getPart a1 a2).fst.fst.snd.snd), (getPart a1 a2).fst.snd) (((getPart a1 a2).fst.fst.fst, (getPart a1 a2).fst.fst.snd.fst, (getPart a1 a2).fst.fst.snd.snd), (getPart a1 a2).fst.snd) then
                          bif eqI (getPart a1 a2).snd.fst (getPart a1 a2).snd.fst then
                            bif eqI (getPart a1 a2).snd.snd (getPart a1 a2).snd.snd then
                              .ret (AV.bool true) [AObj.var 28 [AV.int IntKind.u8 a0_0_0, AV.int IntKind.i64 a0_0_1, AV.str a0_0_2, AV.int IntKind.i64 a0_1], AObj.arr 26 (Pay.rows 3 [[AV.int IntKind.u8 a0_0_0, AV.int IntKind.i64 a0_0_1, AV.str a0_0_2]]), AObj.var 28 [AV.int IntKind.u8 (getPart (a1 ++ encPart ((a0_0_0, a0_0_1, a0_0_2), a0_1)) ↑a1.length).fst.fst.fst, AV.int IntKind.i64 (getPart (a1 ++ encPart ((a0_0_0, a0_0_1, a0_0_2), a0_1)) ↑a1.length).fst.fst.snd.fst, AV.str (getPart (a1 ++ encPart ((a0_0_0, a0_0_1, a0_0_2), a0_1)) ↑a1.length).fst.fst.snd.snd, AV.int IntKind.i64 (getPart (a1 ++ encPart ((a0_0_0, a0_0_1, a0_0_2), a0_1)) ↑a1.length).fst.snd], AObj.var 28 [AV.int IntKind.u8 (getPart a1 a2).fst.fst.fst, AV.int IntKind.i64 (getPart a1 a2).fst.fst.snd.fst, AV.str (getPart a1 a2).fst.fst.snd.snd, AV.int IntKind.i64 (getPart a1 a2).fst.snd], AObj.var 28 [AV.int IntKind.u8 (getPart a1 a2).fst.fst.fst, AV.int IntKind.i64 (getPart a1 a2).fst.fst.snd.fst, AV.str (getPart a1 a2).fst.fst.snd.snd, AV.int IntKind.i64 (getPart a1 a2).fst.snd]]
                            else
                              .ret (AV.bool false) [AObj.var 28 [AV.int IntKind.u8 a0_0_0, AV.int IntKind.i64 a0_0_1, AV.str a0_0_2, AV.int IntKind.i64 a0_1], AObj.arr 26 (Pay.rows 3 [[AV.int IntKind.u8 a0_0_0, AV.int IntKind.i64 a0_0_1, AV.str a0_0_2]]), AObj.var 28 [AV.int IntKind.u8 (getPart (a1 ++ encPart ((a0_0_0, a0_0_1, a0_0_2), a0_1)) ↑a1.length).fst.fst.fst, AV.int IntKind.i64 (getPart (a1 ++ encPart ((a0_0_0, a0_0_1, a0_0_2), a0_1)) ↑a1.length).fst.fst.snd.fst, AV.str (getPart (a1 ++ encPart ((a0_0_0, a0_0_1, a0_0_2), a0_1)) ↑a1.length).fst.fst.snd.snd, AV.int IntKind.i64 (getPart (a1 ++ encPart ((a0_0_0, a0_0_1, a0_0_2), a0_1)) ↑a1.length).fst.snd], AObj.var 28 [AV.int IntKind.u8 (getPart a1 a2).fst.fst.fst, AV.int IntKind.i64 (getPart a1 a2).fst.fst.snd.fst, AV.str (getPart a1 a2).fst.fst.snd.snd, AV.int IntKind.i64 (getPart a1 a2).fst.snd], AObj.var 28 [AV.int IntKind.u8 (getPart a1 a2).fst.fst.fst, AV.int IntKind.i64 (getPart a1 a2).fst.fst.snd.fst, AV.str (getPart a1 a2).fst.fst.snd.snd, AV.int IntKind.i64 (getPart a1 a2).fst.snd]]
                          else
                            .ret (AV.bool false) [AObj.var 28 [AV.int IntKind.u8 a0_0_0, AV.int IntKind.i64 a0_0_1, AV.str a0_0_2, AV.int IntKind.i64 a0_1], AObj.arr 26 (Pay.rows 3 [[AV.int IntKind.u8 a0_0_0, AV.int IntKind.i64 a0_0_1, AV.str a0_0_2]]), AObj.var 28 [AV.int IntKind.u8 (getPart (a1 ++ encPart ((a0_0_0, a0_0_1, a0_0_2), a0_1)) ↑a1.length).fst.fst.fst, AV.int IntKind.i64 (getPart (a1 ++ encPart ((a0_0_0, a0_0_1, a0_0_2), a0_1)) ↑a1.length).fst.fst.snd.fst, AV.str (getPart (a1 ++ encPart ((a0_0_0, a0_0_1, a0_0_2), a0_1)) ↑a1.length).fst.fst.snd.snd, AV.int IntKind.i64 (getPart (a1 ++ encPart ((a0_0_0, a0_0_1, a0_0_2), a0_1)) ↑a1.length).fst.snd], AObj.var 28 [AV.int IntKind.u8 (getPart a1 a2).fst.fst.fst, AV.int IntKind.i64 (getPart a1 a2).fst.fst.snd.fst, AV.str (getPart a1 a2).fst.fst.snd.snd, AV.int IntKind.i64 (getPart a1 a2).fst.snd], AObj.var 28 [AV.int IntKind.u8 (getPart a1 a2).fst.fst.fst, AV.int IntKind.i64 (getPart a1 a2).fst.fst.snd.fst, AV.str (getPart a1 a2).fst.fst.snd.snd, AV.int IntKind.i64 (getPart a1 a2).fst.snd]]
                        else
                          .ret (AV.bool false) [AObj.var 28 [AV.int IntKind.u8 a0_0_0, AV.int IntKind.i64 a0_0_1, AV.str a0_0_2, AV.int IntKind.i64 a0_1], AObj.arr 26 (Pay.rows 3 [[AV.int IntKind.u8 a0_0_0, AV.int IntKind.i64 a0_0_1, AV.str a0_0_2]]), AObj.var 28 [AV.int IntKind.u8 (getPart (a1 ++ encPart ((a0_0_0, a0_0_1, a0_0_2), a0_1)) ↑a1.length).fst.fst.fst, AV.int IntKind.i64 (getPart (a1 ++ encPart ((a0_0_0, a0_0_1, a0_0_2), a0_1)) ↑a1.length).fst.fst.snd.fst, AV.str (getPart (a1 ++ encPart ((a0_0_0, a0_0_1, a0_0_2), a0_1)) ↑a1.length).fst.fst.snd.snd, AV.int IntKind.i64 (getPart (a1 ++ encPart ((a0_0_0, a0_0_1, a0_0_2), a0_1)) ↑a1.length).fst.snd], AObj.var 28 [AV.int IntKind.u8 (getPart a1 a2).fst.fst.fst, AV.int IntKind.i64 (getPart a1 a2).fst.fst.snd.fst, AV.str (getPart a1 a2).fst.fst.snd.snd, AV.int IntKind.i64 (getPart a1 a2).fst.snd], AObj.var 28 [AV.int IntKind.u8 (getPart a1 a2).fst.fst.fst, AV.int IntKind.i64 (getPart a1 a2).fst.fst.snd.fst, AV.str (getPart a1 a2).fst.fst.snd.snd, AV.int IntKind.i64 (getPart a1 a2).fst.snd]]
                      else
                        .ret (AV.bool false) [AObj.var 28 [AV.int IntKind.u8 a0_0_0, AV.int IntKind.i64 a0_0_1, AV.str a0_0_2, AV.int IntKind.i64 a0_1], AObj.arr 26 (Pay.rows 3 [[AV.int IntKind.u8 a0_0_0, AV.int IntKind.i64 a0_0_1, AV.str a0_0_2]]), AObj.var 28 [AV.int IntKind.u8 (getPart (a1 ++ encPart ((a0_0_0, a0_0_1, a0_0_2), a0_1)) ↑a1.length).fst.fst.fst, AV.int IntKind.i64 (getPart (a1 ++ encPart ((a0_0_0, a0_0_1, a0_0_2), a0_1)) ↑a1.length).fst.fst.snd.fst, AV.str (getPart (a1 ++ encPart ((a0_0_0, a0_0_1, a0_0_2), a0_1)) ↑a1.length).fst.fst.snd.snd, AV.int IntKind.i64 (getPart (a1 ++ encPart ((a0_0_0, a0_0_1, a0_0_2), a0_1)) ↑a1.length).fst.snd], AObj.var 28 [AV.int IntKind.u8 (getPart a1 a2).fst.fst.fst, AV.int IntKind.i64 (getPart a1 a2).fst.fst.snd.fst, AV.str (getPart a1 a2).fst.fst.snd.snd, AV.int IntKind.i64 (getPart a1 a2).fst.snd], AObj.var 28 [AV.int IntKind.u8 (getPart a1 a2).fst.fst.fst, AV.int IntKind.i64 (getPart a1 a2).fst.fst.snd.fst, AV.str (getPart a1 a2).fst.fst.snd.snd, AV.int IntKind.i64 (getPart a1 a2).fst.snd]]
                    else
                      .ret (AV.bool false) [AObj.var 28 [AV.int IntKind.u8 a0_0_0, AV.int IntKind.i64 a0_0_1, AV.str a0_0_2, AV.int IntKind.i64 a0_1], AObj.arr 26 (Pay.rows 3 [[AV.int IntKind.u8 a0_0_0, AV.int IntKind.i64 a0_0_1, AV.str a0_0_2]]), AObj.var 28 [AV.int IntKind.u8 (getPart (a1 ++ encPart ((a0_0_0, a0_0_1, a0_0_2), a0_1)) ↑a1.length).fst.fst.fst, AV.int IntKind.i64 (getPart (a1 ++ encPart ((a0_0_0, a0_0_1, a0_0_2), a0_1)) ↑a1.length).fst.fst.snd.fst, AV.str (getPart (a1 ++ encPart ((a0_0_0, a0_0_1, a0_0_2), a0_1)) ↑a1.length).fst.fst.snd.snd, AV.int IntKind.i64 (getPart (a1 ++ encPart ((a0_0_0, a0_0_1, a0_0_2), a0_1)) ↑a1.length).fst.snd], AObj.var 28 [AV.int IntKind.u8 (getPart a1 a2).fst.fst.fst, AV.int IntKind.i64 (getPart a1 a2).fst.fst.snd.fst, AV.str (getPart a1 a2).fst.fst.snd.snd, AV.int IntKind.i64 (getPart a1 a2).fst.snd], AObj.var 28 [AV.int IntKind.u8 (getPart a1 a2).fst.fst.fst, AV.int IntKind.i64 (getPart a1 a2).fst.fst.snd.fst, AV.str (getPart a1 a2).fst.fst.snd.snd, AV.int IntKind.i64 (getPart a1 a2).fst.snd]]
                  else
                    .ret (AV.bool false) [AObj.var 28 [AV.int IntKind.u8 a0_0_0, AV.int IntKind.i64 a0_0_1, AV.str a0_0_2, AV.int IntKind.i64 a0_1], AObj.arr 26 (Pay.rows 3 [[AV.int IntKind.u8 a0_0_0, AV.int IntKind.i64 a0_0_1, AV.str a0_0_2]]), AObj.var 28 [AV.int IntKind.u8 (getPart (a1 ++ encPart ((a0_0_0, a0_0_1, a0_0_2), a0_1)) ↑a1.length).fst.fst.fst, AV.int IntKind.i64 (getPart (a1 ++ encPart ((a0_0_0, a0_0_1, a0_0_2), a0_1)) ↑a1.length).fst.fst.snd.fst, AV.str (getPart (a1 ++ encPart ((a0_0_0, a0_0_1, a0_0_2), a0_1)) ↑a1.length).fst.fst.snd.snd, AV.int IntKind.i64 (getPart (a1 ++ encPart ((a0_0_0, a0_0_1, a0_0_2), a0_1)) ↑a1.length).fst.snd], AObj.var 28 [AV.int IntKind.u8 (getPart a1 a2).fst.fst.fst, AV.int IntKind.i64 (getPart a1 a2).fst.fst.snd.fst, AV.str (getPart a1 a2).fst.fst.snd.snd, AV.int IntKind.i64 (getPart a1 a2).fst.snd], AObj.var 28 [AV.int IntKind.u8 (getPart a1 a2).fst.fst.fst, AV.int IntKind.i64 (getPart a1 a2).fst.fst.snd.fst, AV.str (getPart a1 a2).fst.fst.snd.snd, AV.int IntKind.i64 (getPart a1 a2).fst.snd]]
                else
                  .ret (AV.bool false) [AObj.var 28 [AV.int IntKind.u8 a0_0_0, AV.int IntKind.i64 a0_0_1, AV.str a0_0_2, AV.int IntKind.i64 a0_1], AObj.arr 26 (Pay.rows 3 [[AV.int IntKind.u8 a0_0_0, AV.int IntKind.i64 a0_0_1, AV.str a0_0_2]]), AObj.var 28 [AV.int IntKind.u8 (getPart (a1 ++ encPart ((a0_0_0, a0_0_1, a0_0_2), a0_1)) ↑a1.length).fst.fst.fst, AV.int IntKind.i64 (getPart (a1 ++ encPart ((a0_0_0, a0_0_1, a0_0_2), a0_1)) ↑a1.length).fst.fst.snd.fst, AV.str (getPart (a1 ++ encPart ((a0_0_0, a0_0_1, a0_0_2), a0_1)) ↑a1.length).fst.fst.snd.snd, AV.int IntKind.i64 (getPart (a1 ++ encPart ((a0_0_0, a0_0_1, a0_0_2), a0_1)) ↑a1.length).fst.snd], AObj.var 28 [AV.int IntKind.u8 (getPart a1 a2).fst.fst.fst, AV.int IntKind.i64 (getPart a1 a2).fst.fst.snd.fst, AV.str (getPart a1 a2).fst.fst.snd.snd, AV.int IntKind.i64 (getPart a1 a2).fst.snd], AObj.var 28 [AV.int IntKind.u8 (getPart a1 a2).fst.fst.fst, AV.int IntKind.i64 (getPart a1 a2).fst.fst.snd.fst, AV.str (getPart a1 a2).fst.fst.snd.snd, AV.int IntKind.i64 (getPart a1 a2).fst.snd]]
              else
                .stuck
            else
              .stuck
          else
            .stuck
  else
    .stuck := by kernel_rfl


theorem yes_pos {c : Bool} {x y : Res} (h : c = true) (hx : Yes x) : Yes (bif c then x else y) := by rw [h]; exact hx
theorem yes_neg {c : Bool} {x y : Res} (h : c = false) (hy : Yes y) : Yes (bif c then x else y) := by rw [h]; exact hy
theorem yes_bif {c : Bool} {x y : Res} (h1 : c = true → Yes x) (h2 : c = false → Yes y) : Yes (bif c then x else y) := by
  cases c with
  | true => exact h1 rfl
  | false => exact h2 rfl
abbrev ptL (p : Pt) : List AV := [.int .u8 p.1.1, .int .i64 p.1.2.1, .str p.1.2.2, .int .i64 p.2]

theorem law9 (p : Pt) (l : List UInt8) (i : Int) (hp : p.1.2.2.length ≤ roomB) (hr : Real [.agg (valRow p.1 ++ [.int .i64 p.2]), .ro (.bytes l), .int .i64 i]) :
    apure (c9 rounds) Try.f9 [.agg (valRow p.1 ++ [.int .i64 p.2]), .ro (.bytes l), .int .i64 i] = some (.bool true, []) := by
  have hn := has64 (show Real [.int .i64 p.1.2.1, .str p.1.2.2, .int .i64 p.2] from hr.agg.tail).int
  have hm := has64 (show Real [.int .i64 p.2] from hr.agg.tail.tail.tail).int
  have hpl := encPart_len p
  refine apure_yes ?_
  change Yes (afun (c9 rounds) Try.f9 [.agg [.int .u8 p.1.1, .int .i64 p.1.2.1, .str p.1.2.2, .int .i64 p.2], .ro (.bytes l), .int .i64 i] [])
  rw [f9_eq]
  refine yes_pos (allVal_map (vs := [p.1]) ?_) (yes_bif (fun _ => .ret) fun _ => yes_bif (fun _ => .ret) fun g1 => yes_bif (fun _ => .ret) fun g2 => ?_)
  · intro u hu
    simp only [List.mem_cons, List.not_mem_nil, or_false] at hu
    rw [hu]; exact hp
  replace g1 : (l.length : Int) ≤ 2000 := Int.not_lt.1 fun g => by rw [ltI_iff.2 g] at g1; cases g1
  replace g2 : (p.1.2.2.length : Int) ≤ 2000 := Int.not_lt.1 fun g => by rw [ltI_iff.2 g] at g2; cases g2
  refine yes_pos (ble_iff.2 (by omega)) (yes_pos (ble_iff.2 (by omega)) (yes_pos (ble_iff.2 (by unfold maxLen; change l.length + (encPart p).length ≤ _; omega)) (yes_pos (by simp [eqS]) ?_)))
  have e := getPart_enc l [] p ⟨hn.1, hn.2⟩ (by omega) ⟨hm.1, hm.2⟩
  rw [List.append_nil] at e
  change getPart (l ++ encPart ((p.1.1, p.1.2.1, p.1.2.2), p.2)) l.length = _ at e
  rw [e]
  exact yes_pos (sameP_norm p) (yes_pos (eqI_iff.2 rfl) (yes_pos (eqI_iff.2 rfl) (yes_pos (sameP_self _) (yes_pos (eqI_iff.2 rfl) (yes_pos (eqI_iff.2 rfl) .ret)))))
end Go.Proofs.YthejefgpanceoaaG

namespace Go.Proofs.Ythejefgpanceoaa.foldBytes
open Go.ChangeShapes Go.WideShapes Go.ChangeAt Go.RowKit Go.Proofs.YthejefgpanceoaaGm Go.Proofs.YthejefgpanceoaaG
open Go.ChangeMaps (open_string shut_string)
set_option linter.unusedVariables false
theorem own : ownKnob Try.prog.godebug = none := by kernel_rfl
theorem laidOut : laidOutB Try.prog = true := by kernel_rfl
set_option maxRecDepth 100000 in
theorem lifted (os : Os) (started : os.Started) (H : Type) (enc : TypeId × Value → H) :
    ReturnsInHanded {} Try.checked os 9 .any (Rows.foldBytesSpec.pre6 enc Try.prog Try.f9 Rows.foldBytesRow.domain false) (Rows.foldBytesSpec.post enc Try.prog Try.f9 false true false false) := by
  refine returnsInHanded_of_change_sized (C := Try.checked) own started (by kernel_rfl) Try.func9
    (ChangeSpec.witness6 (enc := enc) (C := Try.checked) false ⟨#[], #[.agg #[.int .u8 0, .int .i64 0, .string ByteArray.empty, .int .i64 0], .slice none 0 0, .int .i64 0], []⟩ 8 (by kernel_rfl) (by kernel_rfl) (by kernel_rfl) (by kernel_rfl)) ?_
  intro W base args ds gs before hval0 hW hcnd hsz0 _
  have hval : ∀ (j : Nat) t v, Try.f9.params[j]? = some t → args[j]? = some v → Value.okWide Try.prog W .any base t v := hval0
  have hW' := hW
  obtain ⟨p, q, hA0, hV, rfl, hfz, hnd⟩ := hW
  have hA : DataW.TrodAll enc Try.prog W 0 (fun _ => true) true Try.f9.params.toList args.toList ds p := hA0
  rw [Try.params9] at hA hval
  obtain ⟨v0, vs0, d0, ds0, p0, q0, hargs, rfl, rfl, h0, r0⟩ := trodAll_cons hA
  obtain ⟨v1, vs1, d1, ds1, p1, q1, rfl, rfl, rfl, h1, r1⟩ := trodAll_cons r0
  obtain ⟨v2, vs2, d2, ds2, p2, q2, rfl, rfl, rfl, h2, r2⟩ := trodAll_cons r1
  obtain ⟨rfl, rfl, rfl⟩ := trodAll_nil r2
  obtain rfl : args = #[v0, v1, v2] := by cases args; simp_all
  obtain ⟨rfl, rfl⟩ := trodVars_none hV
  have k0 := h0
  have lt0 : ∀ x ∈ p0, x.block < W.heap.size := by obtain ⟨m, hm⟩ := k0; exact DataW.trod_lt m _ _ _ hm
  have z0 : Sized Try.prog 28 d0 := fun n hn => by simpa using List.all_eq_true.1 hsz0 _ (DataW.weights_mem_each (j := 0) (t := 28) (by kernel_rfl) rfl n hn)
  obtain ⟨V0, R0, f0⟩ := open_arg (sh := (.struct [(.struct [(.int .u8), (.int .i64), .str]), (.int .i64)])) (.struct Try.underlying28 (by kernel_rfl) (.cons rfl (by kernel_rfl) (.struct Try.underlying26 (by kernel_rfl) (.cons rfl (by kernel_rfl) (.int Try.underlying5) (.cons rfl (by kernel_rfl) (.int Try.underlying3) (.cons rfl (by kernel_rfl) (.str Try.underlying9) .nil)))) (.cons rfl (by kernel_rfl) (.int Try.underlying3) .nil))) (hval 0 28 v0 rfl rfl) h0 z0 (fun _ _ h => by cases h)
  obtain ⟨l0, rfl, b0⟩ := fits_part f0
  obtain ⟨a1, len1, cap1, rfl⟩ := okWide_slice Try.underlying43 (hval 1 43 v1 rfl rfl)
  have k1 := h1
  have lt1 : ∀ x ∈ p1, x.block < W.heap.size := by obtain ⟨m, hm⟩ := k1; exact DataW.trod_lt m _ _ _ hm
  obtain ⟨z1, w1⟩ : ∃ zs, IsRow .u8 W a1 len1 cap1 zs := by
    obtain ⟨fuel, hf⟩ := h1
    rcases open_ints Try.underlying43 Try.underlying5 (by kernel_rfl) hf with ⟨hcs, _⟩ | ⟨x, l, c, zs, hcs, _, hl, hm, hz, _, hcell, hwz⟩
    · simp [Value.cells] at hcs
      obtain ⟨rfl, rfl, rfl⟩ := hcs
      exact ⟨[], .inl ⟨rfl, rfl, rfl, rfl⟩⟩
    · simp [Value.cells] at hcs
      obtain ⟨rfl, rfl, rfl⟩ := hcs
      exact ⟨zs, .inr ⟨_, rfl, hl, hm, by simpa using hz, hcell, hwz⟩⟩
  obtain ⟨l1, _, R1⟩ := row_bytes w1
  obtain ⟨a2, rfl, rfl, rfl, w2⟩ := open_int Try.underlying3 (hval 2 3 v2 rfl rfl) h2
  have R2 : RepV W (fun _ => False) [] (.int .i64 a2) (.int .i64 a2) := .int (by simpa [Lit.wf, IntKind.has] using w2)
  clear hA0 hval0 hsz0
  have hreal : RepL W (fun _ => False) [] _ _ := (.cons R0 (.cons R1 (.cons R2 .nil)))
  refine (law_calls (c9 rounds) tt9_ok (.cons ok11 (.cons ok12 (.cons ok15 (.cons ok16 (.cons ok33 (.cons ok34 (.cons ok35 (.cons ok36 .nil)))))))) follows rfl Try.func9 (law9 l0 l1 a2 b0 ⟨_, _, _, hreal⟩) hreal).mono fun e W' ⟨he, bel⟩ => ?_
  subst he
  exact ⟨_, rfl, _, _, _, [], _, [], hW', trodAll_mk1 (shut_bool Try.underlying4 _), (trodAll_cons_mk (Below.trod laidOut (by kernel_rfl) (of_decide_eq_true (by kernel_rfl)) k0 bel lt0) (trodAll_cons_mk (Below.trod laidOut (by kernel_rfl) (of_decide_eq_true (by kernel_rfl)) k1 bel lt1) (trodAll_cons_mk (shut_int Try.underlying3 w2) trodAll_mk0))), rfl, bel.frame _, fun h => by cases h⟩
theorem over : Rows.foldBytesRow.holds Try.pinned (OpenSpec.ofChange Rows.foldBytesSpec) :=
  OpenClaim.holds_of_wide 9 Try.f9 rfl rfl rfl rfl rfl rfl rfl ⟨rfl, rfl, rfl, rfl, rfl⟩ rfl rfl rfl rfl rfl (by kernel_rfl) Try.func9 (by kernel_rfl)
    (of_decide_eq_true (by kernel_rfl)) (by unfold Func.isWrapper; first | (rw [if_pos (by decide +kernel)]; kernel_rfl) | (rw [if_neg (by decide +kernel)]; exact ⟨rfl, rfl⟩))
    (fun os started H enc _ => lifted os started H enc)
theorem proved : Rows.FoldBytesSaid := over
end Go.Proofs.Ythejefgpanceoaa.foldBytes
namespace Go.Proofs.Ythejefgpanceoaa
/-- The row, under a short name, for the claim. -/
theorem foldBytes_holds : Rows.FoldBytesSaid := foldBytes.proved
#print axioms foldBytes_holds
end Go.Proofs.Ythejefgpanceoaa
