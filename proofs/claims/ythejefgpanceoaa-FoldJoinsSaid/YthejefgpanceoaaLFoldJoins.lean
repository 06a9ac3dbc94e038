/- FoldJoins: for every input the law returns true, and the input reads as it did; no condition beyond the row. -/
import Derived.Test.YthejefgpanceoaaRows
import Derived.WalkKit
import Derived.ProofKit
import Derived.OpenShut
import Derived.ShutString
import Derived.ChangeOld
import Derived.Below
import Derived.SizedLaws
import Derived.Carry
import Derived.Test.YthejefgpanceoaaGr
import Derived.Test.YthejefgpanceoaaGm3
namespace Go.Proofs.YthejefgpanceoaaG
open Go Go.Proofs.YthejefgpanceoaaGm
set_option maxRecDepth 100000
def tt4 : Tab := [(0, ty0), (3, ty3), (4, ty4), (5, ty5), (9, ty9), (22, ty22), (26, ty26), (28, ty28), (29, ty29), (30, ty30), (32, ty32)]
theorem tt4_ok : TabOk Try.prog tt4 := tabOk_of_all ⟨ty0_ok, ty3_ok, ty4_ok, ty5_ok, ty9_ok, ty22_ok, ty26_ok, ty28_ok, ty29_ok, ty30_ok, ty32_ok, trivial⟩
def c4 (F : Nat) : Cfg := ⟨tt4, [(11, .pure go11), (12, .pure go12), (15, .pure go15), (16, .pure go16), (17, .pure go17), (18, .pure go17), (19, .pure go19), (20, .pure go19)], F, [], [], 0⟩
theorem f4_eq (F : Nat) (a0 : Int) (a1_0_0 : Int) (a1_0_1 : Int) (a1_0_2 : List UInt8) (a1_1 : Int) (a2_0_0 : Int) (a2_0_1 : Int) (a2_0_2 : List UInt8) (a2_1 : Int) (a3_0 : Int) (a3_1 : Int) (a3_2 : List UInt8) : afun (c4 F) Try.f4 [AV.int IntKind.i64 a0, AV.agg [AV.int IntKind.u8 a1_0_0, AV.int IntKind.i64 a1_0_1, AV.str a1_0_2, AV.int IntKind.i64 a1_1], AV.agg [AV.int IntKind.u8 a2_0_0, AV.int IntKind.i64 a2_0_1, AV.str a2_0_2, AV.int IntKind.i64 a2_1], AV.agg [AV.int IntKind.u8 a3_0, AV.int IntKind.i64 a3_1, AV.str a3_2]] [] =
  bif allVal (([[AV.int IntKind.u8 a1_0_0, AV.int IntKind.i64 a1_0_1, AV.str a1_0_2], [AV.int IntKind.u8 0, AV.int IntKind.i64 0, AV.str []], [AV.int IntKind.u8 0, AV.int IntKind.i64 0, AV.str []]].set (1, Operand.tmp 16).fst [AV.int IntKind.u8 a2_0_0, AV.int IntKind.i64 a2_0_1, AV.str a2_0_2]).set (2, Operand.tmp 17).fst [AV.int IntKind.u8 a3_0, AV.int IntKind.i64 a3_1, AV.str a3_2]) then
    bif longV (decVals (([[AV.int IntKind.u8 a1_0_0, AV.int IntKind.i64 a1_0_1, AV.str a1_0_2], [AV.int IntKind.u8 0, AV.int IntKind.i64 0, AV.str []], [AV.int IntKind.u8 0, AV.int IntKind.i64 0, AV.str []]].set (1, Operand.tmp 16).fst [AV.int IntKind.u8 a2_0_0, AV.int IntKind.i64 a2_0_1, AV.str a2_0_2]).set (2, Operand.tmp 17).fst [AV.int IntKind.u8 a3_0, AV.int IntKind.i64 a3_1, AV.str a3_2])) 0 0 then
      .ret (AV.bool true) [AObj.var 28 [AV.int IntKind.u8 a1_0_0, AV.int IntKind.i64 a1_0_1, AV.str a1_0_2, AV.int IntKind.i64 a1_1], AObj.var 28 [AV.int IntKind.u8 a2_0_0, AV.int IntKind.i64 a2_0_1, AV.str a2_0_2, AV.int IntKind.i64 a2_1], AObj.var 26 [AV.int IntKind.u8 a3_0, AV.int IntKind.i64 a3_1, AV.str a3_2], AObj.arr 26 (Pay.rows 3 (([[AV.int IntKind.u8 a1_0_0, AV.int IntKind.i64 a1_0_1, AV.str a1_0_2], [AV.int IntKind.u8 0, AV.int IntKind.i64 0, AV.str []], [AV.int IntKind.u8 0, AV.int IntKind.i64 0, AV.str []]].set (1, Operand.tmp 16).fst [AV.int IntKind.u8 a2_0_0, AV.int IntKind.i64 a2_0_1, AV.str a2_0_2]).set (2, Operand.tmp 17).fst [AV.int IntKind.u8 a3_0, AV.int IntKind.i64 a3_1, AV.str a3_2]))]
    else
      bif a1_0_2.length.ble roomB then
        bif a2_0_2.length.ble roomB then
          bif a1_0_2.length.ble roomB then
            bif a2_0_2.length.ble roomB then
              bif sameP (((joinP a0 ((a1_0_0, a1_0_1, a1_0_2), a1_1) ((a2_0_0, a2_0_1, a2_0_2), a2_1)).fst.fst.fst, (joinP a0 ((a1_0_0, a1_0_1, a1_0_2), a1_1) ((a2_0_0, a2_0_1, a2_0_2), a2_1)).fst.fst.snd.fst, (joinP a0 ((a1_0_0, a1_0_1, a1_0_2), a1_1) ((a2_0_0, a2_0_1, a2_0_2), a2_1)).fst.fst.snd.snd), (joinP a0 ((a1_0_0, a1_0_1, a1_0_2), a1_1) ((a2_0_0, a2_0_1, a2_0_2), a2_1)).fst.snd) (((joinP a0 ((a1_0_0, a1_0_1, a1_0_2), a1_1) ((a2_0_0, a2_0_1, a2_0_2), a2_1)).fst.fst.fst, (joinP a0 ((a1_0_0, a1_0_1, a1_0_2), a1_1) ((a2_0_0, a2_0_1, a2_0_2), a2_1)).fst.fst.snd.fst, (joinP a0 ((a1_0_0, a1_0_1, a1_0_2), a1_1) ((a2_0_0, a2_0_1, a2_0_2), a2_1)).fst.fst.snd.snd), (joinP a0 ((a1_0_0, a1_0_1, a1_0_2), a1_1) ((a2_0_0, a2_0_1, a2_0_2), a2_1)).fst.snd) then
                bif eqI (joinP a0 ((a1_0_0, a1_0_1, a1_0_2), a1_1) ((a2_0_0, a2_0_1, a2_0_2), a2_1)).snd (joinP a0 ((a1_0_0, a1_0_1, a1_0_2), a1_1) ((a2_0_0, a2_0_1, a2_0_2), a2_1)).snd then
                  bif sameP (((oneP a0 (a3_0, a3_1, a3_2)).fst.fst, (oneP a0 (a3_0, a3_1, a3_2)).fst.snd.fst, (oneP a0 (a3_0, a3_1, a3_2)).fst.snd.snd), (oneP a0 (a3_0, a3_1, a3_2)).snd) (((oneP a0 (a3_0, a3_1, a3_2)).fst.fst, (oneP a0 (a3_0, a3_1, a3_2)).fst.snd.fst, (oneP a0 (a3_0, a3_1, a3_2)).fst.snd.snd), (oneP a0 (a3_0, a3_1, a3_2)).snd) then
                    .ret (AV.bool true) [AObj.var 28 [AV.int IntKind.u8 a1_0_0, AV.int IntKind.i64 a1_0_1, AV.str a1_0_2, AV.int IntKind.i64 a1_1], AObj.var 28 [AV.int IntKind.u8 a2_0_0, AV.int IntKind.i64 a2_0_1, AV.str a2_0_2, AV.int IntKind.i64 a2_1], AObj.var 26 [AV.int IntKind.u8 a3_0, AV.int IntKind.i64 a3_1, AV.str a3_2], AObj.arr 26 (Pay.rows 3 (([[AV.int IntKind.u8 a1_0_0, AV.int IntKind.i64 a1_0_1, AV.str a1_0_2], [AV.int IntKind.u8 0, AV.int IntKind.i64 0, AV.str []], [AV.int IntKind.u8 0, AV.int IntKind.i64 0, AV.str []]].set (1, Operand.tmp 16).fst [AV.int IntKind.u8 a2_0_0, AV.int IntKind.i64 a2_0_1, AV.str a2_0_2]).set (2, Operand.tmp 17).fst [AV.int IntKind.u8 a3_0, AV.int IntKind.i64 a3_1, AV.str a3_2])), AObj.var 28 [AV.int IntKind.u8 (joinP a0 ((a1_0_0, a1_0_1, a1_0_2), a1_1) ((a2_0_0, a2_0_1, a2_0_2), a2_1)).fst.fst.fst, AV.int IntKind.i64 (joinP a0 ((a1_0_0, a1_0_1, a1_0_2), a1_1) ((a2_0_0, a2_0_1, a2_0_2), a2_1)).fst.fst.snd.fst, AV.str (joinP a0 ((a1_0_0, a1_0_1, a1_0_2), a1_1) ((a2_0_0, a2_0_1, a2_0_2), a2_1)).fst.fst.snd.snd, AV.int IntKind.i64 (joinP a0 ((a1_0_0, a1_0_1, a1_0_2), a1_1) ((a2_0_0, a2_0_1, a2_0_2), a2_1)).fst.snd], AObj.var 28 [AV.int IntKind.u8 (joinP a0 ((a1_0_0, a1_0_1, a1_0_2), a1_1) ((a2_0_0, a2_0_1, a2_0_2), a2_1)).fst.fst.fst, AV.int IntKind.i64 (joinP a0 ((a1_0_0, a1_0_1, a1_0_2), a1_1) ((a2_0_0, a2_0_1, a2_0_2), a2_1)).fst.fst.snd.fst, AV.str (joinP a0 ((a1_0_0, a1_0_1, a1_0_2), a1_1) ((a2_0_0, a2_0_1, a2_0_2), a2_1)).fst.fst.snd.snd, AV.int IntKind.i64 (joinP a0 ((a1_0_0, a1_0_1, a1_0_2), a1_1) ((a2_0_0, a2_0_1, a2_0_2), a2_1)).fst.snd]]
                  else
                    .ret (AV.bool false) [AObj.var 28 [AV.int IntKind.u8 a1_0_0, AV.int IntKind.i64 a1_0_1, AV.str a1_0_2, AV.int IntKind.i64 a1_1], AObj.var 28 [AV.int IntKind.u8 a2_0_0, AV.int IntKind.i64 a2_0_1, AV.str a2_0_2, AV.int IntKind.i64 a2_1], AObj.var 26 [AV.int IntKind.u8 a3_0, AV.int IntKind.i64 a3_1, AV.str a3_2], AObj.arr 26 (Pay.rows 3 (([[AV.int IntKind.u8 a1_0_0, AV.int IntKind.i64 a1_0_1, AV.str a1_0_2], [AV.int IntKind.u8 0, AV.int IntKind.i64 0, AV.str []], [AV.int IntKind.u8 0, AV.int IntKind.i64 0, AV.str []]].set (1, Operand.tmp 16).fst [AV.int IntKind.u8 a2_0_0, AV.int IntKind.i64 a2_0_1, AV.str a2_0_2]).set (2, Operand.tmp 17).fst [AV.int IntKind.u8 a3_0, AV.int IntKind.i64 a3_1, AV.str a3_2])), AObj.var 28 [AV.int IntKind.u8 (joinP a0 ((a1_0_0, a1_0_1, a1_0_2), a1_1) ((a2_0_0, a2_0_1, a2_0_2), a2_1)).fst.fst.fst, AV.int IntKind.i64 (joinP a0 ((a1_0_0, a1_0_1, a1_0_2), a1_1) ((a2_0_0, a2_0_1, a2_0_2), a2_1)).fst.fst.snd.fst, AV.str (joinP a0 ((a1_0_0, a1_0_1, a1_0_2), a1_1) ((a2_0_0, a2_0_1, a2_0_2), a2_1)).fst.fst.snd.snd, AV.int IntKind.i64 (joinP a0 ((a1_0_0, a1_0_1, a1_0_2), a1_1) ((a2_0_0, a2_0_1, a2_0_2), a2_1)).fst.snd], AObj.var 28 [AV.int IntKind.u8 (joinP a0 ((a1_0_0, a1_0_1, a1_0_2), a1_1) ((a2_0_0, a2_0_1, a2_0_2), a2_1)).fst.fst.fst, AV.int IntKind.i64 (joinP a0 ((a1_0_0, a1_0_1, a1_0_2), a1_1) ((a2_0_0, a2_0_1, a2_0_2), a2_1)).fst.fst.snd.fst, AV.str (joinP a0 ((a1_0_0, a1_0_1, a1_0_2), a1_1) ((a2_0_0, a2_0_1, a2_0_2), a2_1)).fst.fst.snd.snd, AV.int IntKind.i64 (joinP a0 ((a1_0_0, a1_0_1, a1_0_2), a1_1) ((a2_0_0, a2_0_1, a2_0_2), a2_1)).fst.snd]]
                else
                  .ret (AV.bool false) [AObj.var 28 [AV.int IntKind.u8 a1_0_0, AV.int IntKind.i64 a1_0_1, AV.str a1_0_2, AV.int IntKind.i64 a1_1], AObj.var 28 [AV.int IntKind.u8 a2_0_0, AV.int IntKind.i64 a2_0_1, AV.str a2_0_2, AV.int IntKind.i64 a2_1], AObj.var 26 [AV.int IntKind.u8 a3_0, AV.int IntKind.i64 a3_1, AV.str a3_2], AObj.arr 26 (Pay.rows 3 (([[AV.int IntKind.u8 a1_0_0, AV.int IntKind.i64 a1_0_1, AV.str a1_0_2], [AV.int IntKind.u8 0, AV.int IntKind.i64 0, AV.str []], [AV.int IntKind.u8 0, AV.int IntKind.i64 0, AV.str []]].set (1, Operand.tmp 16).fst [AV.int IntKind.u8 a2_0_0, AV.int IntKind.i64 a2_0_1, AV.str a2_0_2]).set (2, Operand.tmp 17).fst [AV.int IntKind.u8 a3_0, AV.int IntKind.i64 a3_1, AV.str a3_2])), AObj.var 28 [AV.int IntKind.u8 (joinP a0 ((a1_0_0, a1_0_1, a1_0_2), a1_1) ((a2_0_0, a2_0_1, a2_0_2), a2_1)).fst.fst.fst, AV.int IntKind.i64 (joinP a0 ((a1_0_0, a1_0_1, a1_0_2), a1_1) ((a2_0_0, a2_0_1, a2_0_2), a2_1)).fst.fst.snd.fst, AV.str (joinP a0 ((a1_0_0, a1_0_1, a1_0_2), a1_1) ((a2_0_0, a2_0_1, a2_0_2), a2_1)).fst.fst.snd.snd, AV.int IntKind.i64 (joinP a0 ((a1_0_0, a1_0_1, a1_0_2), a1_1) ((a2_0_0, a2_0_1, a2_0_2), a2_1)).fst.snd], AObj.var 28 [AV.int IntKind.u8 (joinP a0 ((a1_0_0, a1_0_1, a1_0_2), a1_1) ((a2_0_0, a2_0_1, a2_0_2), a2_1)).fst.fst.fst, AV.int IntKind.i64 (joinP a0 ((a1_0_0, a1_0_1, a1_0_2), a1_1) ((a2_0_0, a2_0_1, a2_0_2), a2_1)).fst.fst.snd.fst, AV.str (joinP a0 ((a1_0_0, a1_0_1, a1_0_2), a1_1) ((a2_0_0, a2_0_1, a2_0_2), a2_1)).fst.fst.snd.snd, AV.int IntKind.i64 (joinP a0 ((a1_0_0, a1_0_1, a1_0_2), a1_1) ((a2_0_0, a2_0_1, a2_0_2), a2_1)).fst.snd]]
              else
                .ret (AV.bool false) [AObj.var 28 [AV.int IntKind.u8 a1_0_0, AV.int IntKind.i64 a1_0_1, AV.str a1_0_2, AV.int IntKind.i64 a1_1], AObj.var 28 [AV.int IntKind.u8 a2_0_0, AV.int IntKind.i64 a2_0_1, AV.str a2_0_2, AV.int IntKind.i64 a2_1], AObj.var 26 [AV.int IntKind.u8 a3_0, AV.int IntKind.i64 a3_1, AV.str a3_2], AObj.arr 26 (Pay.rows 3 (([[AV.int IntKind.u8 a1_0_0, AV.int IntKind.i64 a1_0_1, AV.str a1_0_2], [AV.int IntKind.u8 0, AV.int IntKind.i64 0, AV.str []], [AV.int IntKind.u8 0, AV.int IntKind.i64 0, AV.str []]].set (1, Operand.tmp 16).fst [AV.int IntKind.u8 a2_0_0, AV.int IntKind.i64 a2_0_1, AV.str a2_0_2]).set (2, Operand.tmp 17).fst [AV.int IntKind.u8 a3_0, AV.int IntKind.i64 a3_1, AV.str a3_2])), AObj.var 28 [AV.int IntKind.u8 (joinP a0 ((a1_0_0, a1_0_1, a1_0_2), a1_1) ((a2_0_0, a2_0_1, a2_0_2), a2_1)).fst.fst.fst, AV.int IntKind.i64 (joinP a0 ((a1_0_0, a1_0_1, a1_0_2), a1_1) ((a2_0_0, a2_0_1, a2_0_2), a2_1)).fst.fst.snd.fst, AV.str (joinP a0 ((a1_0_0, a1_0_1, a1_0_2), a1_1) ((a2_0_0, a2_0_1, a2_0_2), a2_1)).fst.fst.snd.snd, AV.int IntKind.i64 (joinP a0 ((a1_0_0, a1_0_1, a1_0_2), a1_1) ((a2_0_0, a2_0_1, a2_0_2), a2_1)).fst.snd], AObj.var 28 [AV.int IntKind.u8 (joinP a0 ((a1_0_0, a1_0_1, a1_0_2), a1_1) ((a2_0_0, a2_0_1, a2_0_2), a2_1)).fst.fst.fst, AV.int IntKind.i64 (joinP a0 ((a1_0_0, a1_0_1, a1_0_2), a1_1) ((a2_0_0, a2_0_1, a2_0_2), a2_1)).fst.fst.snd.fst, AV.str (joinP a0 ((a1_0_0, a1_0_1, a1_0_2), a1_1) ((a2_0_0, a2_0_1, a2_0_2), a2_1)).fst.fst.snd.snd, AV.int IntKind.i64 (joinP a0 ((a1_0_0, a1_0_1, a1_0_2), a1_1) ((a2_0_0, a2_0_1, a2_0_2), a2_1)).fst.snd]]
            else
              .stuck
          else
            .stuck
        else
          .stuck
      else
        .stuck
  else
    .stuck := by kernel_rfl


theorem yes_pos {c : Bool} {x y : Res} (h : c = true) (hx : Yes x) : Yes (bif c then x else y) := by rw [h]; exact hx
theorem yes_neg {c : Bool} {x y : Res} (h : c = false) (hy : Yes y) : Yes (bif c then x else y) := by rw [h]; exact hy
theorem yes_bif {c : Bool} {x y : Res} (h1 : c = true → Yes x) (h2 : c = false → Yes y) : Yes (bif c then x else y) := by
  cases c with
  | true => exact h1 rfl
  | false => exact h2 rfl
abbrev ptL (p : Pt) : List AV := [.int .u8 p.1.1, .int .i64 p.1.2.1, .str p.1.2.2, .int .i64 p.2]

theorem law4 (f : Int) (p q : Pt) (v : Vl) (hp : p.1.2.2.length ≤ roomB) (hq : q.1.2.2.length ≤ roomB) (hv : v.2.2.length ≤ roomB) (_ : Real [.int .i64 f, .agg (valRow p.1 ++ [.int .i64 p.2]), .agg (valRow q.1 ++ [.int .i64 q.2]), .agg (valRow v)]) :
    apure (c4 rounds) Try.f4 [.int .i64 f, .agg (valRow p.1 ++ [.int .i64 p.2]), .agg (valRow q.1 ++ [.int .i64 q.2]), .agg (valRow v)] = some (.bool true, []) := by
  refine apure_yes ?_
  change Yes (afun (c4 rounds) Try.f4 [.int .i64 f, .agg [.int .u8 p.1.1, .int .i64 p.1.2.1, .str p.1.2.2, .int .i64 p.2], .agg [.int .u8 q.1.1, .int .i64 q.1.2.1, .str q.1.2.2, .int .i64 q.2], .agg [.int .u8 v.1, .int .i64 v.2.1, .str v.2.2]] [])
  rw [f4_eq]
  refine yes_pos (allVal_map (vs := [p.1, q.1, v]) ?_) ?_
  · intro u hu
    simp only [List.mem_cons, List.not_mem_nil, or_false] at hu
    rcases hu with rfl | rfl | rfl
    · exact hp
    · exact hq
    · exact hv
  refine yes_bif (fun _ => .ret) fun _ => ?_
  refine yes_pos (ble_iff.2 hp) (yes_pos (ble_iff.2 hq) (yes_pos (ble_iff.2 hp) (yes_pos (ble_iff.2 hq) ?_)))
  exact yes_pos (sameP_self _) (yes_pos (eqI_iff.2 rfl) (yes_pos (sameP_self _) .ret))
end Go.Proofs.YthejefgpanceoaaG

namespace Go.Proofs.Ythejefgpanceoaa.foldJoins
open Go.ChangeShapes Go.WideShapes Go.ChangeAt Go.RowKit Go.Proofs.YthejefgpanceoaaGm Go.Proofs.YthejefgpanceoaaG
open Go.ChangeMaps (open_string shut_string)
set_option linter.unusedVariables false
theorem own : ownKnob Try.prog.godebug = none := by kernel_rfl
theorem laidOut : laidOutB Try.prog = true := by kernel_rfl
set_option maxRecDepth 100000 in
theorem lifted (os : Os) (started : os.Started) (H : Type) (enc : TypeId × Value → H) :
    ReturnsInHanded {} Try.checked os 4 .any (Rows.foldJoinsSpec.pre6 enc Try.prog Try.f4 Rows.foldJoinsRow.domain false) (Rows.foldJoinsSpec.post enc Try.prog Try.f4 false true false false) := by
  refine returnsInHanded_of_change_sized (C := Try.checked) own started (by kernel_rfl) Try.func4
    (ChangeSpec.witness6 (enc := enc) (C := Try.checked) false ⟨#[], #[.int .i64 0, .agg #[.int .u8 0, .int .i64 0, .string ByteArray.empty, .int .i64 0], .agg #[.int .u8 0, .int .i64 0, .string ByteArray.empty, .int .i64 0], .agg #[.int .u8 0, .int .i64 0, .string ByteArray.empty]], []⟩ 8 (by kernel_rfl) (by kernel_rfl) (by kernel_rfl) (by kernel_rfl)) ?_
  intro W base args ds gs before hval0 hW hcnd hsz0 _
  have hval : ∀ (j : Nat) t v, Try.f4.params[j]? = some t → args[j]? = some v → Value.okWide Try.prog W .any base t v := hval0
  have hW' := hW
  obtain ⟨p, q, hA0, hV, rfl, hfz, hnd⟩ := hW
  have hA : DataW.TrodAll enc Try.prog W 0 (fun _ => true) true Try.f4.params.toList args.toList ds p := hA0
  rw [Try.params4] at hA hval
  obtain ⟨v0, vs0, d0, ds0, p0, q0, hargs, rfl, rfl, h0, r0⟩ := trodAll_cons hA
  obtain ⟨v1, vs1, d1, ds1, p1, q1, rfl, rfl, rfl, h1, r1⟩ := trodAll_cons r0
  obtain ⟨v2, vs2, d2, ds2, p2, q2, rfl, rfl, rfl, h2, r2⟩ := trodAll_cons r1
  obtain ⟨v3, vs3, d3, ds3, p3, q3, rfl, rfl, rfl, h3, r3⟩ := trodAll_cons r2
  obtain ⟨rfl, rfl, rfl⟩ := trodAll_nil r3
  obtain rfl : args = #[v0, v1, v2, v3] := by cases args; simp_all
  obtain ⟨rfl, rfl⟩ := trodVars_none hV
  obtain ⟨a0, rfl, rfl, rfl, w0⟩ := open_int Try.underlying3 (hval 0 3 v0 rfl rfl) h0
  have R0 : RepV W (fun _ => False) [] (.int .i64 a0) (.int .i64 a0) := .int (by simpa [Lit.wf, IntKind.has] using w0)
  have k1 := h1
  have lt1 : ∀ x ∈ p1, x.block < W.heap.size := by obtain ⟨m, hm⟩ := k1; exact DataW.trod_lt m _ _ _ hm
  have z1 : Sized Try.prog 28 d1 := fun n hn => by simpa using List.all_eq_true.1 hsz0 _ (DataW.weights_mem_each (j := 1) (t := 28) (by kernel_rfl) rfl n hn)
  obtain ⟨V1, R1, f1⟩ := open_arg (sh := (.struct [(.struct [(.int .u8), (.int .i64), .str]), (.int .i64)])) (.struct Try.underlying28 (by kernel_rfl) (.cons rfl (by kernel_rfl) (.struct Try.underlying26 (by kernel_rfl) (.cons rfl (by kernel_rfl) (.int Try.underlying5) (.cons rfl (by kernel_rfl) (.int Try.underlying3) (.cons rfl (by kernel_rfl) (.str Try.underlying9) .nil)))) (.cons rfl (by kernel_rfl) (.int Try.underlying3) .nil))) (hval 1 28 v1 rfl rfl) h1 z1 (fun _ _ h => by cases h)
  obtain ⟨l1, rfl, b1⟩ := fits_part f1
  have k2 := h2
  have lt2 : ∀ x ∈ p2, x.block < W.heap.size := by obtain ⟨m, hm⟩ := k2; exact DataW.trod_lt m _ _ _ hm
  have z2 : Sized Try.prog 28 d2 := fun n hn => by simpa using List.all_eq_true.1 hsz0 _ (DataW.weights_mem_each (j := 2) (t := 28) (by kernel_rfl) rfl n hn)
  obtain ⟨V2, R2, f2⟩ := open_arg (sh := (.struct [(.struct [(.int .u8), (.int .i64), .str]), (.int .i64)])) (.struct Try.underlying28 (by kernel_rfl) (.cons rfl (by kernel_rfl) (.struct Try.underlying26 (by kernel_rfl) (.cons rfl (by kernel_rfl) (.int Try.underlying5) (.cons rfl (by kernel_rfl) (.int Try.underlying3) (.cons rfl (by kernel_rfl) (.str Try.underlying9) .nil)))) (.cons rfl (by kernel_rfl) (.int Try.underlying3) .nil))) (hval 2 28 v2 rfl rfl) h2 z2 (fun _ _ h => by cases h)
  obtain ⟨l2, rfl, b2⟩ := fits_part f2
  have k3 := h3
  have lt3 : ∀ x ∈ p3, x.block < W.heap.size := by obtain ⟨m, hm⟩ := k3; exact DataW.trod_lt m _ _ _ hm
  have z3 : Sized Try.prog 26 d3 := fun n hn => by simpa using List.all_eq_true.1 hsz0 _ (DataW.weights_mem_each (j := 3) (t := 26) (by kernel_rfl) rfl n hn)
  obtain ⟨V3, R3, f3⟩ := open_arg (sh := (.struct [(.int .u8), (.int .i64), .str])) (.struct Try.underlying26 (by kernel_rfl) (.cons rfl (by kernel_rfl) (.int Try.underlying5) (.cons rfl (by kernel_rfl) (.int Try.underlying3) (.cons rfl (by kernel_rfl) (.str Try.underlying9) .nil)))) (hval 3 26 v3 rfl rfl) h3 z3 (fun _ _ h => by cases h)
  obtain ⟨l3, rfl, b3⟩ := fits_val f3
  clear hA0 hval0 hsz0
  have hreal : RepL W (fun _ => False) [] _ _ := (.cons R0 (.cons R1 (.cons R2 (.cons R3 .nil))))
  refine (law_calls (c4 rounds) tt4_ok (.cons ok11 (.cons ok12 (.cons ok15 (.cons ok16 (.cons ok17 (.cons ok18 (.cons ok19 (.cons ok20 .nil)))))))) follows rfl Try.func4 (law4 a0 l1 l2 l3 b1 b2 b3 ⟨_, _, _, hreal⟩) hreal).mono fun e W' ⟨he, bel⟩ => ?_
  subst he
  exact ⟨_, rfl, _, _, _, [], _, [], hW', trodAll_mk1 (shut_bool Try.underlying4 _), (trodAll_cons_mk (shut_int Try.underlying3 w0) (trodAll_cons_mk (Below.trod laidOut (by kernel_rfl) (of_decide_eq_true (by kernel_rfl)) k1 bel lt1) (trodAll_cons_mk (Below.trod laidOut (by kernel_rfl) (of_decide_eq_true (by kernel_rfl)) k2 bel lt2) (trodAll_cons_mk (Below.trod laidOut (by kernel_rfl) (of_decide_eq_true (by kernel_rfl)) k3 bel lt3) trodAll_mk0)))), rfl, bel.frame _, fun h => by cases h⟩
theorem over : Rows.foldJoinsRow.holds Try.pinned (OpenSpec.ofChange Rows.foldJoinsSpec) :=
  OpenClaim.holds_of_wide 4 Try.f4 rfl rfl rfl rfl rfl rfl rfl ⟨rfl, rfl, rfl, rfl, rfl⟩ rfl rfl rfl rfl rfl (by kernel_rfl) Try.func4 (by kernel_rfl)
    (of_decide_eq_true (by kernel_rfl)) (by unfold Func.isWrapper; first | (rw [if_pos (by decide +kernel)]; kernel_rfl) | (rw [if_neg (by decide +kernel)]; exact ⟨rfl, rfl⟩))
    (fun os started H enc _ => lifted os started H enc)
theorem proved : Rows.FoldJoinsSaid := over
end Go.Proofs.Ythejefgpanceoaa.foldJoins
namespace Go.Proofs.Ythejefgpanceoaa
/-- The row, under a short name, for the claim. -/
theorem foldJoins_holds : Rows.FoldJoinsSaid := foldJoins.proved
#print axioms foldJoins_holds
end Go.Proofs.Ythejefgpanceoaa
