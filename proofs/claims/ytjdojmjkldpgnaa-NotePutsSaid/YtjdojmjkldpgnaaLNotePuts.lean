/- NotePuts: for every input the law returns true, and the input reads as it did; no condition beyond the row. -/
import Derived.Test.YtjdojmjkldpgnaaRows
import Derived.WalkKit
import Derived.ProofKit
import Derived.OpenShut
import Derived.ShutString
import Derived.ChangeOld
import Derived.Below
import Derived.SizedLaws
import Derived.Carry
import Derived.Test.YtjdojmjkldpgnaaGs
import Derived.Test.YtjdojmjkldpgnaaGmYnotef
namespace Go.Proofs.YtjdojmjkldpgnaaG
open Go Go.Proofs.YtjdojmjkldpgnaaGm
set_option maxRecDepth 100000
def tt4 : Tab := [(0, ty0), (3, ty3), (4, ty4), (5, ty5), (9, ty9), (22, ty22), (24, ty24), (26, ty26), (27, ty27), (28, ty28), (37, ty37)]
theorem tt4_ok : TabOk Try.prog tt4 := tabOk_of_all ⟨ty0_ok, ty3_ok, ty4_ok, ty5_ok, ty9_ok, ty22_ok, ty24_ok, ty26_ok, ty27_ok, ty28_ok, ty37_ok, trivial⟩
def c4 (F : Nat) : Cfg := ⟨tt4, [(13, .pure go13), (5, .pure go5), (12, .pure go12), (14, .pure go14), (15, .pure go14), (16, .pure go16), (9, .pure go16), (10, .pure go10), (6, .pure go6), (17, .pure go17)], F, [], [], 0⟩
theorem f4_eq (F : Nat) (a0_0 : Int) (a0_1 : Int) (a0_2 : Int) (a0_3 : Int) (a0_4 : List Int) (a0_5 : List UInt8) (a0_6 : List UInt8) (a1_0 : Int) (a1_1 : Int) (a1_2 : Int) (a1_3 : Int) (a1_4 : List Int) (a1_5 : List UInt8) (a1_6 : List UInt8) : afun (c4 F) Try.f4 [AV.agg [AV.int IntKind.i64 a0_0, AV.int IntKind.i64 a0_1, AV.int IntKind.i64 a0_2, AV.int IntKind.i64 a0_3, AV.ro (Pay.ints IntKind.i64 a0_4), AV.ro (Pay.bytes a0_5), AV.ro (Pay.bytes a0_6)], AV.agg [AV.int IntKind.i64 a1_0, AV.int IntKind.i64 a1_1, AV.int IntKind.i64 a1_2, AV.int IntKind.i64 a1_3, AV.ro (Pay.ints IntKind.i64 a1_4), AV.ro (Pay.bytes a1_5), AV.ro (Pay.bytes a1_6)]] [] =
  bif longN (NoteV.mk a0_0 a0_1 a0_2 a0_3 a0_4 a0_5 a0_6) then
    .ret (AV.bool true) [AObj.var 26 [AV.int IntKind.i64 a0_0, AV.int IntKind.i64 a0_1, AV.int IntKind.i64 a0_2, AV.int IntKind.i64 a0_3, AV.ro (Pay.ints IntKind.i64 a0_4), AV.ro (Pay.bytes a0_5), AV.ro (Pay.bytes a0_6)], AObj.var 26 [AV.int IntKind.i64 a1_0, AV.int IntKind.i64 a1_1, AV.int IntKind.i64 a1_2, AV.int IntKind.i64 a1_3, AV.ro (Pay.ints IntKind.i64 a1_4), AV.ro (Pay.bytes a1_5), AV.ro (Pay.bytes a1_6)]]
  else
    bif longN (NoteV.mk a1_0 a1_1 a1_2 a1_3 a1_4 a1_5 a1_6) then
      .ret (AV.bool true) [AObj.var 26 [AV.int IntKind.i64 a0_0, AV.int IntKind.i64 a0_1, AV.int IntKind.i64 a0_2, AV.int IntKind.i64 a0_3, AV.ro (Pay.ints IntKind.i64 a0_4), AV.ro (Pay.bytes a0_5), AV.ro (Pay.bytes a0_6)], AObj.var 26 [AV.int IntKind.i64 a1_0, AV.int IntKind.i64 a1_1, AV.int IntKind.i64 a1_2, AV.int IntKind.i64 a1_3, AV.ro (Pay.ints IntKind.i64 a1_4), AV.ro (Pay.bytes a1_5), AV.ro (Pay.bytes a1_6)]]
    else
      bif (9 * a0_4.length + a0_5.length + a0_6.length + 100).ble 140737488355328 then
        bif !decide (NoteV.mk a0_0 a0_1 a0_2 a0_3 a0_4 a0_5 a0_6).Right == decide (NoteV.mk a0_0 a0_1 a0_2 a0_3 a0_4 a0_5 a0_6).Right then
          .ret (AV.bool false) [AObj.var 26 [AV.int IntKind.i64 a0_0, AV.int IntKind.i64 a0_1, AV.int IntKind.i64 a0_2, AV.int IntKind.i64 a0_3, AV.ro (Pay.ints IntKind.i64 a0_4), AV.ro (Pay.bytes a0_5), AV.ro (Pay.bytes a0_6)], AObj.var 26 [AV.int IntKind.i64 a1_0, AV.int IntKind.i64 a1_1, AV.int IntKind.i64 a1_2, AV.int IntKind.i64 a1_3, AV.ro (Pay.ints IntKind.i64 a1_4), AV.ro (Pay.bytes a1_5), AV.ro (Pay.bytes a1_6)]]
        else
          bif !decide (NoteV.mk a0_0 a0_1 a0_2 a0_3 a0_4 a0_5 a0_6 = NoteV.mk a1_0 a1_1 a1_2 a1_3 a1_4 a1_5 a1_6) == decide (NoteV.mk a0_0 a0_1 a0_2 a0_3 a0_4 a0_5 a0_6 = NoteV.mk a1_0 a1_1 a1_2 a1_3 a1_4 a1_5 a1_6) then
            .ret (AV.bool false) [AObj.var 26 [AV.int IntKind.i64 a0_0, AV.int IntKind.i64 a0_1, AV.int IntKind.i64 a0_2, AV.int IntKind.i64 a0_3, AV.ro (Pay.ints IntKind.i64 a0_4), AV.ro (Pay.bytes a0_5), AV.ro (Pay.bytes a0_6)], AObj.var 26 [AV.int IntKind.i64 a1_0, AV.int IntKind.i64 a1_1, AV.int IntKind.i64 a1_2, AV.int IntKind.i64 a1_3, AV.ro (Pay.ints IntKind.i64 a1_4), AV.ro (Pay.bytes a1_5), AV.ro (Pay.bytes a1_6)]]
          else
            bif !decide (NoteV.mk a0_0 a0_1 a0_2 a0_3 a0_4 a0_5 a0_6 = NoteV.mk a0_0 a0_1 a0_2 a0_3 a0_4 a0_5 a0_6) then
              .ret (AV.bool false) [AObj.var 26 [AV.int IntKind.i64 a0_0, AV.int IntKind.i64 a0_1, AV.int IntKind.i64 a0_2, AV.int IntKind.i64 a0_3, AV.ro (Pay.ints IntKind.i64 a0_4), AV.ro (Pay.bytes a0_5), AV.ro (Pay.bytes a0_6)], AObj.var 26 [AV.int IntKind.i64 a1_0, AV.int IntKind.i64 a1_1, AV.int IntKind.i64 a1_2, AV.int IntKind.i64 a1_3, AV.ro (Pay.ints IntKind.i64 a1_4), AV.ro (Pay.bytes a1_5), AV.ro (Pay.bytes a1_6)]]
            else
              bif !decide (NoteV.mk a0_0 a0_1 a0_2 a0_3 a0_4 a0_5 a0_6).Right then
                bif eqI (↑(List.length (putN (NoteV.mk a0_0 a0_1 a0_2 a0_3 a0_4 a0_5 a0_6)).fst)) 0 then
                  bif eqI (putN (NoteV.mk a0_0 a0_1 a0_2 a0_3 a0_4 a0_5 a0_6)).snd 3 then
                    .ret (AV.bool true) [AObj.var 26 [AV.int IntKind.i64 a0_0, AV.int IntKind.i64 a0_1, AV.int IntKind.i64 a0_2, AV.int IntKind.i64 a0_3, AV.ro (Pay.ints IntKind.i64 a0_4), AV.ro (Pay.bytes a0_5), AV.ro (Pay.bytes a0_6)], AObj.var 26 [AV.int IntKind.i64 a1_0, AV.int IntKind.i64 a1_1, AV.int IntKind.i64 a1_2, AV.int IntKind.i64 a1_3, AV.ro (Pay.ints IntKind.i64 a1_4), AV.ro (Pay.bytes a1_5), AV.ro (Pay.bytes a1_6)]]
                  else
                    .ret (AV.bool false) [AObj.var 26 [AV.int IntKind.i64 a0_0, AV.int IntKind.i64 a0_1, AV.int IntKind.i64 a0_2, AV.int IntKind.i64 a0_3, AV.ro (Pay.ints IntKind.i64 a0_4), AV.ro (Pay.bytes a0_5), AV.ro (Pay.bytes a0_6)], AObj.var 26 [AV.int IntKind.i64 a1_0, AV.int IntKind.i64 a1_1, AV.int IntKind.i64 a1_2, AV.int IntKind.i64 a1_3, AV.ro (Pay.ints IntKind.i64 a1_4), AV.ro (Pay.bytes a1_5), AV.ro (Pay.bytes a1_6)]]
                else
                  .ret (AV.bool false) [AObj.var 26 [AV.int IntKind.i64 a0_0, AV.int IntKind.i64 a0_1, AV.int IntKind.i64 a0_2, AV.int IntKind.i64 a0_3, AV.ro (Pay.ints IntKind.i64 a0_4), AV.ro (Pay.bytes a0_5), AV.ro (Pay.bytes a0_6)], AObj.var 26 [AV.int IntKind.i64 a1_0, AV.int IntKind.i64 a1_1, AV.int IntKind.i64 a1_2, AV.int IntKind.i64 a1_3, AV.ro (Pay.ints IntKind.i64 a1_4), AV.ro (Pay.bytes a1_5), AV.ro (Pay.bytes a1_6)]]
              else
                bif eqI (IntKind.i64.wrap ((putN (NoteV.mk a0_0 a0_1 a0_2 a0_3 a0_4 a0_5 a0_6)).snd + (getNote (putN (NoteV.mk a0_0 a0_1 a0_2 a0_3 a0_4 a0_5 a0_6)).fst).snd)) 0 then
                  bif (9 * a0_4.length + a0_5.length + a0_6.length + 100).ble 140737488355328 then
                    bif eqS (putN (NoteV.mk a0_0 a0_1 a0_2 a0_3 a0_4 a0_5 a0_6)).fst (encNote (NoteV.mk a0_0 a0_1 a0_2 a0_3 a0_4 a0_5 a0_6)) then
                      bif decide (NoteV.mk (getNote (putN (NoteV.mk a0_0 a0_1 a0_2 a0_3 a0_4 a0_5 a0_6)).fst).fst.k (getNote (putN (NoteV.mk a0_0 a0_1 a0_2 a0_3 a0_4 a0_5 a0_6)).fst).fst.t (getNote (putN (NoteV.mk a0_0 a0_1 a0_2 a0_3 a0_4 a0_5 a0_6)).fst).fst.y (getNote (putN (NoteV.mk a0_0 a0_1 a0_2 a0_3 a0_4 a0_5 a0_6)).fst).fst.p (getNote (putN (NoteV.mk a0_0 a0_1 a0_2 a0_3 a0_4 a0_5 a0_6)).fst).fst.w (getNote (putN (NoteV.mk a0_0 a0_1 a0_2 a0_3 a0_4 a0_5 a0_6)).fst).fst.a (getNote (putN (NoteV.mk a0_0 a0_1 a0_2 a0_3 a0_4 a0_5 a0_6)).fst).fst.b = NoteV.mk a0_0 a0_1 a0_2 a0_3 a0_4 a0_5 a0_6) then
                        .ret (AV.bool true) [AObj.var 26 [AV.int IntKind.i64 a0_0, AV.int IntKind.i64 a0_1, AV.int IntKind.i64 a0_2, AV.int IntKind.i64 a0_3, AV.ro (Pay.ints IntKind.i64 a0_4), AV.ro (Pay.bytes a0_5), AV.ro (Pay.bytes a0_6)], AObj.var 26 [AV.int IntKind.i64 a1_0, AV.int IntKind.i64 a1_1, AV.int IntKind.i64 a1_2, AV.int IntKind.i64 a1_3, AV.ro (Pay.ints IntKind.i64 a1_4), AV.ro (Pay.bytes a1_5), AV.ro (Pay.bytes a1_6)], AObj.var 26 [AV.int IntKind.i64 (getNote (putN (NoteV.mk a0_0 a0_1 a0_2 a0_3 a0_4 a0_5 a0_6)).fst).fst.k, AV.int IntKind.i64 (getNote (putN (NoteV.mk a0_0 a0_1 a0_2 a0_3 a0_4 a0_5 a0_6)).fst).fst.t, AV.int IntKind.i64 (getNote (putN (NoteV.mk a0_0 a0_1 a0_2 a0_3 a0_4 a0_5 a0_6)).fst).fst.y, AV.int IntKind.i64 (getNote (putN (NoteV.mk a0_0 a0_1 a0_2 a0_3 a0_4 a0_5 a0_6)).fst).fst.p, AV.ro (Pay.ints IntKind.i64 (getNote (putN (NoteV.mk a0_0 a0_1 a0_2 a0_3 a0_4 a0_5 a0_6)).fst).fst.w), AV.ro (Pay.bytes (getNote (putN (NoteV.mk a0_0 a0_1 a0_2 a0_3 a0_4 a0_5 a0_6)).fst).fst.a), AV.ro (Pay.bytes (getNote (putN (NoteV.mk a0_0 a0_1 a0_2 a0_3 a0_4 a0_5 a0_6)).fst).fst.b)]]
                      else
                        .ret (AV.bool false) [AObj.var 26 [AV.int IntKind.i64 a0_0, AV.int IntKind.i64 a0_1, AV.int IntKind.i64 a0_2, AV.int IntKind.i64 a0_3, AV.ro (Pay.ints IntKind.i64 a0_4), AV.ro (Pay.bytes a0_5), AV.ro (Pay.bytes a0_6)], AObj.var 26 [AV.int IntKind.i64 a1_0, AV.int IntKind.i64 a1_1, AV.int IntKind.i64 a1_2, AV.int IntKind.i64 a1_3, AV.ro (Pay.ints IntKind.i64 a1_4), AV.ro (Pay.bytes a1_5), AV.ro (Pay.bytes a1_6)], AObj.var 26 [AV.int IntKind.i64 (getNote (putN (NoteV.mk a0_0 a0_1 a0_2 a0_3 a0_4 a0_5 a0_6)).fst).fst.k, AV.int IntKind.i64 (getNote (putN (NoteV.mk a0_0 a0_1 a0_2 a0_3 a0_4 a0_5 a0_6)).fst).fst.t, AV.int IntKind.i64 (getNote (putN (NoteV.mk a0_0 a0_1 a0_2 a0_3 a0_4 a0_5 a0_6)).fst).fst.y, AV.int IntKind.i64 (getNote (putN (NoteV.mk a0_0 a0_1 a0_2 a0_3 a0_4 a0_5 a0_6)).fst).fst.p, AV.ro (Pay.ints IntKind.i64 (getNote (putN (NoteV.mk a0_0 a0_1 a0_2 a0_3 a0_4 a0_5 a0_6)).fst).fst.w), AV.ro (Pay.bytes (getNote (putN (NoteV.mk a0_0 a0_1 a0_2 a0_3 a0_4 a0_5 a0_6)).fst).fst.a), AV.ro (Pay.bytes (getNote (putN (NoteV.mk a0_0 a0_1 a0_2 a0_3 a0_4 a0_5 a0_6)).fst).fst.b)]]
                    else
                      .ret (AV.bool false) [AObj.var 26 [AV.int IntKind.i64 a0_0, AV.int IntKind.i64 a0_1, AV.int IntKind.i64 a0_2, AV.int IntKind.i64 a0_3, AV.ro (Pay.ints IntKind.i64 a0_4), AV.ro (Pay.bytes a0_5), AV.ro (Pay.bytes a0_6)], AObj.var 26 [AV.int IntKind.i64 a1_0, AV.int IntKind.i64 a1_1, AV.int IntKind.i64 a1_2, AV.int IntKind.i64 a1_3, AV.ro (Pay.ints IntKind.i64 a1_4), AV.ro (Pay.bytes a1_5), AV.ro (Pay.bytes a1_6)], AObj.var 26 [AV.int IntKind.i64 (getNote (putN (NoteV.mk a0_0 a0_1 a0_2 a0_3 a0_4 a0_5 a0_6)).fst).fst.k, AV.int IntKind.i64 (getNote (putN (NoteV.mk a0_0 a0_1 a0_2 a0_3 a0_4 a0_5 a0_6)).fst).fst.t, AV.int IntKind.i64 (getNote (putN (NoteV.mk a0_0 a0_1 a0_2 a0_3 a0_4 a0_5 a0_6)).fst).fst.y, AV.int IntKind.i64 (getNote (putN (NoteV.mk a0_0 a0_1 a0_2 a0_3 a0_4 a0_5 a0_6)).fst).fst.p, AV.ro (Pay.ints IntKind.i64 (getNote (putN (NoteV.mk a0_0 a0_1 a0_2 a0_3 a0_4 a0_5 a0_6)).fst).fst.w), AV.ro (Pay.bytes (getNote (putN (NoteV.mk a0_0 a0_1 a0_2 a0_3 a0_4 a0_5 a0_6)).fst).fst.a), AV.ro (Pay.bytes (getNote (putN (NoteV.mk a0_0 a0_1 a0_2 a0_3 a0_4 a0_5 a0_6)).fst).fst.b)]]
                  else
                    .stuck
                else
                  .ret (AV.bool false) [AObj.var 26 [AV.int IntKind.i64 a0_0, AV.int IntKind.i64 a0_1, AV.int IntKind.i64 a0_2, AV.int IntKind.i64 a0_3, AV.ro (Pay.ints IntKind.i64 a0_4), AV.ro (Pay.bytes a0_5), AV.ro (Pay.bytes a0_6)], AObj.var 26 [AV.int IntKind.i64 a1_0, AV.int IntKind.i64 a1_1, AV.int IntKind.i64 a1_2, AV.int IntKind.i64 a1_3, AV.ro (Pay.ints IntKind.i64 a1_4), AV.ro (Pay.bytes a1_5), AV.ro (Pay.bytes a1_6)], AObj.var 26 [AV.int IntKind.i64 (getNote (putN (NoteV.mk a0_0 a0_1 a0_2 a0_3 a0_4 a0_5 a0_6)).fst).fst.k, AV.int IntKind.i64 (getNote (putN (NoteV.mk a0_0 a0_1 a0_2 a0_3 a0_4 a0_5 a0_6)).fst).fst.t, AV.int IntKind.i64 (getNote (putN (NoteV.mk a0_0 a0_1 a0_2 a0_3 a0_4 a0_5 a0_6)).fst).fst.y, AV.int IntKind.i64 (getNote (putN (NoteV.mk a0_0 a0_1 a0_2 a0_3 a0_4 a0_5 a0_6)).fst).fst.p, AV.ro (Pay.ints IntKind.i64 (getNote (putN (NoteV.mk a0_0 a0_1 a0_2 a0_3 a0_4 a0_5 a0_6)).fst).fst.w), AV.ro (Pay.bytes (getNote (putN (NoteV.mk a0_0 a0_1 a0_2 a0_3 a0_4 a0_5 a0_6)).fst).fst.a), AV.ro (Pay.bytes (getNote (putN (NoteV.mk a0_0 a0_1 a0_2 a0_3 a0_4 a0_5 a0_6)).fst).fst.b)]]
      else
        .stuck := by kernel_rfl


theorem yes_pos {c : Bool} {x y : Res} (h : c = true) (hx : Yes x) : Yes (bif c then x else y) := by rw [h]; exact hx
theorem yes_neg {c : Bool} {x y : Res} (h : c = false) (hy : Yes y) : Yes (bif c then x else y) := by rw [h]; exact hy
theorem yes_bif {c : Bool} {x y : Res} (h1 : c = true → Yes x) (h2 : c = false → Yes y) : Yes (bif c then x else y) := by
  cases c with
  | true => exact h1 rfl
  | false => exact h2 rfl

theorem law4 (n m : NoteV) (_ : True) (_ : True) (_ : Real [n.av, m.av]) : apure (c4 rounds) Try.f4 [n.av, m.av] = some (.bool true, []) := by
  obtain ⟨k, t, y, p, w, a, b⟩ := n
  obtain ⟨k1, t1, y1, p1, w1, a1, b1⟩ := m
  refine apure_yes ?_
  unfold NoteV.av
  dsimp only
  rw [f4_eq]
  refine yes_bif (fun _ => .ret) fun g0 => yes_bif (fun _ => .ret) fun g1 => ?_
  have hl : w.length ≤ 200 ∧ a.length ≤ 1000 ∧ b.length ≤ 1000 := by
    unfold longN at g0
    rw [Bool.or_eq_false_iff, Bool.or_eq_false_iff, ltI_f, ltI_f, ltI_f] at g0
    dsimp only at g0
    omega
  refine yes_pos (by rw [ble_iff]; omega) (yes_neg (by simp) (yes_neg (by simp) (yes_neg (by simp) (yes_bif (fun h => ?_) fun h => ?_))))
  · have hR : ¬ (⟨k, t, y, p, w, a, b⟩ : NoteV).Right := by simpa using h
    have hp : putN ⟨k, t, y, p, w, a, b⟩ = ([], 3) := if_neg hR
    rw [hp]
    exact yes_pos rfl (yes_pos rfl .ret)
  · have hR : (⟨k, t, y, p, w, a, b⟩ : NoteV).Right := by simpa using h
    have hp : putN ⟨k, t, y, p, w, a, b⟩ = (encNote ⟨k, t, y, p, w, a, b⟩, 0) := if_pos hR
    rw [hp]
    dsimp only
    rw [getNote_enc _ hR]
    exact yes_pos rfl (yes_pos (by rw [ble_iff]; omega) (yes_pos (eqS_iff.2 rfl) (yes_pos (decide_eq_true rfl) .ret)))
end Go.Proofs.YtjdojmjkldpgnaaG

namespace Go.Proofs.Ytjdojmjkldpgnaa.notePuts
open Go.ChangeShapes Go.WideShapes Go.ChangeAt Go.RowKit Go.Proofs.YtjdojmjkldpgnaaGm Go.Proofs.YtjdojmjkldpgnaaG
open Go.ChangeMaps (open_string shut_string)
set_option linter.unusedVariables false
theorem own : ownKnob Try.prog.godebug = none := by kernel_rfl
theorem laidOut : laidOutB Try.prog = true := by kernel_rfl
set_option maxRecDepth 100000 in
theorem lifted (os : Os) (started : os.Started) (H : Type) (enc : TypeId × Value → H) :
    ReturnsInHanded {} Try.checked os 4 .any (Rows.notePutsSpec.pre6 enc Try.prog Try.f4 Rows.notePutsRow.domain false) (Rows.notePutsSpec.post enc Try.prog Try.f4 false true false false) := by
  refine returnsInHanded_of_change_sized (C := Try.checked) own started (by kernel_rfl) Try.func4
    (ChangeSpec.witness6 (enc := enc) (C := Try.checked) false ⟨#[], #[.agg #[.int .i64 0, .int .i64 0, .int .i64 0, .int .i64 0, .slice none 0 0, .slice none 0 0, .slice none 0 0], .agg #[.int .i64 0, .int .i64 0, .int .i64 0, .int .i64 0, .slice none 0 0, .slice none 0 0, .slice none 0 0]], []⟩ 8 (by kernel_rfl) (by kernel_rfl) (by kernel_rfl) (by kernel_rfl)) ?_
  intro W base args ds gs before hval0 hW hcnd hsz0 _
  have hval : ∀ (j : Nat) t v, Try.f4.params[j]? = some t → args[j]? = some v → Value.okWide Try.prog W .any base t v := hval0
  have hW' := hW
  obtain ⟨p, q, hA0, hV, rfl, hfz, hnd⟩ := hW
  have hA : DataW.TrodAll enc Try.prog W 0 (fun _ => true) true Try.f4.params.toList args.toList ds p := hA0
  rw [Try.params4] at hA hval
  obtain ⟨v0, vs0, d0, ds0, p0, q0, hargs, rfl, rfl, h0, r0⟩ := trodAll_cons hA
  obtain ⟨v1, vs1, d1, ds1, p1, q1, rfl, rfl, rfl, h1, r1⟩ := trodAll_cons r0
  obtain ⟨rfl, rfl, rfl⟩ := trodAll_nil r1
  obtain rfl : args = #[v0, v1] := by cases args; simp_all
  obtain ⟨rfl, rfl⟩ := trodVars_none hV
  have k0 := h0
  have lt0 : ∀ x ∈ p0, x.block < W.heap.size := by obtain ⟨m, hm⟩ := k0; exact DataW.trod_lt m _ _ _ hm
  have z0 : Sized Try.prog 26 d0 := fun n hn => by simpa using List.all_eq_true.1 hsz0 _ (DataW.weights_mem_each (j := 0) (t := 26) (by kernel_rfl) rfl n hn)
  obtain ⟨V0, R0, f0⟩ := open_arg (sh := (.struct [(.int .i64), (.int .i64), (.int .i64), (.int .i64), (.slice (.int .i64)), (.slice (.int .u8)), (.slice (.int .u8))])) (.struct Try.underlying26 (by kernel_rfl) (.cons rfl (by kernel_rfl) (.int Try.underlying3) (.cons rfl (by kernel_rfl) (.int Try.underlying3) (.cons rfl (by kernel_rfl) (.int Try.underlying3) (.cons rfl (by kernel_rfl) (.int Try.underlying3) (.cons rfl (by kernel_rfl) (.slice Try.underlying24 (by kernel_rfl) (by decide) (.int Try.underlying3)) (.cons rfl (by kernel_rfl) (.slice Try.underlying22 (by kernel_rfl) (by decide) (.int Try.underlying5)) (.cons rfl (by kernel_rfl) (.slice Try.underlying22 (by kernel_rfl) (by decide) (.int Try.underlying5)) .nil)))))))) (hval 0 26 v0 rfl rfl) h0 z0 (fun _ _ h => by cases h)
  obtain ⟨l0, rfl, b0⟩ := fits_note f0
  have k1 := h1
  have lt1 : ∀ x ∈ p1, x.block < W.heap.size := by obtain ⟨m, hm⟩ := k1; exact DataW.trod_lt m _ _ _ hm
  have z1 : Sized Try.prog 26 d1 := fun n hn => by simpa using List.all_eq_true.1 hsz0 _ (DataW.weights_mem_each (j := 1) (t := 26) (by kernel_rfl) rfl n hn)
  obtain ⟨V1, R1, f1⟩ := open_arg (sh := (.struct [(.int .i64), (.int .i64), (.int .i64), (.int .i64), (.slice (.int .i64)), (.slice (.int .u8)), (.slice (.int .u8))])) (.struct Try.underlying26 (by kernel_rfl) (.cons rfl (by kernel_rfl) (.int Try.underlying3) (.cons rfl (by kernel_rfl) (.int Try.underlying3) (.cons rfl (by kernel_rfl) (.int Try.underlying3) (.cons rfl (by kernel_rfl) (.int Try.underlying3) (.cons rfl (by kernel_rfl) (.slice Try.underlying24 (by kernel_rfl) (by decide) (.int Try.underlying3)) (.cons rfl (by kernel_rfl) (.slice Try.underlying22 (by kernel_rfl) (by decide) (.int Try.underlying5)) (.cons rfl (by kernel_rfl) (.slice Try.underlying22 (by kernel_rfl) (by decide) (.int Try.underlying5)) .nil)))))))) (hval 1 26 v1 rfl rfl) h1 z1 (fun _ _ h => by cases h)
  obtain ⟨l1, rfl, b1⟩ := fits_note f1
  clear hA0 hval0 hsz0
  have hreal : RepL W (fun _ => False) [] _ _ := (.cons R0 (.cons R1 .nil))
  refine (law_calls (c4 rounds) tt4_ok (.cons ok13 (.cons ok5 (.cons ok12 (.cons ok14 (.cons ok15 (.cons ok16 (.cons ok9 (.cons ok10 (.cons ok6 (.cons ok17 .nil)))))))))) follows rfl Try.func4 (law4 l0 l1 b0 b1 ⟨_, _, _, hreal⟩) hreal).mono fun e W' ⟨he, bel⟩ => ?_
  subst he
  exact ⟨_, rfl, _, _, _, [], _, [], hW', trodAll_mk1 (shut_bool Try.underlying4 _), (trodAll_cons_mk (Below.trod laidOut (by kernel_rfl) (of_decide_eq_true (by kernel_rfl)) k0 bel lt0) (trodAll_cons_mk (Below.trod laidOut (by kernel_rfl) (of_decide_eq_true (by kernel_rfl)) k1 bel lt1) trodAll_mk0)), rfl, bel.frame _, fun h => by cases h⟩
theorem over : Rows.notePutsRow.holds Try.pinned (OpenSpec.ofChange Rows.notePutsSpec) :=
  OpenClaim.holds_of_wide 4 Try.f4 rfl rfl rfl rfl rfl rfl rfl ⟨rfl, rfl, rfl, rfl, rfl⟩ rfl rfl rfl rfl rfl (by kernel_rfl) Try.func4 (by kernel_rfl)
    (of_decide_eq_true (by kernel_rfl)) (by unfold Func.isWrapper; first | (rw [if_pos (by decide +kernel)]; kernel_rfl) | (rw [if_neg (by decide +kernel)]; exact ⟨rfl, rfl⟩))
    (fun os started H enc _ => lifted os started H enc)
theorem proved : Rows.NotePutsSaid := over
end Go.Proofs.Ytjdojmjkldpgnaa.notePuts
namespace Go.Proofs.Ytjdojmjkldpgnaa
/-- The row, under a short name, for the claim. -/
theorem notePuts_holds : Rows.NotePutsSaid := notePuts.proved
#print axioms notePuts_holds
end Go.Proofs.Ytjdojmjkldpgnaa
