/- ChainPuts: for every input the law returns true, and the input reads as it did; no condition beyond the row. -/
import Derived.Test.YtmkgmlgklggnlaaRows
import Derived.WalkKit
import Derived.ProofKit
import Derived.OpenShut
import Derived.ShutString
import Derived.ChangeOld
import Derived.Below
import Derived.SizedLaws
import Derived.Carry
import Derived.Test.YtmkgmlgklggnlaaCd
import Derived.Test.YtmkgmlgklggnlaaGmYchainf
namespace Go.Proofs.YtmkgmlgklggnlaaG
open Go Go.Proofs.YtmkgmlgklggnlaaGm
set_option maxRecDepth 100000
def tt4 : Tab := [(0, ty0), (3, ty3), (4, ty4), (5, ty5), (9, ty9), (22, ty22), (24, ty24), (26, ty26), (27, ty27), (28, ty28), (35, ty35), (52, ty52)]
theorem tt4_ok : TabOk Try.prog tt4 := tabOk_of_all ⟨ty0_ok, ty3_ok, ty4_ok, ty5_ok, ty9_ok, ty22_ok, ty24_ok, ty26_ok, ty27_ok, ty28_ok, ty35_ok, ty52_ok, trivial⟩
def c4 (F : Nat) : Cfg := ⟨tt4, [(15, .pure go15), (16, .pure go16), (18, .pure go23), (19, .pure go19), (20, .pure go20), (21, .pure go21), (22, .pure go21), (23, .pure go23), (24, .pure go24)], F, [], [], 0⟩
theorem f4_eq (F : Nat) (a0_0 : Int) (a0_1 : Int) (a0_2 : Int) (a0_3 : Int) (a0_4 : List (List AV)) (a1_0 : Int) (a1_1 : Int) (a1_2 : Int) (a1_3 : Int) (a1_4 : List (List AV)) : afun (c4 F) Try.f4 [AV.agg [AV.int IntKind.i64 a0_0, AV.int IntKind.i64 a0_1, AV.int IntKind.i64 a0_2, AV.int IntKind.i64 a0_3, AV.ro (Pay.rows 32 a0_4)], AV.agg [AV.int IntKind.i64 a1_0, AV.int IntKind.i64 a1_1, AV.int IntKind.i64 a1_2, AV.int IntKind.i64 a1_3, AV.ro (Pay.rows 32 a1_4)]] [] =
  bif ltI 10 ↑a0_4.length then
    .ret (AV.bool true) [AObj.var 26 [AV.int IntKind.i64 a0_0, AV.int IntKind.i64 a0_1, AV.int IntKind.i64 a0_2, AV.int IntKind.i64 a0_3, AV.ro (Pay.rows 32 a0_4)], AObj.var 26 [AV.int IntKind.i64 a1_0, AV.int IntKind.i64 a1_1, AV.int IntKind.i64 a1_2, AV.int IntKind.i64 a1_3, AV.ro (Pay.rows 32 a1_4)]]
  else
    bif ltI 10 ↑a1_4.length then
      .ret (AV.bool true) [AObj.var 26 [AV.int IntKind.i64 a0_0, AV.int IntKind.i64 a0_1, AV.int IntKind.i64 a0_2, AV.int IntKind.i64 a0_3, AV.ro (Pay.rows 32 a0_4)], AObj.var 26 [AV.int IntKind.i64 a1_0, AV.int IntKind.i64 a1_1, AV.int IntKind.i64 a1_2, AV.int IntKind.i64 a1_3, AV.ro (Pay.rows 32 a1_4)]]
    else
      bif !rightE a0_0 a0_1 a0_2 a0_3 a0_4.length then
        bif !rightE a0_0 a0_1 a0_2 a0_3 a0_4.length == rightE a0_0 a0_1 a0_2 a0_3 a0_4.length then
          .ret (AV.bool false) [AObj.var 26 [AV.int IntKind.i64 a0_0, AV.int IntKind.i64 a0_1, AV.int IntKind.i64 a0_2, AV.int IntKind.i64 a0_3, AV.ro (Pay.rows 32 a0_4)], AObj.var 26 [AV.int IntKind.i64 a1_0, AV.int IntKind.i64 a1_1, AV.int IntKind.i64 a1_2, AV.int IntKind.i64 a1_3, AV.ro (Pay.rows 32 a1_4)]]
        else
          bif okS a0_4 && okS a1_4 then
            bif okS a0_4 && okS a1_4 then
              bif !sameE a0_0 a0_1 a0_2 a0_3 a0_4 a1_0 a1_1 a1_2 a1_3 a1_4 == sameE a0_0 a0_1 a0_2 a0_3 a0_4 a1_0 a1_1 a1_2 a1_3 a1_4 then
                .ret (AV.bool false) [AObj.var 26 [AV.int IntKind.i64 a0_0, AV.int IntKind.i64 a0_1, AV.int IntKind.i64 a0_2, AV.int IntKind.i64 a0_3, AV.ro (Pay.rows 32 a0_4)], AObj.var 26 [AV.int IntKind.i64 a1_0, AV.int IntKind.i64 a1_1, AV.int IntKind.i64 a1_2, AV.int IntKind.i64 a1_3, AV.ro (Pay.rows 32 a1_4)]]
              else
                bif okS a0_4 && okS a0_4 then
                  bif !sameE a0_0 a0_1 a0_2 a0_3 a0_4 a0_0 a0_1 a0_2 a0_3 a0_4 then
                    .ret (AV.bool false) [AObj.var 26 [AV.int IntKind.i64 a0_0, AV.int IntKind.i64 a0_1, AV.int IntKind.i64 a0_2, AV.int IntKind.i64 a0_3, AV.ro (Pay.rows 32 a0_4)], AObj.var 26 [AV.int IntKind.i64 a1_0, AV.int IntKind.i64 a1_1, AV.int IntKind.i64 a1_2, AV.int IntKind.i64 a1_3, AV.ro (Pay.rows 32 a1_4)]]
                  else
                    bif !rightE a0_0 a0_1 a0_2 a0_3 a0_4.length then
                      .ret (AV.bool true) [AObj.var 26 [AV.int IntKind.i64 a0_0, AV.int IntKind.i64 a0_1, AV.int IntKind.i64 a0_2, AV.int IntKind.i64 a0_3, AV.ro (Pay.rows 32 a0_4)], AObj.var 26 [AV.int IntKind.i64 a1_0, AV.int IntKind.i64 a1_1, AV.int IntKind.i64 a1_2, AV.int IntKind.i64 a1_3, AV.ro (Pay.rows 32 a1_4)]]
                    else
                      .stuck
                else
                  .stuck
            else
              .stuck
          else
            .stuck
      else
        bif okS a0_4 then
          bif !rightE a0_0 a0_1 a0_2 a0_3 a0_4.length == rightE a0_0 a0_1 a0_2 a0_3 a0_4.length then
            .ret (AV.bool false) [AObj.var 26 [AV.int IntKind.i64 a0_0, AV.int IntKind.i64 a0_1, AV.int IntKind.i64 a0_2, AV.int IntKind.i64 a0_3, AV.ro (Pay.rows 32 a0_4)], AObj.var 26 [AV.int IntKind.i64 a1_0, AV.int IntKind.i64 a1_1, AV.int IntKind.i64 a1_2, AV.int IntKind.i64 a1_3, AV.ro (Pay.rows 32 a1_4)], AObj.arr 5 (Pay.bytes (encE a0_0 a0_1 a0_2 a0_3 a0_4))]
          else
            bif okS a0_4 && okS a1_4 then
              bif okS a0_4 && okS a1_4 then
                bif !sameE a0_0 a0_1 a0_2 a0_3 a0_4 a1_0 a1_1 a1_2 a1_3 a1_4 == sameE a0_0 a0_1 a0_2 a0_3 a0_4 a1_0 a1_1 a1_2 a1_3 a1_4 then
                  .ret (AV.bool false) [AObj.var 26 [AV.int IntKind.i64 a0_0, AV.int IntKind.i64 a0_1, AV.int IntKind.i64 a0_2, AV.int IntKind.i64 a0_3, AV.ro (Pay.rows 32 a0_4)], AObj.var 26 [AV.int IntKind.i64 a1_0, AV.int IntKind.i64 a1_1, AV.int IntKind.i64 a1_2, AV.int IntKind.i64 a1_3, AV.ro (Pay.rows 32 a1_4)], AObj.arr 5 (Pay.bytes (encE a0_0 a0_1 a0_2 a0_3 a0_4))]
                else
                  bif okS a0_4 && okS a0_4 then
                    bif !sameE a0_0 a0_1 a0_2 a0_3 a0_4 a0_0 a0_1 a0_2 a0_3 a0_4 then
                      .ret (AV.bool false) [AObj.var 26 [AV.int IntKind.i64 a0_0, AV.int IntKind.i64 a0_1, AV.int IntKind.i64 a0_2, AV.int IntKind.i64 a0_3, AV.ro (Pay.rows 32 a0_4)], AObj.var 26 [AV.int IntKind.i64 a1_0, AV.int IntKind.i64 a1_1, AV.int IntKind.i64 a1_2, AV.int IntKind.i64 a1_3, AV.ro (Pay.rows 32 a1_4)], AObj.arr 5 (Pay.bytes (encE a0_0 a0_1 a0_2 a0_3 a0_4))]
                    else
                      bif !rightE a0_0 a0_1 a0_2 a0_3 a0_4.length then
                        bif eqI (↑(List.length (encE a0_0 a0_1 a0_2 a0_3 a0_4))) 0 then
                          .ret (AV.bool false) [AObj.var 26 [AV.int IntKind.i64 a0_0, AV.int IntKind.i64 a0_1, AV.int IntKind.i64 a0_2, AV.int IntKind.i64 a0_3, AV.ro (Pay.rows 32 a0_4)], AObj.var 26 [AV.int IntKind.i64 a1_0, AV.int IntKind.i64 a1_1, AV.int IntKind.i64 a1_2, AV.int IntKind.i64 a1_3, AV.ro (Pay.rows 32 a1_4)], AObj.arr 5 (Pay.bytes (encE a0_0 a0_1 a0_2 a0_3 a0_4))]
                        else
                          .ret (AV.bool false) [AObj.var 26 [AV.int IntKind.i64 a0_0, AV.int IntKind.i64 a0_1, AV.int IntKind.i64 a0_2, AV.int IntKind.i64 a0_3, AV.ro (Pay.rows 32 a0_4)], AObj.var 26 [AV.int IntKind.i64 a1_0, AV.int IntKind.i64 a1_1, AV.int IntKind.i64 a1_2, AV.int IntKind.i64 a1_3, AV.ro (Pay.rows 32 a1_4)], AObj.arr 5 (Pay.bytes (encE a0_0 a0_1 a0_2 a0_3 a0_4))]
                      else
                        bif (List.length (encE a0_0 a0_1 a0_2 a0_3 a0_4)).ble 800000 then
                          bif eqI (IntKind.i64.wrap (0 + (getE (encE a0_0 a0_1 a0_2 a0_3 a0_4)).snd)) 0 then
                            bif okS a0_4 && rightE a0_0 a0_1 a0_2 a0_3 a0_4.length then
                              bif eqS (encE a0_0 a0_1 a0_2 a0_3 a0_4) (encE a0_0 a0_1 a0_2 a0_3 a0_4) then
                                bif okS a0_4 && okS (getE (encE a0_0 a0_1 a0_2 a0_3 a0_4)).fst.snd.snd.snd.snd then
                                  bif sameE a0_0 a0_1 a0_2 a0_3 a0_4 (getE (encE a0_0 a0_1 a0_2 a0_3 a0_4)).fst.fst (getE (encE a0_0 a0_1 a0_2 a0_3 a0_4)).fst.snd.fst (getE (encE a0_0 a0_1 a0_2 a0_3 a0_4)).fst.snd.snd.fst (getE (encE a0_0 a0_1 a0_2 a0_3 a0_4)).fst.snd.snd.snd.fst (getE (encE a0_0 a0_1 a0_2 a0_3 a0_4)).fst.snd.snd.snd.snd then
                                    .ret (AV.bool true) [AObj.var 26 [AV.int IntKind.i64 a0_0, AV.int IntKind.i64 a0_1, AV.int IntKind.i64 a0_2, AV.int IntKind.i64 a0_3, AV.ro (Pay.rows 32 a0_4)], AObj.var 26 [AV.int IntKind.i64 a1_0, AV.int IntKind.i64 a1_1, AV.int IntKind.i64 a1_2, AV.int IntKind.i64 a1_3, AV.ro (Pay.rows 32 a1_4)], AObj.dead, AObj.var 26 [AV.int IntKind.i64 (getE (encE a0_0 a0_1 a0_2 a0_3 a0_4)).fst.fst, AV.int IntKind.i64 (getE (encE a0_0 a0_1 a0_2 a0_3 a0_4)).fst.snd.fst, AV.int IntKind.i64 (getE (encE a0_0 a0_1 a0_2 a0_3 a0_4)).fst.snd.snd.fst, AV.int IntKind.i64 (getE (encE a0_0 a0_1 a0_2 a0_3 a0_4)).fst.snd.snd.snd.fst, AV.ro (Pay.rows 32 (getE (encE a0_0 a0_1 a0_2 a0_3 a0_4)).fst.snd.snd.snd.snd)]]
                                  else
                                    .ret (AV.bool false) [AObj.var 26 [AV.int IntKind.i64 a0_0, AV.int IntKind.i64 a0_1, AV.int IntKind.i64 a0_2, AV.int IntKind.i64 a0_3, AV.ro (Pay.rows 32 a0_4)], AObj.var 26 [AV.int IntKind.i64 a1_0, AV.int IntKind.i64 a1_1, AV.int IntKind.i64 a1_2, AV.int IntKind.i64 a1_3, AV.ro (Pay.rows 32 a1_4)], AObj.dead, AObj.var 26 [AV.int IntKind.i64 (getE (encE a0_0 a0_1 a0_2 a0_3 a0_4)).fst.fst, AV.int IntKind.i64 (getE (encE a0_0 a0_1 a0_2 a0_3 a0_4)).fst.snd.fst, AV.int IntKind.i64 (getE (encE a0_0 a0_1 a0_2 a0_3 a0_4)).fst.snd.snd.fst, AV.int IntKind.i64 (getE (encE a0_0 a0_1 a0_2 a0_3 a0_4)).fst.snd.snd.snd.fst, AV.ro (Pay.rows 32 (getE (encE a0_0 a0_1 a0_2 a0_3 a0_4)).fst.snd.snd.snd.snd)]]
                                else
                                  .stuck
                              else
                                .ret (AV.bool false) [AObj.var 26 [AV.int IntKind.i64 a0_0, AV.int IntKind.i64 a0_1, AV.int IntKind.i64 a0_2, AV.int IntKind.i64 a0_3, AV.ro (Pay.rows 32 a0_4)], AObj.var 26 [AV.int IntKind.i64 a1_0, AV.int IntKind.i64 a1_1, AV.int IntKind.i64 a1_2, AV.int IntKind.i64 a1_3, AV.ro (Pay.rows 32 a1_4)], AObj.dead, AObj.var 26 [AV.int IntKind.i64 (getE (encE a0_0 a0_1 a0_2 a0_3 a0_4)).fst.fst, AV.int IntKind.i64 (getE (encE a0_0 a0_1 a0_2 a0_3 a0_4)).fst.snd.fst, AV.int IntKind.i64 (getE (encE a0_0 a0_1 a0_2 a0_3 a0_4)).fst.snd.snd.fst, AV.int IntKind.i64 (getE (encE a0_0 a0_1 a0_2 a0_3 a0_4)).fst.snd.snd.snd.fst, AV.ro (Pay.rows 32 (getE (encE a0_0 a0_1 a0_2 a0_3 a0_4)).fst.snd.snd.snd.snd)]]
                            else
                              .stuck
                          else
                            .ret (AV.bool false) [AObj.var 26 [AV.int IntKind.i64 a0_0, AV.int IntKind.i64 a0_1, AV.int IntKind.i64 a0_2, AV.int IntKind.i64 a0_3, AV.ro (Pay.rows 32 a0_4)], AObj.var 26 [AV.int IntKind.i64 a1_0, AV.int IntKind.i64 a1_1, AV.int IntKind.i64 a1_2, AV.int IntKind.i64 a1_3, AV.ro (Pay.rows 32 a1_4)], AObj.dead, AObj.var 26 [AV.int IntKind.i64 (getE (encE a0_0 a0_1 a0_2 a0_3 a0_4)).fst.fst, AV.int IntKind.i64 (getE (encE a0_0 a0_1 a0_2 a0_3 a0_4)).fst.snd.fst, AV.int IntKind.i64 (getE (encE a0_0 a0_1 a0_2 a0_3 a0_4)).fst.snd.snd.fst, AV.int IntKind.i64 (getE (encE a0_0 a0_1 a0_2 a0_3 a0_4)).fst.snd.snd.snd.fst, AV.ro (Pay.rows 32 (getE (encE a0_0 a0_1 a0_2 a0_3 a0_4)).fst.snd.snd.snd.snd)]]
                        else
                          .stuck
                  else
                    .stuck
              else
                .stuck
            else
              .stuck
        else
          .stuck := by kernel_rfl


theorem yes_pos {c : Bool} {x y : Res} (h : c = true) (hx : Yes x) : Yes (bif c then x else y) := by rw [h]; exact hx
theorem yes_neg {c : Bool} {x y : Res} (h : c = false) (hy : Yes y) : Yes (bif c then x else y) := by rw [h]; exact hy
theorem yes_bif {c : Bool} {x y : Res} (h1 : c = true → Yes x) (h2 : c = false → Yes y) : Yes (bif c then x else y) := by
  cases c with
  | true => exact h1 rfl
  | false => exact h2 rfl

theorem law4 (n m : EntT) (hn : okS n.2.2.2.2 = true) (hm : okS m.2.2.2.2 = true) (hr : Real [entV n, entV m]) : apure (c4 rounds) Try.f4 [entV n, entV m] = some (.bool true, []) := by
  obtain ⟨k, a, b, c, X⟩ := n
  obtain ⟨k2, a2, b2, c2, Y⟩ := m
  unfold entV at hr ⊢
  dsimp only at hn hm hr ⊢
  have hin := sums_in hr.agg.tail.tail.tail.tail hn
  refine apure_yes ?_
  rw [f4_eq, hn, hm, sameE_self hn]
  refine yes_bif (fun _ => .ret) fun g1 => yes_bif (fun _ => .ret) fun g2 => yes_bif (fun hR => ?_) fun hR => ?_
  · exact yes_neg (by simp) (yes_pos rfl (yes_pos rfl (yes_neg (by simp) (yes_pos rfl (yes_neg rfl (yes_pos hR .ret))))))
  · rw [Bool.not_eq_false'] at hR
    have hg := getE_enc hR hn hin
    have hl := rightE_len hR
    have he := encN_len [k, a, b, c]
    have hs := sumsB_len hn
    rw [show [k, a, b, c].length = 4 from rfl] at he
    have hlen : (encE k a b c X).length ≤ 800000 := by unfold encE; rw [List.length_append]; omega
    rw [hg, hR]
    dsimp only
    rw [hn, sameE_self hn]
    exact yes_pos rfl (yes_neg (by simp) (yes_pos rfl (yes_pos rfl (yes_neg (by simp) (yes_pos rfl (yes_neg rfl (yes_neg rfl (yes_pos (by rw [ble_iff]; exact hlen) (yes_pos rfl (yes_pos rfl (yes_pos (eqS_iff.2 rfl) (yes_pos rfl (yes_pos rfl .ret)))))))))))))
end Go.Proofs.YtmkgmlgklggnlaaG

namespace Go.Proofs.Ytmkgmlgklggnlaa.chainPuts
open Go.ChangeShapes Go.WideShapes Go.ChangeAt Go.RowKit Go.Proofs.YtmkgmlgklggnlaaGm Go.Proofs.YtmkgmlgklggnlaaG
open Go.ChangeMaps (open_string shut_string)
set_option linter.unusedVariables false
theorem own : ownKnob Try.prog.godebug = none := by kernel_rfl
theorem laidOut : laidOutB Try.prog = true := by kernel_rfl
set_option maxRecDepth 100000 in
theorem lifted (os : Os) (started : os.Started) (H : Type) (enc : TypeId × Value → H) :
    ReturnsInHanded {} Try.checked os 4 .any (Rows.chainPutsSpec.pre6 enc Try.prog Try.f4 Rows.chainPutsRow.domain false) (Rows.chainPutsSpec.post enc Try.prog Try.f4 false true false false) := by
  refine returnsInHanded_of_change_sized (C := Try.checked) own started (by kernel_rfl) Try.func4
    (ChangeSpec.witness6 (enc := enc) (C := Try.checked) false ⟨#[], #[.agg #[.int .i64 0, .int .i64 0, .int .i64 0, .int .i64 0, .slice none 0 0], .agg #[.int .i64 0, .int .i64 0, .int .i64 0, .int .i64 0, .slice none 0 0]], []⟩ 8 (by kernel_rfl) (by kernel_rfl) (by kernel_rfl) (by kernel_rfl)) ?_
  intro W base args ds gs before hval0 hW hcnd hsz0 _
  have hval : ∀ (j : Nat) t v, Try.f4.params[j]? = some t → args[j]? = some v → Value.okWide Try.prog W .any base t v := hval0
  have hW' := hW
  obtain ⟨p, q, hA0, hV, rfl, hfz, hnd⟩ := hW
  have hA : DataW.TrodAll enc Try.prog W 0 (fun _ => true) true Try.f4.params.toList args.toList ds p := hA0
  rw [Try.params4] at hA hval
  obtain ⟨v0, vs0, d0, ds0, p0, q0, hargs, rfl, rfl, h0, r0⟩ := trodAll_cons hA
  obtain ⟨v1, vs1, d1, ds1, p1, q1, rfl, rfl, rfl, h1, r1⟩ := trodAll_cons r0
  obtain ⟨rfl, rfl, rfl⟩ := trodAll_nil r1
  obtain rfl : args = #[v0, v1] := by cases args; simp_all
  obtain ⟨rfl, rfl⟩ := trodVars_none hV
  have k0 := h0
  have lt0 : ∀ x ∈ p0, x.block < W.heap.size := by obtain ⟨m, hm⟩ := k0; exact DataW.trod_lt m _ _ _ hm
  have z0 : Sized Try.prog 26 d0 := fun n hn => by simpa using List.all_eq_true.1 hsz0 _ (DataW.weights_mem_each (j := 0) (t := 26) (by kernel_rfl) rfl n hn)
  obtain ⟨V0, R0, f0⟩ := open_arg (sh := (.struct [(.int .i64), (.int .i64), (.int .i64), (.int .i64), (.slice (.array 32 (.int .u8)))])) (.struct Try.underlying26 (by kernel_rfl) (.cons rfl (by kernel_rfl) (.int Try.underlying3) (.cons rfl (by kernel_rfl) (.int Try.underlying3) (.cons rfl (by kernel_rfl) (.int Try.underlying3) (.cons rfl (by kernel_rfl) (.int Try.underlying3) (.cons rfl (by kernel_rfl) (.slice Try.underlying24 (by kernel_rfl) (by decide) (.array Try.underlying52 (by kernel_rfl) (by kernel_rfl) (.int Try.underlying5))) .nil)))))) (hval 0 26 v0 rfl rfl) h0 z0 (fun _ _ h => by cases h)
  obtain ⟨l0, rfl, b0⟩ := fits_entry f0
  have k1 := h1
  have lt1 : ∀ x ∈ p1, x.block < W.heap.size := by obtain ⟨m, hm⟩ := k1; exact DataW.trod_lt m _ _ _ hm
  have z1 : Sized Try.prog 26 d1 := fun n hn => by simpa using List.all_eq_true.1 hsz0 _ (DataW.weights_mem_each (j := 1) (t := 26) (by kernel_rfl) rfl n hn)
  obtain ⟨V1, R1, f1⟩ := open_arg (sh := (.struct [(.int .i64), (.int .i64), (.int .i64), (.int .i64), (.slice (.array 32 (.int .u8)))])) (.struct Try.underlying26 (by kernel_rfl) (.cons rfl (by kernel_rfl) (.int Try.underlying3) (.cons rfl (by kernel_rfl) (.int Try.underlying3) (.cons rfl (by kernel_rfl) (.int Try.underlying3) (.cons rfl (by kernel_rfl) (.int Try.underlying3) (.cons rfl (by kernel_rfl) (.slice Try.underlying24 (by kernel_rfl) (by decide) (.array Try.underlying52 (by kernel_rfl) (by kernel_rfl) (.int Try.underlying5))) .nil)))))) (hval 1 26 v1 rfl rfl) h1 z1 (fun _ _ h => by cases h)
  obtain ⟨l1, rfl, b1⟩ := fits_entry f1
  clear hA0 hval0 hsz0
  have hreal : RepL W (fun _ => False) [] _ _ := (.cons R0 (.cons R1 .nil))
  refine (law_calls (c4 rounds) tt4_ok (.cons ok15 (.cons ok16 (.cons ok18 (.cons ok19 (.cons ok20 (.cons ok21 (.cons ok22 (.cons ok23 (.cons ok24 .nil))))))))) follows rfl Try.func4 (law4 l0 l1 b0 b1 ⟨_, _, _, hreal⟩) hreal).mono fun e W' ⟨he, bel⟩ => ?_
  subst he
  exact ⟨_, rfl, _, _, _, [], _, [], hW', trodAll_mk1 (shut_bool Try.underlying4 _), (trodAll_cons_mk (Below.trod laidOut (by kernel_rfl) (of_decide_eq_true (by kernel_rfl)) k0 bel lt0) (trodAll_cons_mk (Below.trod laidOut (by kernel_rfl) (of_decide_eq_true (by kernel_rfl)) k1 bel lt1) trodAll_mk0)), rfl, bel.frame _, fun h => by cases h⟩
theorem over : Rows.chainPutsRow.holds Try.pinned (OpenSpec.ofChange Rows.chainPutsSpec) :=
  OpenClaim.holds_of_wide 4 Try.f4 rfl rfl rfl rfl rfl rfl rfl ⟨rfl, rfl, rfl, rfl, rfl⟩ rfl rfl rfl rfl rfl (by kernel_rfl) Try.func4 (by kernel_rfl)
    (of_decide_eq_true (by kernel_rfl)) (by unfold Func.isWrapper; first | (rw [if_pos (by decide +kernel)]; kernel_rfl) | (rw [if_neg (by decide +kernel)]; exact ⟨rfl, rfl⟩))
    (fun os started H enc _ => lifted os started H enc)
theorem proved : Rows.ChainPutsSaid := over
end Go.Proofs.Ytmkgmlgklggnlaa.chainPuts
namespace Go.Proofs.Ytmkgmlgklggnlaa
/-- The row, under a short name, for the claim. -/
theorem chainPuts_holds : Rows.ChainPutsSaid := chainPuts.proved
#print axioms chainPuts_holds
end Go.Proofs.Ytmkgmlgklggnlaa
