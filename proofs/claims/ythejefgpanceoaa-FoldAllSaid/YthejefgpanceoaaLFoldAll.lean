/- FoldAll: for every input the law returns true, and the input reads as it did; no condition beyond the row. -/
import Derived.Test.YthejefgpanceoaaRows
import Derived.WalkKit
import Derived.ProofKit
import Derived.OpenShut
import Derived.ShutString
import Derived.ChangeOld
import Derived.Below
import Derived.SizedLaws
import Derived.Carry
import Derived.Test.YthejefgpanceoaaGr
import Derived.Test.YthejefgpanceoaaGm3
namespace Go.Proofs.YthejefgpanceoaaG
open Go Go.Proofs.YthejefgpanceoaaGm
set_option maxRecDepth 100000
def tt3 : Tab := [(0, ty0), (3, ty3), (4, ty4), (5, ty5), (9, ty9), (22, ty22), (26, ty26), (28, ty28), (29, ty29), (30, ty30), (32, ty32)]
theorem tt3_ok : TabOk Try.prog tt3 := tabOk_of_all ⟨ty0_ok, ty3_ok, ty4_ok, ty5_ok, ty9_ok, ty22_ok, ty26_ok, ty28_ok, ty29_ok, ty30_ok, ty32_ok, trivial⟩
def c3 (F : Nat) : Cfg := ⟨tt3, [(11, .pure go11), (12, .pure go12), (13, .pure go13), (14, .pure go13), (15, .pure go15), (16, .pure go16)], F, [], [], 0⟩
theorem f3_eq (F : Nat) (a0 : Int) (vs : List Vl) : afun (c3 F) Try.f3 [AV.int IntKind.i64 a0, AV.ro (Pay.rows 3 (List.map valRow vs))] [] =
  bif allVal (List.map valRow vs) then
    bif longV (decVals (List.map valRow vs)) 0 0 then
      .ret (AV.bool true) []
    else
      bif allVal (List.map valRow vs) then
        bif allVal (List.map valRow vs) then
          bif sameP (((allP a0 ((0, 0, []), 0) (decVals (List.map valRow vs))).fst.fst.fst, (allP a0 ((0, 0, []), 0) (decVals (List.map valRow vs))).fst.fst.snd.fst, (allP a0 ((0, 0, []), 0) (decVals (List.map valRow vs))).fst.fst.snd.snd), (allP a0 ((0, 0, []), 0) (decVals (List.map valRow vs))).fst.snd) (((allP a0 ((0, 0, []), 0) (decVals (List.map valRow vs))).fst.fst.fst, (allP a0 ((0, 0, []), 0) (decVals (List.map valRow vs))).fst.fst.snd.fst, (allP a0 ((0, 0, []), 0) (decVals (List.map valRow vs))).fst.fst.snd.snd), (allP a0 ((0, 0, []), 0) (decVals (List.map valRow vs))).fst.snd) then
            bif eqI (allP a0 ((0, 0, []), 0) (decVals (List.map valRow vs))).snd (allP a0 ((0, 0, []), 0) (decVals (List.map valRow vs))).snd then
              .ret (AV.bool true) [AObj.var 28 [AV.int IntKind.u8 (allP a0 ((0, 0, []), 0) (decVals (List.map valRow vs))).fst.fst.fst, AV.int IntKind.i64 (allP a0 ((0, 0, []), 0) (decVals (List.map valRow vs))).fst.fst.snd.fst, AV.str (allP a0 ((0, 0, []), 0) (decVals (List.map valRow vs))).fst.fst.snd.snd, AV.int IntKind.i64 (allP a0 ((0, 0, []), 0) (decVals (List.map valRow vs))).fst.snd], AObj.var 28 [AV.int IntKind.u8 (allP a0 ((0, 0, []), 0) (decVals (List.map valRow vs))).fst.fst.fst, AV.int IntKind.i64 (allP a0 ((0, 0, []), 0) (decVals (List.map valRow vs))).fst.fst.snd.fst, AV.str (allP a0 ((0, 0, []), 0) (decVals (List.map valRow vs))).fst.fst.snd.snd, AV.int IntKind.i64 (allP a0 ((0, 0, []), 0) (decVals (List.map valRow vs))).fst.snd]]
            else
              .ret (AV.bool false) [AObj.var 28 [AV.int IntKind.u8 (allP a0 ((0, 0, []), 0) (decVals (List.map valRow vs))).fst.fst.fst, AV.int IntKind.i64 (allP a0 ((0, 0, []), 0) (decVals (List.map valRow vs))).fst.fst.snd.fst, AV.str (allP a0 ((0, 0, []), 0) (decVals (List.map valRow vs))).fst.fst.snd.snd, AV.int IntKind.i64 (allP a0 ((0, 0, []), 0) (decVals (List.map valRow vs))).fst.snd], AObj.var 28 [AV.int IntKind.u8 (allP a0 ((0, 0, []), 0) (decVals (List.map valRow vs))).fst.fst.fst, AV.int IntKind.i64 (allP a0 ((0, 0, []), 0) (decVals (List.map valRow vs))).fst.fst.snd.fst, AV.str (allP a0 ((0, 0, []), 0) (decVals (List.map valRow vs))).fst.fst.snd.snd, AV.int IntKind.i64 (allP a0 ((0, 0, []), 0) (decVals (List.map valRow vs))).fst.snd]]
          else
            .ret (AV.bool false) [AObj.var 28 [AV.int IntKind.u8 (allP a0 ((0, 0, []), 0) (decVals (List.map valRow vs))).fst.fst.fst, AV.int IntKind.i64 (allP a0 ((0, 0, []), 0) (decVals (List.map valRow vs))).fst.fst.snd.fst, AV.str (allP a0 ((0, 0, []), 0) (decVals (List.map valRow vs))).fst.fst.snd.snd, AV.int IntKind.i64 (allP a0 ((0, 0, []), 0) (decVals (List.map valRow vs))).fst.snd], AObj.var 28 [AV.int IntKind.u8 (allP a0 ((0, 0, []), 0) (decVals (List.map valRow vs))).fst.fst.fst, AV.int IntKind.i64 (allP a0 ((0, 0, []), 0) (decVals (List.map valRow vs))).fst.fst.snd.fst, AV.str (allP a0 ((0, 0, []), 0) (decVals (List.map valRow vs))).fst.fst.snd.snd, AV.int IntKind.i64 (allP a0 ((0, 0, []), 0) (decVals (List.map valRow vs))).fst.snd]]
        else
          .stuck
      else
        .stuck
  else
    .stuck := by kernel_rfl


theorem law3 (f : Int) (vs : List Vl) (hv : ∀ v ∈ vs, v.2.2.length ≤ roomB) (_ : Real [.int .i64 f, .ro (.rows 3 (vs.map valRow))]) : apure (c3 rounds) Try.f3 [.int .i64 f, .ro (.rows 3 (vs.map valRow))] = some (.bool true, []) := by
  refine apure_yes ?_
  have ha := allVal_map hv
  rw [f3_eq, bif_pos ha]
  cases longV (decVals (vs.map valRow)) 0 0 with
  | true => exact .ret
  | false =>
    rw [cond_false, bif_pos ha, bif_pos ha, bif_pos (sameP_self _), bif_pos (eqI_iff.2 rfl)]
    exact .ret
end Go.Proofs.YthejefgpanceoaaG

namespace Go.Proofs.Ythejefgpanceoaa.foldAll
open Go.ChangeShapes Go.WideShapes Go.ChangeAt Go.RowKit Go.Proofs.YthejefgpanceoaaGm Go.Proofs.YthejefgpanceoaaG
open Go.ChangeMaps (open_string shut_string)
set_option linter.unusedVariables false
theorem own : ownKnob Try.prog.godebug = none := by kernel_rfl
theorem laidOut : laidOutB Try.prog = true := by kernel_rfl
set_option maxRecDepth 100000 in
theorem lifted (os : Os) (started : os.Started) (H : Type) (enc : TypeId × Value → H) :
    ReturnsInHanded {} Try.checked os 3 .any (Rows.foldAllSpec.pre6 enc Try.prog Try.f3 Rows.foldAllRow.domain false) (Rows.foldAllSpec.post enc Try.prog Try.f3 false true false false) := by
  refine returnsInHanded_of_change_sized (C := Try.checked) own started (by kernel_rfl) Try.func3
    (ChangeSpec.witness6 (enc := enc) (C := Try.checked) false ⟨#[], #[.int .i64 0, .slice none 0 0], []⟩ 8 (by kernel_rfl) (by kernel_rfl) (by kernel_rfl) (by kernel_rfl)) ?_
  intro W base args ds gs before hval0 hW hcnd hsz0 _
  have hval : ∀ (j : Nat) t v, Try.f3.params[j]? = some t → args[j]? = some v → Value.okWide Try.prog W .any base t v := hval0
  have hW' := hW
  obtain ⟨p, q, hA0, hV, rfl, hfz, hnd⟩ := hW
  have hA : DataW.TrodAll enc Try.prog W 0 (fun _ => true) true Try.f3.params.toList args.toList ds p := hA0
  rw [Try.params3] at hA hval
  obtain ⟨v0, vs0, d0, ds0, p0, q0, hargs, rfl, rfl, h0, r0⟩ := trodAll_cons hA
  obtain ⟨v1, vs1, d1, ds1, p1, q1, rfl, rfl, rfl, h1, r1⟩ := trodAll_cons r0
  obtain ⟨rfl, rfl, rfl⟩ := trodAll_nil r1
  obtain rfl : args = #[v0, v1] := by cases args; simp_all
  obtain ⟨rfl, rfl⟩ := trodVars_none hV
  obtain ⟨a0, rfl, rfl, rfl, w0⟩ := open_int Try.underlying3 (hval 0 3 v0 rfl rfl) h0
  have R0 : RepV W (fun _ => False) [] (.int .i64 a0) (.int .i64 a0) := .int (by simpa [Lit.wf, IntKind.has] using w0)
  have k1 := h1
  have lt1 : ∀ x ∈ p1, x.block < W.heap.size := by obtain ⟨m, hm⟩ := k1; exact DataW.trod_lt m _ _ _ hm
  have z1 : Sized Try.prog 22 d1 := fun n hn => by simpa using List.all_eq_true.1 hsz0 _ (DataW.weights_mem_each (j := 1) (t := 22) (by kernel_rfl) rfl n hn)
  obtain ⟨V1, R1, f1⟩ := open_arg (sh := (.slice (.struct [(.int .u8), (.int .i64), .str]))) (.slice Try.underlying22 (by kernel_rfl) (by decide) (.struct Try.underlying26 (by kernel_rfl) (.cons rfl (by kernel_rfl) (.int Try.underlying5) (.cons rfl (by kernel_rfl) (.int Try.underlying3) (.cons rfl (by kernel_rfl) (.str Try.underlying9) .nil))))) (hval 1 22 v1 rfl rfl) h1 z1 (fun _ _ h => by cases h)
  obtain ⟨l1, rfl, b1⟩ := fits_vals f1
  clear hA0 hval0 hsz0
  have hreal : RepL W (fun _ => False) [] _ _ := (.cons R0 (.cons R1 .nil))
  refine (law_calls (c3 rounds) tt3_ok (.cons ok11 (.cons ok12 (.cons ok13 (.cons ok14 (.cons ok15 (.cons ok16 .nil)))))) follows rfl Try.func3 (law3 a0 l1 b1 ⟨_, _, _, hreal⟩) hreal).mono fun e W' ⟨he, bel⟩ => ?_
  subst he
  exact ⟨_, rfl, _, _, _, [], _, [], hW', trodAll_mk1 (shut_bool Try.underlying4 _), (trodAll_cons_mk (shut_int Try.underlying3 w0) (trodAll_cons_mk (Below.trod laidOut (by kernel_rfl) (of_decide_eq_true (by kernel_rfl)) k1 bel lt1) trodAll_mk0)), rfl, bel.frame _, fun h => by cases h⟩
theorem over : Rows.foldAllRow.holds Try.pinned (OpenSpec.ofChange Rows.foldAllSpec) :=
  OpenClaim.holds_of_wide 3 Try.f3 rfl rfl rfl rfl rfl rfl rfl ⟨rfl, rfl, rfl, rfl, rfl⟩ rfl rfl rfl rfl rfl (by kernel_rfl) Try.func3 (by kernel_rfl)
    (of_decide_eq_true (by kernel_rfl)) (by unfold Func.isWrapper; first | (rw [if_pos (by decide +kernel)]; kernel_rfl) | (rw [if_neg (by decide +kernel)]; exact ⟨rfl, rfl⟩))
    (fun os started H enc _ => lifted os started H enc)
theorem proved : Rows.FoldAllSaid := over
end Go.Proofs.Ythejefgpanceoaa.foldAll
namespace Go.Proofs.Ythejefgpanceoaa
/-- The row, under a short name, for the claim. -/
theorem foldAll_holds : Rows.FoldAllSaid := foldAll.proved
#print axioms foldAll_holds
end Go.Proofs.Ythejefgpanceoaa
