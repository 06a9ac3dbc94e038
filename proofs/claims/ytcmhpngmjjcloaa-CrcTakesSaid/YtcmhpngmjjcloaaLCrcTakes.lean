/- CrcTakes: for every input the law returns true, and the input reads as it did; no condition beyond the row. -/
import Derived.Test.YtcmhpngmjjcloaaRows
import Derived.WalkKit
import Derived.ProofKit
import Derived.OpenShut
import Derived.ShutString
import Derived.ChangeOld
import Derived.Below
import Derived.SizedLaws
import Derived.Carry
import Derived.Test.YtcmhpngmjjcloaaGp
namespace Go.Proofs.YtcmhpngmjjcloaaG
open Go Go.Proofs.YtcmhpngmjjcloaaGm
set_option maxRecDepth 100000
def tt5 : Tab := [(3, ty3), (4, ty4), (5, ty5), (9, ty9), (22, ty22), (34, ty34), (35, ty35), (37, ty37)]
theorem tt5_ok : TabOk Try.prog tt5 := tabOk_of_all ⟨ty3_ok, ty4_ok, ty5_ok, ty9_ok, ty22_ok, ty34_ok, ty35_ok, ty37_ok, trivial⟩
def c5 (F : Nat) : Cfg := ⟨tt5, [(12, .pure go12), (25, .pure go25), (26, .pure go25), (23, .pure go23), (24, .pure go23), (27, .pure go27)], F, [], [], 0⟩
theorem f5_eq (F : Nat) (a0 : List UInt8) : afun (c5 F) Try.f5 [AV.ro (Pay.bytes a0)] [] =
  bif ltI 2000 ↑a0.length then
    .ret (AV.bool true) []
  else
    bif (a0.length + 4).ble 140737488355328 then
      bif (a0.length + 4).ble 140737488355328 then
        bif (a0.length + 4).ble 140737488355328 then
          bif ((crcPut a0).length + 4).ble 140737488355328 then
            bif (a0.length + 4).ble 140737488355328 then
              bif (a0.length + 4).ble 140737488355328 then
                bif eqS (crcPut a0) (crcPut a0) then
                  bif eqS (crcGot a0) (crcGot a0) then
                    bif eqI (crcTake a0) (crcTake a0) then
                      bif eqS (crcGot (crcPut a0)) a0 then
                        bif eqI (crcTake (crcPut a0)) 0 then
                          .ret (AV.bool true) [AObj.dead]
                        else
                          .ret (AV.bool false) [AObj.dead]
                      else
                        .ret (AV.bool false) [AObj.dead]
                    else
                      .ret (AV.bool false) [AObj.dead]
                  else
                    .ret (AV.bool false) [AObj.dead]
                else
                  .ret (AV.bool false) [AObj.dead]
              else
                .stuck
            else
              .stuck
          else
            .stuck
        else
          .stuck
      else
        .stuck
    else
      .stuck := by kernel_rfl


theorem law5 (l : List UInt8) (_ : Real [.ro (.bytes l)]) : apure (c5 rounds) Try.f5 [.ro (.bytes l)] = some (.bool true, []) := by
  refine apure_yes ?_
  rw [f5_eq, bif_ltI]
  split
  · exact .ret
  have h := crcPut_length l
  have ht := take_put l
  have b1 : Nat.ble (l.length + 4) 140737488355328 = true := by rw [ble_iff]; omega
  have b2 : Nat.ble ((crcPut l).length + 4) 140737488355328 = true := by rw [ble_iff]; omega
  rw [b1, b2, ht.1, ht.2]
  simp only [cond_true]
  rw [bif_pos (eqS_iff.2 rfl), bif_pos (eqS_iff.2 rfl), bif_pos (eqI_iff.2 rfl), bif_pos (eqS_iff.2 rfl), bif_pos (by decide)]
  exact .ret
end Go.Proofs.YtcmhpngmjjcloaaG

namespace Go.Proofs.Ytcmhpngmjjcloaa.crcTakes
open Go.ChangeShapes Go.WideShapes Go.ChangeAt Go.RowKit Go.Proofs.YtcmhpngmjjcloaaGm Go.Proofs.YtcmhpngmjjcloaaG
open Go.ChangeMaps (open_string shut_string)
set_option linter.unusedVariables false
theorem own : ownKnob Try.prog.godebug = none := by kernel_rfl
theorem laidOut : laidOutB Try.prog = true := by kernel_rfl
set_option maxRecDepth 100000 in
theorem lifted (os : Os) (started : os.Started) (H : Type) (enc : TypeId × Value → H) :
    ReturnsInHanded {} Try.checked os 5 .any (Rows.crcTakesSpec.pre6 enc Try.prog Try.f5 Rows.crcTakesRow.domain false) (Rows.crcTakesSpec.post enc Try.prog Try.f5 false true false false) := by
  refine returnsInHanded_of_change_sized (C := Try.checked) own started (by kernel_rfl) Try.func5
    (ChangeSpec.witness6 (enc := enc) (C := Try.checked) false ⟨#[], #[.slice none 0 0], []⟩ 8 (by kernel_rfl) (by kernel_rfl) (by kernel_rfl) (by kernel_rfl)) ?_
  intro W base args ds gs before hval0 hW hcnd hsz0 _
  have hval : ∀ (j : Nat) t v, Try.f5.params[j]? = some t → args[j]? = some v → Value.okWide Try.prog W .any base t v := hval0
  have hW' := hW
  obtain ⟨p, q, hA0, hV, rfl, hfz, hnd⟩ := hW
  have hA : DataW.TrodAll enc Try.prog W 0 (fun _ => true) true Try.f5.params.toList args.toList ds p := hA0
  rw [Try.params5] at hA hval
  obtain ⟨v0, vs0, d0, ds0, p0, q0, hargs, rfl, rfl, h0, r0⟩ := trodAll_cons hA
  obtain ⟨rfl, rfl, rfl⟩ := trodAll_nil r0
  obtain rfl : args = #[v0] := by cases args; simp_all
  obtain ⟨rfl, rfl⟩ := trodVars_none hV
  obtain ⟨a0, len0, cap0, rfl⟩ := okWide_slice Try.underlying22 (hval 0 22 v0 rfl rfl)
  have k0 := h0
  have lt0 : ∀ x ∈ p0, x.block < W.heap.size := by obtain ⟨m, hm⟩ := k0; exact DataW.trod_lt m _ _ _ hm
  obtain ⟨z0, w0⟩ : ∃ zs, IsRow .u8 W a0 len0 cap0 zs := by
    obtain ⟨fuel, hf⟩ := h0
    rcases open_ints Try.underlying22 Try.underlying5 (by kernel_rfl) hf with ⟨hcs, _⟩ | ⟨x, l, c, zs, hcs, _, hl, hm, hz, _, hcell, hwz⟩
    · simp [Value.cells] at hcs
      obtain ⟨rfl, rfl, rfl⟩ := hcs
      exact ⟨[], .inl ⟨rfl, rfl, rfl, rfl⟩⟩
    · simp [Value.cells] at hcs
      obtain ⟨rfl, rfl, rfl⟩ := hcs
      exact ⟨zs, .inr ⟨_, rfl, hl, hm, by simpa using hz, hcell, hwz⟩⟩
  obtain ⟨l0, _, R0⟩ := row_bytes w0
  clear hA0 hval0 hsz0
  have hreal : RepL W (fun _ => False) [] _ _ := (.cons R0 .nil)
  refine (law_calls (c5 rounds) tt5_ok (.cons ok12 (.cons ok25 (.cons ok26 (.cons ok23 (.cons ok24 (.cons ok27 .nil)))))) follows rfl Try.func5 (law5 l0 ⟨_, _, _, hreal⟩) hreal).mono fun e W' ⟨he, bel⟩ => ?_
  subst he
  exact ⟨_, rfl, _, _, _, [], _, [], hW', trodAll_mk1 (shut_bool Try.underlying4 _), (trodAll_cons_mk (Below.trod laidOut (by kernel_rfl) (of_decide_eq_true (by kernel_rfl)) k0 bel lt0) trodAll_mk0), rfl, bel.frame _, fun h => by cases h⟩
theorem over : Rows.crcTakesRow.holds Try.pinned (OpenSpec.ofChange Rows.crcTakesSpec) :=
  OpenClaim.holds_of_wide 5 Try.f5 rfl rfl rfl rfl rfl rfl rfl ⟨rfl, rfl, rfl, rfl, rfl⟩ rfl rfl rfl rfl rfl (by kernel_rfl) Try.func5 (by kernel_rfl)
    (of_decide_eq_true (by kernel_rfl)) (by unfold Func.isWrapper; first | (rw [if_pos (by decide +kernel)]; kernel_rfl) | (rw [if_neg (by decide +kernel)]; exact ⟨rfl, rfl⟩))
    (fun os started H enc _ => lifted os started H enc)
theorem proved : Rows.CrcTakesSaid := over
end Go.Proofs.Ytcmhpngmjjcloaa.crcTakes
namespace Go.Proofs.Ytcmhpngmjjcloaa
/-- The row, under a short name, for the claim. -/
theorem crcTakes_holds : Rows.CrcTakesSaid := crcTakes.proved
#print axioms crcTakes_holds
end Go.Proofs.Ytcmhpngmjjcloaa
