/- CrcSums: for every input the law returns true, and the input reads as it did; no condition beyond the row. -/
import Derived.Test.YtcmhpngmjjcloaaRows
import Derived.WalkKit
import Derived.ProofKit
import Derived.OpenShut
import Derived.ShutString
import Derived.ChangeOld
import Derived.Below
import Derived.SizedLaws
import Derived.Carry
import Derived.Test.YtcmhpngmjjcloaaGp
namespace Go.Proofs.YtcmhpngmjjcloaaG
open Go Go.Proofs.YtcmhpngmjjcloaaGm
set_option maxRecDepth 100000
def tt3 : Tab := [(0, ty0), (3, ty3), (4, ty4), (5, ty5), (22, ty22), (23, ty23)]
theorem tt3_ok : TabOk Try.prog tt3 := tabOk_of_all ⟨ty0_ok, ty3_ok, ty4_ok, ty5_ok, ty22_ok, ty23_ok, trivial⟩
def c3 (F : Nat) : Cfg := ⟨tt3, [(12, .pure go12), (13, .pure go14), (14, .pure go14), (15, .pure go15), (16, .pure go16), (17, .pure go16)], F, [], [], 0⟩
theorem f3_eq (F : Nat) (a0 : List UInt8) (a1 : List UInt8) (a2 : Int) (a3 : Int) : afun (c3 F) Try.f3 [AV.ro (Pay.bytes a0), AV.ro (Pay.bytes a1), AV.int IntKind.u32 a2, AV.int IntKind.u8 a3] [] =
  bif ltI 2000 ↑a0.length then
    .ret (AV.bool true) []
  else
    bif ltI 2000 ↑a1.length then
      .ret (AV.bool true) []
    else
      bif appFits ty5 (Pay.bytes (List.replicate 0 0 ++ a0)) then
        bif appFits ty5 (Pay.bytes (List.replicate 0 0 ++ a0 ++ a1)) then
          bif eqI (crcOf a0) (crcOf a0) then
            bif eqI (crcMore (crcOf a0) a1) (crcOf (List.replicate 0 0 ++ a0 ++ a1)) then
              bif eqI (crcB a2 a3) (crcB a2 a3) then
                .ret (AV.bool true) [AObj.arr 5 (Pay.bytes (List.replicate 0 0 ++ a0 ++ a1))]
              else
                .ret (AV.bool false) [AObj.arr 5 (Pay.bytes (List.replicate 0 0 ++ a0 ++ a1))]
            else
              .ret (AV.bool false) [AObj.arr 5 (Pay.bytes (List.replicate 0 0 ++ a0 ++ a1))]
          else
            .ret (AV.bool false) [AObj.arr 5 (Pay.bytes (List.replicate 0 0 ++ a0 ++ a1))]
        else
          .stuck
      else
        .stuck := by kernel_rfl


theorem law3 (a b : List UInt8) (s c : Int) (_ : Real [.ro (.bytes a), .ro (.bytes b), .int .u32 s, .int .u8 c]) : apure (c3 rounds) Try.f3 [.ro (.bytes a), .ro (.bytes b), .int .u32 s, .int .u8 c] = some (.bool true, []) := by
  refine apure_yes ?_
  rw [f3_eq, bif_ltI]
  split
  · exact .ret
  rw [bif_ltI]
  split
  · exact .ret
  rw [List.replicate_zero, List.nil_append, bif_pos (by rw [fits5]; omega), bif_pos (by rw [fits5]; simp; omega), bif_pos (eqI_iff.2 rfl), bif_pos (eqI_iff.2 (crcMore_append a b)), bif_pos (eqI_iff.2 rfl)]
  exact .ret
end Go.Proofs.YtcmhpngmjjcloaaG

namespace Go.Proofs.Ytcmhpngmjjcloaa.crcSums
open Go.ChangeShapes Go.WideShapes Go.ChangeAt Go.RowKit Go.Proofs.YtcmhpngmjjcloaaGm Go.Proofs.YtcmhpngmjjcloaaG
open Go.ChangeMaps (open_string shut_string)
set_option linter.unusedVariables false
theorem own : ownKnob Try.prog.godebug = none := by kernel_rfl
theorem laidOut : laidOutB Try.prog = true := by kernel_rfl
set_option maxRecDepth 100000 in
theorem lifted (os : Os) (started : os.Started) (H : Type) (enc : TypeId × Value → H) :
    ReturnsInHanded {} Try.checked os 3 .any (Rows.crcSumsSpec.pre6 enc Try.prog Try.f3 Rows.crcSumsRow.domain false) (Rows.crcSumsSpec.post enc Try.prog Try.f3 false true false false) := by
  refine returnsInHanded_of_change_sized (C := Try.checked) own started (by kernel_rfl) Try.func3
    (ChangeSpec.witness6 (enc := enc) (C := Try.checked) false ⟨#[], #[.slice none 0 0, .slice none 0 0, .int .u32 0, .int .u8 0], []⟩ 8 (by kernel_rfl) (by kernel_rfl) (by kernel_rfl) (by kernel_rfl)) ?_
  intro W base args ds gs before hval0 hW hcnd hsz0 _
  have hval : ∀ (j : Nat) t v, Try.f3.params[j]? = some t → args[j]? = some v → Value.okWide Try.prog W .any base t v := hval0
  have hW' := hW
  obtain ⟨p, q, hA0, hV, rfl, hfz, hnd⟩ := hW
  have hA : DataW.TrodAll enc Try.prog W 0 (fun _ => true) true Try.f3.params.toList args.toList ds p := hA0
  rw [Try.params3] at hA hval
  obtain ⟨v0, vs0, d0, ds0, p0, q0, hargs, rfl, rfl, h0, r0⟩ := trodAll_cons hA
  obtain ⟨v1, vs1, d1, ds1, p1, q1, rfl, rfl, rfl, h1, r1⟩ := trodAll_cons r0
  obtain ⟨v2, vs2, d2, ds2, p2, q2, rfl, rfl, rfl, h2, r2⟩ := trodAll_cons r1
  obtain ⟨v3, vs3, d3, ds3, p3, q3, rfl, rfl, rfl, h3, r3⟩ := trodAll_cons r2
  obtain ⟨rfl, rfl, rfl⟩ := trodAll_nil r3
  obtain rfl : args = #[v0, v1, v2, v3] := by cases args; simp_all
  obtain ⟨rfl, rfl⟩ := trodVars_none hV
  obtain ⟨a0, len0, cap0, rfl⟩ := okWide_slice Try.underlying22 (hval 0 22 v0 rfl rfl)
  have k0 := h0
  have lt0 : ∀ x ∈ p0, x.block < W.heap.size := by obtain ⟨m, hm⟩ := k0; exact DataW.trod_lt m _ _ _ hm
  obtain ⟨z0, w0⟩ : ∃ zs, IsRow .u8 W a0 len0 cap0 zs := by
    obtain ⟨fuel, hf⟩ := h0
    rcases open_ints Try.underlying22 Try.underlying5 (by kernel_rfl) hf with ⟨hcs, _⟩ | ⟨x, l, c, zs, hcs, _, hl, hm, hz, _, hcell, hwz⟩
    · simp [Value.cells] at hcs
      obtain ⟨rfl, rfl, rfl⟩ := hcs
      exact ⟨[], .inl ⟨rfl, rfl, rfl, rfl⟩⟩
    · simp [Value.cells] at hcs
      obtain ⟨rfl, rfl, rfl⟩ := hcs
      exact ⟨zs, .inr ⟨_, rfl, hl, hm, by simpa using hz, hcell, hwz⟩⟩
  obtain ⟨l0, _, R0⟩ := row_bytes w0
  obtain ⟨a1, len1, cap1, rfl⟩ := okWide_slice Try.underlying22 (hval 1 22 v1 rfl rfl)
  have k1 := h1
  have lt1 : ∀ x ∈ p1, x.block < W.heap.size := by obtain ⟨m, hm⟩ := k1; exact DataW.trod_lt m _ _ _ hm
  obtain ⟨z1, w1⟩ : ∃ zs, IsRow .u8 W a1 len1 cap1 zs := by
    obtain ⟨fuel, hf⟩ := h1
    rcases open_ints Try.underlying22 Try.underlying5 (by kernel_rfl) hf with ⟨hcs, _⟩ | ⟨x, l, c, zs, hcs, _, hl, hm, hz, _, hcell, hwz⟩
    · simp [Value.cells] at hcs
      obtain ⟨rfl, rfl, rfl⟩ := hcs
      exact ⟨[], .inl ⟨rfl, rfl, rfl, rfl⟩⟩
    · simp [Value.cells] at hcs
      obtain ⟨rfl, rfl, rfl⟩ := hcs
      exact ⟨zs, .inr ⟨_, rfl, hl, hm, by simpa using hz, hcell, hwz⟩⟩
  obtain ⟨l1, _, R1⟩ := row_bytes w1
  obtain ⟨a2, rfl, rfl, rfl, w2⟩ := open_int Try.underlying23 (hval 2 23 v2 rfl rfl) h2
  have R2 : RepV W (fun _ => False) [] (.int .u32 a2) (.int .u32 a2) := .int (by simpa [Lit.wf, IntKind.has] using w2)
  obtain ⟨a3, rfl, rfl, rfl, w3⟩ := open_int Try.underlying5 (hval 3 5 v3 rfl rfl) h3
  have R3 : RepV W (fun _ => False) [] (.int .u8 a3) (.int .u8 a3) := .int (by simpa [Lit.wf, IntKind.has] using w3)
  clear hA0 hval0 hsz0
  have hreal : RepL W (fun _ => False) [] _ _ := (.cons R0 (.cons R1 (.cons R2 (.cons R3 .nil))))
  refine (law_calls (c3 rounds) tt3_ok (.cons ok12 (.cons ok13 (.cons ok14 (.cons ok15 (.cons ok16 (.cons ok17 .nil)))))) follows rfl Try.func3 (law3 l0 l1 a2 a3 ⟨_, _, _, hreal⟩) hreal).mono fun e W' ⟨he, bel⟩ => ?_
  subst he
  exact ⟨_, rfl, _, _, _, [], _, [], hW', trodAll_mk1 (shut_bool Try.underlying4 _), (trodAll_cons_mk (Below.trod laidOut (by kernel_rfl) (of_decide_eq_true (by kernel_rfl)) k0 bel lt0) (trodAll_cons_mk (Below.trod laidOut (by kernel_rfl) (of_decide_eq_true (by kernel_rfl)) k1 bel lt1) (trodAll_cons_mk (shut_int Try.underlying23 w2) (trodAll_cons_mk (shut_int Try.underlying5 w3) trodAll_mk0)))), rfl, bel.frame _, fun h => by cases h⟩
theorem over : Rows.crcSumsRow.holds Try.pinned (OpenSpec.ofChange Rows.crcSumsSpec) :=
  OpenClaim.holds_of_wide 3 Try.f3 rfl rfl rfl rfl rfl rfl rfl ⟨rfl, rfl, rfl, rfl, rfl⟩ rfl rfl rfl rfl rfl (by kernel_rfl) Try.func3 (by kernel_rfl)
    (of_decide_eq_true (by kernel_rfl)) (by unfold Func.isWrapper; first | (rw [if_pos (by decide +kernel)]; kernel_rfl) | (rw [if_neg (by decide +kernel)]; exact ⟨rfl, rfl⟩))
    (fun os started H enc _ => lifted os started H enc)
theorem proved : Rows.CrcSumsSaid := over
end Go.Proofs.Ytcmhpngmjjcloaa.crcSums
namespace Go.Proofs.Ytcmhpngmjjcloaa
/-- The row, under a short name, for the claim. -/
theorem crcSums_holds : Rows.CrcSumsSaid := crcSums.proved
#print axioms crcSums_holds
end Go.Proofs.Ytcmhpngmjjcloaa
