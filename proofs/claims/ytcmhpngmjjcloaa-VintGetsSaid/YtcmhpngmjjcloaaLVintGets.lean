/- VintGets: for every input the law returns true, and the input reads as it did; no condition beyond the row. -/
import Derived.Test.YtcmhpngmjjcloaaRows
import Derived.WalkKit
import Derived.ProofKit
import Derived.OpenShut
import Derived.ShutString
import Derived.ChangeOld
import Derived.Below
import Derived.SizedLaws
import Derived.Carry
import Derived.Test.YtcmhpngmjjcloaaGl
namespace Go.Proofs.YtcmhpngmjjcloaaG
open Go Go.Proofs.YtcmhpngmjjcloaaGm
set_option maxRecDepth 100000
def tt7 : Tab := [(3, ty3), (4, ty4), (5, ty5), (22, ty22), (29, ty29), (34, ty34), (44, ty44), (46, ty46)]
theorem tt7_ok : TabOk Try.prog tt7 := tabOk_of_all ⟨ty3_ok, ty4_ok, ty5_ok, ty22_ok, ty29_ok, ty34_ok, ty44_ok, ty46_ok, trivial⟩
def c7 (F : Nat) : Cfg := ⟨tt7, [(18, .pure go18), (28, .pure go28), (29, .pure go28), (30, .pure go30)], F, [], [], 0⟩
theorem f7_eq (F : Nat) (a0 : List UInt8) (a1 : Int) : afun (c7 F) Try.f7 [AV.ro (Pay.bytes a0), AV.int IntKind.i64 a1] [] =
  bif ltI 1000 ↑a0.length then
    .ret (AV.bool true) []
  else
    bif eqI (getV a0 a1).fst (getV a0 a1).fst then
      bif eqI (getV a0 a1).snd.fst (getV a0 a1).snd.fst then
        bif eqI (getV a0 a1).snd.snd (getV a0 a1).snd.snd then
          .ret (AV.bool true) []
        else
          .ret (AV.bool false) []
      else
        .ret (AV.bool false) []
    else
      .ret (AV.bool false) [] := by kernel_rfl


theorem law7 (l : List UInt8) (i : Int) (_ : Real [.ro (.bytes l), .int .i64 i]) : apure (c7 rounds) Try.f7 [.ro (.bytes l), .int .i64 i] = some (.bool true, []) := by
  refine apure_yes ?_
  rw [f7_eq, bif_ltI]
  split
  · exact .ret
  · rw [bif_pos (eqI_iff.2 rfl), bif_pos (eqI_iff.2 rfl), bif_pos (eqI_iff.2 rfl)]; exact .ret
end Go.Proofs.YtcmhpngmjjcloaaG

namespace Go.Proofs.Ytcmhpngmjjcloaa.vintGets
open Go.ChangeShapes Go.WideShapes Go.ChangeAt Go.RowKit Go.Proofs.YtcmhpngmjjcloaaGm Go.Proofs.YtcmhpngmjjcloaaG
open Go.ChangeMaps (open_string shut_string)
set_option linter.unusedVariables false
theorem own : ownKnob Try.prog.godebug = none := by kernel_rfl
theorem laidOut : laidOutB Try.prog = true := by kernel_rfl
set_option maxRecDepth 100000 in
theorem lifted (os : Os) (started : os.Started) (H : Type) (enc : TypeId × Value → H) :
    ReturnsInHanded {} Try.checked os 7 .any (Rows.vintGetsSpec.pre6 enc Try.prog Try.f7 Rows.vintGetsRow.domain false) (Rows.vintGetsSpec.post enc Try.prog Try.f7 false true false false) := by
  refine returnsInHanded_of_change_sized (C := Try.checked) own started (by kernel_rfl) Try.func7
    (ChangeSpec.witness6 (enc := enc) (C := Try.checked) false ⟨#[], #[.slice none 0 0, .int .i64 0], []⟩ 8 (by kernel_rfl) (by kernel_rfl) (by kernel_rfl) (by kernel_rfl)) ?_
  intro W base args ds gs before hval0 hW hcnd hsz0 _
  have hval : ∀ (j : Nat) t v, Try.f7.params[j]? = some t → args[j]? = some v → Value.okWide Try.prog W .any base t v := hval0
  have hW' := hW
  obtain ⟨p, q, hA0, hV, rfl, hfz, hnd⟩ := hW
  have hA : DataW.TrodAll enc Try.prog W 0 (fun _ => true) true Try.f7.params.toList args.toList ds p := hA0
  rw [Try.params7] at hA hval
  obtain ⟨v0, vs0, d0, ds0, p0, q0, hargs, rfl, rfl, h0, r0⟩ := trodAll_cons hA
  obtain ⟨v1, vs1, d1, ds1, p1, q1, rfl, rfl, rfl, h1, r1⟩ := trodAll_cons r0
  obtain ⟨rfl, rfl, rfl⟩ := trodAll_nil r1
  obtain rfl : args = #[v0, v1] := by cases args; simp_all
  obtain ⟨rfl, rfl⟩ := trodVars_none hV
  obtain ⟨a0, len0, cap0, rfl⟩ := okWide_slice Try.underlying22 (hval 0 22 v0 rfl rfl)
  have k0 := h0
  have lt0 : ∀ x ∈ p0, x.block < W.heap.size := by obtain ⟨m, hm⟩ := k0; exact DataW.trod_lt m _ _ _ hm
  obtain ⟨z0, w0⟩ : ∃ zs, IsRow .u8 W a0 len0 cap0 zs := by
    obtain ⟨fuel, hf⟩ := h0
    rcases open_ints Try.underlying22 Try.underlying5 (by kernel_rfl) hf with ⟨hcs, _⟩ | ⟨x, l, c, zs, hcs, _, hl, hm, hz, _, hcell, hwz⟩
    · simp [Value.cells] at hcs
      obtain ⟨rfl, rfl, rfl⟩ := hcs
      exact ⟨[], .inl ⟨rfl, rfl, rfl, rfl⟩⟩
    · simp [Value.cells] at hcs
      obtain ⟨rfl, rfl, rfl⟩ := hcs
      exact ⟨zs, .inr ⟨_, rfl, hl, hm, by simpa using hz, hcell, hwz⟩⟩
  obtain ⟨l0, _, R0⟩ := row_bytes w0
  obtain ⟨a1, rfl, rfl, rfl, w1⟩ := open_int Try.underlying3 (hval 1 3 v1 rfl rfl) h1
  have R1 : RepV W (fun _ => False) [] (.int .i64 a1) (.int .i64 a1) := .int (by simpa [Lit.wf, IntKind.has] using w1)
  clear hA0 hval0 hsz0
  have hreal : RepL W (fun _ => False) [] _ _ := (.cons R0 (.cons R1 .nil))
  refine (law_calls (c7 rounds) tt7_ok (.cons ok18 (.cons ok28 (.cons ok29 (.cons ok30 .nil)))) follows rfl Try.func7 (law7 l0 a1 ⟨_, _, _, hreal⟩) hreal).mono fun e W' ⟨he, bel⟩ => ?_
  subst he
  exact ⟨_, rfl, _, _, _, [], _, [], hW', trodAll_mk1 (shut_bool Try.underlying4 _), (trodAll_cons_mk (Below.trod laidOut (by kernel_rfl) (of_decide_eq_true (by kernel_rfl)) k0 bel lt0) (trodAll_cons_mk (shut_int Try.underlying3 w1) trodAll_mk0)), rfl, bel.frame _, fun h => by cases h⟩
theorem over : Rows.vintGetsRow.holds Try.pinned (OpenSpec.ofChange Rows.vintGetsSpec) :=
  OpenClaim.holds_of_wide 7 Try.f7 rfl rfl rfl rfl rfl rfl rfl ⟨rfl, rfl, rfl, rfl, rfl⟩ rfl rfl rfl rfl rfl (by kernel_rfl) Try.func7 (by kernel_rfl)
    (of_decide_eq_true (by kernel_rfl)) (by unfold Func.isWrapper; first | (rw [if_pos (by decide +kernel)]; kernel_rfl) | (rw [if_neg (by decide +kernel)]; exact ⟨rfl, rfl⟩))
    (fun os started H enc _ => lifted os started H enc)
theorem proved : Rows.VintGetsSaid := over
end Go.Proofs.Ytcmhpngmjjcloaa.vintGets
namespace Go.Proofs.Ytcmhpngmjjcloaa
/-- The row, under a short name, for the claim. -/
theorem vintGets_holds : Rows.VintGetsSaid := vintGets.proved
#print axioms vintGets_holds
end Go.Proofs.Ytcmhpngmjjcloaa
