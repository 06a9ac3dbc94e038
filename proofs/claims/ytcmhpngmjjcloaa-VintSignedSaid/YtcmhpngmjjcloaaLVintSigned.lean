/- VintSigned: for every input the law returns true, and the input reads as it did; no condition beyond the row. -/
import Derived.Test.YtcmhpngmjjcloaaRows
import Derived.WalkKit
import Derived.ProofKit
import Derived.OpenShut
import Derived.ShutString
import Derived.ChangeOld
import Derived.Below
import Derived.SizedLaws
import Derived.Carry
import Derived.Test.YtcmhpngmjjcloaaGl
namespace Go.Proofs.YtcmhpngmjjcloaaG
open Go Go.Proofs.YtcmhpngmjjcloaaGm
set_option maxRecDepth 100000
def tt9 : Tab := [(0, ty0), (3, ty3), (4, ty4), (5, ty5), (9, ty9), (22, ty22), (29, ty29), (34, ty34), (50, ty50), (52, ty52)]
theorem tt9_ok : TabOk Try.prog tt9 := tabOk_of_all ⟨ty0_ok, ty3_ok, ty4_ok, ty5_ok, ty9_ok, ty22_ok, ty29_ok, ty34_ok, ty50_ok, ty52_ok, trivial⟩
def c9 (F : Nat) : Cfg := ⟨tt9, [(18, .pure go18), (30, .pure go30), (31, .pure go31), (32, .pure go31), (33, .pure go33), (34, .pure go34), (20, .pure go20)], F, [], [], 0⟩
theorem f9_eq (F : Nat) (a0 : Int) (a1 : List UInt8) (a2 : Int) : afun (c9 F) Try.f9 [AV.int IntKind.i64 a0, AV.ro (Pay.bytes a1), AV.int IntKind.i64 a2] [] =
  bif ltI 1000 ↑a1.length then
    .ret (AV.bool true) []
  else
    bif eqS (enc (zig a0)) (enc (zig a0)) then
      bif eqI (getI a1 a2).fst (getI a1 a2).fst then
        bif eqI (getI a1 a2).snd.fst (getI a1 a2).snd.fst then
          bif eqI (getI a1 a2).snd.snd (getI a1 a2).snd.snd then
            .ret (AV.bool true) []
          else
            .ret (AV.bool false) []
        else
          .ret (AV.bool false) []
      else
        .ret (AV.bool false) []
    else
      .ret (AV.bool false) [] := by kernel_rfl


theorem law9 (n : Int) (l : List UInt8) (i : Int) (_ : Real [.int .i64 n, .ro (.bytes l), .int .i64 i]) : apure (c9 rounds) Try.f9 [.int .i64 n, .ro (.bytes l), .int .i64 i] = some (.bool true, []) := by
  refine apure_yes ?_
  rw [f9_eq, bif_ltI]
  split
  · exact .ret
  · rw [bif_pos (eqS_iff.2 rfl), bif_pos (eqI_iff.2 rfl), bif_pos (eqI_iff.2 rfl), bif_pos (eqI_iff.2 rfl)]; exact .ret
end Go.Proofs.YtcmhpngmjjcloaaG

namespace Go.Proofs.Ytcmhpngmjjcloaa.vintSigned
open Go.ChangeShapes Go.WideShapes Go.ChangeAt Go.RowKit Go.Proofs.YtcmhpngmjjcloaaGm Go.Proofs.YtcmhpngmjjcloaaG
open Go.ChangeMaps (open_string shut_string)
set_option linter.unusedVariables false
theorem own : ownKnob Try.prog.godebug = none := by kernel_rfl
theorem laidOut : laidOutB Try.prog = true := by kernel_rfl
set_option maxRecDepth 100000 in
theorem lifted (os : Os) (started : os.Started) (H : Type) (enc : TypeId × Value → H) :
    ReturnsInHanded {} Try.checked os 9 .any (Rows.vintSignedSpec.pre6 enc Try.prog Try.f9 Rows.vintSignedRow.domain false) (Rows.vintSignedSpec.post enc Try.prog Try.f9 false true false false) := by
  refine returnsInHanded_of_change_sized (C := Try.checked) own started (by kernel_rfl) Try.func9
    (ChangeSpec.witness6 (enc := enc) (C := Try.checked) false ⟨#[], #[.int .i64 0, .slice none 0 0, .int .i64 0], []⟩ 8 (by kernel_rfl) (by kernel_rfl) (by kernel_rfl) (by kernel_rfl)) ?_
  intro W base args ds gs before hval0 hW hcnd hsz0 _
  have hval : ∀ (j : Nat) t v, Try.f9.params[j]? = some t → args[j]? = some v → Value.okWide Try.prog W .any base t v := hval0
  have hW' := hW
  obtain ⟨p, q, hA0, hV, rfl, hfz, hnd⟩ := hW
  have hA : DataW.TrodAll enc Try.prog W 0 (fun _ => true) true Try.f9.params.toList args.toList ds p := hA0
  rw [Try.params9] at hA hval
  obtain ⟨v0, vs0, d0, ds0, p0, q0, hargs, rfl, rfl, h0, r0⟩ := trodAll_cons hA
  obtain ⟨v1, vs1, d1, ds1, p1, q1, rfl, rfl, rfl, h1, r1⟩ := trodAll_cons r0
  obtain ⟨v2, vs2, d2, ds2, p2, q2, rfl, rfl, rfl, h2, r2⟩ := trodAll_cons r1
  obtain ⟨rfl, rfl, rfl⟩ := trodAll_nil r2
  obtain rfl : args = #[v0, v1, v2] := by cases args; simp_all
  obtain ⟨rfl, rfl⟩ := trodVars_none hV
  obtain ⟨a0, rfl, rfl, rfl, w0⟩ := open_int Try.underlying3 (hval 0 3 v0 rfl rfl) h0
  have R0 : RepV W (fun _ => False) [] (.int .i64 a0) (.int .i64 a0) := .int (by simpa [Lit.wf, IntKind.has] using w0)
  obtain ⟨a1, len1, cap1, rfl⟩ := okWide_slice Try.underlying22 (hval 1 22 v1 rfl rfl)
  have k1 := h1
  have lt1 : ∀ x ∈ p1, x.block < W.heap.size := by obtain ⟨m, hm⟩ := k1; exact DataW.trod_lt m _ _ _ hm
  obtain ⟨z1, w1⟩ : ∃ zs, IsRow .u8 W a1 len1 cap1 zs := by
    obtain ⟨fuel, hf⟩ := h1
    rcases open_ints Try.underlying22 Try.underlying5 (by kernel_rfl) hf with ⟨hcs, _⟩ | ⟨x, l, c, zs, hcs, _, hl, hm, hz, _, hcell, hwz⟩
    · simp [Value.cells] at hcs
      obtain ⟨rfl, rfl, rfl⟩ := hcs
      exact ⟨[], .inl ⟨rfl, rfl, rfl, rfl⟩⟩
    · simp [Value.cells] at hcs
      obtain ⟨rfl, rfl, rfl⟩ := hcs
      exact ⟨zs, .inr ⟨_, rfl, hl, hm, by simpa using hz, hcell, hwz⟩⟩
  obtain ⟨l1, _, R1⟩ := row_bytes w1
  obtain ⟨a2, rfl, rfl, rfl, w2⟩ := open_int Try.underlying3 (hval 2 3 v2 rfl rfl) h2
  have R2 : RepV W (fun _ => False) [] (.int .i64 a2) (.int .i64 a2) := .int (by simpa [Lit.wf, IntKind.has] using w2)
  clear hA0 hval0 hsz0
  have hreal : RepL W (fun _ => False) [] _ _ := (.cons R0 (.cons R1 (.cons R2 .nil)))
  refine (law_calls (c9 rounds) tt9_ok (.cons ok18 (.cons ok30 (.cons ok31 (.cons ok32 (.cons ok33 (.cons ok34 (.cons ok20 .nil))))))) follows rfl Try.func9 (law9 a0 l1 a2 ⟨_, _, _, hreal⟩) hreal).mono fun e W' ⟨he, bel⟩ => ?_
  subst he
  exact ⟨_, rfl, _, _, _, [], _, [], hW', trodAll_mk1 (shut_bool Try.underlying4 _), (trodAll_cons_mk (shut_int Try.underlying3 w0) (trodAll_cons_mk (Below.trod laidOut (by kernel_rfl) (of_decide_eq_true (by kernel_rfl)) k1 bel lt1) (trodAll_cons_mk (shut_int Try.underlying3 w2) trodAll_mk0))), rfl, bel.frame _, fun h => by cases h⟩
theorem over : Rows.vintSignedRow.holds Try.pinned (OpenSpec.ofChange Rows.vintSignedSpec) :=
  OpenClaim.holds_of_wide 9 Try.f9 rfl rfl rfl rfl rfl rfl rfl ⟨rfl, rfl, rfl, rfl, rfl⟩ rfl rfl rfl rfl rfl (by kernel_rfl) Try.func9 (by kernel_rfl)
    (of_decide_eq_true (by kernel_rfl)) (by unfold Func.isWrapper; first | (rw [if_pos (by decide +kernel)]; kernel_rfl) | (rw [if_neg (by decide +kernel)]; exact ⟨rfl, rfl⟩))
    (fun os started H enc _ => lifted os started H enc)
theorem proved : Rows.VintSignedSaid := over
end Go.Proofs.Ytcmhpngmjjcloaa.vintSigned
namespace Go.Proofs.Ytcmhpngmjjcloaa
/-- The row, under a short name, for the claim. -/
theorem vintSigned_holds : Rows.VintSignedSaid := vintSigned.proved
#print axioms vintSigned_holds
end Go.Proofs.Ytcmhpngmjjcloaa
