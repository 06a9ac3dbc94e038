/- VintOnce: for every input the law returns true, and the input reads as it did; no condition beyond the row. -/
import Derived.Test.YtcmhpngmjjcloaaRows
import Derived.WalkKit
import Derived.ProofKit
import Derived.OpenShut
import Derived.ShutString
import Derived.ChangeOld
import Derived.Below
import Derived.SizedLaws
import Derived.Carry
import Derived.Test.YtcmhpngmjjcloaaGl
namespace Go.Proofs.YtcmhpngmjjcloaaG
open Go Go.Proofs.YtcmhpngmjjcloaaGm
set_option maxRecDepth 100000
def tt8 : Tab := [(0, ty0), (3, ty3), (4, ty4), (5, ty5), (9, ty9), (22, ty22), (29, ty29), (34, ty34), (44, ty44)]
theorem tt8_ok : TabOk Try.prog tt8 := tabOk_of_all ⟨ty0_ok, ty3_ok, ty4_ok, ty5_ok, ty9_ok, ty22_ok, ty29_ok, ty34_ok, ty44_ok, trivial⟩
def c8 (F : Nat) : Cfg := ⟨tt8, [(18, .pure go18), (28, .pure go28), (30, .pure go30), (19, .pure go19)], F, [], [], 0⟩
theorem f8_eq (F : Nat) (a0 : List UInt8) (a1 : Int) : afun (c8 F) Try.f8 [AV.ro (Pay.bytes a0), AV.int IntKind.u8 a1] [] =
  bif ltI 1000 ↑a0.length then
    .ret (AV.bool true) []
  else
    bif !eqI (getV a0 (IntKind.i64.wrap a1)).snd.snd 0 then
      bif eqI (getV a0 (IntKind.i64.wrap a1)).fst 0 then
        bif eqI (getV a0 (IntKind.i64.wrap a1)).snd.fst 0 then
          .ret (AV.bool true) []
        else
          .ret (AV.bool false) []
      else
        .ret (AV.bool false) []
    else
      bif ltI (IntKind.i64.wrap a1) (getV a0 (IntKind.i64.wrap a1)).snd.fst then
        bif leI (getV a0 (IntKind.i64.wrap a1)).snd.fst ↑a0.length then
          bif leI 0 a1 && leI a1 (getV a0 (IntKind.i64.wrap a1)).snd.fst && leI (getV a0 (IntKind.i64.wrap a1)).snd.fst ↑a0.length then
            bif eqS (enc (getV a0 (IntKind.i64.wrap a1)).fst) (List.take ((getV a0 (IntKind.i64.wrap a1)).snd.fst.toNat - a1.toNat) (List.drop a1.toNat a0)) then
              .ret (AV.bool true) []
            else
              .ret (AV.bool false) []
          else
            .stuck
        else
          .ret (AV.bool false) []
      else
        .ret (AV.bool false) [] := by kernel_rfl


theorem law8 (l : List UInt8) (i : Int) (hr : Real [.ro (.bytes l), .int .u8 i]) : apure (c8 rounds) Try.f8 [.ro (.bytes l), .int .u8 i] = some (.bool true, []) := by
  have hi := hasu8 hr.tail.int
  refine apure_yes ?_
  rw [f8_eq, wrap64 (n := i) (by omega) (by omega), bif_ltI]
  split
  · exact .ret
  · rw [bif_neI]
    split
    · rename_i h
      obtain ⟨h1, h2, h3, h4, h5, h6⟩ := getV_once l i h
      have hl := len9_range (getV l i).1
      rw [bif_pos (by rw [ltI_iff]; omega), bif_pos (by rw [leI_iff]; omega), bif_pos (by simp [leI]; omega), bif_pos (by rw [eqS_iff, h6, h2]; congr 1; omega)]
      exact .ret
    · rename_i h
      have := getV_bad l i h
      rw [this.1, this.2]
      exact .ret
end Go.Proofs.YtcmhpngmjjcloaaG

namespace Go.Proofs.Ytcmhpngmjjcloaa.vintOnce
open Go.ChangeShapes Go.WideShapes Go.ChangeAt Go.RowKit Go.Proofs.YtcmhpngmjjcloaaGm Go.Proofs.YtcmhpngmjjcloaaG
open Go.ChangeMaps (open_string shut_string)
set_option linter.unusedVariables false
theorem own : ownKnob Try.prog.godebug = none := by kernel_rfl
theorem laidOut : laidOutB Try.prog = true := by kernel_rfl
set_option maxRecDepth 100000 in
theorem lifted (os : Os) (started : os.Started) (H : Type) (enc : TypeId × Value → H) :
    ReturnsInHanded {} Try.checked os 8 .any (Rows.vintOnceSpec.pre6 enc Try.prog Try.f8 Rows.vintOnceRow.domain false) (Rows.vintOnceSpec.post enc Try.prog Try.f8 false true false false) := by
  refine returnsInHanded_of_change_sized (C := Try.checked) own started (by kernel_rfl) Try.func8
    (ChangeSpec.witness6 (enc := enc) (C := Try.checked) false ⟨#[], #[.slice none 0 0, .int .u8 0], []⟩ 8 (by kernel_rfl) (by kernel_rfl) (by kernel_rfl) (by kernel_rfl)) ?_
  intro W base args ds gs before hval0 hW hcnd hsz0 _
  have hval : ∀ (j : Nat) t v, Try.f8.params[j]? = some t → args[j]? = some v → Value.okWide Try.prog W .any base t v := hval0
  have hW' := hW
  obtain ⟨p, q, hA0, hV, rfl, hfz, hnd⟩ := hW
  have hA : DataW.TrodAll enc Try.prog W 0 (fun _ => true) true Try.f8.params.toList args.toList ds p := hA0
  rw [Try.params8] at hA hval
  obtain ⟨v0, vs0, d0, ds0, p0, q0, hargs, rfl, rfl, h0, r0⟩ := trodAll_cons hA
  obtain ⟨v1, vs1, d1, ds1, p1, q1, rfl, rfl, rfl, h1, r1⟩ := trodAll_cons r0
  obtain ⟨rfl, rfl, rfl⟩ := trodAll_nil r1
  obtain rfl : args = #[v0, v1] := by cases args; simp_all
  obtain ⟨rfl, rfl⟩ := trodVars_none hV
  obtain ⟨a0, len0, cap0, rfl⟩ := okWide_slice Try.underlying22 (hval 0 22 v0 rfl rfl)
  have k0 := h0
  have lt0 : ∀ x ∈ p0, x.block < W.heap.size := by obtain ⟨m, hm⟩ := k0; exact DataW.trod_lt m _ _ _ hm
  obtain ⟨z0, w0⟩ : ∃ zs, IsRow .u8 W a0 len0 cap0 zs := by
    obtain ⟨fuel, hf⟩ := h0
    rcases open_ints Try.underlying22 Try.underlying5 (by kernel_rfl) hf with ⟨hcs, _⟩ | ⟨x, l, c, zs, hcs, _, hl, hm, hz, _, hcell, hwz⟩
    · simp [Value.cells] at hcs
      obtain ⟨rfl, rfl, rfl⟩ := hcs
      exact ⟨[], .inl ⟨rfl, rfl, rfl, rfl⟩⟩
    · simp [Value.cells] at hcs
      obtain ⟨rfl, rfl, rfl⟩ := hcs
      exact ⟨zs, .inr ⟨_, rfl, hl, hm, by simpa using hz, hcell, hwz⟩⟩
  obtain ⟨l0, _, R0⟩ := row_bytes w0
  obtain ⟨a1, rfl, rfl, rfl, w1⟩ := open_int Try.underlying5 (hval 1 5 v1 rfl rfl) h1
  have R1 : RepV W (fun _ => False) [] (.int .u8 a1) (.int .u8 a1) := .int (by simpa [Lit.wf, IntKind.has] using w1)
  clear hA0 hval0 hsz0
  have hreal : RepL W (fun _ => False) [] _ _ := (.cons R0 (.cons R1 .nil))
  refine (law_calls (c8 rounds) tt8_ok (.cons ok18 (.cons ok28 (.cons ok30 (.cons ok19 .nil)))) follows rfl Try.func8 (law8 l0 a1 ⟨_, _, _, hreal⟩) hreal).mono fun e W' ⟨he, bel⟩ => ?_
  subst he
  exact ⟨_, rfl, _, _, _, [], _, [], hW', trodAll_mk1 (shut_bool Try.underlying4 _), (trodAll_cons_mk (Below.trod laidOut (by kernel_rfl) (of_decide_eq_true (by kernel_rfl)) k0 bel lt0) (trodAll_cons_mk (shut_int Try.underlying5 w1) trodAll_mk0)), rfl, bel.frame _, fun h => by cases h⟩
theorem over : Rows.vintOnceRow.holds Try.pinned (OpenSpec.ofChange Rows.vintOnceSpec) :=
  OpenClaim.holds_of_wide 8 Try.f8 rfl rfl rfl rfl rfl rfl rfl ⟨rfl, rfl, rfl, rfl, rfl⟩ rfl rfl rfl rfl rfl (by kernel_rfl) Try.func8 (by kernel_rfl)
    (of_decide_eq_true (by kernel_rfl)) (by unfold Func.isWrapper; first | (rw [if_pos (by decide +kernel)]; kernel_rfl) | (rw [if_neg (by decide +kernel)]; exact ⟨rfl, rfl⟩))
    (fun os started H enc _ => lifted os started H enc)
theorem proved : Rows.VintOnceSaid := over
end Go.Proofs.Ytcmhpngmjjcloaa.vintOnce
namespace Go.Proofs.Ytcmhpngmjjcloaa
/-- The row, under a short name, for the claim. -/
theorem vintOnce_holds : Rows.VintOnceSaid := vintOnce.proved
#print axioms vintOnce_holds
end Go.Proofs.Ytcmhpngmjjcloaa
