/- VintTexts: for every input the law returns true, and the input reads as it did; no condition beyond the row. -/
import Derived.Test.YtcmhpngmjjcloaaRows
import Derived.WalkKit
import Derived.ProofKit
import Derived.OpenShut
import Derived.ShutString
import Derived.ChangeOld
import Derived.Below
import Derived.SizedLaws
import Derived.Carry
import Derived.Test.YtcmhpngmjjcloaaGl
namespace Go.Proofs.YtcmhpngmjjcloaaG
open Go Go.Proofs.YtcmhpngmjjcloaaGm
set_option maxRecDepth 100000
def tt10 : Tab := [(3, ty3), (4, ty4), (5, ty5), (9, ty9), (22, ty22), (34, ty34), (57, ty57), (59, ty59)]
theorem tt10_ok : TabOk Try.prog tt10 := tabOk_of_all ⟨ty3_ok, ty4_ok, ty5_ok, ty9_ok, ty22_ok, ty34_ok, ty57_ok, ty59_ok, trivial⟩
def c10 (F : Nat) : Cfg := ⟨tt10, [(18, .pure go18), (30, .pure go30), (35, .pure go35), (36, .pure go35), (37, .pure go37), (38, .pure go38)], F, [], [], 0⟩
theorem f10_eq (F : Nat) (a0 : List UInt8) (a1 : List UInt8) (a2 : Int) (a3 : Int) : afun (c10 F) Try.f10 [AV.str a0, AV.ro (Pay.bytes a1), AV.int IntKind.i64 a2, AV.int IntKind.i64 a3] [] =
  bif ltI 1000 ↑a0.length then
    .ret (AV.bool true) []
  else
    bif ltI 1000 ↑a1.length then
      .ret (AV.bool true) []
    else
      bif (a1.length + a0.length + 9).ble 140737488355328 then
        bif (a0.length + 9).ble 140737488355328 then
          bif (a1.length + (encT a0).length).ble maxLen then
            bif eqS (a1 ++ encT a0) (a1 ++ encT a0) then
              bif eqS (getT a1 a2 a3).fst (getT a1 a2 a3).fst then
                bif eqI (getT a1 a2 a3).snd.fst (getT a1 a2 a3).snd.fst then
                  bif eqI (getT a1 a2 a3).snd.snd (getT a1 a2 a3).snd.snd then
                    .ret (AV.bool true) []
                  else
                    .ret (AV.bool false) []
                else
                  .ret (AV.bool false) []
              else
                .ret (AV.bool false) []
            else
              .ret (AV.bool false) []
          else
            .stuck
        else
          .stuck
      else
        .stuck := by kernel_rfl


theorem law10 (s l : List UInt8) (i m : Int) (_ : Real [.str s, .ro (.bytes l), .int .i64 i, .int .i64 m]) : apure (c10 rounds) Try.f10 [.str s, .ro (.bytes l), .int .i64 i, .int .i64 m] = some (.bool true, []) := by
  refine apure_yes ?_
  rw [f10_eq, bif_ltI]
  split
  · exact .ret
  rw [bif_ltI]
  split
  · exact .ret
  have he := be_len (s.length : Int)
  have hl : (encT s).length ≤ 9 + s.length := by simp [encT]; omega
  rw [bif_pos (by rw [ble_iff]; omega), bif_pos (by rw [ble_iff]; omega), bif_pos (by rw [ble_iff]; unfold maxLen; omega), bif_pos (eqS_iff.2 rfl), bif_pos (eqS_iff.2 rfl), bif_pos (eqI_iff.2 rfl), bif_pos (eqI_iff.2 rfl)]; exact .ret
end Go.Proofs.YtcmhpngmjjcloaaG

namespace Go.Proofs.Ytcmhpngmjjcloaa.vintTexts
open Go.ChangeShapes Go.WideShapes Go.ChangeAt Go.RowKit Go.Proofs.YtcmhpngmjjcloaaGm Go.Proofs.YtcmhpngmjjcloaaG
open Go.ChangeMaps (open_string shut_string)
set_option linter.unusedVariables false
theorem own : ownKnob Try.prog.godebug = none := by kernel_rfl
theorem laidOut : laidOutB Try.prog = true := by kernel_rfl
set_option maxRecDepth 100000 in
theorem lifted (os : Os) (started : os.Started) (H : Type) (enc : TypeId × Value → H) :
    ReturnsInHanded {} Try.checked os 10 .any (Rows.vintTextsSpec.pre6 enc Try.prog Try.f10 Rows.vintTextsRow.domain false) (Rows.vintTextsSpec.post enc Try.prog Try.f10 false true false false) := by
  refine returnsInHanded_of_change_sized (C := Try.checked) own started (by kernel_rfl) Try.func10
    (ChangeSpec.witness6 (enc := enc) (C := Try.checked) false ⟨#[], #[.string ByteArray.empty, .slice none 0 0, .int .i64 0, .int .i64 0], []⟩ 8 (by kernel_rfl) (by kernel_rfl) (by kernel_rfl) (by kernel_rfl)) ?_
  intro W base args ds gs before hval0 hW hcnd hsz0 _
  have hval : ∀ (j : Nat) t v, Try.f10.params[j]? = some t → args[j]? = some v → Value.okWide Try.prog W .any base t v := hval0
  have hW' := hW
  obtain ⟨p, q, hA0, hV, rfl, hfz, hnd⟩ := hW
  have hA : DataW.TrodAll enc Try.prog W 0 (fun _ => true) true Try.f10.params.toList args.toList ds p := hA0
  rw [Try.params10] at hA hval
  obtain ⟨v0, vs0, d0, ds0, p0, q0, hargs, rfl, rfl, h0, r0⟩ := trodAll_cons hA
  obtain ⟨v1, vs1, d1, ds1, p1, q1, rfl, rfl, rfl, h1, r1⟩ := trodAll_cons r0
  obtain ⟨v2, vs2, d2, ds2, p2, q2, rfl, rfl, rfl, h2, r2⟩ := trodAll_cons r1
  obtain ⟨v3, vs3, d3, ds3, p3, q3, rfl, rfl, rfl, h3, r3⟩ := trodAll_cons r2
  obtain ⟨rfl, rfl, rfl⟩ := trodAll_nil r3
  obtain rfl : args = #[v0, v1, v2, v3] := by cases args; simp_all
  obtain ⟨rfl, rfl⟩ := trodVars_none hV
  obtain ⟨a0, rfl, rfl, rfl, y0⟩ := open_string Try.underlying9 (hval 0 9 v0 rfl rfl) h0
  have R0 : RepV W (fun _ => False) [] (.str a0.data.toList) (.string a0) := .str y0
  obtain ⟨a1, len1, cap1, rfl⟩ := okWide_slice Try.underlying22 (hval 1 22 v1 rfl rfl)
  have k1 := h1
  have lt1 : ∀ x ∈ p1, x.block < W.heap.size := by obtain ⟨m, hm⟩ := k1; exact DataW.trod_lt m _ _ _ hm
  obtain ⟨z1, w1⟩ : ∃ zs, IsRow .u8 W a1 len1 cap1 zs := by
    obtain ⟨fuel, hf⟩ := h1
    rcases open_ints Try.underlying22 Try.underlying5 (by kernel_rfl) hf with ⟨hcs, _⟩ | ⟨x, l, c, zs, hcs, _, hl, hm, hz, _, hcell, hwz⟩
    · simp [Value.cells] at hcs
      obtain ⟨rfl, rfl, rfl⟩ := hcs
      exact ⟨[], .inl ⟨rfl, rfl, rfl, rfl⟩⟩
    · simp [Value.cells] at hcs
      obtain ⟨rfl, rfl, rfl⟩ := hcs
      exact ⟨zs, .inr ⟨_, rfl, hl, hm, by simpa using hz, hcell, hwz⟩⟩
  obtain ⟨l1, _, R1⟩ := row_bytes w1
  obtain ⟨a2, rfl, rfl, rfl, w2⟩ := open_int Try.underlying3 (hval 2 3 v2 rfl rfl) h2
  have R2 : RepV W (fun _ => False) [] (.int .i64 a2) (.int .i64 a2) := .int (by simpa [Lit.wf, IntKind.has] using w2)
  obtain ⟨a3, rfl, rfl, rfl, w3⟩ := open_int Try.underlying3 (hval 3 3 v3 rfl rfl) h3
  have R3 : RepV W (fun _ => False) [] (.int .i64 a3) (.int .i64 a3) := .int (by simpa [Lit.wf, IntKind.has] using w3)
  clear hA0 hval0 hsz0
  have hreal : RepL W (fun _ => False) [] _ _ := (.cons R0 (.cons R1 (.cons R2 (.cons R3 .nil))))
  refine (law_calls (c10 rounds) tt10_ok (.cons ok18 (.cons ok30 (.cons ok35 (.cons ok36 (.cons ok37 (.cons ok38 .nil)))))) follows rfl Try.func10 (law10 a0.data.toList l1 a2 a3 ⟨_, _, _, hreal⟩) hreal).mono fun e W' ⟨he, bel⟩ => ?_
  subst he
  exact ⟨_, rfl, _, _, _, [], _, [], hW', trodAll_mk1 (shut_bool Try.underlying4 _), (trodAll_cons_mk (shut_string Try.underlying9 y0) (trodAll_cons_mk (Below.trod laidOut (by kernel_rfl) (of_decide_eq_true (by kernel_rfl)) k1 bel lt1) (trodAll_cons_mk (shut_int Try.underlying3 w2) (trodAll_cons_mk (shut_int Try.underlying3 w3) trodAll_mk0)))), rfl, bel.frame _, fun h => by cases h⟩
theorem over : Rows.vintTextsRow.holds Try.pinned (OpenSpec.ofChange Rows.vintTextsSpec) :=
  OpenClaim.holds_of_wide 10 Try.f10 rfl rfl rfl rfl rfl rfl rfl ⟨rfl, rfl, rfl, rfl, rfl⟩ rfl rfl rfl rfl rfl (by kernel_rfl) Try.func10 (by kernel_rfl)
    (of_decide_eq_true (by kernel_rfl)) (by unfold Func.isWrapper; first | (rw [if_pos (by decide +kernel)]; kernel_rfl) | (rw [if_neg (by decide +kernel)]; exact ⟨rfl, rfl⟩))
    (fun os started H enc _ => lifted os started H enc)
theorem proved : Rows.VintTextsSaid := over
end Go.Proofs.Ytcmhpngmjjcloaa.vintTexts
namespace Go.Proofs.Ytcmhpngmjjcloaa
/-- The row, under a short name, for the claim. -/
theorem vintTexts_holds : Rows.VintTextsSaid := vintTexts.proved
#print axioms vintTexts_holds
end Go.Proofs.Ytcmhpngmjjcloaa
