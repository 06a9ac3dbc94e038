/- VintPuts: for every input the law returns true, and the input reads as it did; no condition beyond the row. -/
import Derived.Test.YtcmhpngmjjcloaaGmW
import Derived.Test.YtcmhpngmjjcloaaGg
import Derived.Test.YtcmhpngmjjcloaaRows
import Derived.WalkKit
import Derived.ProofKit
import Derived.OpenShut
import Derived.ShutString
import Derived.ChangeOld
import Derived.Below
import Derived.SizedLaws
import Derived.Carry
namespace Go.Proofs.YtcmhpngmjjcloaaG
open Go Go.Proofs.YtcmhpngmjjcloaaGm
set_option maxRecDepth 100000
def tt4 : Tab := [(3, ty3), (4, ty4), (5, ty5), (9, ty9), (22, ty22), (29, ty29)]
theorem tt4_ok : TabOk Try.prog tt4 := tabOk_of_all ⟨ty3_ok, ty4_ok, ty5_ok, ty9_ok, ty22_ok, ty29_ok, trivial⟩
def c4 (F : Nat) : Cfg := ⟨tt4, [(18, .pure go18), (19, .pure go19), (20, .pure go20), (21, .pure go21), (22, .pure go21)], F, [], [], 0⟩
theorem f4_eq (F : Nat) (a0 : List UInt8) (a1 : Int) : afun (c4 F) Try.f4 [AV.ro (Pay.bytes a0), AV.int IntKind.u64 a1] [] =
  bif ltI 1000 ↑(Pay.bytes a0).len then
    .ret (AV.bool true) []
  else
    bif (a0.length + 9).ble 140737488355328 then
      bif (a0.length + (enc a1).length).ble maxLen then
        bif eqS (a0 ++ enc a1) (a0 ++ enc a1) then
          bif eqI (len9 a1) (len9 a1) then
            .ret (AV.bool true) []
          else
            .ret (AV.bool false) []
        else
          .ret (AV.bool false) []
      else
        .stuck
    else
      .stuck := by kernel_rfl

theorem be_len (n : Int) : (enc n).length ≤ 9 := by
  unfold enc
  repeat (split; · (rw [be_length]; decide))
  simp [be_length]

theorem law4 (l : List UInt8) (n : Int) : apure (c4 rounds) Try.f4 [.ro (.bytes l), .int .u64 n] = some (.bool true, []) := by
  unfold apure
  rw [f4_eq]
  by_cases h : ltI 1000 (((Pay.bytes l : Pay AV).len : Nat) : Int) = true
  · rw [bif_pos h]; rfl
  · have hl : l.length ≤ 1000 := by
      rw [ltI_iff] at h
      have : (Pay.bytes l : Pay AV).len = l.length := rfl
      rw [this] at h; omega
    have hb := be_len n
    rw [bif_neg h, bif_pos (Nat.ble_eq_true_of_le (by omega)), bif_pos (Nat.ble_eq_true_of_le (by unfold maxLen; omega)), bif_pos (by unfold eqS; simp), bif_pos (by rw [eqI_iff])]
    rfl
end Go.Proofs.YtcmhpngmjjcloaaG

namespace Go.Proofs.Ytcmhpngmjjcloaa.vintPuts
open Go.ChangeShapes Go.WideShapes Go.ChangeAt Go.RowKit Go.Proofs.YtcmhpngmjjcloaaGm Go.Proofs.YtcmhpngmjjcloaaG
open Go.ChangeMaps (open_string shut_string)
set_option linter.unusedVariables false
theorem own : ownKnob Try.prog.godebug = none := by kernel_rfl
theorem laidOut : laidOutB Try.prog = true := by kernel_rfl
set_option maxRecDepth 100000 in
theorem lifted (os : Os) (started : os.Started) (H : Type) (enc : TypeId × Value → H) :
    ReturnsInHanded {} Try.checked os 4 .any (Rows.vintPutsSpec.pre6 enc Try.prog Try.f4 Rows.vintPutsRow.domain false) (Rows.vintPutsSpec.post enc Try.prog Try.f4 false true false false) := by
  refine returnsInHanded_of_change_sized (C := Try.checked) own started (by kernel_rfl) Try.func4
    (ChangeSpec.witness6 (enc := enc) (C := Try.checked) false ⟨#[], #[.slice none 0 0, .int .u64 0], []⟩ 8 (by kernel_rfl) (by kernel_rfl) (by kernel_rfl) (by kernel_rfl)) ?_
  intro W base args ds gs before hval0 hW hcnd hsz0 _
  have hval : ∀ (j : Nat) t v, Try.f4.params[j]? = some t → args[j]? = some v → Value.okWide Try.prog W .any base t v := hval0
  have hW' := hW
  obtain ⟨p, q, hA0, hV, rfl, hfz, hnd⟩ := hW
  have hA : DataW.TrodAll enc Try.prog W 0 (fun _ => true) true Try.f4.params.toList args.toList ds p := hA0
  rw [Try.params4] at hA hval
  obtain ⟨v0, vs0, d0, ds0, p0, q0, hargs, rfl, rfl, h0, r0⟩ := trodAll_cons hA
  obtain ⟨v1, vs1, d1, ds1, p1, q1, rfl, rfl, rfl, h1, r1⟩ := trodAll_cons r0
  obtain ⟨rfl, rfl, rfl⟩ := trodAll_nil r1
  obtain rfl : args = #[v0, v1] := by cases args; simp_all
  obtain ⟨rfl, rfl⟩ := trodVars_none hV
  obtain ⟨a0, len0, cap0, rfl⟩ := okWide_slice Try.underlying22 (hval 0 22 v0 rfl rfl)
  have k0 := h0
  have lt0 : ∀ x ∈ p0, x.block < W.heap.size := by obtain ⟨m, hm⟩ := k0; exact DataW.trod_lt m _ _ _ hm
  obtain ⟨z0, w0⟩ : ∃ zs, IsRow .u8 W a0 len0 cap0 zs := by
    obtain ⟨fuel, hf⟩ := h0
    rcases open_ints Try.underlying22 Try.underlying5 (by kernel_rfl) hf with ⟨hcs, _⟩ | ⟨x, l, c, zs, hcs, _, hl, hm, hz, _, hcell, hwz⟩
    · simp [Value.cells] at hcs
      obtain ⟨rfl, rfl, rfl⟩ := hcs
      exact ⟨[], .inl ⟨rfl, rfl, rfl, rfl⟩⟩
    · simp [Value.cells] at hcs
      obtain ⟨rfl, rfl, rfl⟩ := hcs
      exact ⟨zs, .inr ⟨_, rfl, hl, hm, by simpa using hz, hcell, hwz⟩⟩
  obtain ⟨a1, rfl, rfl, rfl, w1⟩ := open_int Try.underlying29 (hval 1 29 v1 rfl rfl) h1
  clear hA0 hval0 hsz0
  obtain ⟨l0, _, R0⟩ := row_bytes w0
  have R1 : RepV W (fun _ => False) [] (.int .u64 a1) (.int .u64 a1) := .int (by simpa [Lit.wf, IntKind.has] using w1)
  refine (law_calls (c4 rounds) tt4_ok (.cons ok18 (.cons ok19 (.cons ok20 (.cons ok21 (.cons ok22 .nil))))) follows rfl Try.func4 (law4 l0 a1) (.cons R0 (.cons R1 .nil))).mono fun e W' ⟨he, bel⟩ => ?_
  subst he
  exact ⟨_, rfl, _, _, _, [], _, [], hW', trodAll_mk1 (shut_bool Try.underlying4 _), (trodAll_cons_mk (Below.trod laidOut (by kernel_rfl) (of_decide_eq_true (by kernel_rfl)) k0 bel lt0) (trodAll_cons_mk (shut_int Try.underlying29 w1) trodAll_mk0)), rfl, bel.frame _, fun h => by cases h⟩
theorem over : Rows.vintPutsRow.holds Try.pinned (OpenSpec.ofChange Rows.vintPutsSpec) :=
  OpenClaim.holds_of_wide 4 Try.f4 rfl rfl rfl rfl rfl rfl rfl ⟨rfl, rfl, rfl, rfl, rfl⟩ rfl rfl rfl rfl rfl (by kernel_rfl) Try.func4 (by kernel_rfl)
    (of_decide_eq_true (by kernel_rfl)) (by unfold Func.isWrapper; first | (rw [if_pos (by decide +kernel)]; kernel_rfl) | (rw [if_neg (by decide +kernel)]; exact ⟨rfl, rfl⟩))
    (fun os started H enc _ => lifted os started H enc)
theorem proved : Rows.VintPutsSaid := over
end Go.Proofs.Ytcmhpngmjjcloaa.vintPuts
namespace Go.Proofs.Ytcmhpngmjjcloaa
/-- The row, under a short name, for the claim. -/
theorem vintPuts_holds : Rows.VintPutsSaid := vintPuts.proved
#print axioms vintPuts_holds
end Go.Proofs.Ytcmhpngmjjcloaa
