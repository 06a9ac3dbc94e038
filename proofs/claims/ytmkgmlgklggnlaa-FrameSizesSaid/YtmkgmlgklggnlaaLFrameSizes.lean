/- FrameSizes: for every input the law returns true, and the input reads as it did; no condition beyond the row. -/
import Derived.Test.YtmkgmlgklggnlaaRows
import Derived.WalkKit
import Derived.ProofKit
import Derived.OpenShut
import Derived.ShutString
import Derived.ChangeOld
import Derived.Below
import Derived.SizedLaws
import Derived.Carry
import Derived.Test.YtmkgmlgklggnlaaGw
namespace Go.Proofs.YtmkgmlgklggnlaaG
open Go Go.Proofs.YtmkgmlgklggnlaaGm
set_option maxRecDepth 100000
def tt11 : Tab := [(0, ty0), (3, ty3), (4, ty4), (5, ty5), (22, ty22), (27, ty27), (35, ty35)]
theorem tt11_ok : TabOk Try.prog tt11 := tabOk_of_all ⟨ty0_ok, ty3_ok, ty4_ok, ty5_ok, ty22_ok, ty27_ok, ty35_ok, trivial⟩
def c11 (F : Nat) : Cfg := ⟨tt11, [(40, .pure go40), (45, .pure go45), (47, .pure (normGo [.leaf .bytes, .leaf .bytes] go47)), (49, .pure go49)], F, [], [], 0⟩
theorem f11_eq (F : Nat) (a0 : Int) (a1 : List UInt8) : afun (c11 F) Try.f11 [AV.int IntKind.i64 a0, AV.ro (Pay.bytes a1)] [] =
  bif ltI a0 0 then
    bif eqI (sizeF a0) 0 then
      .ret (AV.bool true) []
    else
      .ret (AV.bool false) []
  else
    bif ltI 1048576 a0 then
      bif eqI (sizeF a0) 0 then
        .ret (AV.bool true) []
      else
        .ret (AV.bool false) []
    else
      bif ltI 2000 a0 then
        bif ltI (IntKind.i64.wrap (a0 + 4)) (sizeF a0) then
          bif leI (sizeF a0) (IntKind.i64.wrap (a0 + 7)) then
            .ret (AV.bool true) []
          else
            .ret (AV.bool false) []
        else
          .ret (AV.bool false) []
      else
        bif leI 0 a0 && leI a0 a0 && leI (a0 * ↑1) 140737488355328 && true then
          bif Nat.blt 1048576 (List.replicate a0.toNat (0 : UInt8)).length then
            .ret (AV.bool false) [AObj.arr 5 (Pay.bytes (List.replicate a0.toNat (0 : UInt8)))]
          else
            bif eqI (↑([] ++ encF (List.replicate a0.toNat (0 : UInt8))).length) (sizeF a0) then
              .ret (AV.bool true) [AObj.arr 5 (Pay.bytes (List.replicate a0.toNat (0 : UInt8))), AObj.arr 5 (Pay.bytes ([] ++ encF (List.replicate a0.toNat (0 : UInt8))))]
            else
              .ret (AV.bool false) [AObj.arr 5 (Pay.bytes (List.replicate a0.toNat (0 : UInt8))), AObj.arr 5 (Pay.bytes ([] ++ encF (List.replicate a0.toNat (0 : UInt8))))]
        else
          .stuck := by kernel_rfl


theorem yes_pos {c : Bool} {x y : Res} (h : c = true) (hx : Yes x) : Yes (bif c then x else y) := by rw [h]; exact hx
theorem yes_neg {c : Bool} {x y : Res} (h : c = false) (hy : Yes y) : Yes (bif c then x else y) := by rw [h]; exact hy
theorem yes_bif {c : Bool} {x y : Res} (h1 : c = true → Yes x) (h2 : c = false → Yes y) : Yes (bif c then x else y) := by
  cases c with
  | true => exact h1 rfl
  | false => exact h2 rfl

theorem len9_small {n : Int} (h0 : 0 ≤ n) (h1 : n ≤ 1048576) : 1 ≤ len9 n ∧ len9 n ≤ 3 := by
  unfold len9
  split
  · omega
  · split
    · omega
    · rw [if_pos (by omega)]; omega
theorem law11 (n : Int) (l : List UInt8) (hr : Real [.int .i64 n, .ro (.bytes l)]) : apure (c11 rounds) Try.f11 [.int .i64 n, .ro (.bytes l)] = some (.bool true, []) := by
  refine apure_yes ?_
  rw [f11_eq]
  refine yes_bif (fun g => ?_) fun g => yes_bif (fun g1 => ?_) fun g1 => ?_
  · have g := ltI_iff.1 g
    rw [show sizeF n = 0 from if_pos (.inl g)]
    exact yes_pos rfl .ret
  · have g1 := ltI_iff.1 g1
    rw [show sizeF n = 0 from if_pos (.inr g1)]
    exact yes_pos rfl .ret
  · have g := ltI_f.1 g
    have g1 := ltI_f.1 g1
    have h3 := len9_small (n := n) (by omega) (by omega)
    rw [show sizeF n = len9 n + n + 4 from if_neg (by omega)]
    refine yes_bif (fun g2 => ?_) fun g2 => ?_
    · rw [wrap64 (n := n + 4) (by omega) (by omega), wrap64 (n := n + 7) (by omega) (by omega)]
      exact yes_pos (ltI_iff.2 (by omega)) (yes_pos (leI_iff.2 (by omega)) .ret)
    · have g2 := ltI_f.1 g2
      have hF := encF_len (List.replicate n.toNat 0)
      rw [List.length_replicate] at hF
      refine yes_pos (by simp only [Bool.and_eq_true, Bool.and_true, leI_iff]; omega) (yes_neg (by rw [Bool.eq_false_iff, Ne, blt_iff, List.length_replicate]; omega) (yes_pos ?_ .ret))
      rw [List.nil_append, eqI_iff, hF, show ((n.toNat : Nat) : Int) = n by omega]
end Go.Proofs.YtmkgmlgklggnlaaG

namespace Go.Proofs.Ytmkgmlgklggnlaa.frameSizes
open Go.ChangeShapes Go.WideShapes Go.ChangeAt Go.RowKit Go.Proofs.YtmkgmlgklggnlaaGm Go.Proofs.YtmkgmlgklggnlaaG
open Go.ChangeMaps (open_string shut_string)
set_option linter.unusedVariables false
theorem own : ownKnob Try.prog.godebug = none := by kernel_rfl
theorem laidOut : laidOutB Try.prog = true := by kernel_rfl
set_option maxRecDepth 100000 in
theorem lifted (os : Os) (started : os.Started) (H : Type) (enc : TypeId × Value → H) :
    ReturnsInHanded {} Try.checked os 11 .any (Rows.frameSizesSpec.pre6 enc Try.prog Try.f11 Rows.frameSizesRow.domain false) (Rows.frameSizesSpec.post enc Try.prog Try.f11 false true false false) := by
  refine returnsInHanded_of_change_sized (C := Try.checked) own started (by kernel_rfl) Try.func11
    (ChangeSpec.witness6 (enc := enc) (C := Try.checked) false ⟨#[], #[.int .i64 0, .slice none 0 0], []⟩ 8 (by kernel_rfl) (by kernel_rfl) (by kernel_rfl) (by kernel_rfl)) ?_
  intro W base args ds gs before hval0 hW hcnd hsz0 _
  have hval : ∀ (j : Nat) t v, Try.f11.params[j]? = some t → args[j]? = some v → Value.okWide Try.prog W .any base t v := hval0
  have hW' := hW
  obtain ⟨p, q, hA0, hV, rfl, hfz, hnd⟩ := hW
  have hA : DataW.TrodAll enc Try.prog W 0 (fun _ => true) true Try.f11.params.toList args.toList ds p := hA0
  rw [Try.params11] at hA hval
  obtain ⟨v0, vs0, d0, ds0, p0, q0, hargs, rfl, rfl, h0, r0⟩ := trodAll_cons hA
  obtain ⟨v1, vs1, d1, ds1, p1, q1, rfl, rfl, rfl, h1, r1⟩ := trodAll_cons r0
  obtain ⟨rfl, rfl, rfl⟩ := trodAll_nil r1
  obtain rfl : args = #[v0, v1] := by cases args; simp_all
  obtain ⟨rfl, rfl⟩ := trodVars_none hV
  obtain ⟨a0, rfl, rfl, rfl, w0⟩ := open_int Try.underlying3 (hval 0 3 v0 rfl rfl) h0
  have R0 : RepV W (fun _ => False) [] (.int .i64 a0) (.int .i64 a0) := .int (by simpa [Lit.wf, IntKind.has] using w0)
  obtain ⟨a1, len1, cap1, rfl⟩ := okWide_slice Try.underlying22 (hval 1 22 v1 rfl rfl)
  have k1 := h1
  have lt1 : ∀ x ∈ p1, x.block < W.heap.size := by obtain ⟨m, hm⟩ := k1; exact DataW.trod_lt m _ _ _ hm
  obtain ⟨z1, w1⟩ : ∃ zs, IsRow .u8 W a1 len1 cap1 zs := by
    obtain ⟨fuel, hf⟩ := h1
    rcases open_ints Try.underlying22 Try.underlying5 (by kernel_rfl) hf with ⟨hcs, _⟩ | ⟨x, l, c, zs, hcs, _, hl, hm, hz, _, hcell, hwz⟩
    · simp [Value.cells] at hcs
      obtain ⟨rfl, rfl, rfl⟩ := hcs
      exact ⟨[], .inl ⟨rfl, rfl, rfl, rfl⟩⟩
    · simp [Value.cells] at hcs
      obtain ⟨rfl, rfl, rfl⟩ := hcs
      exact ⟨zs, .inr ⟨_, rfl, hl, hm, by simpa using hz, hcell, hwz⟩⟩
  obtain ⟨l1, _, R1⟩ := row_bytes w1
  clear hA0 hval0 hsz0
  have hreal : RepL W (fun _ => False) [] _ _ := (.cons R0 (.cons R1 .nil))
  refine (law_calls (c11 rounds) tt11_ok (.cons ok40 (.cons ok45 (.cons (ok47.norm _) (.cons ok49 .nil)))) follows rfl Try.func11 (law11 a0 l1 ⟨_, _, _, hreal⟩) hreal).mono fun e W' ⟨he, bel⟩ => ?_
  subst he
  exact ⟨_, rfl, _, _, _, [], _, [], hW', trodAll_mk1 (shut_bool Try.underlying4 _), (trodAll_cons_mk (shut_int Try.underlying3 w0) (trodAll_cons_mk (Below.trod laidOut (by kernel_rfl) (of_decide_eq_true (by kernel_rfl)) k1 bel lt1) trodAll_mk0)), rfl, bel.frame _, fun h => by cases h⟩
theorem over : Rows.frameSizesRow.holds Try.pinned (OpenSpec.ofChange Rows.frameSizesSpec) :=
  OpenClaim.holds_of_wide 11 Try.f11 rfl rfl rfl rfl rfl rfl rfl ⟨rfl, rfl, rfl, rfl, rfl⟩ rfl rfl rfl rfl rfl (by kernel_rfl) Try.func11 (by kernel_rfl)
    (of_decide_eq_true (by kernel_rfl)) (by unfold Func.isWrapper; first | (rw [if_pos (by decide +kernel)]; kernel_rfl) | (rw [if_neg (by decide +kernel)]; exact ⟨rfl, rfl⟩))
    (fun os started H enc _ => lifted os started H enc)
theorem proved : Rows.FrameSizesSaid := over
end Go.Proofs.Ytmkgmlgklggnlaa.frameSizes
namespace Go.Proofs.Ytmkgmlgklggnlaa
/-- The row, under a short name, for the claim. -/
theorem frameSizes_holds : Rows.FrameSizesSaid := frameSizes.proved
#print axioms frameSizes_holds
end Go.Proofs.Ytmkgmlgklggnlaa
