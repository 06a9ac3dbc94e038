/- FrameGets: for every input the law returns true, and the input reads as it did; no condition beyond the row. -/
import Derived.Test.YtmkgmlgklggnlaaRows
import Derived.WalkKit
import Derived.ProofKit
import Derived.OpenShut
import Derived.ShutString
import Derived.ChangeOld
import Derived.Below
import Derived.SizedLaws
import Derived.Carry
import Derived.Test.YtmkgmlgklggnlaaGw
namespace Go.Proofs.YtmkgmlgklggnlaaG
open Go Go.Proofs.YtmkgmlgklggnlaaGm
set_option maxRecDepth 100000
def tt8 : Tab := [(3, ty3), (4, ty4), (5, ty5), (9, ty9), (22, ty22), (27, ty27), (64, ty64), (66, ty66), (68, ty68), (69, ty69), (71, ty71)]
theorem tt8_ok : TabOk Try.prog tt8 := tabOk_of_all ⟨ty3_ok, ty4_ok, ty5_ok, ty9_ok, ty22_ok, ty27_ok, ty64_ok, ty66_ok, ty68_ok, ty69_ok, ty71_ok, trivial⟩
def c8 (F : Nat) : Cfg := ⟨tt8, [(40, .pure go40), (41, .pure go41), (42, .pure go41), (43, .pure go43), (44, .pure go43), (45, .pure go45), (46, .pure go46)], F, [], [], 0⟩
theorem f8_eq (F : Nat) (a0 : List UInt8) (a1 : Int) : afun (c8 F) Try.f8 [AV.ro (Pay.bytes a0), AV.int IntKind.i64 a1] [] =
  bif ltI 3000 ↑a0.length then
    .ret (AV.bool true) []
  else
    bif a0.length.ble 140737488355320 then
      bif a0.length.ble 140737488355320 then
        bif a0.length.ble 17592186044416 then
          bif a0.length.ble 17592186044416 then
            bif eqS (getF a0 a1).fst (getF a0 a1).fst then
              bif eqI (getF a0 a1).snd.fst (getF a0 a1).snd.fst then
                bif eqI (getF a0 a1).snd.snd (getF a0 a1).snd.snd then
                  bif okB (List.map byteRow (allF a0 (a0.length + 1) 0).fst) && okB (List.map byteRow (allF a0 (a0.length + 1) 0).fst) then
                    bif decide (decB (List.map byteRow (allF a0 (a0.length + 1) 0).fst) = decB (List.map byteRow (allF a0 (a0.length + 1) 0).fst)) then
                      bif eqI (allF a0 (a0.length + 1) 0).snd.fst (allF a0 (a0.length + 1) 0).snd.fst then
                        bif eqI (allF a0 (a0.length + 1) 0).snd.snd (allF a0 (a0.length + 1) 0).snd.snd then
                          .ret (AV.bool true) []
                        else
                          .ret (AV.bool false) []
                      else
                        .ret (AV.bool false) []
                    else
                      .ret (AV.bool false) []
                  else
                    .stuck
                else
                  .ret (AV.bool false) []
              else
                .ret (AV.bool false) []
            else
              .ret (AV.bool false) []
          else
            .stuck
        else
          .stuck
      else
        .stuck
    else
      .stuck := by kernel_rfl


theorem yes_pos {c : Bool} {x y : Res} (h : c = true) (hx : Yes x) : Yes (bif c then x else y) := by rw [h]; exact hx
theorem yes_neg {c : Bool} {x y : Res} (h : c = false) (hy : Yes y) : Yes (bif c then x else y) := by rw [h]; exact hy
theorem yes_bif {c : Bool} {x y : Res} (h1 : c = true → Yes x) (h2 : c = false → Yes y) : Yes (bif c then x else y) := by
  cases c with
  | true => exact h1 rfl
  | false => exact h2 rfl

theorem law8 (l : List UInt8) (n : Int) (_ : Real [.ro (.bytes l), .int .i64 n]) : apure (c8 rounds) Try.f8 [.ro (.bytes l), .int .i64 n] = some (.bool true, []) := by
  refine apure_yes ?_
  rw [f8_eq]
  refine yes_bif (fun _ => .ret) fun g => ?_
  have g := ltI_f.1 g
  have h1 : l.length.ble 140737488355320 = true := by rw [ble_iff]; omega
  have h2 : l.length.ble 17592186044416 = true := by rw [ble_iff]; omega
  rw [h1, h2, okB_map, decB_map]
  exact yes_pos rfl (yes_pos rfl (yes_pos rfl (yes_pos rfl (yes_pos (eqS_iff.2 rfl) (yes_pos (eqI_iff.2 rfl) (yes_pos (eqI_iff.2 rfl) (yes_pos rfl (yes_pos (decide_eq_true rfl) (yes_pos (eqI_iff.2 rfl) (yes_pos (eqI_iff.2 rfl) .ret))))))))))
end Go.Proofs.YtmkgmlgklggnlaaG

namespace Go.Proofs.Ytmkgmlgklggnlaa.frameGets
open Go.ChangeShapes Go.WideShapes Go.ChangeAt Go.RowKit Go.Proofs.YtmkgmlgklggnlaaGm Go.Proofs.YtmkgmlgklggnlaaG
open Go.ChangeMaps (open_string shut_string)
set_option linter.unusedVariables false
theorem own : ownKnob Try.prog.godebug = none := by kernel_rfl
theorem laidOut : laidOutB Try.prog = true := by kernel_rfl
set_option maxRecDepth 100000 in
theorem lifted (os : Os) (started : os.Started) (H : Type) (enc : TypeId × Value → H) :
    ReturnsInHanded {} Try.checked os 8 .any (Rows.frameGetsSpec.pre6 enc Try.prog Try.f8 Rows.frameGetsRow.domain false) (Rows.frameGetsSpec.post enc Try.prog Try.f8 false true false false) := by
  refine returnsInHanded_of_change_sized (C := Try.checked) own started (by kernel_rfl) Try.func8
    (ChangeSpec.witness6 (enc := enc) (C := Try.checked) false ⟨#[], #[.slice none 0 0, .int .i64 0], []⟩ 8 (by kernel_rfl) (by kernel_rfl) (by kernel_rfl) (by kernel_rfl)) ?_
  intro W base args ds gs before hval0 hW hcnd hsz0 _
  have hval : ∀ (j : Nat) t v, Try.f8.params[j]? = some t → args[j]? = some v → Value.okWide Try.prog W .any base t v := hval0
  have hW' := hW
  obtain ⟨p, q, hA0, hV, rfl, hfz, hnd⟩ := hW
  have hA : DataW.TrodAll enc Try.prog W 0 (fun _ => true) true Try.f8.params.toList args.toList ds p := hA0
  rw [Try.params8] at hA hval
  obtain ⟨v0, vs0, d0, ds0, p0, q0, hargs, rfl, rfl, h0, r0⟩ := trodAll_cons hA
  obtain ⟨v1, vs1, d1, ds1, p1, q1, rfl, rfl, rfl, h1, r1⟩ := trodAll_cons r0
  obtain ⟨rfl, rfl, rfl⟩ := trodAll_nil r1
  obtain rfl : args = #[v0, v1] := by cases args; simp_all
  obtain ⟨rfl, rfl⟩ := trodVars_none hV
  obtain ⟨a0, len0, cap0, rfl⟩ := okWide_slice Try.underlying22 (hval 0 22 v0 rfl rfl)
  have k0 := h0
  have lt0 : ∀ x ∈ p0, x.block < W.heap.size := by obtain ⟨m, hm⟩ := k0; exact DataW.trod_lt m _ _ _ hm
  obtain ⟨z0, w0⟩ : ∃ zs, IsRow .u8 W a0 len0 cap0 zs := by
    obtain ⟨fuel, hf⟩ := h0
    rcases open_ints Try.underlying22 Try.underlying5 (by kernel_rfl) hf with ⟨hcs, _⟩ | ⟨x, l, c, zs, hcs, _, hl, hm, hz, _, hcell, hwz⟩
    · simp [Value.cells] at hcs
      obtain ⟨rfl, rfl, rfl⟩ := hcs
      exact ⟨[], .inl ⟨rfl, rfl, rfl, rfl⟩⟩
    · simp [Value.cells] at hcs
      obtain ⟨rfl, rfl, rfl⟩ := hcs
      exact ⟨zs, .inr ⟨_, rfl, hl, hm, by simpa using hz, hcell, hwz⟩⟩
  obtain ⟨l0, _, R0⟩ := row_bytes w0
  obtain ⟨a1, rfl, rfl, rfl, w1⟩ := open_int Try.underlying3 (hval 1 3 v1 rfl rfl) h1
  have R1 : RepV W (fun _ => False) [] (.int .i64 a1) (.int .i64 a1) := .int (by simpa [Lit.wf, IntKind.has] using w1)
  clear hA0 hval0 hsz0
  have hreal : RepL W (fun _ => False) [] _ _ := (.cons R0 (.cons R1 .nil))
  refine (law_calls (c8 rounds) tt8_ok (.cons ok40 (.cons ok41 (.cons ok42 (.cons ok43 (.cons ok44 (.cons ok45 (.cons ok46 .nil))))))) follows rfl Try.func8 (law8 l0 a1 ⟨_, _, _, hreal⟩) hreal).mono fun e W' ⟨he, bel⟩ => ?_
  subst he
  exact ⟨_, rfl, _, _, _, [], _, [], hW', trodAll_mk1 (shut_bool Try.underlying4 _), (trodAll_cons_mk (Below.trod laidOut (by kernel_rfl) (of_decide_eq_true (by kernel_rfl)) k0 bel lt0) (trodAll_cons_mk (shut_int Try.underlying3 w1) trodAll_mk0)), rfl, bel.frame _, fun h => by cases h⟩
theorem over : Rows.frameGetsRow.holds Try.pinned (OpenSpec.ofChange Rows.frameGetsSpec) :=
  OpenClaim.holds_of_wide 8 Try.f8 rfl rfl rfl rfl rfl rfl rfl ⟨rfl, rfl, rfl, rfl, rfl⟩ rfl rfl rfl rfl rfl (by kernel_rfl) Try.func8 (by kernel_rfl)
    (of_decide_eq_true (by kernel_rfl)) (by unfold Func.isWrapper; first | (rw [if_pos (by decide +kernel)]; kernel_rfl) | (rw [if_neg (by decide +kernel)]; exact ⟨rfl, rfl⟩))
    (fun os started H enc _ => lifted os started H enc)
theorem proved : Rows.FrameGetsSaid := over
end Go.Proofs.Ytmkgmlgklggnlaa.frameGets
namespace Go.Proofs.Ytmkgmlgklggnlaa
/-- The row, under a short name, for the claim. -/
theorem frameGets_holds : Rows.FrameGetsSaid := frameGets.proved
#print axioms frameGets_holds
end Go.Proofs.Ytmkgmlgklggnlaa
