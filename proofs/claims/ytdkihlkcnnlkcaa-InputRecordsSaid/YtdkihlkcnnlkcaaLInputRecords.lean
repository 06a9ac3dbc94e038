/- InputRecords: for every input the law returns true, and the input reads as it did; no condition beyond the row. -/
import Derived.Test.YtdkihlkcnnlkcaaRows
import Derived.WalkKit
import Derived.ProofKit
import Derived.OpenShut
import Derived.ShutString
import Derived.ChangeOld
import Derived.Below
import Derived.SizedLaws
import Derived.Carry
import Derived.Test.YtdkihlkcnnlkcaaGx
import Derived.Test.YtdkihlkcnnlkcaaGmYnote
namespace Go.Proofs.YtdkihlkcnnlkcaaG
open Go Go.Proofs.YtdkihlkcnnlkcaaGm
set_option maxRecDepth 100000
def tt5 : Tab := [(0, ty0), (1, ty1), (3, ty3), (4, ty4), (5, ty5), (9, ty9), (23, ty23), (24, ty24), (25, ty25), (26, ty26), (28, ty28), (35, ty35), (37, ty37), (39, ty39)]
theorem tt5_ok : TabOk Try.prog tt5 := tabOk_of_all ⟨ty0_ok, ty1_ok, ty3_ok, ty4_ok, ty5_ok, ty9_ok, ty23_ok, ty24_ok, ty25_ok, ty26_ok, ty28_ok, ty35_ok, ty37_ok, ty39_ok, trivial⟩
def c5 (F : Nat) : Cfg := ⟨tt5, [(11, .pure go11), (12, .pure go11), (13, .pure go13), (14, .pure go14), (15, .pure go15), (16, .pure go16), (17, .pure go17), (18, .pure go17)], F, [], [], 0⟩
theorem f5_eq (F : Nat) (a0 : List UInt8) (a1 : Int) : afun (c5 F) Try.f5 [AV.ro (Pay.bytes a0), AV.int IntKind.i64 a1] [] =
  bif ltI 3000 ↑a0.length then
    .ret (AV.bool true) []
  else
    bif okI (recRows (records a0).fst) then
      bif okI (recRows (records a0).fst) then
        bif eqI (zeroI (whichN (decIs (recRows (records a0).fst)) a1)) (zeroI (whichN (decIs (recRows (records a0).fst)) a1)) then
          bif (whichN (decIs (recRows (records a0).fst)) a1).isSome == (whichN (decIs (recRows (records a0).fst)) a1).isSome then
            bif okI (recRows (records a0).fst) && okI (recRows (records a0).fst) then
              bif decide (decIs (recRows (records a0).fst) = decIs (recRows (records a0).fst)) then
                bif eqI ↑(records a0).snd.fst ↑(records a0).snd.fst then
                  bif eqI (records a0).snd.snd (records a0).snd.snd then
                    bif (whichN (recsI a0) a1).isSome == (whichN (decIs (recRows (records a0).fst)) a1).isSome then
                      bif !(whichN (decIs (recRows (records a0).fst)) a1).isSome then
                        bif eqS (atI (recsI a0) a1) (ByteArray.mk #[]).data.toList then
                          .ret (AV.bool true) []
                        else
                          bif (whichN (decIs (recRows (records a0).fst)) a1).isSome then
                            bif inB (zeroI (whichN (decIs (recRows (records a0).fst)) a1)) (recRows (records a0).fst).length then
                              bif isStr (nth ((recRows (records a0).fst).getD (zeroI (whichN (decIs (recRows (records a0).fst)) a1)).toNat []) 1) then
                                bif eqS (atI (recsI a0) a1) (strOf (nth ((recRows (records a0).fst).getD (zeroI (whichN (decIs (recRows (records a0).fst)) a1)).toNat []) 1)) then
                                  .ret (AV.bool true) []
                                else
                                  .ret (AV.bool false) []
                              else
                                .stuck
                            else
                              .stuck
                          else
                            .ret (AV.bool false) []
                      else
                        bif (whichN (decIs (recRows (records a0).fst)) a1).isSome then
                          bif inB (zeroI (whichN (decIs (recRows (records a0).fst)) a1)) (recRows (records a0).fst).length then
                            bif isStr (nth ((recRows (records a0).fst).getD (zeroI (whichN (decIs (recRows (records a0).fst)) a1)).toNat []) 1) then
                              bif eqS (atI (recsI a0) a1) (strOf (nth ((recRows (records a0).fst).getD (zeroI (whichN (decIs (recRows (records a0).fst)) a1)).toNat []) 1)) then
                                .ret (AV.bool true) []
                              else
                                .ret (AV.bool false) []
                            else
                              .stuck
                          else
                            .stuck
                        else
                          .ret (AV.bool false) []
                    else
                      .ret (AV.bool false) []
                  else
                    .ret (AV.bool false) []
                else
                  .ret (AV.bool false) []
              else
                .ret (AV.bool false) []
            else
              .stuck
          else
            .ret (AV.bool false) []
        else
          .ret (AV.bool false) []
      else
        .stuck
    else
      .stuck := by kernel_rfl


theorem yes_pos {c : Bool} {x y : Res} (h : c = true) (hx : Yes x) : Yes (bif c then x else y) := by rw [h]; exact hx
theorem yes_neg {c : Bool} {x y : Res} (h : c = false) (hy : Yes y) : Yes (bif c then x else y) := by rw [h]; exact hy
theorem yes_bif {c : Bool} {x y : Res} (h1 : c = true → Yes x) (h2 : c = false → Yes y) : Yes (bif c then x else y) := by
  cases c with
  | true => exact h1 rfl
  | false => exact h2 rfl

theorem law5 (l : List UInt8) (n : Int) (_ : Real [.ro (.bytes l), .int .i64 n]) : apure (c5 rounds) Try.f5 [.ro (.bytes l), .int .i64 n] = some (.bool true, []) := by
  refine apure_yes ?_
  rw [f5_eq]
  refine yes_bif (fun _ => .ret) fun g => ?_
  rw [recRows_recsI, okI_map, decIs_map]
  generalize recsI l = X
  unfold atI
  refine yes_pos rfl (yes_pos rfl (yes_pos (eqI_iff.2 rfl) (yes_pos (by simp) (yes_pos rfl (yes_pos (decide_eq_true rfl) (yes_pos (eqI_iff.2 rfl) (yes_pos (eqI_iff.2 rfl) (yes_pos (by simp) ?_))))))))
  cases h : whichN X n with
  | none => exact yes_pos rfl (yes_pos rfl .ret)
  | some i =>
    have hi : i < X.length := (List.findIdx?_eq_some_iff_getElem.1 h).1
    rw [show (zeroI (some i)).toNat = i from rfl, recI_getD X i hi, List.length_map]
    exact yes_neg rfl (yes_pos rfl (yes_pos (by rw [inB_iff]; exact ⟨Int.natCast_nonneg _, by show (i : Int) < _; omega⟩) (yes_pos rfl (yes_pos (eqS_iff.2 rfl) .ret))))
end Go.Proofs.YtdkihlkcnnlkcaaG

namespace Go.Proofs.Ytdkihlkcnnlkcaa.inputRecords
open Go.ChangeShapes Go.WideShapes Go.ChangeAt Go.RowKit Go.Proofs.YtdkihlkcnnlkcaaGm Go.Proofs.YtdkihlkcnnlkcaaG
open Go.ChangeMaps (open_string shut_string)
set_option linter.unusedVariables false
theorem own : ownKnob Try.prog.godebug = none := by kernel_rfl
theorem laidOut : laidOutB Try.prog = true := by kernel_rfl
set_option maxRecDepth 100000 in
theorem lifted (os : Os) (started : os.Started) (H : Type) (enc : TypeId × Value → H) :
    ReturnsInHanded {} Try.checked os 5 .any (Rows.inputRecordsSpec.pre6 enc Try.prog Try.f5 Rows.inputRecordsRow.domain false) (Rows.inputRecordsSpec.post enc Try.prog Try.f5 false true false false) := by
  refine returnsInHanded_of_change_sized (C := Try.checked) own started (by kernel_rfl) Try.func5
    (ChangeSpec.witness6 (enc := enc) (C := Try.checked) false ⟨#[], #[.slice none 0 0, .int .i64 0], []⟩ 8 (by kernel_rfl) (by kernel_rfl) (by kernel_rfl) (by kernel_rfl)) ?_
  intro W base args ds gs before hval0 hW hcnd hsz0 _
  have hval : ∀ (j : Nat) t v, Try.f5.params[j]? = some t → args[j]? = some v → Value.okWide Try.prog W .any base t v := hval0
  have hW' := hW
  obtain ⟨p, q, hA0, hV, rfl, hfz, hnd⟩ := hW
  have hA : DataW.TrodAll enc Try.prog W 0 (fun _ => true) true Try.f5.params.toList args.toList ds p := hA0
  rw [Try.params5] at hA hval
  obtain ⟨v0, vs0, d0, ds0, p0, q0, hargs, rfl, rfl, h0, r0⟩ := trodAll_cons hA
  obtain ⟨v1, vs1, d1, ds1, p1, q1, rfl, rfl, rfl, h1, r1⟩ := trodAll_cons r0
  obtain ⟨rfl, rfl, rfl⟩ := trodAll_nil r1
  obtain rfl : args = #[v0, v1] := by cases args; simp_all
  obtain ⟨rfl, rfl⟩ := trodVars_none hV
  obtain ⟨a0, len0, cap0, rfl⟩ := okWide_slice Try.underlying23 (hval 0 23 v0 rfl rfl)
  have k0 := h0
  have lt0 : ∀ x ∈ p0, x.block < W.heap.size := by obtain ⟨m, hm⟩ := k0; exact DataW.trod_lt m _ _ _ hm
  obtain ⟨z0, w0⟩ : ∃ zs, IsRow .u8 W a0 len0 cap0 zs := by
    obtain ⟨fuel, hf⟩ := h0
    rcases open_ints Try.underlying23 Try.underlying5 (by kernel_rfl) hf with ⟨hcs, _⟩ | ⟨x, l, c, zs, hcs, _, hl, hm, hz, _, hcell, hwz⟩
    · simp [Value.cells] at hcs
      obtain ⟨rfl, rfl, rfl⟩ := hcs
      exact ⟨[], .inl ⟨rfl, rfl, rfl, rfl⟩⟩
    · simp [Value.cells] at hcs
      obtain ⟨rfl, rfl, rfl⟩ := hcs
      exact ⟨zs, .inr ⟨_, rfl, hl, hm, by simpa using hz, hcell, hwz⟩⟩
  obtain ⟨l0, _, R0⟩ := row_bytes w0
  obtain ⟨a1, rfl, rfl, rfl, w1⟩ := open_int Try.underlying3 (hval 1 3 v1 rfl rfl) h1
  have R1 : RepV W (fun _ => False) [] (.int .i64 a1) (.int .i64 a1) := .int (by simpa [Lit.wf, IntKind.has] using w1)
  clear hA0 hval0 hsz0
  have hreal : RepL W (fun _ => False) [] _ _ := (.cons R0 (.cons R1 .nil))
  refine (law_calls (c5 rounds) tt5_ok (.cons ok11 (.cons ok12 (.cons ok13 (.cons ok14 (.cons ok15 (.cons ok16 (.cons ok17 (.cons ok18 .nil)))))))) follows rfl Try.func5 (law5 l0 a1 ⟨_, _, _, hreal⟩) hreal).mono fun e W' ⟨he, bel⟩ => ?_
  subst he
  exact ⟨_, rfl, _, _, _, [], _, [], hW', trodAll_mk1 (shut_bool Try.underlying4 _), (trodAll_cons_mk (Below.trod laidOut (by kernel_rfl) (of_decide_eq_true (by kernel_rfl)) k0 bel lt0) (trodAll_cons_mk (shut_int Try.underlying3 w1) trodAll_mk0)), rfl, bel.frame _, fun h => by cases h⟩
theorem over : Rows.inputRecordsRow.holds Try.pinned (OpenSpec.ofChange Rows.inputRecordsSpec) :=
  OpenClaim.holds_of_wide 5 Try.f5 rfl rfl rfl rfl rfl rfl rfl ⟨rfl, rfl, rfl, rfl, rfl⟩ rfl rfl rfl rfl rfl (by kernel_rfl) Try.func5 (by kernel_rfl)
    (of_decide_eq_true (by kernel_rfl)) (by unfold Func.isWrapper; first | (rw [if_pos (by decide +kernel)]; kernel_rfl) | (rw [if_neg (by decide +kernel)]; exact ⟨rfl, rfl⟩))
    (fun os started H enc _ => lifted os started H enc)
theorem proved : Rows.InputRecordsSaid := over
end Go.Proofs.Ytdkihlkcnnlkcaa.inputRecords
namespace Go.Proofs.Ytdkihlkcnnlkcaa
/-- The row, under a short name, for the claim. -/
theorem inputRecords_holds : Rows.InputRecordsSaid := inputRecords.proved
#print axioms inputRecords_holds
end Go.Proofs.Ytdkihlkcnnlkcaa
