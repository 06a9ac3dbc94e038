/- InputBounds: for every input the law returns true, and the input reads as it did; no condition beyond the row. -/
import Derived.Test.YtdkihlkcnnlkcaaRows
import Derived.WalkKit
import Derived.ProofKit
import Derived.OpenShut
import Derived.ShutString
import Derived.ChangeOld
import Derived.Below
import Derived.SizedLaws
import Derived.Carry
import Derived.Test.YtdkihlkcnnlkcaaGx
import Derived.Test.YtdkihlkcnnlkcaaGmYnote
namespace Go.Proofs.YtdkihlkcnnlkcaaG
open Go Go.Proofs.YtdkihlkcnnlkcaaGm
set_option maxRecDepth 100000
def tt3 : Tab := [(0, ty0), (3, ty3), (4, ty4), (5, ty5), (9, ty9), (22, ty22), (23, ty23), (24, ty24), (25, ty25), (26, ty26), (28, ty28), (35, ty35)]
theorem tt3_ok : TabOk Try.prog tt3 := tabOk_of_all ⟨ty0_ok, ty3_ok, ty4_ok, ty5_ok, ty9_ok, ty22_ok, ty23_ok, ty24_ok, ty25_ok, ty26_ok, ty28_ok, ty35_ok, trivial⟩
def c3 (F : Nat) : Cfg := ⟨tt3, [(11, .pure go11), (12, .pure go11), (13, .pure go13), (14, .pure go14), (15, .pure go15)], F, [(0, ⟨[0, 6, 7], []⟩)], [], 0⟩
noncomputable def f3_0 (F k : Nat) (x0 : Int) (x7 : Int) (xh0 : List UInt8) : Res := aloop (c3 F) Try.f3 0 [] k (St.mk [AV.int IntKind.u8 x0, AV.top, AV.top, AV.top, AV.top, AV.top, AV.own 0, AV.int IntKind.i64 x7, AV.top, AV.top, AV.top, AV.top, AV.top, AV.top, AV.top, AV.top, AV.top, AV.top, AV.top, AV.top, AV.top, AV.top, AV.top, AV.top, AV.top, AV.top, AV.top, AV.top, AV.top, AV.top, AV.top, AV.top, AV.top, AV.top, AV.top, AV.top, AV.top, AV.top, AV.top, AV.top, AV.top, AV.top, AV.top, AV.top, AV.top, AV.top, AV.top, AV.top, AV.top, AV.top, AV.top, AV.top, AV.top, AV.top, AV.top, AV.top, AV.top, AV.top, AV.top, AV.top, AV.top, AV.top, AV.top, AV.top, AV.top, AV.top, AV.top, AV.top] [AObj.arr 5 (Pay.bytes xh0)])
theorem f3_eq (F : Nat) (a0 : Int) (a1 : Int) : afun (c3 F) Try.f3 [AV.int IntKind.u8 a0, AV.int IntKind.u32 a1] [] =
  bif leI 0 (IntKind.i64.wrap (3 + irem (IntKind.i64.wrap a1) 70000)) && leI (IntKind.i64.wrap (3 + irem (IntKind.i64.wrap a1) 70000)) (IntKind.i64.wrap (3 + irem (IntKind.i64.wrap a1) 70000)) && leI (IntKind.i64.wrap (3 + irem (IntKind.i64.wrap a1) 70000) * ↑1) 140737488355328 && true then
    f3_0 F F a0 0 (List.replicate (IntKind.i64.wrap (3 + irem (IntKind.i64.wrap a1) 70000)).toNat 0)
  else
    .stuck := by kernel_rfl
theorem f3_0_eq (F k : Nat) (x0 : Int) (x7 : Int) (xh0 : List UInt8) : f3_0 F (k + 1) x0 x7 xh0 =
  bif ltI x7 ↑xh0.length then
    bif inB x7 xh0.length then
      bif x7.toNat.blt xh0.length && true && true && true then
        bif eqI (irem x0 2) 0 then
          bif inB x7 (xh0.set x7.toNat (UInt8.ofNat (Int.toNat 97))).length then
            bif x7.toNat.blt (xh0.set x7.toNat (UInt8.ofNat (Int.toNat 97))).length && true && true && true then
              f3_0 F k x0 (IntKind.i64.wrap (x7 + 1)) ((xh0.set x7.toNat (UInt8.ofNat (Int.toNat 97))).set x7.toNat (UInt8.ofNat (Int.toNat 10)))
            else
              .stuck
          else
            .stuck
        else
          bif eqI x7 2 then
            bif inB x7 (xh0.set x7.toNat (UInt8.ofNat (Int.toNat 97))).length then
              bif x7.toNat.blt (xh0.set x7.toNat (UInt8.ofNat (Int.toNat 97))).length && true && true && true then
                f3_0 F k x0 (IntKind.i64.wrap (x7 + 1)) ((xh0.set x7.toNat (UInt8.ofNat (Int.toNat 97))).set x7.toNat (UInt8.ofNat (Int.toNat 10)))
              else
                .stuck
            else
              .stuck
          else
            f3_0 F k x0 (IntKind.i64.wrap (x7 + 1)) (xh0.set x7.toNat (UInt8.ofNat (Int.toNat 97)))
      else
        .stuck
    else
      .stuck
  else
    bif okI (recRows (records xh0).fst) && okI (recRows (records xh0).fst) then
      bif decide (decIs (recRows (records xh0).fst) = decIs (recRows (records xh0).fst)) then
        bif eqI ↑(records xh0).snd.fst ↑(records xh0).snd.fst then
          bif eqI (records xh0).snd.snd (records xh0).snd.snd then
            .ret (AV.bool true) [AObj.dead]
          else
            .ret (AV.bool false) [AObj.dead]
        else
          .ret (AV.bool false) [AObj.dead]
      else
        .ret (AV.bool false) [AObj.dead]
    else
      .stuck := by kernel_rfl


theorem yes_pos {c : Bool} {x y : Res} (h : c = true) (hx : Yes x) : Yes (bif c then x else y) := by rw [h]; exact hx
theorem yes_neg {c : Bool} {x y : Res} (h : c = false) (hy : Yes y) : Yes (bif c then x else y) := by rw [h]; exact hy
theorem yes_bif {c : Bool} {x y : Res} (h1 : c = true → Yes x) (h2 : c = false → Yes y) : Yes (bif c then x else y) := by
  cases c with
  | true => exact h1 rfl
  | false => exact h2 rfl

theorem run3 (F : Nat) (x : Int) : ∀ (d k j : Nat) (s : Txt), j + d = s.length → d < k → s.length ≤ 100000 → Yes (f3_0 F k x j s)
  | d, k + 1, j, s, h1, h2, h3 => by
    rw [f3_0_eq]
    refine yes_bif (fun g => ?_) fun _ => ?_
    · have g := ltI_iff.1 g
      obtain ⟨d, rfl⟩ : ∃ m, d = m + 1 := ⟨d - 1, by omega⟩
      have ih : ∀ t : Txt, t.length = s.length → Yes (f3_0 F k x ((j + 1 : Nat) : Int) t) := fun t ht => run3 F x d k (j + 1) t (by omega) (by omega) (by omega)
      have hb : ∀ t : Txt, t.length = s.length → (Int.toNat (j : Int)).blt t.length = true := fun t ht => by rw [blt_iff]; omega
      have hi : ∀ t : Txt, t.length = s.length → inB (j : Int) t.length = true := fun t ht => by rw [inB_iff]; omega
      rw [wrap64 (n := (j : Int) + 1) (by omega) (by omega), hb s rfl, hb _ (List.length_set ..), hi s rfl, hi _ (List.length_set ..)]
      simp only [Bool.and_true, cond_true]
      refine yes_bif (fun _ => ih _ (by rw [List.length_set, List.length_set])) fun _ => yes_bif (fun _ => ih _ (by rw [List.length_set, List.length_set])) fun _ => ih _ (List.length_set ..)
    · rw [recRows_recsI, okI_map, decIs_map]
      exact yes_pos rfl (yes_pos (decide_eq_true rfl) (yes_pos (eqI_iff.2 rfl) (yes_pos (eqI_iff.2 rfl) .ret)))
theorem law3 (a0 a1 : Int) (hr : Real [.int .u8 a0, .int .u32 a1]) : apure (c3 rounds) Try.f3 [.int .u8 a0, .int .u32 a1] = some (.bool true, []) := by
  have h1 : 0 ≤ a1 ∧ a1 ≤ 4294967295 := by simpa [IntKind.has, IntKind.min, IntKind.max, IntKind.signed, IntKind.bits] using hr.tail.int
  refine apure_yes ?_
  rw [f3_eq, wrap64 (n := a1) (by omega) (by omega), irem_eq h1.1]
  have k0 : 0 ≤ a1 % 70000 ∧ a1 % 70000 < 70000 := by omega
  generalize a1 % 70000 = k at k0
  rw [wrap64 (n := 3 + k) (by omega) (by omega)]
  refine yes_pos ?_ ?_
  · simp only [Bool.and_eq_true, Bool.and_true, leI_iff]; omega
  · exact run3 rounds a0 (3 + k).toNat rounds 0 _ (by rw [List.length_replicate]; omega) (Nat.lt_of_le_of_lt (by omega) big) (by rw [List.length_replicate]; omega)
end Go.Proofs.YtdkihlkcnnlkcaaG

namespace Go.Proofs.Ytdkihlkcnnlkcaa.inputBounds
open Go.ChangeShapes Go.WideShapes Go.ChangeAt Go.RowKit Go.Proofs.YtdkihlkcnnlkcaaGm Go.Proofs.YtdkihlkcnnlkcaaG
open Go.ChangeMaps (open_string shut_string)
set_option linter.unusedVariables false
theorem own : ownKnob Try.prog.godebug = none := by kernel_rfl
theorem laidOut : laidOutB Try.prog = true := by kernel_rfl
set_option maxRecDepth 100000 in
theorem lifted (os : Os) (started : os.Started) (H : Type) (enc : TypeId × Value → H) :
    ReturnsInHanded {} Try.checked os 3 .any (Rows.inputBoundsSpec.pre6 enc Try.prog Try.f3 Rows.inputBoundsRow.domain false) (Rows.inputBoundsSpec.post enc Try.prog Try.f3 false true false false) := by
  refine returnsInHanded_of_change_sized (C := Try.checked) own started (by kernel_rfl) Try.func3
    (ChangeSpec.witness6 (enc := enc) (C := Try.checked) false ⟨#[], #[.int .u8 0, .int .u32 0], []⟩ 8 (by kernel_rfl) (by kernel_rfl) (by kernel_rfl) (by kernel_rfl)) ?_
  intro W base args ds gs before hval0 hW hcnd hsz0 _
  have hval : ∀ (j : Nat) t v, Try.f3.params[j]? = some t → args[j]? = some v → Value.okWide Try.prog W .any base t v := hval0
  have hW' := hW
  obtain ⟨p, q, hA0, hV, rfl, hfz, hnd⟩ := hW
  have hA : DataW.TrodAll enc Try.prog W 0 (fun _ => true) true Try.f3.params.toList args.toList ds p := hA0
  rw [Try.params3] at hA hval
  obtain ⟨v0, vs0, d0, ds0, p0, q0, hargs, rfl, rfl, h0, r0⟩ := trodAll_cons hA
  obtain ⟨v1, vs1, d1, ds1, p1, q1, rfl, rfl, rfl, h1, r1⟩ := trodAll_cons r0
  obtain ⟨rfl, rfl, rfl⟩ := trodAll_nil r1
  obtain rfl : args = #[v0, v1] := by cases args; simp_all
  obtain ⟨rfl, rfl⟩ := trodVars_none hV
  obtain ⟨a0, rfl, rfl, rfl, w0⟩ := open_int Try.underlying5 (hval 0 5 v0 rfl rfl) h0
  have R0 : RepV W (fun _ => False) [] (.int .u8 a0) (.int .u8 a0) := .int (by simpa [Lit.wf, IntKind.has] using w0)
  obtain ⟨a1, rfl, rfl, rfl, w1⟩ := open_int Try.underlying22 (hval 1 22 v1 rfl rfl) h1
  have R1 : RepV W (fun _ => False) [] (.int .u32 a1) (.int .u32 a1) := .int (by simpa [Lit.wf, IntKind.has] using w1)
  clear hA0 hval0 hsz0
  have hreal : RepL W (fun _ => False) [] _ _ := (.cons R0 (.cons R1 .nil))
  refine (law_calls (c3 rounds) tt3_ok (.cons ok11 (.cons ok12 (.cons ok13 (.cons ok14 (.cons ok15 .nil))))) follows rfl Try.func3 (law3 a0 a1 ⟨_, _, _, hreal⟩) hreal).mono fun e W' ⟨he, bel⟩ => ?_
  subst he
  exact ⟨_, rfl, _, _, _, [], _, [], hW', trodAll_mk1 (shut_bool Try.underlying4 _), (trodAll_cons_mk (shut_int Try.underlying5 w0) (trodAll_cons_mk (shut_int Try.underlying22 w1) trodAll_mk0)), rfl, bel.frame _, fun h => by cases h⟩
theorem over : Rows.inputBoundsRow.holds Try.pinned (OpenSpec.ofChange Rows.inputBoundsSpec) :=
  OpenClaim.holds_of_wide 3 Try.f3 rfl rfl rfl rfl rfl rfl rfl ⟨rfl, rfl, rfl, rfl, rfl⟩ rfl rfl rfl rfl rfl (by kernel_rfl) Try.func3 (by kernel_rfl)
    (of_decide_eq_true (by kernel_rfl)) (by unfold Func.isWrapper; first | (rw [if_pos (by decide +kernel)]; kernel_rfl) | (rw [if_neg (by decide +kernel)]; exact ⟨rfl, rfl⟩))
    (fun os started H enc _ => lifted os started H enc)
theorem proved : Rows.InputBoundsSaid := over
end Go.Proofs.Ytdkihlkcnnlkcaa.inputBounds
namespace Go.Proofs.Ytdkihlkcnnlkcaa
/-- The row, under a short name, for the claim. -/
theorem inputBounds_holds : Rows.InputBoundsSaid := inputBounds.proved
#print axioms inputBounds_holds
end Go.Proofs.Ytdkihlkcnnlkcaa
