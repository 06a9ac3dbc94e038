/- ShaRounds: for every input the law returns true, and the input reads as it did; no condition beyond the row. -/
import Derived.Test.YtmkgmlgklggnlaaRows
import Derived.WalkKit
import Derived.ProofKit
import Derived.OpenShut
import Derived.ShutString
import Derived.ChangeOld
import Derived.Below
import Derived.SizedLaws
import Derived.Carry
import Derived.Test.YtmkgmlgklggnlaaSk
import Derived.Test.YtmkgmlgklggnlaaGmYshd
namespace Go.Proofs.YtmkgmlgklggnlaaG
open Go Go.Proofs.YtmkgmlgklggnlaaGm
set_option maxRecDepth 100000
def tt5 : Tab := [(0, ty0), (4, ty4), (5, ty5), (22, ty22), (39, ty39), (40, ty40), (41, ty41), (44, ty44), (41, ty41), (41, ty41)]
theorem tt5_ok : TabOk Try.prog tt5 := tabOk_of_all ⟨ty0_ok, ty4_ok, ty5_ok, ty22_ok, ty39_ok, ty40_ok, ty41_ok, ty44_ok, ty41_ok, ty41_ok, trivial⟩
def c5 (F : Nat) : Cfg := ⟨tt5, [(25, .pure go25), (26, .pure go26), (27, .pure go27), (28, .pure go28)], F, [], [], 0⟩
theorem f5_eq (F : Nat) (s : Hs) (f : Nat → Int) : afun (c5 F) Try.f5 [AV.arr [AV.int IntKind.u32 s.a, AV.int IntKind.u32 s.b, AV.int IntKind.u32 s.c, AV.int IntKind.u32 s.d, AV.int IntKind.u32 s.e, AV.int IntKind.u32 s.f, AV.int IntKind.u32 s.g, AV.int IntKind.u32 s.h], AV.arr (cells64 f)] [] =
  bif eqAs (Hs.cells (roundH keysW s (List.map intOf (List.take 64 (List.drop 0 (cells64 f)))))) (Hs.cells (roundH (List.map intOf (intsA IntKind.u32 keysW)) s (bI (u8of (cells64 f))))) then
    .ret (AV.bool true) [AObj.var 40 [AV.int IntKind.u32 s.a, AV.int IntKind.u32 s.b, AV.int IntKind.u32 s.c, AV.int IntKind.u32 s.d, AV.int IntKind.u32 s.e, AV.int IntKind.u32 s.f, AV.int IntKind.u32 s.g, AV.int IntKind.u32 s.h], AObj.var 41 (cells64 f)]
  else
    .ret (AV.bool false) [AObj.var 40 [AV.int IntKind.u32 s.a, AV.int IntKind.u32 s.b, AV.int IntKind.u32 s.c, AV.int IntKind.u32 s.d, AV.int IntKind.u32 s.e, AV.int IntKind.u32 s.f, AV.int IntKind.u32 s.g, AV.int IntKind.u32 s.h], AObj.var 41 (cells64 f)] := by kernel_rfl

theorem yes_pos {c : Bool} {x y : Res} (h : c = true) (hx : Yes x) : Yes (bif c then x else y) := by rw [h]; exact hx
theorem yes_neg {c : Bool} {x y : Res} (h : c = false) (hy : Yes y) : Yes (bif c then x else y) := by rw [h]; exact hy
theorem yes_bif {c : Bool} {x y : Res} (h1 : c = true → Yes x) (h2 : c = false → Yes y) : Yes (bif c then x else y) := by
  cases c with
  | true => exact h1 rfl
  | false => exact h2 rfl

theorem law5 (h r : List AV) (hf : h.length = 8 ∧ h.all (isInt .u32) = true) (hg : r.length = 64 ∧ r.all (isInt .u8) = true) (hr : Real [.arr h, .arr r]) : apure (c5 rounds) Try.f5 [.arr h, .arr r] = some (.bool true, []) := by
  have hs := hr.tail.arrT.bytesA hg.2
  obtain ⟨s, rfl⟩ : ∃ s : Hs, h = intsA .u32 s.list := ⟨_, eight hf.1 hf.2⟩
  obtain ⟨f, rfl⟩ : ∃ f, r = cells64 f := ⟨_, cells64_of hg.1 hg.2⟩
  refine apure_yes ?_
  have e := f5_eq rounds s f
  rw [List.drop_zero, List.take_of_length_le (Nat.le_of_eq hg.1), intsA_int, bI_u8of hs] at e
  have y : Yes (afun (c5 rounds) Try.f5 [AV.arr [AV.int IntKind.u32 s.a, AV.int IntKind.u32 s.b, AV.int IntKind.u32 s.c, AV.int IntKind.u32 s.d, AV.int IntKind.u32 s.e, AV.int IntKind.u32 s.f, AV.int IntKind.u32 s.g, AV.int IntKind.u32 s.h], AV.arr (cells64 f)] []) := by
    rw [e]
    exact yes_pos (eqAs_refl _) .ret
  exact y
end Go.Proofs.YtmkgmlgklggnlaaG

namespace Go.Proofs.Ytmkgmlgklggnlaa.shaRounds
open Go.ChangeShapes Go.WideShapes Go.ChangeAt Go.RowKit Go.Proofs.YtmkgmlgklggnlaaGm Go.Proofs.YtmkgmlgklggnlaaG
open Go.ChangeMaps (open_string shut_string)
set_option linter.unusedVariables false
theorem own : ownKnob Try.prog.godebug = none := by kernel_rfl
theorem laidOut : laidOutB Try.prog = true := by kernel_rfl
set_option maxRecDepth 100000 in
theorem lifted (os : Os) (started : os.Started) (H : Type) (enc : TypeId × Value → H) :
    ReturnsInHanded {} Try.checked os 5 .any (Rows.shaRoundsSpec.pre6 enc Try.prog Try.f5 Rows.shaRoundsRow.domain false) (Rows.shaRoundsSpec.post enc Try.prog Try.f5 false true false false) := by
  refine returnsInHanded_of_change_sized (C := Try.checked) own started (by kernel_rfl) Try.func5
    (ChangeSpec.witness6 (enc := enc) (C := Try.checked) false ⟨#[], #[.agg #[.int .u32 0, .int .u32 0, .int .u32 0, .int .u32 0, .int .u32 0, .int .u32 0, .int .u32 0, .int .u32 0], .agg #[.int .u8 0, .int .u8 0, .int .u8 0, .int .u8 0, .int .u8 0, .int .u8 0, .int .u8 0, .int .u8 0, .int .u8 0, .int .u8 0, .int .u8 0, .int .u8 0, .int .u8 0, .int .u8 0, .int .u8 0, .int .u8 0, .int .u8 0, .int .u8 0, .int .u8 0, .int .u8 0, .int .u8 0, .int .u8 0, .int .u8 0, .int .u8 0, .int .u8 0, .int .u8 0, .int .u8 0, .int .u8 0, .int .u8 0, .int .u8 0, .int .u8 0, .int .u8 0, .int .u8 0, .int .u8 0, .int .u8 0, .int .u8 0, .int .u8 0, .int .u8 0, .int .u8 0, .int .u8 0, .int .u8 0, .int .u8 0, .int .u8 0, .int .u8 0, .int .u8 0, .int .u8 0, .int .u8 0, .int .u8 0, .int .u8 0, .int .u8 0, .int .u8 0, .int .u8 0, .int .u8 0, .int .u8 0, .int .u8 0, .int .u8 0, .int .u8 0, .int .u8 0, .int .u8 0, .int .u8 0, .int .u8 0, .int .u8 0, .int .u8 0, .int .u8 0]], []⟩ 8 (by kernel_rfl) (by kernel_rfl) (by kernel_rfl) (by kernel_rfl)) ?_
  intro W base args ds gs before hval0 hW hcnd hsz0 _
  have hval : ∀ (j : Nat) t v, Try.f5.params[j]? = some t → args[j]? = some v → Value.okWide Try.prog W .any base t v := hval0
  have hW' := hW
  obtain ⟨p, q, hA0, hV, rfl, hfz, hnd⟩ := hW
  have hA : DataW.TrodAll enc Try.prog W 0 (fun _ => true) true Try.f5.params.toList args.toList ds p := hA0
  rw [Try.params5] at hA hval
  obtain ⟨v0, vs0, d0, ds0, p0, q0, hargs, rfl, rfl, h0, r0⟩ := trodAll_cons hA
  obtain ⟨v1, vs1, d1, ds1, p1, q1, rfl, rfl, rfl, h1, r1⟩ := trodAll_cons r0
  obtain ⟨rfl, rfl, rfl⟩ := trodAll_nil r1
  obtain rfl : args = #[v0, v1] := by cases args; simp_all
  obtain ⟨rfl, rfl⟩ := trodVars_none hV
  have k0 := h0
  have lt0 : ∀ x ∈ p0, x.block < W.heap.size := by obtain ⟨m, hm⟩ := k0; exact DataW.trod_lt m _ _ _ hm
  have z0 : Sized Try.prog 40 d0 := fun n hn => by simpa using List.all_eq_true.1 hsz0 _ (DataW.weights_mem_each (j := 0) (t := 40) (by kernel_rfl) rfl n hn)
  obtain ⟨V0, R0, f0⟩ := open_arg (sh := (.array 8 (.int .u32))) (.array Try.underlying40 (by kernel_rfl) (by kernel_rfl) (.int Try.underlying39)) (hval 0 40 v0 rfl rfl) h0 z0 (harr_ints .u32)
  obtain ⟨l0, rfl, b0⟩ := fits_words f0
  have k1 := h1
  have lt1 : ∀ x ∈ p1, x.block < W.heap.size := by obtain ⟨m, hm⟩ := k1; exact DataW.trod_lt m _ _ _ hm
  have z1 : Sized Try.prog 41 d1 := fun n hn => by simpa using List.all_eq_true.1 hsz0 _ (DataW.weights_mem_each (j := 1) (t := 41) (by kernel_rfl) rfl n hn)
  obtain ⟨V1, R1, f1⟩ := open_arg (sh := (.array 64 (.int .u8))) (.array Try.underlying41 (by kernel_rfl) (by kernel_rfl) (.int Try.underlying5)) (hval 1 41 v1 rfl rfl) h1 z1 (harr_ints .u8)
  obtain ⟨l1, rfl, b1⟩ := fits_block f1
  clear hA0 hval0 hsz0
  have hreal : RepL W (fun _ => False) [] _ _ := (.cons R0 (.cons R1 .nil))
  refine (law_calls (c5 rounds) tt5_ok (.cons ok25 (.cons ok26 (.cons ok27 (.cons ok28 .nil)))) follows rfl Try.func5 (law5 l0 l1 b0 b1 ⟨_, _, _, hreal⟩) hreal).mono fun e W' ⟨he, bel⟩ => ?_
  subst he
  exact ⟨_, rfl, _, _, _, [], _, [], hW', trodAll_mk1 (shut_bool Try.underlying4 _), (trodAll_cons_mk (Below.trod laidOut (by kernel_rfl) (of_decide_eq_true (by kernel_rfl)) k0 bel lt0) (trodAll_cons_mk (Below.trod laidOut (by kernel_rfl) (of_decide_eq_true (by kernel_rfl)) k1 bel lt1) trodAll_mk0)), rfl, bel.frame _, fun h => by cases h⟩
theorem over : Rows.shaRoundsRow.holds Try.pinned (OpenSpec.ofChange Rows.shaRoundsSpec) :=
  OpenClaim.holds_of_wide 5 Try.f5 rfl rfl rfl rfl rfl rfl rfl ⟨rfl, rfl, rfl, rfl, rfl⟩ rfl rfl rfl rfl rfl (by kernel_rfl) Try.func5 (by kernel_rfl)
    (of_decide_eq_true (by kernel_rfl)) (by unfold Func.isWrapper; first | (rw [if_pos (by decide +kernel)]; kernel_rfl) | (rw [if_neg (by decide +kernel)]; exact ⟨rfl, rfl⟩))
    (fun os started H enc _ => lifted os started H enc)
theorem proved : Rows.ShaRoundsSaid := over
end Go.Proofs.Ytmkgmlgklggnlaa.shaRounds
namespace Go.Proofs.Ytmkgmlgklggnlaa
/-- The row, under a short name, for the claim. -/
theorem shaRounds_holds : Rows.ShaRoundsSaid := shaRounds.proved
#print axioms shaRounds_holds
end Go.Proofs.Ytmkgmlgklggnlaa
