/- ChainGets: for every input the law returns true, and the input reads as it did; no condition beyond the row. -/
import Derived.Test.YtmkgmlgklggnlaaRows
import Derived.WalkKit
import Derived.ProofKit
import Derived.OpenShut
import Derived.ShutString
import Derived.ChangeOld
import Derived.Below
import Derived.SizedLaws
import Derived.Carry
import Derived.Test.YtmkgmlgklggnlaaCd
namespace Go.Proofs.YtmkgmlgklggnlaaG
open Go Go.Proofs.YtmkgmlgklggnlaaGm
set_option maxRecDepth 100000
def tt3 : Tab := [(0, ty0), (3, ty3), (4, ty4), (5, ty5), (22, ty22), (24, ty24), (26, ty26), (27, ty27), (28, ty28), (30, ty30), (52, ty52)]
theorem tt3_ok : TabOk Try.prog tt3 := tabOk_of_all ⟨ty0_ok, ty3_ok, ty4_ok, ty5_ok, ty22_ok, ty24_ok, ty26_ok, ty27_ok, ty28_ok, ty30_ok, ty52_ok, trivial⟩
def c3 (F : Nat) : Cfg := ⟨tt3, [(15, .pure go15), (16, .pure go16), (17, .pure go16), (18, .pure go23), (19, .pure go19)], F, [], [], 0⟩
theorem f3_eq (F : Nat) (a0 : List UInt8) : afun (c3 F) Try.f3 [AV.ro (Pay.bytes a0)] [] =
  bif ltI 300 ↑a0.length then
    .ret (AV.bool true) []
  else
    bif a0.length.ble 800000 then
      bif a0.length.ble 800000 then
        bif okS (getE a0).fst.snd.snd.snd.snd && okS (getE a0).fst.snd.snd.snd.snd then
          bif sameE (getE a0).fst.fst (getE a0).fst.snd.fst (getE a0).fst.snd.snd.fst (getE a0).fst.snd.snd.snd.fst (getE a0).fst.snd.snd.snd.snd (getE a0).fst.fst (getE a0).fst.snd.fst (getE a0).fst.snd.snd.fst (getE a0).fst.snd.snd.snd.fst (getE a0).fst.snd.snd.snd.snd then
            bif eqI (getE a0).snd (getE a0).snd then
              .ret (AV.bool true) [AObj.var 26 [AV.int IntKind.i64 (getE a0).fst.fst, AV.int IntKind.i64 (getE a0).fst.snd.fst, AV.int IntKind.i64 (getE a0).fst.snd.snd.fst, AV.int IntKind.i64 (getE a0).fst.snd.snd.snd.fst, AV.ro (Pay.rows 32 (getE a0).fst.snd.snd.snd.snd)], AObj.var 26 [AV.int IntKind.i64 (getE a0).fst.fst, AV.int IntKind.i64 (getE a0).fst.snd.fst, AV.int IntKind.i64 (getE a0).fst.snd.snd.fst, AV.int IntKind.i64 (getE a0).fst.snd.snd.snd.fst, AV.ro (Pay.rows 32 (getE a0).fst.snd.snd.snd.snd)]]
            else
              .ret (AV.bool false) [AObj.var 26 [AV.int IntKind.i64 (getE a0).fst.fst, AV.int IntKind.i64 (getE a0).fst.snd.fst, AV.int IntKind.i64 (getE a0).fst.snd.snd.fst, AV.int IntKind.i64 (getE a0).fst.snd.snd.snd.fst, AV.ro (Pay.rows 32 (getE a0).fst.snd.snd.snd.snd)], AObj.var 26 [AV.int IntKind.i64 (getE a0).fst.fst, AV.int IntKind.i64 (getE a0).fst.snd.fst, AV.int IntKind.i64 (getE a0).fst.snd.snd.fst, AV.int IntKind.i64 (getE a0).fst.snd.snd.snd.fst, AV.ro (Pay.rows 32 (getE a0).fst.snd.snd.snd.snd)]]
          else
            .ret (AV.bool false) [AObj.var 26 [AV.int IntKind.i64 (getE a0).fst.fst, AV.int IntKind.i64 (getE a0).fst.snd.fst, AV.int IntKind.i64 (getE a0).fst.snd.snd.fst, AV.int IntKind.i64 (getE a0).fst.snd.snd.snd.fst, AV.ro (Pay.rows 32 (getE a0).fst.snd.snd.snd.snd)], AObj.var 26 [AV.int IntKind.i64 (getE a0).fst.fst, AV.int IntKind.i64 (getE a0).fst.snd.fst, AV.int IntKind.i64 (getE a0).fst.snd.snd.fst, AV.int IntKind.i64 (getE a0).fst.snd.snd.snd.fst, AV.ro (Pay.rows 32 (getE a0).fst.snd.snd.snd.snd)]]
        else
          .stuck
      else
        .stuck
    else
      .stuck := by kernel_rfl


theorem yes_pos {c : Bool} {x y : Res} (h : c = true) (hx : Yes x) : Yes (bif c then x else y) := by rw [h]; exact hx
theorem yes_neg {c : Bool} {x y : Res} (h : c = false) (hy : Yes y) : Yes (bif c then x else y) := by rw [h]; exact hy
theorem yes_bif {c : Bool} {x y : Res} (h1 : c = true → Yes x) (h2 : c = false → Yes y) : Yes (bif c then x else y) := by
  cases c with
  | true => exact h1 rfl
  | false => exact h2 rfl

theorem law3 (l : List UInt8) (_ : Real [.ro (.bytes l)]) : apure (c3 rounds) Try.f3 [.ro (.bytes l)] = some (.bool true, []) := by
  refine apure_yes ?_
  rw [f3_eq]
  refine yes_bif (fun _ => .ret) fun g => ?_
  have g := ltI_f.1 g
  have h1 : l.length.ble 800000 = true := by rw [ble_iff]; omega
  have ho := getE_ok l
  rw [h1, ho, sameE_self ho]
  exact yes_pos rfl (yes_pos rfl (yes_pos rfl (yes_pos rfl (yes_pos (eqI_iff.2 rfl) .ret))))
end Go.Proofs.YtmkgmlgklggnlaaG

namespace Go.Proofs.Ytmkgmlgklggnlaa.chainGets
open Go.ChangeShapes Go.WideShapes Go.ChangeAt Go.RowKit Go.Proofs.YtmkgmlgklggnlaaGm Go.Proofs.YtmkgmlgklggnlaaG
open Go.ChangeMaps (open_string shut_string)
set_option linter.unusedVariables false
theorem own : ownKnob Try.prog.godebug = none := by kernel_rfl
theorem laidOut : laidOutB Try.prog = true := by kernel_rfl
set_option maxRecDepth 100000 in
theorem lifted (os : Os) (started : os.Started) (H : Type) (enc : TypeId × Value → H) :
    ReturnsInHanded {} Try.checked os 3 .any (Rows.chainGetsSpec.pre6 enc Try.prog Try.f3 Rows.chainGetsRow.domain false) (Rows.chainGetsSpec.post enc Try.prog Try.f3 false true false false) := by
  refine returnsInHanded_of_change_sized (C := Try.checked) own started (by kernel_rfl) Try.func3
    (ChangeSpec.witness6 (enc := enc) (C := Try.checked) false ⟨#[], #[.slice none 0 0], []⟩ 8 (by kernel_rfl) (by kernel_rfl) (by kernel_rfl) (by kernel_rfl)) ?_
  intro W base args ds gs before hval0 hW hcnd hsz0 _
  have hval : ∀ (j : Nat) t v, Try.f3.params[j]? = some t → args[j]? = some v → Value.okWide Try.prog W .any base t v := hval0
  have hW' := hW
  obtain ⟨p, q, hA0, hV, rfl, hfz, hnd⟩ := hW
  have hA : DataW.TrodAll enc Try.prog W 0 (fun _ => true) true Try.f3.params.toList args.toList ds p := hA0
  rw [Try.params3] at hA hval
  obtain ⟨v0, vs0, d0, ds0, p0, q0, hargs, rfl, rfl, h0, r0⟩ := trodAll_cons hA
  obtain ⟨rfl, rfl, rfl⟩ := trodAll_nil r0
  obtain rfl : args = #[v0] := by cases args; simp_all
  obtain ⟨rfl, rfl⟩ := trodVars_none hV
  obtain ⟨a0, len0, cap0, rfl⟩ := okWide_slice Try.underlying22 (hval 0 22 v0 rfl rfl)
  have k0 := h0
  have lt0 : ∀ x ∈ p0, x.block < W.heap.size := by obtain ⟨m, hm⟩ := k0; exact DataW.trod_lt m _ _ _ hm
  obtain ⟨z0, w0⟩ : ∃ zs, IsRow .u8 W a0 len0 cap0 zs := by
    obtain ⟨fuel, hf⟩ := h0
    rcases open_ints Try.underlying22 Try.underlying5 (by kernel_rfl) hf with ⟨hcs, _⟩ | ⟨x, l, c, zs, hcs, _, hl, hm, hz, _, hcell, hwz⟩
    · simp [Value.cells] at hcs
      obtain ⟨rfl, rfl, rfl⟩ := hcs
      exact ⟨[], .inl ⟨rfl, rfl, rfl, rfl⟩⟩
    · simp [Value.cells] at hcs
      obtain ⟨rfl, rfl, rfl⟩ := hcs
      exact ⟨zs, .inr ⟨_, rfl, hl, hm, by simpa using hz, hcell, hwz⟩⟩
  obtain ⟨l0, _, R0⟩ := row_bytes w0
  clear hA0 hval0 hsz0
  have hreal : RepL W (fun _ => False) [] _ _ := (.cons R0 .nil)
  refine (law_calls (c3 rounds) tt3_ok (.cons ok15 (.cons ok16 (.cons ok17 (.cons ok18 (.cons ok19 .nil))))) follows rfl Try.func3 (law3 l0 ⟨_, _, _, hreal⟩) hreal).mono fun e W' ⟨he, bel⟩ => ?_
  subst he
  exact ⟨_, rfl, _, _, _, [], _, [], hW', trodAll_mk1 (shut_bool Try.underlying4 _), (trodAll_cons_mk (Below.trod laidOut (by kernel_rfl) (of_decide_eq_true (by kernel_rfl)) k0 bel lt0) trodAll_mk0), rfl, bel.frame _, fun h => by cases h⟩
theorem over : Rows.chainGetsRow.holds Try.pinned (OpenSpec.ofChange Rows.chainGetsSpec) :=
  OpenClaim.holds_of_wide 3 Try.f3 rfl rfl rfl rfl rfl rfl rfl ⟨rfl, rfl, rfl, rfl, rfl⟩ rfl rfl rfl rfl rfl (by kernel_rfl) Try.func3 (by kernel_rfl)
    (of_decide_eq_true (by kernel_rfl)) (by unfold Func.isWrapper; first | (rw [if_pos (by decide +kernel)]; kernel_rfl) | (rw [if_neg (by decide +kernel)]; exact ⟨rfl, rfl⟩))
    (fun os started H enc _ => lifted os started H enc)
theorem proved : Rows.ChainGetsSaid := over
end Go.Proofs.Ytmkgmlgklggnlaa.chainGets
namespace Go.Proofs.Ytmkgmlgklggnlaa
/-- The row, under a short name, for the claim. -/
theorem chainGets_holds : Rows.ChainGetsSaid := chainGets.proved
#print axioms chainGets_holds
end Go.Proofs.Ytmkgmlgklggnlaa
