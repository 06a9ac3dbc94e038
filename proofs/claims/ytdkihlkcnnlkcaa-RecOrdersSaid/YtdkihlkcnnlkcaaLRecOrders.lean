/- RecOrders: for every input the law returns true, and the input reads as it did; no condition beyond the row. -/
import Derived.Test.YtdkihlkcnnlkcaaRows
import Derived.WalkKit
import Derived.ProofKit
import Derived.OpenShut
import Derived.ShutString
import Derived.ChangeOld
import Derived.Below
import Derived.SizedLaws
import Derived.Carry
import Derived.Test.YtdkihlkcnnlkcaaGr
import Derived.Test.YtdkihlkcnnlkcaaGmYrecf
namespace Go.Proofs.YtdkihlkcnnlkcaaG
open Go Go.Proofs.YtdkihlkcnnlkcaaGm
set_option maxRecDepth 100000
def tt8 : Tab := [(0, ty0), (1, ty1), (3, ty3), (4, ty4), (9, ty9), (47, ty47), (48, ty48)]
theorem tt8_ok : TabOk Try.prog tt8 := tabOk_of_all ⟨ty0_ok, ty1_ok, ty3_ok, ty4_ok, ty9_ok, ty47_ok, ty48_ok, trivial⟩
def c8 (F : Nat) : Cfg := ⟨tt8, [(22, .pure go22), (26, .pure go26), (27, .pure go27), (28, .pure go27), (29, .pure go30), (30, .pure go30)], F, [], [], 0⟩
theorem f8_eq (F : Nat) (a0_0 : List UInt8) (a0_1 : List UInt8) (a1_0 : List UInt8) (a1_1 : List UInt8) (a2 : List (List AV)) : afun (c8 F) Try.f8 [AV.agg [AV.str a0_0, AV.str a0_1], AV.agg [AV.str a1_0, AV.str a1_1], AV.ro (Pay.rows 2 a2)] [] =
  bif okRows 2 a2 && roomT (decRows a2).flatten then
    bif longF (lens (decRows a2)) 0 0 then
      .ret (AV.bool true) [AObj.var 47 [AV.str a0_0, AV.str a0_1], AObj.var 47 [AV.str a1_0, AV.str a1_1]]
    else
      bif ltI 1000 (IntKind.i64.wrap (↑a0_0.length + ↑a1_0.length)) then
        .ret (AV.bool true) [AObj.var 47 [AV.str a0_0, AV.str a0_1], AObj.var 47 [AV.str a1_0, AV.str a1_1]]
      else
        bif ltI 1000 (IntKind.i64.wrap (↑a0_1.length + ↑a1_1.length)) then
          .ret (AV.bool true) [AObj.var 47 [AV.str a0_0, AV.str a0_1], AObj.var 47 [AV.str a1_0, AV.str a1_1]]
        else
          bif eqI (ordP a0_0 a0_1 a1_0 a1_1) (ordP a0_0 a0_1 a1_0 a1_1) then
            bif eqI (ordP a1_0 a1_1 a0_0 a0_1) (IntKind.i64.wrap (0 - ordP a0_0 a0_1 a1_0 a1_1)) then
              bif okRows 2 a2 then
                bif okRows 2 a2 then
                  bif chainB lessK (decRows a2) == chainB lessK (decRows a2) then
                    .ret (AV.bool true) [AObj.var 47 [AV.str a0_0, AV.str a0_1], AObj.var 47 [AV.str a1_0, AV.str a1_1]]
                  else
                    .ret (AV.bool false) [AObj.var 47 [AV.str a0_0, AV.str a0_1], AObj.var 47 [AV.str a1_0, AV.str a1_1]]
                else
                  .stuck
              else
                .stuck
            else
              .ret (AV.bool false) [AObj.var 47 [AV.str a0_0, AV.str a0_1], AObj.var 47 [AV.str a1_0, AV.str a1_1]]
          else
            .ret (AV.bool false) [AObj.var 47 [AV.str a0_0, AV.str a0_1], AObj.var 47 [AV.str a1_0, AV.str a1_1]]
  else
    .stuck := by kernel_rfl


theorem yes_pos {c : Bool} {x y : Res} (h : c = true) (hx : Yes x) : Yes (bif c then x else y) := by rw [h]; exact hx
theorem yes_neg {c : Bool} {x y : Res} (h : c = false) (hy : Yes y) : Yes (bif c then x else y) := by rw [h]; exact hy
theorem yes_bif {c : Bool} {x y : Res} (h1 : c = true → Yes x) (h2 : c = false → Yes y) : Yes (bif c then x else y) := by
  cases c with
  | true => exact h1 rfl
  | false => exact h2 rfl

theorem law8 (p q : Txt × Txt) (X : List (List Txt)) (hp : p.1.length ≤ 140737488355328 ∧ p.2.length ≤ 140737488355328) (hq : q.1.length ≤ 140737488355328 ∧ q.2.length ≤ 140737488355328) (hX : (∀ t ∈ X, t.length = 2) ∧ roomT X.flatten = true)
    (_ : Real [.agg [.str p.1, .str p.2], .agg [.str q.1, .str q.2], .ro (.rows 2 (X.map strRow))]) : apure (c8 rounds) Try.f8 [.agg [.str p.1, .str p.2], .agg [.str q.1, .str q.2], .ro (.rows 2 (X.map strRow))] = some (.bool true, []) := by
  refine apure_yes ?_
  have hr := ordP_range p.1 p.2 q.1 q.2
  have ho := okRows_map hX.1
  rw [f8_eq, decRows_map, ho, hX.2, wrap64 (n := 0 - _) (by omega) (by omega)]
  refine yes_pos rfl (yes_bif (fun _ => .ret) fun _ => yes_bif (fun _ => .ret) fun _ => yes_bif (fun _ => .ret) fun _ => ?_)
  refine yes_pos (eqI_iff.2 rfl) (yes_pos (eqI_iff.2 ?_) (yes_pos rfl (yes_pos rfl (yes_pos (by cases chainB lessK X <;> rfl) .ret))))
  rw [ordP_swap p.1 p.2 q.1 q.2]; omega
end Go.Proofs.YtdkihlkcnnlkcaaG

namespace Go.Proofs.Ytdkihlkcnnlkcaa.recOrders
open Go.ChangeShapes Go.WideShapes Go.ChangeAt Go.RowKit Go.Proofs.YtdkihlkcnnlkcaaGm Go.Proofs.YtdkihlkcnnlkcaaG
open Go.ChangeMaps (open_string shut_string)
set_option linter.unusedVariables false
theorem own : ownKnob Try.prog.godebug = none := by kernel_rfl
theorem laidOut : laidOutB Try.prog = true := by kernel_rfl
set_option maxRecDepth 100000 in
theorem lifted (os : Os) (started : os.Started) (H : Type) (enc : TypeId × Value → H) :
    ReturnsInHanded {} Try.checked os 8 .any (Rows.recOrdersSpec.pre6 enc Try.prog Try.f8 Rows.recOrdersRow.domain false) (Rows.recOrdersSpec.post enc Try.prog Try.f8 false true false false) := by
  refine returnsInHanded_of_change_sized (C := Try.checked) own started (by kernel_rfl) Try.func8
    (ChangeSpec.witness6 (enc := enc) (C := Try.checked) false ⟨#[], #[.agg #[.string ByteArray.empty, .string ByteArray.empty], .agg #[.string ByteArray.empty, .string ByteArray.empty], .slice none 0 0], []⟩ 8 (by kernel_rfl) (by kernel_rfl) (by kernel_rfl) (by kernel_rfl)) ?_
  intro W base args ds gs before hval0 hW hcnd hsz0 _
  have hval : ∀ (j : Nat) t v, Try.f8.params[j]? = some t → args[j]? = some v → Value.okWide Try.prog W .any base t v := hval0
  have hW' := hW
  obtain ⟨p, q, hA0, hV, rfl, hfz, hnd⟩ := hW
  have hA : DataW.TrodAll enc Try.prog W 0 (fun _ => true) true Try.f8.params.toList args.toList ds p := hA0
  rw [Try.params8] at hA hval
  obtain ⟨v0, vs0, d0, ds0, p0, q0, hargs, rfl, rfl, h0, r0⟩ := trodAll_cons hA
  obtain ⟨v1, vs1, d1, ds1, p1, q1, rfl, rfl, rfl, h1, r1⟩ := trodAll_cons r0
  obtain ⟨v2, vs2, d2, ds2, p2, q2, rfl, rfl, rfl, h2, r2⟩ := trodAll_cons r1
  obtain ⟨rfl, rfl, rfl⟩ := trodAll_nil r2
  obtain rfl : args = #[v0, v1, v2] := by cases args; simp_all
  obtain ⟨rfl, rfl⟩ := trodVars_none hV
  have k0 := h0
  have lt0 : ∀ x ∈ p0, x.block < W.heap.size := by obtain ⟨m, hm⟩ := k0; exact DataW.trod_lt m _ _ _ hm
  have z0 : Sized Try.prog 47 d0 := fun n hn => by simpa using List.all_eq_true.1 hsz0 _ (DataW.weights_mem_each (j := 0) (t := 47) (by kernel_rfl) rfl n hn)
  obtain ⟨V0, R0, f0⟩ := open_arg (sh := (.struct [.str, .str])) (.struct Try.underlying47 (by kernel_rfl) (.cons rfl (by kernel_rfl) (.str Try.underlying9) (.cons rfl (by kernel_rfl) (.str Try.underlying9) .nil))) (hval 0 47 v0 rfl rfl) h0 z0 (fun _ _ h => by cases h)
  obtain ⟨l0, rfl, b0⟩ := fits_pair f0
  have k1 := h1
  have lt1 : ∀ x ∈ p1, x.block < W.heap.size := by obtain ⟨m, hm⟩ := k1; exact DataW.trod_lt m _ _ _ hm
  have z1 : Sized Try.prog 47 d1 := fun n hn => by simpa using List.all_eq_true.1 hsz0 _ (DataW.weights_mem_each (j := 1) (t := 47) (by kernel_rfl) rfl n hn)
  obtain ⟨V1, R1, f1⟩ := open_arg (sh := (.struct [.str, .str])) (.struct Try.underlying47 (by kernel_rfl) (.cons rfl (by kernel_rfl) (.str Try.underlying9) (.cons rfl (by kernel_rfl) (.str Try.underlying9) .nil))) (hval 1 47 v1 rfl rfl) h1 z1 (fun _ _ h => by cases h)
  obtain ⟨l1, rfl, b1⟩ := fits_pair f1
  have k2 := h2
  have lt2 : ∀ x ∈ p2, x.block < W.heap.size := by obtain ⟨m, hm⟩ := k2; exact DataW.trod_lt m _ _ _ hm
  have z2 : Sized Try.prog 48 d2 := fun n hn => by simpa using List.all_eq_true.1 hsz0 _ (DataW.weights_mem_each (j := 2) (t := 48) (by kernel_rfl) rfl n hn)
  obtain ⟨V2, R2, f2⟩ := open_arg (sh := (.slice (.struct [.str, .str]))) (.slice Try.underlying48 (by kernel_rfl) (by decide) (.struct Try.underlying47 (by kernel_rfl) (.cons rfl (by kernel_rfl) (.str Try.underlying9) (.cons rfl (by kernel_rfl) (.str Try.underlying9) .nil)))) (hval 2 48 v2 rfl rfl) h2 z2 (fun _ _ h => by cases h)
  obtain ⟨l2, rfl, b2⟩ := fits_pairs f2
  clear hA0 hval0 hsz0
  have hreal : RepL W (fun _ => False) [] _ _ := (.cons R0 (.cons R1 (.cons R2 .nil)))
  refine (law_calls (c8 rounds) tt8_ok (.cons ok22 (.cons ok26 (.cons ok27 (.cons ok28 (.cons ok29 (.cons ok30 .nil)))))) follows rfl Try.func8 (law8 l0 l1 l2 b0 b1 b2 ⟨_, _, _, hreal⟩) hreal).mono fun e W' ⟨he, bel⟩ => ?_
  subst he
  exact ⟨_, rfl, _, _, _, [], _, [], hW', trodAll_mk1 (shut_bool Try.underlying4 _), (trodAll_cons_mk (Below.trod laidOut (by kernel_rfl) (of_decide_eq_true (by kernel_rfl)) k0 bel lt0) (trodAll_cons_mk (Below.trod laidOut (by kernel_rfl) (of_decide_eq_true (by kernel_rfl)) k1 bel lt1) (trodAll_cons_mk (Below.trod laidOut (by kernel_rfl) (of_decide_eq_true (by kernel_rfl)) k2 bel lt2) trodAll_mk0))), rfl, bel.frame _, fun h => by cases h⟩
theorem over : Rows.recOrdersRow.holds Try.pinned (OpenSpec.ofChange Rows.recOrdersSpec) :=
  OpenClaim.holds_of_wide 8 Try.f8 rfl rfl rfl rfl rfl rfl rfl ⟨rfl, rfl, rfl, rfl, rfl⟩ rfl rfl rfl rfl rfl (by kernel_rfl) Try.func8 (by kernel_rfl)
    (of_decide_eq_true (by kernel_rfl)) (by unfold Func.isWrapper; first | (rw [if_pos (by decide +kernel)]; kernel_rfl) | (rw [if_neg (by decide +kernel)]; exact ⟨rfl, rfl⟩))
    (fun os started H enc _ => lifted os started H enc)
theorem proved : Rows.RecOrdersSaid := over
end Go.Proofs.Ytdkihlkcnnlkcaa.recOrders
namespace Go.Proofs.Ytdkihlkcnnlkcaa
/-- The row, under a short name, for the claim. -/
theorem recOrders_holds : Rows.RecOrdersSaid := recOrders.proved
#print axioms recOrders_holds
end Go.Proofs.Ytdkihlkcnnlkcaa
