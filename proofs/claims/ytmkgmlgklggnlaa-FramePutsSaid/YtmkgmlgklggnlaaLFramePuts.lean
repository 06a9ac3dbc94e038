/- FramePuts: for every input the law returns true, and the input reads as it did; no condition beyond the row. -/
import Derived.Test.YtmkgmlgklggnlaaRows
import Derived.WalkKit
import Derived.ProofKit
import Derived.OpenShut
import Derived.ShutString
import Derived.ChangeOld
import Derived.Below
import Derived.SizedLaws
import Derived.Carry
import Derived.Test.YtmkgmlgklggnlaaGw
namespace Go.Proofs.YtmkgmlgklggnlaaG
open Go Go.Proofs.YtmkgmlgklggnlaaGm
set_option maxRecDepth 100000
def tt10 : Tab := [(0, ty0), (3, ty3), (4, ty4), (5, ty5), (9, ty9), (22, ty22), (27, ty27), (35, ty35), (64, ty64)]
theorem tt10_ok : TabOk Try.prog tt10 := tabOk_of_all ⟨ty0_ok, ty3_ok, ty4_ok, ty5_ok, ty9_ok, ty22_ok, ty27_ok, ty35_ok, ty64_ok, trivial⟩
def c10 (F : Nat) : Cfg := ⟨tt10, [(40, .pure go40), (41, .pure go41), (45, .pure go45), (47, .pure (normGo [.leaf .bytes, .leaf .bytes] go47)), (48, .pure go48), (49, .pure go49)], F, [], [], 0⟩
theorem f10_eq (F : Nat) (a0 : List UInt8) (a1 : List UInt8) (a2 : List UInt8) : afun (c10 F) Try.f10 [AV.ro (Pay.bytes a0), AV.ro (Pay.bytes a1), AV.ro (Pay.bytes a2)] [] =
  bif ltI 500 ↑a0.length then
    .ret (AV.bool true) []
  else
    bif ltI 2000 ↑a1.length then
      .ret (AV.bool true) []
    else
      bif ltI 500 ↑a2.length then
        .ret (AV.bool true) []
      else
        bif Nat.blt 1048576 a1.length then
          .ret (AV.bool false) []
        else
          bif a0.length.ble 35184372088832 then
            bif a1.length.ble 35184372088832 then
              bif (a0.length + List.length (encF a1)).ble maxLen then
                bif !eqS (a0 ++ encF a1) (a0 ++ encF a1) then
                  .ret (AV.bool false) [AObj.arr 5 (Pay.bytes (a0 ++ encF a1))]
                else
                  bif a1.length.ble 35184372088832 then
                    bif !eqI (sizeF ↑a1.length) ↑(List.length (encF a1)) then
                      .ret (AV.bool false) [AObj.arr 5 (Pay.bytes (a0 ++ encF a1))]
                    else
                      bif appFits ty5 (Pay.bytes (List.replicate 0 0 ++ (a0 ++ encF a1))) then
                        bif appFits ty5 (Pay.bytes (List.replicate 0 0 ++ (a0 ++ encF a1) ++ a2)) then
                          bif (List.replicate 0 0 ++ (a0 ++ encF a1) ++ a2).length.ble 140737488355320 then
                            bif eqS (getF (List.replicate 0 0 ++ (a0 ++ encF a1) ++ a2) ↑a0.length).fst a1 then
                              bif eqI (getF (List.replicate 0 0 ++ (a0 ++ encF a1) ++ a2) ↑a0.length).snd.fst ↑(a0 ++ encF a1).length then
                                bif eqI (getF (List.replicate 0 0 ++ (a0 ++ encF a1) ++ a2) ↑a0.length).snd.snd 0 then
                                  .ret (AV.bool true) [AObj.arr 5 (Pay.bytes (a0 ++ encF a1)), AObj.dead]
                                else
                                  .ret (AV.bool false) [AObj.arr 5 (Pay.bytes (a0 ++ encF a1)), AObj.dead]
                              else
                                .ret (AV.bool false) [AObj.arr 5 (Pay.bytes (a0 ++ encF a1)), AObj.dead]
                            else
                              .ret (AV.bool false) [AObj.arr 5 (Pay.bytes (a0 ++ encF a1)), AObj.dead]
                          else
                            .stuck
                        else
                          .stuck
                      else
                        .stuck
                  else
                    .stuck
              else
                .stuck
            else
              .stuck
          else
            .stuck := by kernel_rfl


theorem yes_pos {c : Bool} {x y : Res} (h : c = true) (hx : Yes x) : Yes (bif c then x else y) := by rw [h]; exact hx
theorem yes_neg {c : Bool} {x y : Res} (h : c = false) (hy : Yes y) : Yes (bif c then x else y) := by rw [h]; exact hy
theorem yes_bif {c : Bool} {x y : Res} (h1 : c = true → Yes x) (h2 : c = false → Yes y) : Yes (bif c then x else y) := by
  cases c with
  | true => exact h1 rfl
  | false => exact h2 rfl

theorem law10 (a d m : List UInt8) (hr : Real [.ro (.bytes a), .ro (.bytes d), .ro (.bytes m)]) : apure (c10 rounds) Try.f10 [.ro (.bytes a), .ro (.bytes d), .ro (.bytes m)] = some (.bool true, []) := by
  refine apure_yes ?_
  rw [f10_eq]
  refine yes_bif (fun _ => .ret) fun g => yes_bif (fun _ => .ret) fun g1 => yes_bif (fun _ => .ret) fun g2 => ?_
  have g := ltI_f.1 g
  have g1 := ltI_f.1 g1
  have g2 := ltI_f.1 g2
  have hF := encF_len d
  have hr := len9_range (d.length : Int)
  have hL : (a ++ encF d).length ≤ 3000 := by rw [List.length_append]; omega
  have e1 : List.replicate 0 (0 : UInt8) = [] := rfl
  rw [e1, List.nil_append, getF_enc a d m (by omega)]
  refine yes_neg (by rw [Bool.eq_false_iff, Ne, blt_iff]; omega) (yes_pos (by rw [ble_iff]; omega) (yes_pos (by rw [ble_iff]; omega) (yes_pos (by rw [ble_iff]; unfold maxLen; omega) (yes_neg (by rw [Bool.not_eq_false', eqS_iff]) (yes_pos (by rw [ble_iff]; omega) (yes_neg ?_ (yes_pos (fits5.2 (by omega)) (yes_pos (fits5.2 (by rw [List.length_append]; omega)) (yes_pos (by rw [ble_iff, List.length_append]; omega) (yes_pos (eqS_iff.2 rfl) (yes_pos (eqI_iff.2 rfl) (yes_pos (eqI_iff.2 rfl) .ret))))))))))))
  rw [Bool.not_eq_false', eqI_iff, show sizeF (d.length : Int) = len9 d.length + d.length + 4 from if_neg (by omega), hF]
end Go.Proofs.YtmkgmlgklggnlaaG

namespace Go.Proofs.Ytmkgmlgklggnlaa.framePuts
open Go.ChangeShapes Go.WideShapes Go.ChangeAt Go.RowKit Go.Proofs.YtmkgmlgklggnlaaGm Go.Proofs.YtmkgmlgklggnlaaG
open Go.ChangeMaps (open_string shut_string)
set_option linter.unusedVariables false
theorem own : ownKnob Try.prog.godebug = none := by kernel_rfl
theorem laidOut : laidOutB Try.prog = true := by kernel_rfl
set_option maxRecDepth 100000 in
theorem lifted (os : Os) (started : os.Started) (H : Type) (enc : TypeId × Value → H) :
    ReturnsInHanded {} Try.checked os 10 .any (Rows.framePutsSpec.pre6 enc Try.prog Try.f10 Rows.framePutsRow.domain false) (Rows.framePutsSpec.post enc Try.prog Try.f10 false true false false) := by
  refine returnsInHanded_of_change_sized (C := Try.checked) own started (by kernel_rfl) Try.func10
    (ChangeSpec.witness6 (enc := enc) (C := Try.checked) false ⟨#[], #[.slice none 0 0, .slice none 0 0, .slice none 0 0], []⟩ 8 (by kernel_rfl) (by kernel_rfl) (by kernel_rfl) (by kernel_rfl)) ?_
  intro W base args ds gs before hval0 hW hcnd hsz0 _
  have hval : ∀ (j : Nat) t v, Try.f10.params[j]? = some t → args[j]? = some v → Value.okWide Try.prog W .any base t v := hval0
  have hW' := hW
  obtain ⟨p, q, hA0, hV, rfl, hfz, hnd⟩ := hW
  have hA : DataW.TrodAll enc Try.prog W 0 (fun _ => true) true Try.f10.params.toList args.toList ds p := hA0
  rw [Try.params10] at hA hval
  obtain ⟨v0, vs0, d0, ds0, p0, q0, hargs, rfl, rfl, h0, r0⟩ := trodAll_cons hA
  obtain ⟨v1, vs1, d1, ds1, p1, q1, rfl, rfl, rfl, h1, r1⟩ := trodAll_cons r0
  obtain ⟨v2, vs2, d2, ds2, p2, q2, rfl, rfl, rfl, h2, r2⟩ := trodAll_cons r1
  obtain ⟨rfl, rfl, rfl⟩ := trodAll_nil r2
  obtain rfl : args = #[v0, v1, v2] := by cases args; simp_all
  obtain ⟨rfl, rfl⟩ := trodVars_none hV
  obtain ⟨a0, len0, cap0, rfl⟩ := okWide_slice Try.underlying22 (hval 0 22 v0 rfl rfl)
  have k0 := h0
  have lt0 : ∀ x ∈ p0, x.block < W.heap.size := by obtain ⟨m, hm⟩ := k0; exact DataW.trod_lt m _ _ _ hm
  obtain ⟨z0, w0⟩ : ∃ zs, IsRow .u8 W a0 len0 cap0 zs := by
    obtain ⟨fuel, hf⟩ := h0
    rcases open_ints Try.underlying22 Try.underlying5 (by kernel_rfl) hf with ⟨hcs, _⟩ | ⟨x, l, c, zs, hcs, _, hl, hm, hz, _, hcell, hwz⟩
    · simp [Value.cells] at hcs
      obtain ⟨rfl, rfl, rfl⟩ := hcs
      exact ⟨[], .inl ⟨rfl, rfl, rfl, rfl⟩⟩
    · simp [Value.cells] at hcs
      obtain ⟨rfl, rfl, rfl⟩ := hcs
      exact ⟨zs, .inr ⟨_, rfl, hl, hm, by simpa using hz, hcell, hwz⟩⟩
  obtain ⟨l0, _, R0⟩ := row_bytes w0
  obtain ⟨a1, len1, cap1, rfl⟩ := okWide_slice Try.underlying22 (hval 1 22 v1 rfl rfl)
  have k1 := h1
  have lt1 : ∀ x ∈ p1, x.block < W.heap.size := by obtain ⟨m, hm⟩ := k1; exact DataW.trod_lt m _ _ _ hm
  obtain ⟨z1, w1⟩ : ∃ zs, IsRow .u8 W a1 len1 cap1 zs := by
    obtain ⟨fuel, hf⟩ := h1
    rcases open_ints Try.underlying22 Try.underlying5 (by kernel_rfl) hf with ⟨hcs, _⟩ | ⟨x, l, c, zs, hcs, _, hl, hm, hz, _, hcell, hwz⟩
    · simp [Value.cells] at hcs
      obtain ⟨rfl, rfl, rfl⟩ := hcs
      exact ⟨[], .inl ⟨rfl, rfl, rfl, rfl⟩⟩
    · simp [Value.cells] at hcs
      obtain ⟨rfl, rfl, rfl⟩ := hcs
      exact ⟨zs, .inr ⟨_, rfl, hl, hm, by simpa using hz, hcell, hwz⟩⟩
  obtain ⟨l1, _, R1⟩ := row_bytes w1
  obtain ⟨a2, len2, cap2, rfl⟩ := okWide_slice Try.underlying22 (hval 2 22 v2 rfl rfl)
  have k2 := h2
  have lt2 : ∀ x ∈ p2, x.block < W.heap.size := by obtain ⟨m, hm⟩ := k2; exact DataW.trod_lt m _ _ _ hm
  obtain ⟨z2, w2⟩ : ∃ zs, IsRow .u8 W a2 len2 cap2 zs := by
    obtain ⟨fuel, hf⟩ := h2
    rcases open_ints Try.underlying22 Try.underlying5 (by kernel_rfl) hf with ⟨hcs, _⟩ | ⟨x, l, c, zs, hcs, _, hl, hm, hz, _, hcell, hwz⟩
    · simp [Value.cells] at hcs
      obtain ⟨rfl, rfl, rfl⟩ := hcs
      exact ⟨[], .inl ⟨rfl, rfl, rfl, rfl⟩⟩
    · simp [Value.cells] at hcs
      obtain ⟨rfl, rfl, rfl⟩ := hcs
      exact ⟨zs, .inr ⟨_, rfl, hl, hm, by simpa using hz, hcell, hwz⟩⟩
  obtain ⟨l2, _, R2⟩ := row_bytes w2
  clear hA0 hval0 hsz0
  have hreal : RepL W (fun _ => False) [] _ _ := (.cons R0 (.cons R1 (.cons R2 .nil)))
  refine (law_calls (c10 rounds) tt10_ok (.cons ok40 (.cons ok41 (.cons ok45 (.cons (ok47.norm _) (.cons ok48 (.cons ok49 .nil)))))) follows rfl Try.func10 (law10 l0 l1 l2 ⟨_, _, _, hreal⟩) hreal).mono fun e W' ⟨he, bel⟩ => ?_
  subst he
  exact ⟨_, rfl, _, _, _, [], _, [], hW', trodAll_mk1 (shut_bool Try.underlying4 _), (trodAll_cons_mk (Below.trod laidOut (by kernel_rfl) (of_decide_eq_true (by kernel_rfl)) k0 bel lt0) (trodAll_cons_mk (Below.trod laidOut (by kernel_rfl) (of_decide_eq_true (by kernel_rfl)) k1 bel lt1) (trodAll_cons_mk (Below.trod laidOut (by kernel_rfl) (of_decide_eq_true (by kernel_rfl)) k2 bel lt2) trodAll_mk0))), rfl, bel.frame _, fun h => by cases h⟩
theorem over : Rows.framePutsRow.holds Try.pinned (OpenSpec.ofChange Rows.framePutsSpec) :=
  OpenClaim.holds_of_wide 10 Try.f10 rfl rfl rfl rfl rfl rfl rfl ⟨rfl, rfl, rfl, rfl, rfl⟩ rfl rfl rfl rfl rfl (by kernel_rfl) Try.func10 (by kernel_rfl)
    (of_decide_eq_true (by kernel_rfl)) (by unfold Func.isWrapper; first | (rw [if_pos (by decide +kernel)]; kernel_rfl) | (rw [if_neg (by decide +kernel)]; exact ⟨rfl, rfl⟩))
    (fun os started H enc _ => lifted os started H enc)
theorem proved : Rows.FramePutsSaid := over
end Go.Proofs.Ytmkgmlgklggnlaa.framePuts
namespace Go.Proofs.Ytmkgmlgklggnlaa
/-- The row, under a short name, for the claim. -/
theorem framePuts_holds : Rows.FramePutsSaid := framePuts.proved
#print axioms framePuts_holds
end Go.Proofs.Ytmkgmlgklggnlaa
