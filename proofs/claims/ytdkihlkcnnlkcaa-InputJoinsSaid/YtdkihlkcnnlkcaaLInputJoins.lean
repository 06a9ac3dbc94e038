/- InputJoins: for every input the law returns true, and the input reads as it did; no condition beyond the row. -/
import Derived.Test.YtdkihlkcnnlkcaaRows
import Derived.WalkKit
import Derived.ProofKit
import Derived.OpenShut
import Derived.ShutString
import Derived.ChangeOld
import Derived.Below
import Derived.SizedLaws
import Derived.Carry
import Derived.Test.YtdkihlkcnnlkcaaGx
import Derived.Test.YtdkihlkcnnlkcaaGmYnote
namespace Go.Proofs.YtdkihlkcnnlkcaaG
open Go Go.Proofs.YtdkihlkcnnlkcaaGm
set_option maxRecDepth 100000
def tt4 : Tab := [(0, ty0), (1, ty1), (3, ty3), (4, ty4), (5, ty5), (9, ty9), (23, ty23), (24, ty24), (25, ty25), (26, ty26), (35, ty35)]
theorem tt4_ok : TabOk Try.prog tt4 := tabOk_of_all ⟨ty0_ok, ty1_ok, ty3_ok, ty4_ok, ty5_ok, ty9_ok, ty23_ok, ty24_ok, ty25_ok, ty26_ok, ty35_ok, trivial⟩
def c4 (F : Nat) : Cfg := ⟨tt4, [(11, .pure go11), (14, .pure go14), (15, .pure go15)], F, [(0, ⟨[0, 3, 5, 6, 7], [(6, 5)]⟩)], [], 0⟩
noncomputable def f4_0 (F k : Nat) (x0 : List UInt8) (x3 : List (List AV)) (x5 : Int) (x7 : Int) (xh0 : List UInt8) : Res := aloop (c4 F) Try.f4 0 [] k (St.mk [AV.ro (Pay.bytes x0), AV.top, AV.top, AV.ro (Pay.rows 2 x3), AV.top, AV.int IntKind.i64 x5, AV.own 0, AV.int IntKind.i64 x7, AV.top, AV.top, AV.top, AV.top, AV.top, AV.top, AV.top, AV.top, AV.top, AV.top, AV.top, AV.top, AV.top, AV.top, AV.top, AV.top, AV.top, AV.top, AV.top, AV.top, AV.top, AV.top, AV.top, AV.top, AV.top, AV.top, AV.top, AV.top, AV.top, AV.top, AV.top, AV.top, AV.top, AV.top, AV.top, AV.top, AV.top, AV.top, AV.top, AV.top, AV.top, AV.top, AV.top, AV.top, AV.top, AV.top, AV.top, AV.top, AV.top, AV.top, AV.top, AV.top, AV.top, AV.top, AV.top, AV.top, AV.top, AV.top, AV.top, AV.top, AV.top, AV.top, AV.top, AV.top, AV.top, AV.top] [AObj.arr 5 (Pay.bytes xh0)])
theorem f4_eq (F : Nat) (a0 : List UInt8) : afun (c4 F) Try.f4 [AV.ro (Pay.bytes a0)] [] =
  bif ltI 3000 ↑a0.length then
    .ret (AV.bool true) []
  else
    f4_0 F F a0 (recRows (records a0).fst) ((records a0).snd.snd) 0 [] := by kernel_rfl
theorem f4_0_eq (F k : Nat) (x0 : List UInt8) (x3 : List (List AV)) (x5 : Int) (x7 : Int) (xh0 : List UInt8) : f4_0 F (k + 1) x0 x3 x5 x7 xh0 =
  bif ltI x7 ↑x3.length then
    bif inB x7 x3.length then
      bif isInt IntKind.i64 (nth (x3.getD x7.toNat []) 0) then
        bif !eqI (intOf (nth (x3.getD x7.toNat []) 0)) ↑xh0.length then
          .ret (AV.bool false) [AObj.arr 5 (Pay.bytes xh0)]
        else
          bif inB x7 x3.length then
            bif isStr (nth (x3.getD x7.toNat []) 1) then
              bif appFits ty5 (Pay.bytes (xh0 ++ strOf (nth (x3.getD x7.toNat []) 1))) then
                bif appFits ty5 (Pay.bytes (xh0 ++ strOf (nth (x3.getD x7.toNat []) 1) ++ [UInt8.ofNat (Int.toNat 10)])) then
                  f4_0 F k x0 x3 x5 (IntKind.i64.wrap (x7 + 1)) (xh0 ++ strOf (nth (x3.getD x7.toNat []) 1) ++ [UInt8.ofNat (Int.toNat 10)])
                else
                  .stuck
              else
                .stuck
            else
              .stuck
          else
            .stuck
      else
        .stuck
    else
      .stuck
  else
    bif ltI 0 ↑x0.length then
      bif inB (IntKind.i64.wrap (↑x0.length - 1)) x0.length then
        bif !eqI (↑(x0.getD (IntKind.i64.wrap (↑x0.length - 1)).toNat 0).toNat) 10 then
          bif leI 0 0 && leI 0 (IntKind.i64.wrap (↑xh0.length - if (xh0.length : Int) < 1 then (xh0.length : Int) else 1)) && leI (IntKind.i64.wrap (↑xh0.length - if (xh0.length : Int) < 1 then (xh0.length : Int) else 1)) ↑xh0.length then
            bif eqI x5 0 then
              bif eqS (List.take ((IntKind.i64.wrap (↑xh0.length - if (xh0.length : Int) < 1 then (xh0.length : Int) else 1)).toNat - Int.toNat 0) (List.drop (Int.toNat 0) xh0)) x0 then
                .ret (AV.bool true) [AObj.arr 5 (Pay.bytes xh0)]
              else
                .ret (AV.bool false) [AObj.arr 5 (Pay.bytes xh0)]
            else
              .ret (AV.bool false) [AObj.arr 5 (Pay.bytes xh0)]
          else
            .stuck
        else
          bif eqI x5 0 then
            bif eqS xh0 x0 then
              .ret (AV.bool true) [AObj.arr 5 (Pay.bytes xh0)]
            else
              .ret (AV.bool false) [AObj.arr 5 (Pay.bytes xh0)]
          else
            .ret (AV.bool false) [AObj.arr 5 (Pay.bytes xh0)]
      else
        .stuck
    else
      bif eqI x5 0 then
        bif eqS xh0 x0 then
          .ret (AV.bool true) [AObj.arr 5 (Pay.bytes xh0)]
        else
          .ret (AV.bool false) [AObj.arr 5 (Pay.bytes xh0)]
      else
        .ret (AV.bool false) [AObj.arr 5 (Pay.bytes xh0)] := by kernel_rfl


theorem yes_pos {c : Bool} {x y : Res} (h : c = true) (hx : Yes x) : Yes (bif c then x else y) := by rw [h]; exact hx
theorem yes_neg {c : Bool} {x y : Res} (h : c = false) (hy : Yes y) : Yes (bif c then x else y) := by rw [h]; exact hy
theorem yes_bif {c : Bool} {x y : Res} (h1 : c = true → Yes x) (h2 : c = false → Yes y) : Yes (bif c then x else y) := by
  cases c with
  | true => exact h1 rfl
  | false => exact h2 rfl

theorem run4 (F : Nat) (b : Txt) (hb : b.length ≤ 3000) : ∀ (d k j : Nat), j + d = (spl b).length → d < k → Yes (f4_0 F k b (recRows (recs 0 (spl b))) 0 j (joinL ((spl b).take j)))
  | d, k + 1, j, h1, h2 => by
    rw [f4_0_eq, recRows_len, recs_len]
    have hl := joinL_len b
    refine yes_bif (fun g => ?_) fun g => ?_
    · have g := ltI_iff.1 g
      obtain ⟨d, rfl⟩ : ∃ m, d = m + 1 := ⟨d - 1, by omega⟩
      have hj : j < (spl b).length := by omega
      have hc := joinL_count (spl b)
      rw [Int.toNat_natCast, recRows_getD _ j (by rw [recs_len]; exact hj), recs_getD _ 0 j hj, show inB (j : Int) (spl b).length = true by rw [inB_iff]; omega, wrap64 (n := (j : Int) + 1) (by omega) (by omega)]
      have e : (spl b).take (j + 1) = (spl b).take j ++ [(spl b).getD j []] := by
        rw [List.take_add_one, List.getD_eq_getElem?_getD, List.getElem?_eq_getElem hj]; rfl
      have hs : joinL (spl b) = joinL ((spl b).take (j + 1)) ++ joinL ((spl b).drop (j + 1)) := by
        unfold joinL
        rw [← List.flatMap_append, List.take_append_drop]
      have hs' := congrArg List.length hs
      rw [e, joinL_snoc, List.length_append, List.length_append, List.length_append, List.length_singleton] at hs'
      have ih := run4 F b hb d k (j + 1) (by omega) (by omega)
      rw [e, joinL_snoc] at ih
      have fits : ∀ l : Txt, l.length ≤ 100000 → appFits ty5 (.bytes l) = true := fun l h => by
        unfold appFits
        rw [ble_iff]
        show l.length * 1 ≤ _
        omega
      unfold recRow
      dsimp only
      refine yes_pos rfl (yes_pos rfl (yes_neg ?_ (yes_pos rfl (yes_pos rfl (yes_pos ?_ (yes_pos ?_ ih))))))
      · rw [Bool.not_eq_false', eqI_iff]
        show ((0 + (joinL ((spl b).take j)).length : Nat) : Int) = _
        omega
      · exact fits _ (by rw [List.length_append]; show _ + ((spl b).getD j []).length ≤ _; omega)
      · exact fits _ (by rw [List.length_append, List.length_append]; show _ + ((spl b).getD j []).length + 1 ≤ _; omega)
    · have g := ltI_f.1 g
      rw [show (spl b).take j = spl b from List.take_of_length_le (by omega)]
      have hs := spl_join b
      generalize joinL (spl b) = q at hs hl
      refine yes_bif (fun g1 => ?_) fun g1 => ?_
      · have g1 := ltI_iff.1 g1
        rw [last_at (by omega)] at hs
        dsimp only at hs
        rw [wrap64 (n := (b.length : Int) - 1) (by omega) (by omega), show ((b.length : Int) - 1).toNat = b.length - 1 by omega]
        refine yes_pos (by rw [inB_iff]; omega) (yes_bif (fun g2 => ?_) fun g2 => ?_)
        · rw [Bool.not_eq_true', Bool.eq_false_iff, Ne, eqI_iff] at g2
          have : ¬ b.getD (b.length - 1) 0 = 10 := fun h => g2 (by rw [h]; rfl)
          rw [if_neg this] at hs
          subst hs
          have e : ((b ++ [10]).length : Int) = b.length + 1 := by rw [List.length_append]; rfl
          rw [e, if_neg (by omega), wrap64 (n := (b.length : Int) + 1 - 1) (by omega) (by omega)]
          refine yes_pos (by simp only [Bool.and_eq_true, leI_iff]; omega) (yes_pos rfl (yes_pos (eqS_iff.2 ?_) .ret))
          rw [show ((b.length : Int) + 1 - 1).toNat - Int.toNat 0 = b.length by omega, show Int.toNat 0 = 0 from rfl, List.drop_zero, List.take_append_of_le_length (Nat.le_refl _), List.take_length]
        · rw [Bool.not_eq_false', eqI_iff] at g2
          have : b.getD (b.length - 1) 0 = 10 := by
            have h1 : (b.getD (b.length - 1) 0).toNat = (10 : UInt8).toNat := by show _ = 10; omega
            exact UInt8.toNat_inj.1 h1
          rw [if_pos this] at hs
          subst hs
          exact yes_pos rfl (yes_pos (eqS_iff.2 rfl) .ret)
      · have g1 := ltI_f.1 g1
        have : b = [] := List.eq_nil_of_length_eq_zero (by omega)
        subst this
        subst hs
        exact yes_pos rfl (yes_pos rfl .ret)
theorem law4 (l : List UInt8) (_ : Real [.ro (.bytes l)]) : apure (c4 rounds) Try.f4 [.ro (.bytes l)] = some (.bool true, []) := by
  refine apure_yes ?_
  rw [f4_eq]
  refine yes_bif (fun _ => .ret) fun g => ?_
  have g := ltI_f.1 g
  rw [records_small (by omega)]
  have hl := joinL_len l
  have hc := joinL_count (spl l)
  exact run4 rounds l (by omega) (spl l).length rounds 0 (by omega) (Nat.lt_of_le_of_lt (by omega) big)
end Go.Proofs.YtdkihlkcnnlkcaaG

namespace Go.Proofs.Ytdkihlkcnnlkcaa.inputJoins
open Go.ChangeShapes Go.WideShapes Go.ChangeAt Go.RowKit Go.Proofs.YtdkihlkcnnlkcaaGm Go.Proofs.YtdkihlkcnnlkcaaG
open Go.ChangeMaps (open_string shut_string)
set_option linter.unusedVariables false
theorem own : ownKnob Try.prog.godebug = none := by kernel_rfl
theorem laidOut : laidOutB Try.prog = true := by kernel_rfl
set_option maxRecDepth 100000 in
theorem lifted (os : Os) (started : os.Started) (H : Type) (enc : TypeId × Value → H) :
    ReturnsInHanded {} Try.checked os 4 .any (Rows.inputJoinsSpec.pre6 enc Try.prog Try.f4 Rows.inputJoinsRow.domain false) (Rows.inputJoinsSpec.post enc Try.prog Try.f4 false true false false) := by
  refine returnsInHanded_of_change_sized (C := Try.checked) own started (by kernel_rfl) Try.func4
    (ChangeSpec.witness6 (enc := enc) (C := Try.checked) false ⟨#[], #[.slice none 0 0], []⟩ 8 (by kernel_rfl) (by kernel_rfl) (by kernel_rfl) (by kernel_rfl)) ?_
  intro W base args ds gs before hval0 hW hcnd hsz0 _
  have hval : ∀ (j : Nat) t v, Try.f4.params[j]? = some t → args[j]? = some v → Value.okWide Try.prog W .any base t v := hval0
  have hW' := hW
  obtain ⟨p, q, hA0, hV, rfl, hfz, hnd⟩ := hW
  have hA : DataW.TrodAll enc Try.prog W 0 (fun _ => true) true Try.f4.params.toList args.toList ds p := hA0
  rw [Try.params4] at hA hval
  obtain ⟨v0, vs0, d0, ds0, p0, q0, hargs, rfl, rfl, h0, r0⟩ := trodAll_cons hA
  obtain ⟨rfl, rfl, rfl⟩ := trodAll_nil r0
  obtain rfl : args = #[v0] := by cases args; simp_all
  obtain ⟨rfl, rfl⟩ := trodVars_none hV
  obtain ⟨a0, len0, cap0, rfl⟩ := okWide_slice Try.underlying23 (hval 0 23 v0 rfl rfl)
  have k0 := h0
  have lt0 : ∀ x ∈ p0, x.block < W.heap.size := by obtain ⟨m, hm⟩ := k0; exact DataW.trod_lt m _ _ _ hm
  obtain ⟨z0, w0⟩ : ∃ zs, IsRow .u8 W a0 len0 cap0 zs := by
    obtain ⟨fuel, hf⟩ := h0
    rcases open_ints Try.underlying23 Try.underlying5 (by kernel_rfl) hf with ⟨hcs, _⟩ | ⟨x, l, c, zs, hcs, _, hl, hm, hz, _, hcell, hwz⟩
    · simp [Value.cells] at hcs
      obtain ⟨rfl, rfl, rfl⟩ := hcs
      exact ⟨[], .inl ⟨rfl, rfl, rfl, rfl⟩⟩
    · simp [Value.cells] at hcs
      obtain ⟨rfl, rfl, rfl⟩ := hcs
      exact ⟨zs, .inr ⟨_, rfl, hl, hm, by simpa using hz, hcell, hwz⟩⟩
  obtain ⟨l0, _, R0⟩ := row_bytes w0
  clear hA0 hval0 hsz0
  have hreal : RepL W (fun _ => False) [] _ _ := (.cons R0 .nil)
  refine (law_calls (c4 rounds) tt4_ok (.cons ok11 (.cons ok14 (.cons ok15 .nil))) follows rfl Try.func4 (law4 l0 ⟨_, _, _, hreal⟩) hreal).mono fun e W' ⟨he, bel⟩ => ?_
  subst he
  exact ⟨_, rfl, _, _, _, [], _, [], hW', trodAll_mk1 (shut_bool Try.underlying4 _), (trodAll_cons_mk (Below.trod laidOut (by kernel_rfl) (of_decide_eq_true (by kernel_rfl)) k0 bel lt0) trodAll_mk0), rfl, bel.frame _, fun h => by cases h⟩
theorem over : Rows.inputJoinsRow.holds Try.pinned (OpenSpec.ofChange Rows.inputJoinsSpec) :=
  OpenClaim.holds_of_wide 4 Try.f4 rfl rfl rfl rfl rfl rfl rfl ⟨rfl, rfl, rfl, rfl, rfl⟩ rfl rfl rfl rfl rfl (by kernel_rfl) Try.func4 (by kernel_rfl)
    (of_decide_eq_true (by kernel_rfl)) (by unfold Func.isWrapper; first | (rw [if_pos (by decide +kernel)]; kernel_rfl) | (rw [if_neg (by decide +kernel)]; exact ⟨rfl, rfl⟩))
    (fun os started H enc _ => lifted os started H enc)
theorem proved : Rows.InputJoinsSaid := over
end Go.Proofs.Ytdkihlkcnnlkcaa.inputJoins
namespace Go.Proofs.Ytdkihlkcnnlkcaa
/-- The row, under a short name, for the claim. -/
theorem inputJoins_holds : Rows.InputJoinsSaid := inputJoins.proved
#print axioms inputJoins_holds
end Go.Proofs.Ytdkihlkcnnlkcaa
