/- ShaTexts: for every input the law returns true, and the input reads as it did; no condition beyond the row. -/
import Derived.Test.YtmkgmlgklggnlaaRows
import Derived.WalkKit
import Derived.ProofKit
import Derived.OpenShut
import Derived.ShutString
import Derived.ChangeOld
import Derived.Below
import Derived.SizedLaws
import Derived.Carry
import Derived.Test.YtmkgmlgklggnlaaSj
import Derived.Test.YtmkgmlgklggnlaaGmYshd
namespace Go.Proofs.YtmkgmlgklggnlaaG
open Go Go.Proofs.YtmkgmlgklggnlaaGm
set_option maxRecDepth 100000
def tt7 : Tab := [(0, ty0), (3, ty3), (4, ty4), (5, ty5), (9, ty9), (27, ty27), (51, ty51), (52, ty52), (57, ty57), (59, ty59), (51, ty51), (52, ty52)]
theorem tt7_ok : TabOk Try.prog tt7 := tabOk_of_all ⟨ty0_ok, ty3_ok, ty4_ok, ty5_ok, ty9_ok, ty27_ok, ty51_ok, ty52_ok, ty57_ok, ty59_ok, ty51_ok, ty52_ok, trivial⟩
def c7 (F : Nat) : Cfg := ⟨tt7, [(28, .pure go28), (35, .pure go35), (36, .pure go36), (37, .pure go37), (38, .pure go38), (39, .pure go39)], F, [], [], 0⟩
theorem f7_eq (F : Nat) (r : List AV) (t : List UInt8) : afun (c7 F) Try.f7 [AV.arr r, AV.str t] [] =
  bif r.length.beq 32 then
    bif r.all (isInt IntKind.u8) then
      bif ltI 500 ↑t.length then
        .ret (AV.bool true) [AObj.vara 51 IntKind.u8 (List.map intOf r)]
      else
        bif (intsA IntKind.u8 (parseT t).fst).length.beq 32 then
          bif (setRange zs32 0 (intsA IntKind.u8 (parseT t).fst)).all (isInt IntKind.u8) then
            bif (intsA IntKind.u8 (parseT t).fst).length.beq 32 then
              bif (setRange zs32 0 (intsA IntKind.u8 (parseT t).fst)).all (isInt IntKind.u8) then
                bif Nat.beq 32 (List.map intOf r).length then
                  bif (List.map (AV.int IntKind.u8) (List.map intOf r)).length.beq 32 && (List.map (AV.int IntKind.u8) (List.map intOf r)).all (isInt IntKind.u8) then
                    bif (intsA IntKind.u8 (parseT (hexT (List.map intOf (List.map (AV.int IntKind.u8) (List.map intOf r))))).fst).length.beq 32 then
                      bif (setRange zs32 0 (intsA IntKind.u8 (parseT (hexT (List.map intOf (List.map (AV.int IntKind.u8) (List.map intOf r))))).fst)).all (isInt IntKind.u8) then
                        bif Nat.beq 32 (List.map intOf r).length then
                          bif (List.map (AV.int IntKind.u8) (List.map intOf r)).length.beq 32 && (List.map (AV.int IntKind.u8) (List.map intOf r)).all (isInt IntKind.u8) then
                            bif Nat.beq 32 (List.map intOf r).length then
                              bif (List.map (AV.int IntKind.u8) (List.map intOf r)).length.beq 32 && (List.map (AV.int IntKind.u8) (List.map intOf r)).all (isInt IntKind.u8) then
                                bif eqS (hexT (List.map intOf (List.map (AV.int IntKind.u8) (List.map intOf r)))) (hexT (List.map intOf (List.map (AV.int IntKind.u8) (List.map intOf r)))) then
                                  bif Nat.beq 32 (List.map intOf (setRange zs32 0 (intsA IntKind.u8 (parseT t).fst))).length then
                                    bif Nat.beq 32 (List.map intOf (setRange zs32 0 (intsA IntKind.u8 (parseT t).fst))).length then
                                      bif (List.map (AV.int IntKind.u8) (List.map intOf (setRange zs32 0 (intsA IntKind.u8 (parseT t).fst)))).length.beq 32 && (List.map (AV.int IntKind.u8) (List.map intOf (setRange zs32 0 (intsA IntKind.u8 (parseT t).fst)))).length.beq 32 && (List.map (AV.int IntKind.u8) (List.map intOf (setRange zs32 0 (intsA IntKind.u8 (parseT t).fst)))).all (isInt IntKind.u8) && (List.map (AV.int IntKind.u8) (List.map intOf (setRange zs32 0 (intsA IntKind.u8 (parseT t).fst)))).all (isInt IntKind.u8) then
                                        bif eqAs (List.map (AV.int IntKind.u8) (List.map intOf (setRange zs32 0 (intsA IntKind.u8 (parseT t).fst)))) (List.map (AV.int IntKind.u8) (List.map intOf (setRange zs32 0 (intsA IntKind.u8 (parseT t).fst)))) then
                                          bif eqI (parseT t).snd (parseT t).snd then
                                            bif Nat.beq 32 (List.map intOf (setRange zs32 0 (intsA IntKind.u8 (parseT (hexT (List.map intOf (List.map (AV.int IntKind.u8) (List.map intOf r))))).fst))).length then
                                              bif Nat.beq 32 (List.map intOf r).length then
                                                bif (List.map (AV.int IntKind.u8) (List.map intOf (setRange zs32 0 (intsA IntKind.u8 (parseT (hexT (List.map intOf (List.map (AV.int IntKind.u8) (List.map intOf r))))).fst)))).length.beq 32 && (List.map (AV.int IntKind.u8) (List.map intOf r)).length.beq 32 && (List.map (AV.int IntKind.u8) (List.map intOf (setRange zs32 0 (intsA IntKind.u8 (parseT (hexT (List.map intOf (List.map (AV.int IntKind.u8) (List.map intOf r))))).fst)))).all (isInt IntKind.u8) && (List.map (AV.int IntKind.u8) (List.map intOf r)).all (isInt IntKind.u8) then
                                                  bif eqAs (List.map (AV.int IntKind.u8) (List.map intOf (setRange zs32 0 (intsA IntKind.u8 (parseT (hexT (List.map intOf (List.map (AV.int IntKind.u8) (List.map intOf r))))).fst)))) (List.map (AV.int IntKind.u8) (List.map intOf r)) then
                                                    bif eqI (parseT (hexT (List.map intOf (List.map (AV.int IntKind.u8) (List.map intOf r))))).snd 0 then
                                                      .ret (AV.bool true) [AObj.vara 51 IntKind.u8 (List.map intOf r), AObj.vara 52 IntKind.u8 (List.map intOf (setRange zs32 0 (intsA IntKind.u8 (parseT t).fst))), AObj.vara 51 IntKind.u8 (List.map intOf (setRange zs32 0 (intsA IntKind.u8 (parseT t).fst))), AObj.vara 52 IntKind.u8 (List.map intOf (setRange zs32 0 (intsA IntKind.u8 (parseT (hexT (List.map intOf (List.map (AV.int IntKind.u8) (List.map intOf r))))).fst)))]
                                                    else
                                                      .ret (AV.bool false) [AObj.vara 51 IntKind.u8 (List.map intOf r), AObj.vara 52 IntKind.u8 (List.map intOf (setRange zs32 0 (intsA IntKind.u8 (parseT t).fst))), AObj.vara 51 IntKind.u8 (List.map intOf (setRange zs32 0 (intsA IntKind.u8 (parseT t).fst))), AObj.vara 52 IntKind.u8 (List.map intOf (setRange zs32 0 (intsA IntKind.u8 (parseT (hexT (List.map intOf (List.map (AV.int IntKind.u8) (List.map intOf r))))).fst)))]
                                                  else
                                                    .ret (AV.bool false) [AObj.vara 51 IntKind.u8 (List.map intOf r), AObj.vara 52 IntKind.u8 (List.map intOf (setRange zs32 0 (intsA IntKind.u8 (parseT t).fst))), AObj.vara 51 IntKind.u8 (List.map intOf (setRange zs32 0 (intsA IntKind.u8 (parseT t).fst))), AObj.vara 52 IntKind.u8 (List.map intOf (setRange zs32 0 (intsA IntKind.u8 (parseT (hexT (List.map intOf (List.map (AV.int IntKind.u8) (List.map intOf r))))).fst)))]
                                                else
                                                  .stuck
                                              else
                                                .stuck
                                            else
                                              .stuck
                                          else
                                            .ret (AV.bool false) [AObj.vara 51 IntKind.u8 (List.map intOf r), AObj.vara 52 IntKind.u8 (List.map intOf (setRange zs32 0 (intsA IntKind.u8 (parseT t).fst))), AObj.vara 51 IntKind.u8 (List.map intOf (setRange zs32 0 (intsA IntKind.u8 (parseT t).fst))), AObj.vara 52 IntKind.u8 (List.map intOf (setRange zs32 0 (intsA IntKind.u8 (parseT (hexT (List.map intOf (List.map (AV.int IntKind.u8) (List.map intOf r))))).fst)))]
                                        else
                                          .ret (AV.bool false) [AObj.vara 51 IntKind.u8 (List.map intOf r), AObj.vara 52 IntKind.u8 (List.map intOf (setRange zs32 0 (intsA IntKind.u8 (parseT t).fst))), AObj.vara 51 IntKind.u8 (List.map intOf (setRange zs32 0 (intsA IntKind.u8 (parseT t).fst))), AObj.vara 52 IntKind.u8 (List.map intOf (setRange zs32 0 (intsA IntKind.u8 (parseT (hexT (List.map intOf (List.map (AV.int IntKind.u8) (List.map intOf r))))).fst)))]
                                      else
                                        .stuck
                                    else
                                      .stuck
                                  else
                                    .stuck
                                else
                                  .ret (AV.bool false) [AObj.vara 51 IntKind.u8 (List.map intOf r), AObj.vara 52 IntKind.u8 (List.map intOf (setRange zs32 0 (intsA IntKind.u8 (parseT t).fst))), AObj.vara 51 IntKind.u8 (List.map intOf (setRange zs32 0 (intsA IntKind.u8 (parseT t).fst))), AObj.vara 52 IntKind.u8 (List.map intOf (setRange zs32 0 (intsA IntKind.u8 (parseT (hexT (List.map intOf (List.map (AV.int IntKind.u8) (List.map intOf r))))).fst)))]
                              else
                                .stuck
                            else
                              .stuck
                          else
                            .stuck
                        else
                          .stuck
                      else
                        .stuck
                    else
                      .stuck
                  else
                    .stuck
                else
                  .stuck
              else
                .stuck
            else
              .stuck
          else
            .stuck
        else
          .stuck
    else
      .stuck
  else
    .stuck := by kernel_rfl


theorem yes_pos {c : Bool} {x y : Res} (h : c = true) (hx : Yes x) : Yes (bif c then x else y) := by rw [h]; exact hx
theorem yes_neg {c : Bool} {x y : Res} (h : c = false) (hy : Yes y) : Yes (bif c then x else y) := by rw [h]; exact hy
theorem yes_bif {c : Bool} {x y : Res} (h1 : c = true → Yes x) (h2 : c = false → Yes y) : Yes (bif c then x else y) := by
  cases c with
  | true => exact h1 rfl
  | false => exact h2 rfl

theorem eqAs_self (l : List AV) (h : l.all (isInt .u8) = true) : eqAs l l = true := (eqAs_iff h h rfl).2 rfl
theorem four (a b : Bool) (ha : a = true) (hb : b = true) (c d : Bool) (hc : c = true) (hd : d = true) : (a && b && c && d) = true := by subst ha; subst hb; subst hc; subst hd; rfl
theorem law7 (r : List AV) (t : List UInt8) (hf : r.length = 32 ∧ r.all (isInt .u8) = true) (hr : Real [.arr r, .str t]) : apure (c7 rounds) Try.f7 [.arr r, .str t] = some (.bool true, []) := by
  have hs := hr.arrT.bytesA hf.2
  obtain ⟨hl, ha⟩ := hf
  have hL : (List.map intOf r).length = 32 := by rw [List.length_map, hl]
  have hp := parse_hex hL hs
  have hk := parse_len t
  have hi : (intsA .u8 (parseT t).1).all (isInt .u8) = true := intsA_is _ _
  have hj : intsA .u8 (List.map intOf r) = r := ints_back ha
  have h32 : (intsA .u8 (parseT t).1).length = 32 := by rw [intsA_len, hk]
  have z1 : setRange zs32 0 (intsA .u8 (parseT t).1) = intsA .u8 (parseT t).1 := setZ _ _ (by rw [h32]; rfl)
  have z2 : setRange zs32 0 r = r := setZ _ _ (by rw [hl]; rfl)
  refine apure_yes ?_
  rw [f7_eq, ints_back ha, hp]
  dsimp only
  rw [hj, z1, z2, intsA_int, show List.map (AV.int IntKind.u8) (parseT t).1 = intsA .u8 (parseT t).1 from rfl, ints_back ha]
  have l1 : r.length.beq 32 = true := by rw [hl]; rfl
  have l2 : Nat.beq 32 (List.map intOf r).length = true := by rw [hL]; rfl
  have l3 : Nat.beq 32 (parseT t).1.length = true := by rw [hk]; rfl
  have l4 : (intsA .u8 (parseT t).1).length.beq 32 = true := by rw [h32]; rfl
  have la : (r.length.beq 32 && r.all (isInt .u8)) = true := by rw [l1, ha]; rfl
  refine yes_pos l1 (yes_pos ha (yes_bif (fun _ => .ret) fun _ => ?_))
  exact yes_pos l4 (yes_pos hi (yes_pos l4 (yes_pos hi (yes_pos l2 (yes_pos la (yes_pos l1 (yes_pos ha (yes_pos l2 (yes_pos la (yes_pos l2 (yes_pos la (yes_pos (eqS_iff.2 rfl) (yes_pos l3 (yes_pos l3
    (yes_pos (four _ _ l4 l4 _ _ hi hi) (yes_pos (eqAs_self _ hi) (yes_pos (eqI_iff.2 rfl) (yes_pos l2 (yes_pos l2 (yes_pos (four _ _ l1 l1 _ _ ha ha) (yes_pos (eqAs_self _ ha) (yes_pos (eqI_iff.2 rfl) .ret))))))))))))))))))))))
end Go.Proofs.YtmkgmlgklggnlaaG

namespace Go.Proofs.Ytmkgmlgklggnlaa.shaTexts
open Go.ChangeShapes Go.WideShapes Go.ChangeAt Go.RowKit Go.Proofs.YtmkgmlgklggnlaaGm Go.Proofs.YtmkgmlgklggnlaaG
open Go.ChangeMaps (open_string shut_string)
set_option linter.unusedVariables false
theorem own : ownKnob Try.prog.godebug = none := by kernel_rfl
theorem laidOut : laidOutB Try.prog = true := by kernel_rfl
set_option maxRecDepth 100000 in
theorem lifted (os : Os) (started : os.Started) (H : Type) (enc : TypeId × Value → H) :
    ReturnsInHanded {} Try.checked os 7 .any (Rows.shaTextsSpec.pre6 enc Try.prog Try.f7 Rows.shaTextsRow.domain false) (Rows.shaTextsSpec.post enc Try.prog Try.f7 false true false false) := by
  refine returnsInHanded_of_change_sized (C := Try.checked) own started (by kernel_rfl) Try.func7
    (ChangeSpec.witness6 (enc := enc) (C := Try.checked) false ⟨#[], #[.agg #[.int .u8 0, .int .u8 0, .int .u8 0, .int .u8 0, .int .u8 0, .int .u8 0, .int .u8 0, .int .u8 0, .int .u8 0, .int .u8 0, .int .u8 0, .int .u8 0, .int .u8 0, .int .u8 0, .int .u8 0, .int .u8 0, .int .u8 0, .int .u8 0, .int .u8 0, .int .u8 0, .int .u8 0, .int .u8 0, .int .u8 0, .int .u8 0, .int .u8 0, .int .u8 0, .int .u8 0, .int .u8 0, .int .u8 0, .int .u8 0, .int .u8 0, .int .u8 0], .string ByteArray.empty], []⟩ 8 (by kernel_rfl) (by kernel_rfl) (by kernel_rfl) (by kernel_rfl)) ?_
  intro W base args ds gs before hval0 hW hcnd hsz0 _
  have hval : ∀ (j : Nat) t v, Try.f7.params[j]? = some t → args[j]? = some v → Value.okWide Try.prog W .any base t v := hval0
  have hW' := hW
  obtain ⟨p, q, hA0, hV, rfl, hfz, hnd⟩ := hW
  have hA : DataW.TrodAll enc Try.prog W 0 (fun _ => true) true Try.f7.params.toList args.toList ds p := hA0
  rw [Try.params7] at hA hval
  obtain ⟨v0, vs0, d0, ds0, p0, q0, hargs, rfl, rfl, h0, r0⟩ := trodAll_cons hA
  obtain ⟨v1, vs1, d1, ds1, p1, q1, rfl, rfl, rfl, h1, r1⟩ := trodAll_cons r0
  obtain ⟨rfl, rfl, rfl⟩ := trodAll_nil r1
  obtain rfl : args = #[v0, v1] := by cases args; simp_all
  obtain ⟨rfl, rfl⟩ := trodVars_none hV
  have k0 := h0
  have lt0 : ∀ x ∈ p0, x.block < W.heap.size := by obtain ⟨m, hm⟩ := k0; exact DataW.trod_lt m _ _ _ hm
  have z0 : Sized Try.prog 51 d0 := fun n hn => by simpa using List.all_eq_true.1 hsz0 _ (DataW.weights_mem_each (j := 0) (t := 51) (by kernel_rfl) rfl n hn)
  obtain ⟨V0, R0, f0⟩ := open_arg (sh := (.array 32 (.int .u8))) (.array Try.underlying51 (by kernel_rfl) (by kernel_rfl) (.int Try.underlying5)) (hval 0 51 v0 rfl rfl) h0 z0 (harr_ints .u8)
  obtain ⟨l0, rfl, b0⟩ := fits_sum f0
  obtain ⟨a1, rfl, rfl, rfl, y1⟩ := open_string Try.underlying9 (hval 1 9 v1 rfl rfl) h1
  have R1 : RepV W (fun _ => False) [] (.str a1.data.toList) (.string a1) := .str y1
  clear hA0 hval0 hsz0
  have hreal : RepL W (fun _ => False) [] _ _ := (.cons R0 (.cons R1 .nil))
  refine (law_calls (c7 rounds) tt7_ok (.cons ok28 (.cons ok35 (.cons ok36 (.cons ok37 (.cons ok38 (.cons ok39 .nil)))))) follows rfl Try.func7 (law7 l0 a1.data.toList b0 ⟨_, _, _, hreal⟩) hreal).mono fun e W' ⟨he, bel⟩ => ?_
  subst he
  exact ⟨_, rfl, _, _, _, [], _, [], hW', trodAll_mk1 (shut_bool Try.underlying4 _), (trodAll_cons_mk (Below.trod laidOut (by kernel_rfl) (of_decide_eq_true (by kernel_rfl)) k0 bel lt0) (trodAll_cons_mk (shut_string Try.underlying9 y1) trodAll_mk0)), rfl, bel.frame _, fun h => by cases h⟩
theorem over : Rows.shaTextsRow.holds Try.pinned (OpenSpec.ofChange Rows.shaTextsSpec) :=
  OpenClaim.holds_of_wide 7 Try.f7 rfl rfl rfl rfl rfl rfl rfl ⟨rfl, rfl, rfl, rfl, rfl⟩ rfl rfl rfl rfl rfl (by kernel_rfl) Try.func7 (by kernel_rfl)
    (of_decide_eq_true (by kernel_rfl)) (by unfold Func.isWrapper; first | (rw [if_pos (by decide +kernel)]; kernel_rfl) | (rw [if_neg (by decide +kernel)]; exact ⟨rfl, rfl⟩))
    (fun os started H enc _ => lifted os started H enc)
theorem proved : Rows.ShaTextsSaid := over
end Go.Proofs.Ytmkgmlgklggnlaa.shaTexts
namespace Go.Proofs.Ytmkgmlgklggnlaa
/-- The row, under a short name, for the claim. -/
theorem shaTexts_holds : Rows.ShaTextsSaid := shaTexts.proved
#print axioms shaTexts_holds
end Go.Proofs.Ytmkgmlgklggnlaa
