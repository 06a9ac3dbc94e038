/- RecPuts: for every input the law returns true, and the input reads as it did; no condition beyond the row. -/
import Derived.Test.YtdkihlkcnnlkcaaRows
import Derived.WalkKit
import Derived.ProofKit
import Derived.OpenShut
import Derived.ShutString
import Derived.ChangeOld
import Derived.Below
import Derived.SizedLaws
import Derived.Carry
import Derived.Test.YtdkihlkcnnlkcaaGr
import Derived.Test.YtdkihlkcnnlkcaaGmYrecf
namespace Go.Proofs.YtdkihlkcnnlkcaaG
open Go Go.Proofs.YtdkihlkcnnlkcaaGm
set_option maxRecDepth 100000
def tt10 : Tab := [(0, ty0), (1, ty1), (3, ty3), (4, ty4), (5, ty5), (9, ty9), (23, ty23), (25, ty25), (42, ty42), (44, ty44), (47, ty47), (48, ty48), (60, ty60), (64, ty64)]
theorem tt10_ok : TabOk Try.prog tt10 := tabOk_of_all ⟨ty0_ok, ty1_ok, ty3_ok, ty4_ok, ty5_ok, ty9_ok, ty23_ok, ty25_ok, ty42_ok, ty44_ok, ty47_ok, ty48_ok, ty60_ok, ty64_ok, trivial⟩
def c10 (F : Nat) : Cfg := ⟨tt10, [(19, .pure (lentGo go19)), (20, .pure (lentGo go20)), (21, .pure go21), (22, .pure go22), (26, .pure go26), (37, .pure go37), (31, .pure go31), (33, .pure go33), (38, .pure (lentGo go38)), (39, .pure (lentGo go39)), (35, .pure go35), (36, .pure go36)], F, [], [], 0⟩
theorem f10_eq (F : Nat) (a0 : List (List AV)) (a1 : List (List AV)) (a2 : List UInt8) : afun (c10 F) Try.f10 [AV.ro (Pay.rows 1 a0), AV.ro (Pay.rows 2 a1), AV.ro (Pay.bytes a2)] [] =
  bif okRows 1 a0 && roomT (decRows a0).flatten then
    bif longF (lens (decRows a0)) 0 0 then
      .ret (AV.bool true) []
    else
      bif okRows 2 a1 && roomT (decRows a1).flatten then
        bif longF (lens (decRows a1)) 0 0 then
          .ret (AV.bool true) []
        else
          bif ltI 500 ↑a2.length then
            .ret (AV.bool true) []
          else
            bif Nat.blt 65536 a0.length then
              bif Nat.blt 65536 a1.length then
                .ret (AV.bool false) [AObj.arr 5 (Pay.bytes [UInt8.ofNat (Int.toNat 7)])]
              else
                bif longT (decRows a1).flatten && okRows 2 a1 && (9 + szT (decRows a1).flatten).ble 140737488355328 then
                  .ret (AV.bool false) [AObj.arr 5 (Pay.bytes [UInt8.ofNat (Int.toNat 7)])]
                else
                  bif okRows 2 a1 && (9 + szT (decRows a1).flatten).ble 140737488355328 then
                    .ret (AV.bool false) [AObj.arr 5 (Pay.bytes [UInt8.ofNat (Int.toNat 7)])]
                  else
                    .stuck
            else
              bif longT (decRows a0).flatten && okRows 1 a0 && ([UInt8.ofNat (Int.toNat 7)].length + 9 + szT (decRows a0).flatten).ble 140737488355328 then
                bif Nat.blt 65536 a1.length then
                  .ret (AV.bool false) [AObj.arr 5 (Pay.bytes [UInt8.ofNat (Int.toNat 7)])]
                else
                  bif longT (decRows a1).flatten && okRows 2 a1 && (9 + szT (decRows a1).flatten).ble 140737488355328 then
                    .ret (AV.bool false) [AObj.arr 5 (Pay.bytes [UInt8.ofNat (Int.toNat 7)])]
                  else
                    bif okRows 2 a1 && (9 + szT (decRows a1).flatten).ble 140737488355328 then
                      .ret (AV.bool false) [AObj.arr 5 (Pay.bytes [UInt8.ofNat (Int.toNat 7)])]
                    else
                      .stuck
              else
                bif okRows 1 a0 && ([UInt8.ofNat (Int.toNat 7)].length + 9 + szT (decRows a0).flatten).ble 140737488355328 then
                  bif Nat.blt 65536 a1.length then
                    .ret (AV.bool false) [AObj.dead]
                  else
                    bif longT (decRows a1).flatten && okRows 2 a1 && (9 + szT (decRows a1).flatten).ble 140737488355328 then
                      .ret (AV.bool false) [AObj.dead]
                    else
                      bif okRows 2 a1 && (9 + szT (decRows a1).flatten).ble 140737488355328 then
                        bif okRows 1 a0 && (9 + szT (decRows a0).flatten).ble 140737488355328 then
                          bif ((ByteArray.mk #[7]).data.toList.length + (enc ↑a0.length ++ encTs (decRows a0).flatten).length).ble maxLen then
                            bif !eqS ([UInt8.ofNat (Int.toNat 7)] ++ enc ↑a0.length ++ encTs (decRows a0).flatten) ((ByteArray.mk #[7]).data.toList ++ (enc ↑a0.length ++ encTs (decRows a0).flatten)) then
                              .ret (AV.bool false) [AObj.dead]
                            else
                              bif okRows 2 a1 && (9 + szT (decRows a1).flatten).ble 140737488355328 then
                                bif !eqS (enc ↑a1.length ++ encTs (decRows a1).flatten) (enc ↑a1.length ++ encTs (decRows a1).flatten) then
                                  .ret (AV.bool false) [AObj.dead]
                                else
                                  bif appFits ty5 (Pay.bytes (List.replicate 0 0 ++ ([UInt8.ofNat (Int.toNat 7)] ++ enc ↑a0.length ++ encTs (decRows a0).flatten))) then
                                    bif appFits ty5 (Pay.bytes (List.replicate 0 0 ++ ([UInt8.ofNat (Int.toNat 7)] ++ enc ↑a0.length ++ encTs (decRows a0).flatten) ++ a2)) then
                                      bif appFits ty5 (Pay.bytes (List.replicate 0 0 ++ (enc ↑a1.length ++ encTs (decRows a1).flatten))) then
                                        bif appFits ty5 (Pay.bytes (List.replicate 0 0 ++ (enc ↑a1.length ++ encTs (decRows a1).flatten) ++ a2)) then
                                          bif okRows 1 (oneR (getL (List.replicate 0 0 ++ ([UInt8.ofNat (Int.toNat 7)] ++ enc ↑a0.length ++ encTs (decRows a0).flatten) ++ a2) 1 1).fst) && okRows 1 a0 then
                                            bif decide (decRows (oneR (getL (List.replicate 0 0 ++ ([UInt8.ofNat (Int.toNat 7)] ++ enc ↑a0.length ++ encTs (decRows a0).flatten) ++ a2) 1 1).fst) = decRows a0) then
                                              bif eqI (getL (List.replicate 0 0 ++ ([UInt8.ofNat (Int.toNat 7)] ++ enc ↑a0.length ++ encTs (decRows a0).flatten) ++ a2) 1 1).snd.fst ↑([UInt8.ofNat (Int.toNat 7)] ++ enc ↑a0.length ++ encTs (decRows a0).flatten).length then
                                                bif eqI (getL (List.replicate 0 0 ++ ([UInt8.ofNat (Int.toNat 7)] ++ enc ↑a0.length ++ encTs (decRows a0).flatten) ++ a2) 1 1).snd.snd 0 then
                                                  bif okRows 2 (pairR (getL (List.replicate 0 0 ++ (enc ↑a1.length ++ encTs (decRows a1).flatten) ++ a2) 0 2).fst) && okRows 2 a1 then
                                                    bif decide (decRows (pairR (getL (List.replicate 0 0 ++ (enc ↑a1.length ++ encTs (decRows a1).flatten) ++ a2) 0 2).fst) = decRows a1) then
                                                      bif eqI (getL (List.replicate 0 0 ++ (enc ↑a1.length ++ encTs (decRows a1).flatten) ++ a2) 0 2).snd.fst ↑(enc ↑a1.length ++ encTs (decRows a1).flatten).length then
                                                        bif eqI (getL (List.replicate 0 0 ++ (enc ↑a1.length ++ encTs (decRows a1).flatten) ++ a2) 0 2).snd.snd 0 then
                                                          .ret (AV.bool true) [AObj.dead, AObj.dead, AObj.dead]
                                                        else
                                                          .ret (AV.bool false) [AObj.dead, AObj.dead, AObj.dead]
                                                      else
                                                        .ret (AV.bool false) [AObj.dead, AObj.dead, AObj.dead]
                                                    else
                                                      .ret (AV.bool false) [AObj.dead, AObj.dead, AObj.dead]
                                                  else
                                                    .stuck
                                                else
                                                  .ret (AV.bool false) [AObj.dead, AObj.dead, AObj.dead]
                                              else
                                                .ret (AV.bool false) [AObj.dead, AObj.dead, AObj.dead]
                                            else
                                              .ret (AV.bool false) [AObj.dead, AObj.dead, AObj.dead]
                                          else
                                            .stuck
                                        else
                                          .stuck
                                      else
                                        .stuck
                                    else
                                      .stuck
                                  else
                                    .stuck
                              else
                                .stuck
                          else
                            .stuck
                        else
                          .stuck
                      else
                        .stuck
                else
                  .stuck
      else
        .stuck
  else
    .stuck := by kernel_rfl


theorem yes_pos {c : Bool} {x y : Res} (h : c = true) (hx : Yes x) : Yes (bif c then x else y) := by rw [h]; exact hx
theorem yes_neg {c : Bool} {x y : Res} (h : c = false) (hy : Yes y) : Yes (bif c then x else y) := by rw [h]; exact hy
theorem yes_bif {c : Bool} {x y : Res} (h1 : c = true → Yes x) (h2 : c = false → Yes y) : Yes (bif c then x else y) := by
  cases c with
  | true => exact h1 rfl
  | false => exact h2 rfl

theorem law10 (X Y : List (List Txt)) (m : List UInt8) (hX : (∀ t ∈ X, t.length = 1) ∧ roomT X.flatten = true) (hY : (∀ t ∈ Y, t.length = 2) ∧ roomT Y.flatten = true)
    (_ : Real [.ro (.rows 1 (X.map strRow)), .ro (.rows 2 (Y.map strRow)), .ro (.bytes m)]) : apure (c10 rounds) Try.f10 [.ro (.rows 1 (X.map strRow)), .ro (.rows 2 (Y.map strRow)), .ro (.bytes m)] = some (.bool true, []) := by
  refine apure_yes ?_
  have oX := okRows_map hX.1
  have oY := okRows_map hY.1
  rw [f10_eq, decRows_map, decRows_map, oX, oY, hX.2, hY.2, List.length_map, List.length_map]
  refine yes_pos rfl (yes_bif (fun _ => .ret) fun gX => yes_pos rfl (yes_bif (fun _ => .ret) fun gY => yes_bif (fun _ => .ret) fun gm => ?_))
  replace gm : (m.length : Int) ≤ 500 := Int.not_lt.1 fun g => by rw [ltI_iff.2 g] at gm; cases gm
  obtain ⟨xa, xb⟩ := longF_out _ _ _ gX (by omega)
  obtain ⟨ya, yb⟩ := longF_out _ _ _ gY (by omega)
  have xc := xb (by omega)
  have yc := yb (by omega)
  have xl : (lens X).length = X.length := List.length_map _
  have yl : (lens Y).length = Y.length := List.length_map _
  have xs := lens_szT X 1 hX.1
  have ys := lens_szT Y 2 hY.1
  have xh : ∀ s ∈ X.flatten, s.length ≤ 65536 := lens_short (by omega)
  have yh : ∀ s ∈ Y.flatten, s.length ≤ 65536 := lens_short (by omega)
  have xe := encTs_len X.flatten
  have ye := encTs_len Y.flatten
  have xn : (enc (X.length : Int)).length ≤ 9 := by rw [enc_length _ (by omega)]; have := len9_range (X.length : Int); omega
  have yn : (enc (Y.length : Int)).length ≤ 9 := by rw [enc_length _ (by omega)]; have := len9_range (Y.length : Int); omega
  have x7 : [UInt8.ofNat (Int.toNat 7)] ++ enc (X.length : Int) ++ encTs X.flatten = [7] ++ (enc X.length ++ encTs X.flatten) := by rw [List.append_assoc]; rfl
  have gx := getL_enc [7] m X.length 1 X.flatten (by omega) (flat_len hX.1) xh
  have gy := getL_enc [] m Y.length 2 Y.flatten (by omega) (flat_len hY.1) yh
  rw [x7, show List.replicate 0 (0 : UInt8) = [] from rfl, List.nil_append, List.nil_append, show (ByteArray.mk #[7]).data.toList = [7] from rfl]
  rw [List.nil_append] at gy
  rw [show (([7] : Txt).length : Int) = 1 from rfl] at gx
  rw [show (([] : Txt).length : Int) = 0 from rfl] at gy
  rw [gx, gy, longT_no xh, longT_no yh, oneR_flat hX.1, pairR_flat hY.1, oneR_ok, pairR_ok]
  have fits : ∀ l : Txt, l.length ≤ 140737488355328 → appFits ty5 (.bytes l) = true := fun l h => by
    unfold appFits
    rw [ble_iff]
    show l.length * 1 ≤ _
    omega
  have hL : maxLen = 140737488355327 ∨ 1000000 ≤ maxLen := by right; decide
  have ml : 1000000 ≤ maxLen := by decide
  have l7 : ([7] ++ (enc (X.length : Int) ++ encTs X.flatten)).length ≤ 10 + 6000 := by simp only [List.length_append, List.length_singleton]; omega
  have l0 : (enc (Y.length : Int) ++ encTs Y.flatten).length ≤ 10 + 8000 := by simp only [List.length_append]; omega
  refine yes_neg (by rw [Bool.eq_false_iff, Ne, blt_iff]; omega) (yes_neg rfl (yes_pos ?_ (yes_neg (by rw [Bool.eq_false_iff, Ne, blt_iff]; omega) (yes_neg rfl (yes_pos ?_ (yes_pos ?_ (yes_pos ?_ (yes_neg ?_ (yes_pos ?_ (yes_neg ?_ (yes_pos ?_ (yes_pos ?_ (yes_pos ?_ (yes_pos ?_ (yes_pos rfl (yes_pos ?_ (yes_pos ?_ (yes_pos rfl (yes_pos rfl (yes_pos ?_ (yes_pos ?_ (yes_pos rfl .ret))))))))))))))))))))))
  · rw [Bool.true_and, ble_iff]; simp only [List.length_singleton]; omega
  · rw [Bool.true_and, ble_iff]; omega
  · rw [Bool.true_and, ble_iff]; omega
  · rw [ble_iff]; simp only [List.length_singleton, List.length_append] at *; omega
  · simp [eqS]
  · rw [Bool.true_and, ble_iff]; omega
  · simp [eqS]
  · exact fits _ (by omega)
  · exact fits _ (by simp only [List.length_append] at *; omega)
  · exact fits _ (by omega)
  · exact fits _ (by simp only [List.length_append] at *; omega)
  · exact decide_eq_true rfl
  · exact eqI_iff.2 rfl
  · exact decide_eq_true rfl
  · exact eqI_iff.2 rfl
end Go.Proofs.YtdkihlkcnnlkcaaG

namespace Go.Proofs.Ytdkihlkcnnlkcaa.recPuts
open Go.ChangeShapes Go.WideShapes Go.ChangeAt Go.RowKit Go.Proofs.YtdkihlkcnnlkcaaGm Go.Proofs.YtdkihlkcnnlkcaaG
open Go.ChangeMaps (open_string shut_string)
set_option linter.unusedVariables false
theorem own : ownKnob Try.prog.godebug = none := by kernel_rfl
theorem laidOut : laidOutB Try.prog = true := by kernel_rfl
set_option maxRecDepth 100000 in
theorem lifted (os : Os) (started : os.Started) (H : Type) (enc : TypeId × Value → H) :
    ReturnsInHanded {} Try.checked os 10 .any (Rows.recPutsSpec.pre6 enc Try.prog Try.f10 Rows.recPutsRow.domain false) (Rows.recPutsSpec.post enc Try.prog Try.f10 false true false false) := by
  refine returnsInHanded_of_change_sized (C := Try.checked) own started (by kernel_rfl) Try.func10
    (ChangeSpec.witness6 (enc := enc) (C := Try.checked) false ⟨#[], #[.slice none 0 0, .slice none 0 0, .slice none 0 0], []⟩ 8 (by kernel_rfl) (by kernel_rfl) (by kernel_rfl) (by kernel_rfl)) ?_
  intro W base args ds gs before hval0 hW hcnd hsz0 _
  have hval : ∀ (j : Nat) t v, Try.f10.params[j]? = some t → args[j]? = some v → Value.okWide Try.prog W .any base t v := hval0
  have hW' := hW
  obtain ⟨p, q, hA0, hV, rfl, hfz, hnd⟩ := hW
  have hA : DataW.TrodAll enc Try.prog W 0 (fun _ => true) true Try.f10.params.toList args.toList ds p := hA0
  rw [Try.params10] at hA hval
  obtain ⟨v0, vs0, d0, ds0, p0, q0, hargs, rfl, rfl, h0, r0⟩ := trodAll_cons hA
  obtain ⟨v1, vs1, d1, ds1, p1, q1, rfl, rfl, rfl, h1, r1⟩ := trodAll_cons r0
  obtain ⟨v2, vs2, d2, ds2, p2, q2, rfl, rfl, rfl, h2, r2⟩ := trodAll_cons r1
  obtain ⟨rfl, rfl, rfl⟩ := trodAll_nil r2
  obtain rfl : args = #[v0, v1, v2] := by cases args; simp_all
  obtain ⟨rfl, rfl⟩ := trodVars_none hV
  have k0 := h0
  have lt0 : ∀ x ∈ p0, x.block < W.heap.size := by obtain ⟨m, hm⟩ := k0; exact DataW.trod_lt m _ _ _ hm
  have z0 : Sized Try.prog 44 d0 := fun n hn => by simpa using List.all_eq_true.1 hsz0 _ (DataW.weights_mem_each (j := 0) (t := 44) (by kernel_rfl) rfl n hn)
  obtain ⟨V0, R0, f0⟩ := open_arg (sh := (.slice .str)) (.slice Try.underlying44 (by kernel_rfl) (by decide) (.str Try.underlying9)) (hval 0 44 v0 rfl rfl) h0 z0 (fun _ _ h => by cases h)
  obtain ⟨l0, rfl, b0⟩ := fits_texts f0
  have k1 := h1
  have lt1 : ∀ x ∈ p1, x.block < W.heap.size := by obtain ⟨m, hm⟩ := k1; exact DataW.trod_lt m _ _ _ hm
  have z1 : Sized Try.prog 48 d1 := fun n hn => by simpa using List.all_eq_true.1 hsz0 _ (DataW.weights_mem_each (j := 1) (t := 48) (by kernel_rfl) rfl n hn)
  obtain ⟨V1, R1, f1⟩ := open_arg (sh := (.slice (.struct [.str, .str]))) (.slice Try.underlying48 (by kernel_rfl) (by decide) (.struct Try.underlying47 (by kernel_rfl) (.cons rfl (by kernel_rfl) (.str Try.underlying9) (.cons rfl (by kernel_rfl) (.str Try.underlying9) .nil)))) (hval 1 48 v1 rfl rfl) h1 z1 (fun _ _ h => by cases h)
  obtain ⟨l1, rfl, b1⟩ := fits_pairs f1
  obtain ⟨a2, len2, cap2, rfl⟩ := okWide_slice Try.underlying23 (hval 2 23 v2 rfl rfl)
  have k2 := h2
  have lt2 : ∀ x ∈ p2, x.block < W.heap.size := by obtain ⟨m, hm⟩ := k2; exact DataW.trod_lt m _ _ _ hm
  obtain ⟨z2, w2⟩ : ∃ zs, IsRow .u8 W a2 len2 cap2 zs := by
    obtain ⟨fuel, hf⟩ := h2
    rcases open_ints Try.underlying23 Try.underlying5 (by kernel_rfl) hf with ⟨hcs, _⟩ | ⟨x, l, c, zs, hcs, _, hl, hm, hz, _, hcell, hwz⟩
    · simp [Value.cells] at hcs
      obtain ⟨rfl, rfl, rfl⟩ := hcs
      exact ⟨[], .inl ⟨rfl, rfl, rfl, rfl⟩⟩
    · simp [Value.cells] at hcs
      obtain ⟨rfl, rfl, rfl⟩ := hcs
      exact ⟨zs, .inr ⟨_, rfl, hl, hm, by simpa using hz, hcell, hwz⟩⟩
  obtain ⟨l2, _, R2⟩ := row_bytes w2
  clear hA0 hval0 hsz0
  have hreal : RepL W (fun _ => False) [] _ _ := (.cons R0 (.cons R1 (.cons R2 .nil)))
  refine (law_calls (c10 rounds) tt10_ok (.cons ok19.lent (.cons ok20.lent (.cons ok21 (.cons ok22 (.cons ok26 (.cons ok37 (.cons ok31 (.cons ok33 (.cons ok38.lent (.cons ok39.lent (.cons ok35 (.cons ok36 .nil)))))))))))) follows rfl Try.func10 (law10 l0 l1 l2 b0 b1 ⟨_, _, _, hreal⟩) hreal).mono fun e W' ⟨he, bel⟩ => ?_
  subst he
  exact ⟨_, rfl, _, _, _, [], _, [], hW', trodAll_mk1 (shut_bool Try.underlying4 _), (trodAll_cons_mk (Below.trod laidOut (by kernel_rfl) (of_decide_eq_true (by kernel_rfl)) k0 bel lt0) (trodAll_cons_mk (Below.trod laidOut (by kernel_rfl) (of_decide_eq_true (by kernel_rfl)) k1 bel lt1) (trodAll_cons_mk (Below.trod laidOut (by kernel_rfl) (of_decide_eq_true (by kernel_rfl)) k2 bel lt2) trodAll_mk0))), rfl, bel.frame _, fun h => by cases h⟩
theorem over : Rows.recPutsRow.holds Try.pinned (OpenSpec.ofChange Rows.recPutsSpec) :=
  OpenClaim.holds_of_wide 10 Try.f10 rfl rfl rfl rfl rfl rfl rfl ⟨rfl, rfl, rfl, rfl, rfl⟩ rfl rfl rfl rfl rfl (by kernel_rfl) Try.func10 (by kernel_rfl)
    (of_decide_eq_true (by kernel_rfl)) (by unfold Func.isWrapper; first | (rw [if_pos (by decide +kernel)]; kernel_rfl) | (rw [if_neg (by decide +kernel)]; exact ⟨rfl, rfl⟩))
    (fun os started H enc _ => lifted os started H enc)
theorem proved : Rows.RecPutsSaid := over
end Go.Proofs.Ytdkihlkcnnlkcaa.recPuts
namespace Go.Proofs.Ytdkihlkcnnlkcaa
/-- The row, under a short name, for the claim. -/
theorem recPuts_holds : Rows.RecPutsSaid := recPuts.proved
#print axioms recPuts_holds
end Go.Proofs.Ytdkihlkcnnlkcaa
