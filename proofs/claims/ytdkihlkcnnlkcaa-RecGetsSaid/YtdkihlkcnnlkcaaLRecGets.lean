/- RecGets: for every input the law returns true, and the input reads as it did; no condition beyond the row. -/
import Derived.Test.YtdkihlkcnnlkcaaRows
import Derived.WalkKit
import Derived.ProofKit
import Derived.OpenShut
import Derived.ShutString
import Derived.ChangeOld
import Derived.Below
import Derived.SizedLaws
import Derived.Carry
import Derived.Test.YtdkihlkcnnlkcaaGr
import Derived.Test.YtdkihlkcnnlkcaaGmYrecf
namespace Go.Proofs.YtdkihlkcnnlkcaaG
open Go Go.Proofs.YtdkihlkcnnlkcaaGm
set_option maxRecDepth 100000
def tt9 : Tab := [(0, ty0), (3, ty3), (4, ty4), (5, ty5), (9, ty9), (23, ty23), (25, ty25), (42, ty42), (44, ty44), (47, ty47), (48, ty48), (60, ty60), (62, ty62), (64, ty64), (66, ty66)]
theorem tt9_ok : TabOk Try.prog tt9 := tabOk_of_all ⟨ty0_ok, ty3_ok, ty4_ok, ty5_ok, ty9_ok, ty23_ok, ty25_ok, ty42_ok, ty44_ok, ty47_ok, ty48_ok, ty60_ok, ty62_ok, ty64_ok, ty66_ok, trivial⟩
def c9 (F : Nat) : Cfg := ⟨tt9, [(19, .pure (lentGo go19)), (21, .pure go21), (22, .pure go22), (31, .pure go31), (32, .pure go32), (33, .pure go33), (34, .pure go34), (35, .pure go35), (36, .pure go36)], F, [], [], 0⟩
theorem f9_eq (F : Nat) (a0 : List UInt8) (a1 : Int) : afun (c9 F) Try.f9 [AV.ro (Pay.bytes a0), AV.int IntKind.i64 a1] [] =
  bif ltI 3000 ↑a0.length then
    .ret (AV.bool true) []
  else
    bif okRows 1 (oneR (getL a0 a1 1).fst) && okRows 1 (oneR (getL a0 a1 1).fst) then
      bif !decide (decRows (oneR (getL a0 a1 1).fst) = decRows (oneR (getL a0 a1 1).fst)) then
        .ret (AV.bool false) []
      else
        bif !eqI (getL a0 a1 1).snd.fst (getL a0 a1 1).snd.fst then
          .ret (AV.bool false) []
        else
          bif !eqI (getL a0 a1 1).snd.snd (getL a0 a1 1).snd.snd then
            .ret (AV.bool false) []
          else
            bif okRows 2 (pairR (getL a0 a1 2).fst) && okRows 2 (pairR (getL a0 a1 2).fst) then
              bif !decide (decRows (pairR (getL a0 a1 2).fst) = decRows (pairR (getL a0 a1 2).fst)) then
                .ret (AV.bool false) []
              else
                bif !eqI (getL a0 a1 2).snd.fst (getL a0 a1 2).snd.fst then
                  .ret (AV.bool false) []
                else
                  bif !eqI (getL a0 a1 2).snd.snd (getL a0 a1 2).snd.snd then
                    .ret (AV.bool false) []
                  else
                    bif eqI (getL a0 a1 1).snd.snd 0 then
                      bif Nat.blt 65536 (oneR (getL a0 a1 1).fst).length then
                        .ret (AV.bool false) []
                      else
                        bif longT (decRows (oneR (getL a0 a1 1).fst)).flatten && okRows 1 (oneR (getL a0 a1 1).fst) && (9 + szT (decRows (oneR (getL a0 a1 1).fst)).flatten).ble 140737488355328 then
                          .ret (AV.bool false) []
                        else
                          bif okRows 1 (oneR (getL a0 a1 1).fst) && (9 + szT (decRows (oneR (getL a0 a1 1).fst)).flatten).ble 140737488355328 then
                            bif leI 0 a1 && leI a1 (getL a0 a1 1).snd.fst && leI (getL a0 a1 1).snd.fst ↑a0.length then
                              bif !eqS (enc ↑(oneR (getL a0 a1 1).fst).length ++ encTs (decRows (oneR (getL a0 a1 1).fst)).flatten) (List.take ((getL a0 a1 1).snd.fst.toNat - a1.toNat) (List.drop a1.toNat a0)) then
                                .ret (AV.bool false) []
                              else
                                .ret (AV.bool true) []
                            else
                              .stuck
                          else
                            .stuck
                    else
                      .ret (AV.bool true) []
            else
              .stuck
    else
      .stuck := by kernel_rfl


theorem yes_pos {c : Bool} {x y : Res} (h : c = true) (hx : Yes x) : Yes (bif c then x else y) := by rw [h]; exact hx
theorem yes_neg {c : Bool} {x y : Res} (h : c = false) (hy : Yes y) : Yes (bif c then x else y) := by rw [h]; exact hy
theorem yes_bif {c : Bool} {x y : Res} (h1 : c = true → Yes x) (h2 : c = false → Yes y) : Yes (bif c then x else y) := by
  cases c with
  | true => exact h1 rfl
  | false => exact h2 rfl

theorem law9 (l : List UInt8) (i : Int) (_ : Real [.ro (.bytes l), .int .i64 i]) : apure (c9 rounds) Try.f9 [.ro (.bytes l), .int .i64 i] = some (.bool true, []) := by
  refine apure_yes ?_
  rw [f9_eq, oneR_ok, pairR_ok, oneR_dec]
  refine yes_bif (fun _ => .ret) fun g1 => ?_
  replace g1 : (l.length : Int) ≤ 3000 := Int.not_lt.1 fun g => by rw [ltI_iff.2 g] at g1; cases g1
  refine yes_pos rfl (yes_neg (by simp) (yes_neg (by simp [eqI]) (yes_neg (by simp [eqI]) (yes_pos rfl (yes_neg (by simp) (yes_neg (by simp [eqI]) (yes_neg (by simp [eqI]) ?_)))))))
  refine yes_bif (fun h => ?_) fun _ => .ret
  obtain ⟨g2, g3, g4, g5, g6, g7, g8, g9⟩ := getL_seg (eqI_iff.1 h)
  generalize hr : getL l i 1 = r at *
  have hlen : (oneR r.1).length = (getV l i).1.toNat := by rw [show (oneR r.1).length = r.1.length from List.length_map _, g7, Nat.mul_one]
  have hsz := szT_encTs r.1
  have hsl := seg_len g2 g3 g4
  rw [← g9, List.length_append] at hsl
  refine yes_neg (by rw [Bool.eq_false_iff, Ne, blt_iff, hlen]; omega) ?_
  rw [longT_no g8]
  refine yes_neg rfl (yes_pos ?_ (yes_pos ?_ (yes_neg ?_ .ret)))
  · rw [Bool.true_and, ble_iff]; omega
  · rw [leI_iff.2 g2, leI_iff.2 g3, leI_iff.2 g4]; rfl
  · rw [hlen, show (((getV l i).1.toNat : Nat) : Int) = (getV l i).1 by omega, g9]
    simp [eqS, seg]
end Go.Proofs.YtdkihlkcnnlkcaaG

namespace Go.Proofs.Ytdkihlkcnnlkcaa.recGets
open Go.ChangeShapes Go.WideShapes Go.ChangeAt Go.RowKit Go.Proofs.YtdkihlkcnnlkcaaGm Go.Proofs.YtdkihlkcnnlkcaaG
open Go.ChangeMaps (open_string shut_string)
set_option linter.unusedVariables false
theorem own : ownKnob Try.prog.godebug = none := by kernel_rfl
theorem laidOut : laidOutB Try.prog = true := by kernel_rfl
set_option maxRecDepth 100000 in
theorem lifted (os : Os) (started : os.Started) (H : Type) (enc : TypeId × Value → H) :
    ReturnsInHanded {} Try.checked os 9 .any (Rows.recGetsSpec.pre6 enc Try.prog Try.f9 Rows.recGetsRow.domain false) (Rows.recGetsSpec.post enc Try.prog Try.f9 false true false false) := by
  refine returnsInHanded_of_change_sized (C := Try.checked) own started (by kernel_rfl) Try.func9
    (ChangeSpec.witness6 (enc := enc) (C := Try.checked) false ⟨#[], #[.slice none 0 0, .int .i64 0], []⟩ 8 (by kernel_rfl) (by kernel_rfl) (by kernel_rfl) (by kernel_rfl)) ?_
  intro W base args ds gs before hval0 hW hcnd hsz0 _
  have hval : ∀ (j : Nat) t v, Try.f9.params[j]? = some t → args[j]? = some v → Value.okWide Try.prog W .any base t v := hval0
  have hW' := hW
  obtain ⟨p, q, hA0, hV, rfl, hfz, hnd⟩ := hW
  have hA : DataW.TrodAll enc Try.prog W 0 (fun _ => true) true Try.f9.params.toList args.toList ds p := hA0
  rw [Try.params9] at hA hval
  obtain ⟨v0, vs0, d0, ds0, p0, q0, hargs, rfl, rfl, h0, r0⟩ := trodAll_cons hA
  obtain ⟨v1, vs1, d1, ds1, p1, q1, rfl, rfl, rfl, h1, r1⟩ := trodAll_cons r0
  obtain ⟨rfl, rfl, rfl⟩ := trodAll_nil r1
  obtain rfl : args = #[v0, v1] := by cases args; simp_all
  obtain ⟨rfl, rfl⟩ := trodVars_none hV
  obtain ⟨a0, len0, cap0, rfl⟩ := okWide_slice Try.underlying23 (hval 0 23 v0 rfl rfl)
  have k0 := h0
  have lt0 : ∀ x ∈ p0, x.block < W.heap.size := by obtain ⟨m, hm⟩ := k0; exact DataW.trod_lt m _ _ _ hm
  obtain ⟨z0, w0⟩ : ∃ zs, IsRow .u8 W a0 len0 cap0 zs := by
    obtain ⟨fuel, hf⟩ := h0
    rcases open_ints Try.underlying23 Try.underlying5 (by kernel_rfl) hf with ⟨hcs, _⟩ | ⟨x, l, c, zs, hcs, _, hl, hm, hz, _, hcell, hwz⟩
    · simp [Value.cells] at hcs
      obtain ⟨rfl, rfl, rfl⟩ := hcs
      exact ⟨[], .inl ⟨rfl, rfl, rfl, rfl⟩⟩
    · simp [Value.cells] at hcs
      obtain ⟨rfl, rfl, rfl⟩ := hcs
      exact ⟨zs, .inr ⟨_, rfl, hl, hm, by simpa using hz, hcell, hwz⟩⟩
  obtain ⟨l0, _, R0⟩ := row_bytes w0
  obtain ⟨a1, rfl, rfl, rfl, w1⟩ := open_int Try.underlying3 (hval 1 3 v1 rfl rfl) h1
  have R1 : RepV W (fun _ => False) [] (.int .i64 a1) (.int .i64 a1) := .int (by simpa [Lit.wf, IntKind.has] using w1)
  clear hA0 hval0 hsz0
  have hreal : RepL W (fun _ => False) [] _ _ := (.cons R0 (.cons R1 .nil))
  refine (law_calls (c9 rounds) tt9_ok (.cons ok19.lent (.cons ok21 (.cons ok22 (.cons ok31 (.cons ok32 (.cons ok33 (.cons ok34 (.cons ok35 (.cons ok36 .nil))))))))) follows rfl Try.func9 (law9 l0 a1 ⟨_, _, _, hreal⟩) hreal).mono fun e W' ⟨he, bel⟩ => ?_
  subst he
  exact ⟨_, rfl, _, _, _, [], _, [], hW', trodAll_mk1 (shut_bool Try.underlying4 _), (trodAll_cons_mk (Below.trod laidOut (by kernel_rfl) (of_decide_eq_true (by kernel_rfl)) k0 bel lt0) (trodAll_cons_mk (shut_int Try.underlying3 w1) trodAll_mk0)), rfl, bel.frame _, fun h => by cases h⟩
theorem over : Rows.recGetsRow.holds Try.pinned (OpenSpec.ofChange Rows.recGetsSpec) :=
  OpenClaim.holds_of_wide 9 Try.f9 rfl rfl rfl rfl rfl rfl rfl ⟨rfl, rfl, rfl, rfl, rfl⟩ rfl rfl rfl rfl rfl (by kernel_rfl) Try.func9 (by kernel_rfl)
    (of_decide_eq_true (by kernel_rfl)) (by unfold Func.isWrapper; first | (rw [if_pos (by decide +kernel)]; kernel_rfl) | (rw [if_neg (by decide +kernel)]; exact ⟨rfl, rfl⟩))
    (fun os started H enc _ => lifted os started H enc)
theorem proved : Rows.RecGetsSaid := over
end Go.Proofs.Ytdkihlkcnnlkcaa.recGets
namespace Go.Proofs.Ytdkihlkcnnlkcaa
/-- The row, under a short name, for the claim. -/
theorem recGets_holds : Rows.RecGetsSaid := recGets.proved
#print axioms recGets_holds
end Go.Proofs.Ytdkihlkcnnlkcaa
