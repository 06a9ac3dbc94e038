/- InputSplits: for every input the law returns true, and the input reads as it did; no condition beyond the row. -/
import Derived.Test.YtdkihlkcnnlkcaaRows
import Derived.WalkKit
import Derived.ProofKit
import Derived.OpenShut
import Derived.ShutString
import Derived.ChangeOld
import Derived.Below
import Derived.SizedLaws
import Derived.Carry
import Derived.Test.YtdkihlkcnnlkcaaGx
import Derived.Test.YtdkihlkcnnlkcaaGmYnote
namespace Go.Proofs.YtdkihlkcnnlkcaaG
open Go Go.Proofs.YtdkihlkcnnlkcaaGm
set_option maxRecDepth 100000
def tt7 : Tab := [(0, ty0), (3, ty3), (4, ty4), (5, ty5), (9, ty9), (23, ty23), (24, ty24), (28, ty28), (35, ty35), (50, ty50), (51, ty51), (52, ty52), (54, ty54)]
theorem tt7_ok : TabOk Try.prog tt7 := tabOk_of_all ⟨ty0_ok, ty3_ok, ty4_ok, ty5_ok, ty9_ok, ty23_ok, ty24_ok, ty28_ok, ty35_ok, ty50_ok, ty51_ok, ty52_ok, ty54_ok, trivial⟩
def c7 (F : Nat) : Cfg := ⟨tt7, [(12, .pure go11), (13, .pure go13), (15, .pure go15), (23, .pure (lentGo go23)), (24, .pure (lentGo go24)), (25, .pure (lentGo go24))], F, [(0, ⟨[0, 1, 2, 3, 9, 10, 11, 12], []⟩)], [], 0⟩
noncomputable def f7_0 (F k : Nat) (x0 : Int) (x1 : Int) (x2 : List UInt8) (x3 : List Int) (x9 : List (List AV)) (x10 : Int) (x11 : Int) (x12 : Int) : Res := aloop (c7 F) Try.f7 0 [] k (St.mk [AV.int IntKind.u16 x0, AV.int IntKind.i64 x1, AV.ro (Pay.bytes x2), AV.ro (Pay.ints IntKind.i64 x3), AV.top, AV.top, AV.top, AV.top, AV.top, AV.ro (Pay.rows 2 x9), AV.int IntKind.i64 x10, AV.int IntKind.i64 x11, AV.int IntKind.i64 x12, AV.top, AV.top, AV.top, AV.top, AV.top, AV.top, AV.top, AV.top, AV.top, AV.top, AV.top, AV.top, AV.top, AV.top, AV.top, AV.top, AV.top, AV.top, AV.top, AV.top, AV.top, AV.top, AV.top, AV.top, AV.top, AV.top, AV.top, AV.top, AV.top, AV.top, AV.top, AV.top, AV.top, AV.top, AV.top, AV.top, AV.top, AV.top, AV.top, AV.top, AV.top, AV.top, AV.top, AV.top, AV.top, AV.top, AV.top, AV.top, AV.top, AV.top, AV.top, AV.top, AV.top, AV.top, AV.top, AV.top, AV.top, AV.top, AV.top, AV.top, AV.top, AV.top, AV.top, AV.top, AV.top, AV.top, AV.top, AV.top, AV.top, AV.top, AV.top, AV.top, AV.top, AV.top, AV.top, AV.top, AV.top, AV.top, AV.top, AV.top, AV.top, AV.top, AV.top, AV.top, AV.top, AV.top, AV.top, AV.top, AV.top, AV.top, AV.top, AV.top, AV.top, AV.top, AV.top, AV.top, AV.top, AV.top, AV.top, AV.top, AV.top, AV.top, AV.top, AV.top, AV.top] [])
theorem f7_eq (F : Nat) (a0 : Int) (a1 : Int) (a2 : List UInt8) (a3 : List Int) : afun (c7 F) Try.f7 [AV.int IntKind.u16 a0, AV.int IntKind.i64 a1, AV.ro (Pay.bytes a2), AV.ro (Pay.ints IntKind.i64 a3)] [] =
  bif ltI 2000 ↑a2.length then
    .ret (AV.bool true) []
  else
    bif ltI 200 ↑a3.length then
      .ret (AV.bool true) []
    else
      bif leI (IntKind.i64.wrap a0) 65536 then
        f7_0 F F a0 a1 a2 a3 (List.map pairI (pieces (IntKind.i64.wrap a0) (perI (IntKind.i64.wrap a0) a1) (IntKind.i64.wrap a0).toNat 0)) (if 1 > a1 then 1 else a1) 0 0
      else
        .stuck := by kernel_rfl
theorem f7_0_eq (F k : Nat) (x0 : Int) (x1 : Int) (x2 : List UInt8) (x3 : List Int) (x9 : List (List AV)) (x10 : Int) (x11 : Int) (x12 : Int) : f7_0 F (k + 1) x0 x1 x2 x3 x9 x10 x11 x12 =
  bif ltI x12 ↑x9.length then
    bif inB x12 x9.length then
      bif isInt IntKind.i64 (nth (x9.getD x12.toNat []) 0) then
        bif !eqI (intOf (nth (x9.getD x12.toNat []) 0)) x11 then
          .ret (AV.bool false) []
        else
          bif inB x12 x9.length then
            bif isInt IntKind.i64 (nth (x9.getD x12.toNat []) 1) then
              bif leI (intOf (nth (x9.getD x12.toNat []) 1)) x11 then
                .ret (AV.bool false) []
              else
                bif inB x12 x9.length then
                  bif isInt IntKind.i64 (nth (x9.getD x12.toNat []) 1) then
                    bif ltI x10 (IntKind.i64.wrap (intOf (nth (x9.getD x12.toNat []) 1) - x11)) then
                      .ret (AV.bool false) []
                    else
                      bif ltI (IntKind.i64.wrap (x12 + 1)) ↑x9.length then
                        bif inB x12 x9.length then
                          bif isInt IntKind.i64 (nth (x9.getD x12.toNat []) 1) then
                            bif !eqI (IntKind.i64.wrap (intOf (nth (x9.getD x12.toNat []) 1) - x11)) x10 then
                              .ret (AV.bool false) []
                            else
                              bif inB x12 x9.length then
                                bif isInt IntKind.i64 (nth (x9.getD x12.toNat []) 1) then
                                  f7_0 F k x0 x1 x2 x3 x9 x10 (intOf (nth (x9.getD x12.toNat []) 1)) (IntKind.i64.wrap (x12 + 1))
                                else
                                  .stuck
                              else
                                .stuck
                          else
                            .stuck
                        else
                          .stuck
                      else
                        bif inB x12 x9.length then
                          bif isInt IntKind.i64 (nth (x9.getD x12.toNat []) 1) then
                            f7_0 F k x0 x1 x2 x3 x9 x10 (intOf (nth (x9.getD x12.toNat []) 1)) (IntKind.i64.wrap (x12 + 1))
                          else
                            .stuck
                        else
                          .stuck
                  else
                    .stuck
                else
                  .stuck
            else
              .stuck
          else
            .stuck
      else
        .stuck
    else
      .stuck
  else
    bif eqI x11 (IntKind.i64.wrap x0) then
      bif leI (IntKind.i64.wrap (0 - IntKind.i64.wrap x0)) 65536 then
        bif eqI (↑(List.map pairI (pieces (IntKind.i64.wrap (0 - IntKind.i64.wrap x0)) (perI (IntKind.i64.wrap (0 - IntKind.i64.wrap x0)) x1) (IntKind.i64.wrap (0 - IntKind.i64.wrap x0)).toNat 0)).length) 0 then
          bif okI (recRows (records x2).fst) && (recRows (records x2).fst).length.ble 1000000 then
            bif okI (recRows (records x2).fst) && (recRows (records x2).fst).length.ble 1000000 then
              bif okI (List.map recI (onlyI (decIs (recRows (records x2).fst)) x3)) && okI (List.map recI (onlyI (decIs (recRows (records x2).fst)) x3)) then
                bif decide (decIs (List.map recI (onlyI (decIs (recRows (records x2).fst)) x3)) = decIs (List.map recI (onlyI (decIs (recRows (records x2).fst)) x3))) then
                  .ret (AV.bool true) []
                else
                  .ret (AV.bool false) []
              else
                .stuck
            else
              .stuck
          else
            .stuck
        else
          .ret (AV.bool false) []
      else
        .stuck
    else
      .ret (AV.bool false) [] := by kernel_rfl


theorem yes_pos {c : Bool} {x y : Res} (h : c = true) (hx : Yes x) : Yes (bif c then x else y) := by rw [h]; exact hx
theorem yes_neg {c : Bool} {x y : Res} (h : c = false) (hy : Yes y) : Yes (bif c then x else y) := by rw [h]; exact hy
theorem yes_bif {c : Bool} {x y : Res} (h1 : c = true → Yes x) (h2 : c = false → Yes y) : Yes (bif c then x else y) := by
  cases c with
  | true => exact h1 rfl
  | false => exact h2 rfl

theorem run7 (F : Nat) (n per : Int) (b : Txt) (offs : List Int) (hn : 0 ≤ n ∧ n ≤ 65535) (hb : b.length ≤ 2000) (Z : List (Int × Int)) : ∀ (d k j : Nat) (f : Int), 0 ≤ f → f ≤ 131072 → n ≤ f + d → d < k → d ≤ 65536 → Z.drop j = pieces n (perI n per) d f → j + (pieces n (perI n per) d f).length = Z.length →
    j + d ≤ 100000 → Yes (f7_0 F k n per b offs (Z.map pairI) (max per 1) (min f n) j)
  | d, k + 1, j, f, h0, h1, h2, h3, h4, h5, h6, h7 => by
    rw [f7_0_eq, List.length_map]
    have hp : 1 ≤ perI n per ∧ perI n per ≤ 65536 ∧ perI n per ≤ max per 1 ∧ (perI n per < n → perI n per = max per 1) := by unfold perI; omega
    by_cases hf : f < n
    · obtain ⟨d, rfl⟩ : ∃ m, d = m + 1 := ⟨d - 1, by omega⟩
      have e : pieces n (perI n per) (d + 1) f = (f, f + min (perI n per) (n - f)) :: pieces n (perI n per) d (f + perI n per) := by rw [pieces, if_pos hf]
      rw [e, List.length_cons] at h6
      have hj : j < Z.length := by omega
      have e2 : Z.drop j = Z.getD j (0, 0) :: Z.drop (j + 1) := by rw [List.getD_eq_getElem?_getD, List.getElem?_eq_getElem hj]; exact List.drop_eq_getElem_cons hj
      rw [e, e2] at h5
      obtain ⟨e3, e4⟩ := List.cons.inj h5
      rw [Int.toNat_natCast, pairI_getD Z j hj, e3, show inB (j : Int) Z.length = true by rw [inB_iff]; omega, show ltI (j : Int) Z.length = true by rw [ltI_iff]; omega]
      have hm : f + min (perI n per) (n - f) = min (f + perI n per) n := by omega
      have ih := run7 F n per b offs hn hb Z d k (j + 1) (f + perI n per) (by omega) (by omega) (by omega) (by omega) (by omega) e4 (by omega) (by omega)
      have hlen : (pieces n (perI n per) d (f + perI n per)).length ≠ 0 → f + perI n per < n := fun h => by
        by_cases g : f + perI n per < n
        · exact g
        · rw [pieces_nil (by omega)] at h; exact absurd rfl h
      generalize hq : perI n per = p at *
      have a0 : intOf (nth (pairI (f, f + min p (n - f))) 0) = f := rfl
      have a1 : intOf (nth (pairI (f, f + min p (n - f))) 1) = min (f + p) n := hm
      have i0 : isInt .i64 (nth (pairI (f, f + min p (n - f))) 0) = true := rfl
      have i1 : isInt .i64 (nth (pairI (f, f + min p (n - f))) 1) = true := rfl
      rw [a0, a1, i0, i1, wrap64 (n := (j : Int) + 1) (by omega) (by omega), wrap64 (n := min (f + p) n - min f n) (by omega) (by omega)]
      simp only [cond_true]
      refine yes_neg (by rw [Bool.not_eq_false', eqI_iff]; omega) (yes_neg (by rw [leI_f]; omega) (yes_neg (by rw [ltI_f]; omega) (yes_bif (fun g => ?_) fun _ => ih)))
      have g := ltI_iff.1 g
      have := hlen (by omega)
      exact yes_neg (by rw [Bool.not_eq_false', eqI_iff]; omega) ih
    · rw [pieces_nil (by omega), List.length_nil] at h6
      refine yes_neg (by rw [ltI_f]; omega) ?_
      have hl := records_len b
      rw [wrap64 (n := n) (by omega) (by omega), wrap64 (n := 0 - n) (by omega) (by omega), show (0 - n).toNat = 0 by omega, show pieces (0 - n) (perI (0 - n) per) 0 0 = [] from rfl]
      rw [show (recRows (records b).1).length.ble 1000000 = true by rw [ble_iff]; omega, recRows_recsI, okI_map, decIs_map, okI_map, decIs_map]
      exact yes_pos (eqI_iff.2 (by omega)) (yes_pos (leI_iff.2 (by omega)) (yes_pos rfl (yes_pos rfl (yes_pos rfl (yes_pos rfl (yes_pos (decide_eq_true rfl) .ret))))))
theorem law7 (a0 a1 : Int) (a2 : List UInt8) (a3 : List Int) (hr : Real [.int .u16 a0, .int .i64 a1, .ro (.bytes a2), .ro (.ints .i64 a3)]) : apure (c7 rounds) Try.f7 [.int .u16 a0, .int .i64 a1, .ro (.bytes a2), .ro (.ints .i64 a3)] = some (.bool true, []) := by
  have h0 : 0 ≤ a0 ∧ a0 ≤ 65535 := by simpa [IntKind.has, IntKind.min, IntKind.max, IntKind.signed, IntKind.bits] using hr.int
  refine apure_yes ?_
  rw [f7_eq]
  refine yes_bif (fun _ => .ret) fun g => yes_bif (fun _ => .ret) fun _ => ?_
  have g := ltI_f.1 g
  rw [wrap64 (n := a0) (by omega) (by omega), show (if 1 > a1 then 1 else a1) = max a1 1 by split <;> omega]
  refine yes_pos (leI_iff.2 (by omega)) ?_
  have := run7 rounds a0 a1 a2 a3 h0 (by omega) (pieces a0 (perI a0 a1) a0.toNat 0) a0.toNat rounds 0 0 (by omega) (by omega) (by omega) (Nat.lt_of_le_of_lt (by omega) big) (by omega) rfl (by omega) (by omega)
  rw [show min 0 a0 = 0 by omega] at this
  exact this
end Go.Proofs.YtdkihlkcnnlkcaaG

namespace Go.Proofs.Ytdkihlkcnnlkcaa.inputSplits
open Go.ChangeShapes Go.WideShapes Go.ChangeAt Go.RowKit Go.Proofs.YtdkihlkcnnlkcaaGm Go.Proofs.YtdkihlkcnnlkcaaG
open Go.ChangeMaps (open_string shut_string)
set_option linter.unusedVariables false
theorem own : ownKnob Try.prog.godebug = none := by kernel_rfl
theorem laidOut : laidOutB Try.prog = true := by kernel_rfl
set_option maxRecDepth 100000 in
theorem lifted (os : Os) (started : os.Started) (H : Type) (enc : TypeId × Value → H) :
    ReturnsInHanded {} Try.checked os 7 .any (Rows.inputSplitsSpec.pre6 enc Try.prog Try.f7 Rows.inputSplitsRow.domain false) (Rows.inputSplitsSpec.post enc Try.prog Try.f7 false true false false) := by
  refine returnsInHanded_of_change_sized (C := Try.checked) own started (by kernel_rfl) Try.func7
    (ChangeSpec.witness6 (enc := enc) (C := Try.checked) false ⟨#[], #[.int .u16 0, .int .i64 0, .slice none 0 0, .slice none 0 0], []⟩ 8 (by kernel_rfl) (by kernel_rfl) (by kernel_rfl) (by kernel_rfl)) ?_
  intro W base args ds gs before hval0 hW hcnd hsz0 _
  have hval : ∀ (j : Nat) t v, Try.f7.params[j]? = some t → args[j]? = some v → Value.okWide Try.prog W .any base t v := hval0
  have hW' := hW
  obtain ⟨p, q, hA0, hV, rfl, hfz, hnd⟩ := hW
  have hA : DataW.TrodAll enc Try.prog W 0 (fun _ => true) true Try.f7.params.toList args.toList ds p := hA0
  rw [Try.params7] at hA hval
  obtain ⟨v0, vs0, d0, ds0, p0, q0, hargs, rfl, rfl, h0, r0⟩ := trodAll_cons hA
  obtain ⟨v1, vs1, d1, ds1, p1, q1, rfl, rfl, rfl, h1, r1⟩ := trodAll_cons r0
  obtain ⟨v2, vs2, d2, ds2, p2, q2, rfl, rfl, rfl, h2, r2⟩ := trodAll_cons r1
  obtain ⟨v3, vs3, d3, ds3, p3, q3, rfl, rfl, rfl, h3, r3⟩ := trodAll_cons r2
  obtain ⟨rfl, rfl, rfl⟩ := trodAll_nil r3
  obtain rfl : args = #[v0, v1, v2, v3] := by cases args; simp_all
  obtain ⟨rfl, rfl⟩ := trodVars_none hV
  obtain ⟨a0, rfl, rfl, rfl, w0⟩ := open_int Try.underlying50 (hval 0 50 v0 rfl rfl) h0
  have R0 : RepV W (fun _ => False) [] (.int .u16 a0) (.int .u16 a0) := .int (by simpa [Lit.wf, IntKind.has] using w0)
  obtain ⟨a1, rfl, rfl, rfl, w1⟩ := open_int Try.underlying3 (hval 1 3 v1 rfl rfl) h1
  have R1 : RepV W (fun _ => False) [] (.int .i64 a1) (.int .i64 a1) := .int (by simpa [Lit.wf, IntKind.has] using w1)
  obtain ⟨a2, len2, cap2, rfl⟩ := okWide_slice Try.underlying23 (hval 2 23 v2 rfl rfl)
  have k2 := h2
  have lt2 : ∀ x ∈ p2, x.block < W.heap.size := by obtain ⟨m, hm⟩ := k2; exact DataW.trod_lt m _ _ _ hm
  obtain ⟨z2, w2⟩ : ∃ zs, IsRow .u8 W a2 len2 cap2 zs := by
    obtain ⟨fuel, hf⟩ := h2
    rcases open_ints Try.underlying23 Try.underlying5 (by kernel_rfl) hf with ⟨hcs, _⟩ | ⟨x, l, c, zs, hcs, _, hl, hm, hz, _, hcell, hwz⟩
    · simp [Value.cells] at hcs
      obtain ⟨rfl, rfl, rfl⟩ := hcs
      exact ⟨[], .inl ⟨rfl, rfl, rfl, rfl⟩⟩
    · simp [Value.cells] at hcs
      obtain ⟨rfl, rfl, rfl⟩ := hcs
      exact ⟨zs, .inr ⟨_, rfl, hl, hm, by simpa using hz, hcell, hwz⟩⟩
  obtain ⟨l2, _, R2⟩ := row_bytes w2
  obtain ⟨a3, len3, cap3, rfl⟩ := okWide_slice Try.underlying51 (hval 3 51 v3 rfl rfl)
  have k3 := h3
  have lt3 : ∀ x ∈ p3, x.block < W.heap.size := by obtain ⟨m, hm⟩ := k3; exact DataW.trod_lt m _ _ _ hm
  obtain ⟨z3, w3⟩ : ∃ zs, IsRow .i64 W a3 len3 cap3 zs := by
    obtain ⟨fuel, hf⟩ := h3
    rcases open_ints Try.underlying51 Try.underlying3 (by kernel_rfl) hf with ⟨hcs, _⟩ | ⟨x, l, c, zs, hcs, _, hl, hm, hz, _, hcell, hwz⟩
    · simp [Value.cells] at hcs
      obtain ⟨rfl, rfl, rfl⟩ := hcs
      exact ⟨[], .inl ⟨rfl, rfl, rfl, rfl⟩⟩
    · simp [Value.cells] at hcs
      obtain ⟨rfl, rfl, rfl⟩ := hcs
      exact ⟨zs, .inr ⟨_, rfl, hl, hm, by simpa using hz, hcell, hwz⟩⟩
  obtain ⟨l3, _, R3⟩ := row_ints w3
  clear hA0 hval0 hsz0
  have hreal : RepL W (fun _ => False) [] _ _ := (.cons R0 (.cons R1 (.cons R2 (.cons R3 .nil))))
  refine (law_calls (c7 rounds) tt7_ok (.cons ok12 (.cons ok13 (.cons ok15 (.cons ok23.lent (.cons ok24.lent (.cons ok25.lent .nil)))))) follows rfl Try.func7 (law7 a0 a1 l2 l3 ⟨_, _, _, hreal⟩) hreal).mono fun e W' ⟨he, bel⟩ => ?_
  subst he
  exact ⟨_, rfl, _, _, _, [], _, [], hW', trodAll_mk1 (shut_bool Try.underlying4 _), (trodAll_cons_mk (shut_int Try.underlying50 w0) (trodAll_cons_mk (shut_int Try.underlying3 w1) (trodAll_cons_mk (Below.trod laidOut (by kernel_rfl) (of_decide_eq_true (by kernel_rfl)) k2 bel lt2) (trodAll_cons_mk (Below.trod laidOut (by kernel_rfl) (of_decide_eq_true (by kernel_rfl)) k3 bel lt3) trodAll_mk0)))), rfl, bel.frame _, fun h => by cases h⟩
theorem over : Rows.inputSplitsRow.holds Try.pinned (OpenSpec.ofChange Rows.inputSplitsSpec) :=
  OpenClaim.holds_of_wide 7 Try.f7 rfl rfl rfl rfl rfl rfl rfl ⟨rfl, rfl, rfl, rfl, rfl⟩ rfl rfl rfl rfl rfl (by kernel_rfl) Try.func7 (by kernel_rfl)
    (of_decide_eq_true (by kernel_rfl)) (by unfold Func.isWrapper; first | (rw [if_pos (by decide +kernel)]; kernel_rfl) | (rw [if_neg (by decide +kernel)]; exact ⟨rfl, rfl⟩))
    (fun os started H enc _ => lifted os started H enc)
theorem proved : Rows.InputSplitsSaid := over
end Go.Proofs.Ytdkihlkcnnlkcaa.inputSplits
namespace Go.Proofs.Ytdkihlkcnnlkcaa
/-- The row, under a short name, for the claim. -/
theorem inputSplits_holds : Rows.InputSplitsSaid := inputSplits.proved
#print axioms inputSplits_holds
end Go.Proofs.Ytdkihlkcnnlkcaa
