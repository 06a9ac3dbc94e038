/- A part of the proof: plain laws, and what functions of the given program come to; no condition. -/
import Derived.Test.YthejefgpanceoaaGo
namespace Go.Proofs.YthejefgpanceoaaG
open Go Go.Proofs.YthejefgpanceoaaGm
set_option maxRecDepth 100000

theorem cond_out {α : Type} {b : Bool} {x : Option α} {y : α} (h : (bif b then x else none) = some y) : b = true ∧ x = some y := by
  cases b with
  | true => exact ⟨rfl, h⟩
  | false => cases h

def tt41 : Tab := [(0, ty0), (1, ty1), (2, ty2), (3, ty3), (4, ty4), (5, ty5), (9, ty9), (26, ty26), (29, ty29)]
theorem tt41_ok : TabOk Try.prog tt41 := tabOk_of_all ⟨ty0_ok, ty1_ok, ty2_ok, ty3_ok, ty4_ok, ty5_ok, ty9_ok, ty26_ok, ty29_ok, trivial⟩
def c41 (F : Nat) : Cfg := ⟨tt41, [(43, .pure go43), (44, .pure go44), (67, .pure go67)], F, [], [], 0⟩
theorem f41_eq (F : Nat) (a0 : Int) (a1_0 : Int) (a1_1 : Int) (a1_2 : List UInt8) (a2_0 : Int) (a2_1 : Int) (a2_2 : List UInt8) : afun (c41 F) Try.f41 [AV.int IntKind.i64 a0, AV.agg [AV.int IntKind.u8 a1_0, AV.int IntKind.i64 a1_1, AV.str a1_2], AV.agg [AV.int IntKind.u8 a2_0, AV.int IntKind.i64 a2_1, AV.str a2_2]] [] =
  bif eqI a0 0 then
    .ret (AV.tup [AV.agg [AV.int IntKind.u8 0, AV.int IntKind.i64 (IntKind.i64.wrap (a1_1 + a2_1)), AV.str []], AV.int IntKind.i64 0]) [AObj.var 26 [AV.int IntKind.u8 a1_0, AV.int IntKind.i64 a1_1, AV.str a1_2], AObj.var 26 [AV.int IntKind.u8 a2_0, AV.int IntKind.i64 a2_1, AV.str a2_2], AObj.var 26 [AV.int IntKind.u8 0, AV.int IntKind.i64 (IntKind.i64.wrap (a1_1 + a2_1)), AV.str []]]
  else
    bif eqI a0 3 then
      .ret (AV.tup [AV.agg [AV.int IntKind.u8 0, AV.int IntKind.i64 (IntKind.i64.wrap (a1_1 + a2_1)), AV.str []], AV.int IntKind.i64 0]) [AObj.var 26 [AV.int IntKind.u8 a1_0, AV.int IntKind.i64 a1_1, AV.str a1_2], AObj.var 26 [AV.int IntKind.u8 a2_0, AV.int IntKind.i64 a2_1, AV.str a2_2], AObj.var 26 [AV.int IntKind.u8 0, AV.int IntKind.i64 (IntKind.i64.wrap (a1_1 + a2_1)), AV.str []]]
    else
      bif eqI a0 1 then
        bif ltI (vOrd a2_0 a2_1 a2_2 a1_0 a1_1 a1_2) 0 then
          .ret (AV.tup [AV.agg [AV.int IntKind.u8 a2_0, AV.int IntKind.i64 a2_1, AV.str a2_2], AV.int IntKind.i64 0]) [AObj.var 26 [AV.int IntKind.u8 a1_0, AV.int IntKind.i64 a1_1, AV.str a1_2], AObj.var 26 [AV.int IntKind.u8 a2_0, AV.int IntKind.i64 a2_1, AV.str a2_2], AObj.var 26 [AV.int IntKind.u8 a2_0, AV.int IntKind.i64 a2_1, AV.str a2_2]]
        else
          .ret (AV.tup [AV.agg [AV.int IntKind.u8 a1_0, AV.int IntKind.i64 a1_1, AV.str a1_2], AV.int IntKind.i64 0]) [AObj.var 26 [AV.int IntKind.u8 a1_0, AV.int IntKind.i64 a1_1, AV.str a1_2], AObj.var 26 [AV.int IntKind.u8 a2_0, AV.int IntKind.i64 a2_1, AV.str a2_2], AObj.var 26 [AV.int IntKind.u8 a1_0, AV.int IntKind.i64 a1_1, AV.str a1_2]]
      else
        bif eqI a0 2 then
          bif ltI 0 (vOrd a2_0 a2_1 a2_2 a1_0 a1_1 a1_2) then
            .ret (AV.tup [AV.agg [AV.int IntKind.u8 a2_0, AV.int IntKind.i64 a2_1, AV.str a2_2], AV.int IntKind.i64 0]) [AObj.var 26 [AV.int IntKind.u8 a1_0, AV.int IntKind.i64 a1_1, AV.str a1_2], AObj.var 26 [AV.int IntKind.u8 a2_0, AV.int IntKind.i64 a2_1, AV.str a2_2], AObj.var 26 [AV.int IntKind.u8 a2_0, AV.int IntKind.i64 a2_1, AV.str a2_2]]
          else
            .ret (AV.tup [AV.agg [AV.int IntKind.u8 a1_0, AV.int IntKind.i64 a1_1, AV.str a1_2], AV.int IntKind.i64 0]) [AObj.var 26 [AV.int IntKind.u8 a1_0, AV.int IntKind.i64 a1_1, AV.str a1_2], AObj.var 26 [AV.int IntKind.u8 a2_0, AV.int IntKind.i64 a2_1, AV.str a2_2], AObj.var 26 [AV.int IntKind.u8 a1_0, AV.int IntKind.i64 a1_1, AV.str a1_2]]
        else
          bif eqI a0 4 then
            bif ltI 65536 (IntKind.i64.wrap (↑a1_2.length + ↑a2_2.length)) then
              .ret (AV.tup [AV.agg [AV.int IntKind.u8 0, AV.int IntKind.i64 0, AV.str []], AV.int IntKind.i64 5]) [AObj.var 26 [AV.int IntKind.u8 a1_0, AV.int IntKind.i64 a1_1, AV.str a1_2], AObj.var 26 [AV.int IntKind.u8 a2_0, AV.int IntKind.i64 a2_1, AV.str a2_2], AObj.var 26 [AV.int IntKind.u8 0, AV.int IntKind.i64 0, AV.str []]]
            else
              bif (a1_2.length + a2_2.length).ble maxLen then
                .ret (AV.tup [AV.agg [AV.int IntKind.u8 1, AV.int IntKind.i64 0, AV.str (a1_2 ++ a2_2)], AV.int IntKind.i64 0]) [AObj.var 26 [AV.int IntKind.u8 a1_0, AV.int IntKind.i64 a1_1, AV.str a1_2], AObj.var 26 [AV.int IntKind.u8 a2_0, AV.int IntKind.i64 a2_1, AV.str a2_2], AObj.var 26 [AV.int IntKind.u8 1, AV.int IntKind.i64 0, AV.str (a1_2 ++ a2_2)]]
              else
                .stuck
          else
            bif eqI a0 6 then
              .ret (AV.tup [AV.agg [AV.int IntKind.u8 a2_0, AV.int IntKind.i64 a2_1, AV.str a2_2], AV.int IntKind.i64 0]) [AObj.var 26 [AV.int IntKind.u8 a1_0, AV.int IntKind.i64 a1_1, AV.str a1_2], AObj.var 26 [AV.int IntKind.u8 a2_0, AV.int IntKind.i64 a2_1, AV.str a2_2], AObj.var 26 [AV.int IntKind.u8 a2_0, AV.int IntKind.i64 a2_1, AV.str a2_2]]
            else
              .ret (AV.tup [AV.agg [AV.int IntKind.u8 a1_0, AV.int IntKind.i64 a1_1, AV.str a1_2], AV.int IntKind.i64 0]) [AObj.var 26 [AV.int IntKind.u8 a1_0, AV.int IntKind.i64 a1_1, AV.str a1_2], AObj.var 26 [AV.int IntKind.u8 a2_0, AV.int IntKind.i64 a2_1, AV.str a2_2], AObj.var 26 [AV.int IntKind.u8 a1_0, AV.int IntKind.i64 a1_1, AV.str a1_2]] := by kernel_rfl


theorem ok41 : PureOk Try.prog 41 go41 := by
  refine pureOk_of (c41 rounds) tt41_ok (.cons ok43 (.cons ok44 (.cons ok67 .nil))) follows rfl Try.func41 (by kernel_rfl) (by kernel_rfl) ?_ ?_
  · intro R stk args k; unfold go41; split
    · rename_i f p n s q m t; cases Nat.ble s.length roomB <;> cases Nat.ble t.length roomB <;> rfl
    · rfl
  · intro args r objs h hr
    unfold go41 at h
    split at h
    · rename_i f p n s q m t
      obtain ⟨hs, h⟩ := cond_out h
      obtain ⟨ht, h⟩ := cond_out h
      cases h
      rw [ble_iff] at hs ht
      refine ⟨_, ?_, .same⟩
      unfold apure
      unfold roomB at hs ht
      have e : IntKind.i64.wrap ((s.length : Int) + t.length) = s.length + t.length := wrap64 (by omega) (by omega)
      rw [f41_eq, e]
      simp only [bif_eqI, bif_ltI]
      unfold accP vO
      dsimp only
      by_cases k0 : f = 0
      · simp only [k0, if_true, true_or]; rfl
      by_cases k3 : f = 3
      · simp only [k3, if_true, or_true]; rfl
      by_cases k1 : f = 1
      · subst k1
        by_cases g : vOrd q m t p n s < 0 <;> simp only [g] <;> rfl
      by_cases k2 : f = 2
      · subst k2
        by_cases g : 0 < vOrd q m t p n s <;> simp only [g] <;> rfl
      by_cases k4 : f = 4
      · subst k4
        by_cases g : (65536 : Int) < s.length + t.length
        · have g2 : 65536 < s.length + t.length := by omega
          simp only [g, g2]; rfl
        · have g2 : ¬ 65536 < s.length + t.length := by omega
          have g3 : Nat.ble (s.length + t.length) maxLen = true := ble_iff.2 (by unfold maxLen; omega)
          simp only [g, g2, g3]; rfl
      by_cases k6 : f = 6 <;> simp only [k0, k3, k1, k2, k4, k6, if_true, if_false, or_false] <;> rfl
    · cases h

def tt17 : Tab := [(0, ty0), (1, ty1), (3, ty3), (4, ty4), (5, ty5), (9, ty9), (26, ty26), (28, ty28), (29, ty29), (68, ty68)]
theorem tt17_ok : TabOk Try.prog tt17 := tabOk_of_all ⟨ty0_ok, ty1_ok, ty3_ok, ty4_ok, ty5_ok, ty9_ok, ty26_ok, ty28_ok, ty29_ok, ty68_ok, trivial⟩
def c17 (F : Nat) : Cfg := ⟨tt17, [(41, .pure go41)], F, [], [], 0⟩
theorem f17_eq (F : Nat) (a0 : Int) (a1_0_0 : Int) (a1_0_1 : Int) (a1_0_2 : List UInt8) (a1_1 : Int) (a2_0_0 : Int) (a2_0_1 : Int) (a2_0_2 : List UInt8) (a2_1 : Int) : afun (c17 F) Try.f17 [AV.int IntKind.i64 a0, AV.agg [AV.int IntKind.u8 a1_0_0, AV.int IntKind.i64 a1_0_1, AV.str a1_0_2, AV.int IntKind.i64 a1_1], AV.agg [AV.int IntKind.u8 a2_0_0, AV.int IntKind.i64 a2_0_1, AV.str a2_0_2, AV.int IntKind.i64 a2_1]] [] =
  bif ltI a1_1 1 then
    .ret (AV.tup [AV.agg [AV.int IntKind.u8 a2_0_0, AV.int IntKind.i64 a2_0_1, AV.str a2_0_2, AV.int IntKind.i64 a2_1], AV.int IntKind.i64 0]) [AObj.var 28 [AV.int IntKind.u8 a1_0_0, AV.int IntKind.i64 a1_0_1, AV.str a1_0_2, AV.int IntKind.i64 a1_1], AObj.var 28 [AV.int IntKind.u8 a2_0_0, AV.int IntKind.i64 a2_0_1, AV.str a2_0_2, AV.int IntKind.i64 a2_1], AObj.var 28 [AV.int IntKind.u8 a2_0_0, AV.int IntKind.i64 a2_0_1, AV.str a2_0_2, AV.int IntKind.i64 a2_1]]
  else
    bif ltI a2_1 1 then
      .ret (AV.tup [AV.agg [AV.int IntKind.u8 a1_0_0, AV.int IntKind.i64 a1_0_1, AV.str a1_0_2, AV.int IntKind.i64 a1_1], AV.int IntKind.i64 0]) [AObj.var 28 [AV.int IntKind.u8 a1_0_0, AV.int IntKind.i64 a1_0_1, AV.str a1_0_2, AV.int IntKind.i64 a1_1], AObj.var 28 [AV.int IntKind.u8 a2_0_0, AV.int IntKind.i64 a2_0_1, AV.str a2_0_2, AV.int IntKind.i64 a2_1], AObj.var 28 [AV.int IntKind.u8 a1_0_0, AV.int IntKind.i64 a1_0_1, AV.str a1_0_2, AV.int IntKind.i64 a1_1]]
    else
      bif a1_0_2.length.ble roomB then
        bif a2_0_2.length.ble roomB then
          bif !eqI (accP a0 (a1_0_0, a1_0_1, a1_0_2) (a2_0_0, a2_0_1, a2_0_2)).snd 0 then
            .ret (AV.tup [AV.agg [AV.int IntKind.u8 0, AV.int IntKind.i64 0, AV.str [], AV.int IntKind.i64 0], AV.int IntKind.i64 (accP a0 (a1_0_0, a1_0_1, a1_0_2) (a2_0_0, a2_0_1, a2_0_2)).snd]) [AObj.var 28 [AV.int IntKind.u8 a1_0_0, AV.int IntKind.i64 a1_0_1, AV.str a1_0_2, AV.int IntKind.i64 a1_1], AObj.var 28 [AV.int IntKind.u8 a2_0_0, AV.int IntKind.i64 a2_0_1, AV.str a2_0_2, AV.int IntKind.i64 a2_1], AObj.var 28 [AV.int IntKind.u8 0, AV.int IntKind.i64 0, AV.str [], AV.int IntKind.i64 0], AObj.var 26 [AV.int IntKind.u8 (accP a0 (a1_0_0, a1_0_1, a1_0_2) (a2_0_0, a2_0_1, a2_0_2)).fst.fst, AV.int IntKind.i64 (accP a0 (a1_0_0, a1_0_1, a1_0_2) (a2_0_0, a2_0_1, a2_0_2)).fst.snd.fst, AV.str (accP a0 (a1_0_0, a1_0_1, a1_0_2) (a2_0_0, a2_0_1, a2_0_2)).fst.snd.snd]]
          else
            .ret (AV.tup [AV.agg [AV.int IntKind.u8 (accP a0 (a1_0_0, a1_0_1, a1_0_2) (a2_0_0, a2_0_1, a2_0_2)).fst.fst, AV.int IntKind.i64 (accP a0 (a1_0_0, a1_0_1, a1_0_2) (a2_0_0, a2_0_1, a2_0_2)).fst.snd.fst, AV.str (accP a0 (a1_0_0, a1_0_1, a1_0_2) (a2_0_0, a2_0_1, a2_0_2)).fst.snd.snd, AV.int IntKind.i64 (IntKind.i64.wrap (a1_1 + a2_1))], AV.int IntKind.i64 0]) [AObj.var 28 [AV.int IntKind.u8 a1_0_0, AV.int IntKind.i64 a1_0_1, AV.str a1_0_2, AV.int IntKind.i64 a1_1], AObj.var 28 [AV.int IntKind.u8 a2_0_0, AV.int IntKind.i64 a2_0_1, AV.str a2_0_2, AV.int IntKind.i64 a2_1], AObj.var 28 [AV.int IntKind.u8 (accP a0 (a1_0_0, a1_0_1, a1_0_2) (a2_0_0, a2_0_1, a2_0_2)).fst.fst, AV.int IntKind.i64 (accP a0 (a1_0_0, a1_0_1, a1_0_2) (a2_0_0, a2_0_1, a2_0_2)).fst.snd.fst, AV.str (accP a0 (a1_0_0, a1_0_1, a1_0_2) (a2_0_0, a2_0_1, a2_0_2)).fst.snd.snd, AV.int IntKind.i64 (IntKind.i64.wrap (a1_1 + a2_1))], AObj.var 26 [AV.int IntKind.u8 (accP a0 (a1_0_0, a1_0_1, a1_0_2) (a2_0_0, a2_0_1, a2_0_2)).fst.fst, AV.int IntKind.i64 (accP a0 (a1_0_0, a1_0_1, a1_0_2) (a2_0_0, a2_0_1, a2_0_2)).fst.snd.fst, AV.str (accP a0 (a1_0_0, a1_0_1, a1_0_2) (a2_0_0, a2_0_1, a2_0_2)).fst.snd.snd]]
        else
          .stuck
      else
        .stuck := by kernel_rfl


def tt18 : Tab := [(0, ty0), (1, ty1), (2, ty2), (3, ty3), (4, ty4), (5, ty5), (9, ty9), (26, ty26), (28, ty28)]
theorem tt18_ok : TabOk Try.prog tt18 := tabOk_of_all ⟨ty0_ok, ty1_ok, ty2_ok, ty3_ok, ty4_ok, ty5_ok, ty9_ok, ty26_ok, ty28_ok, trivial⟩
def c18 (F : Nat) : Cfg := ⟨tt18, [(42, .pure go67)], F, [], [], 0⟩
theorem f18_eq (F : Nat) (a0 : Int) (a1_0_0 : Int) (a1_0_1 : Int) (a1_0_2 : List UInt8) (a1_1 : Int) (a2_0_0 : Int) (a2_0_1 : Int) (a2_0_2 : List UInt8) (a2_1 : Int) : afun (c18 F) Try.f18 [AV.int IntKind.i64 a0, AV.agg [AV.int IntKind.u8 a1_0_0, AV.int IntKind.i64 a1_0_1, AV.str a1_0_2, AV.int IntKind.i64 a1_1], AV.agg [AV.int IntKind.u8 a2_0_0, AV.int IntKind.i64 a2_0_1, AV.str a2_0_2, AV.int IntKind.i64 a2_1]] [] =
  bif ltI a1_1 1 then
    .ret (AV.tup [AV.agg [AV.int IntKind.u8 a2_0_0, AV.int IntKind.i64 a2_0_1, AV.str a2_0_2, AV.int IntKind.i64 a2_1], AV.int IntKind.i64 0]) [AObj.var 28 [AV.int IntKind.u8 a1_0_0, AV.int IntKind.i64 a1_0_1, AV.str a1_0_2, AV.int IntKind.i64 a1_1], AObj.var 28 [AV.int IntKind.u8 a2_0_0, AV.int IntKind.i64 a2_0_1, AV.str a2_0_2, AV.int IntKind.i64 a2_1], AObj.var 28 [AV.int IntKind.u8 a2_0_0, AV.int IntKind.i64 a2_0_1, AV.str a2_0_2, AV.int IntKind.i64 a2_1]]
  else
    bif ltI a2_1 1 then
      .ret (AV.tup [AV.agg [AV.int IntKind.u8 a1_0_0, AV.int IntKind.i64 a1_0_1, AV.str a1_0_2, AV.int IntKind.i64 a1_1], AV.int IntKind.i64 0]) [AObj.var 28 [AV.int IntKind.u8 a1_0_0, AV.int IntKind.i64 a1_0_1, AV.str a1_0_2, AV.int IntKind.i64 a1_1], AObj.var 28 [AV.int IntKind.u8 a2_0_0, AV.int IntKind.i64 a2_0_1, AV.str a2_0_2, AV.int IntKind.i64 a2_1], AObj.var 28 [AV.int IntKind.u8 a1_0_0, AV.int IntKind.i64 a1_0_1, AV.str a1_0_2, AV.int IntKind.i64 a1_1]]
    else
      bif eqI a0 0 then
        bif eqI a0 1 then
          bif ltI (vOrd a2_0_0 a2_0_1 a2_0_2 a1_0_0 a1_0_1 a1_0_2) 0 then
            bif eqI a0 4 then
              bif ltI 65536 (IntKind.i64.wrap (↑a1_0_2.length + ↑a2_0_2.length)) then
                .ret (AV.tup [AV.agg [AV.int IntKind.u8 0, AV.int IntKind.i64 0, AV.str [], AV.int IntKind.i64 0], AV.int IntKind.i64 5]) [AObj.var 28 [AV.int IntKind.u8 a1_0_0, AV.int IntKind.i64 a1_0_1, AV.str a1_0_2, AV.int IntKind.i64 a1_1], AObj.var 28 [AV.int IntKind.u8 a2_0_0, AV.int IntKind.i64 a2_0_1, AV.str a2_0_2, AV.int IntKind.i64 a2_1], AObj.var 28 [AV.int IntKind.u8 0, AV.int IntKind.i64 0, AV.str [], AV.int IntKind.i64 0], AObj.var 26 [AV.int IntKind.u8 a2_0_0, AV.int IntKind.i64 a2_0_1, AV.str a2_0_2]]
              else
                bif (a1_0_2.length + a2_0_2.length).ble maxLen then
                  .ret (AV.tup [AV.agg [AV.int IntKind.u8 1, AV.int IntKind.i64 0, AV.str (a1_0_2 ++ a2_0_2), AV.int IntKind.i64 (IntKind.i64.wrap (a1_1 + a2_1))], AV.int IntKind.i64 0]) [AObj.var 28 [AV.int IntKind.u8 a1_0_0, AV.int IntKind.i64 a1_0_1, AV.str a1_0_2, AV.int IntKind.i64 a1_1], AObj.var 28 [AV.int IntKind.u8 a2_0_0, AV.int IntKind.i64 a2_0_1, AV.str a2_0_2, AV.int IntKind.i64 a2_1], AObj.var 28 [AV.int IntKind.u8 1, AV.int IntKind.i64 0, AV.str (a1_0_2 ++ a2_0_2), AV.int IntKind.i64 (IntKind.i64.wrap (a1_1 + a2_1))], AObj.var 26 [AV.int IntKind.u8 1, AV.int IntKind.i64 0, AV.str (a1_0_2 ++ a2_0_2)]]
                else
                  .stuck
            else
              .ret (AV.tup [AV.agg [AV.int IntKind.u8 a2_0_0, AV.int IntKind.i64 a2_0_1, AV.str a2_0_2, AV.int IntKind.i64 (IntKind.i64.wrap (a1_1 + a2_1))], AV.int IntKind.i64 0]) [AObj.var 28 [AV.int IntKind.u8 a1_0_0, AV.int IntKind.i64 a1_0_1, AV.str a1_0_2, AV.int IntKind.i64 a1_1], AObj.var 28 [AV.int IntKind.u8 a2_0_0, AV.int IntKind.i64 a2_0_1, AV.str a2_0_2, AV.int IntKind.i64 a2_1], AObj.var 28 [AV.int IntKind.u8 a2_0_0, AV.int IntKind.i64 a2_0_1, AV.str a2_0_2, AV.int IntKind.i64 (IntKind.i64.wrap (a1_1 + a2_1))], AObj.var 26 [AV.int IntKind.u8 a2_0_0, AV.int IntKind.i64 a2_0_1, AV.str a2_0_2]]
          else
            bif eqI a0 2 then
              bif ltI 0 (vOrd a2_0_0 a2_0_1 a2_0_2 a1_0_0 a1_0_1 a1_0_2) then
                bif eqI a0 4 then
                  bif ltI 65536 (IntKind.i64.wrap (↑a1_0_2.length + ↑a2_0_2.length)) then
                    .ret (AV.tup [AV.agg [AV.int IntKind.u8 0, AV.int IntKind.i64 0, AV.str [], AV.int IntKind.i64 0], AV.int IntKind.i64 5]) [AObj.var 28 [AV.int IntKind.u8 a1_0_0, AV.int IntKind.i64 a1_0_1, AV.str a1_0_2, AV.int IntKind.i64 a1_1], AObj.var 28 [AV.int IntKind.u8 a2_0_0, AV.int IntKind.i64 a2_0_1, AV.str a2_0_2, AV.int IntKind.i64 a2_1], AObj.var 28 [AV.int IntKind.u8 0, AV.int IntKind.i64 0, AV.str [], AV.int IntKind.i64 0], AObj.var 26 [AV.int IntKind.u8 a2_0_0, AV.int IntKind.i64 a2_0_1, AV.str a2_0_2]]
                  else
                    bif (a1_0_2.length + a2_0_2.length).ble maxLen then
                      .ret (AV.tup [AV.agg [AV.int IntKind.u8 1, AV.int IntKind.i64 0, AV.str (a1_0_2 ++ a2_0_2), AV.int IntKind.i64 (IntKind.i64.wrap (a1_1 + a2_1))], AV.int IntKind.i64 0]) [AObj.var 28 [AV.int IntKind.u8 a1_0_0, AV.int IntKind.i64 a1_0_1, AV.str a1_0_2, AV.int IntKind.i64 a1_1], AObj.var 28 [AV.int IntKind.u8 a2_0_0, AV.int IntKind.i64 a2_0_1, AV.str a2_0_2, AV.int IntKind.i64 a2_1], AObj.var 28 [AV.int IntKind.u8 1, AV.int IntKind.i64 0, AV.str (a1_0_2 ++ a2_0_2), AV.int IntKind.i64 (IntKind.i64.wrap (a1_1 + a2_1))], AObj.var 26 [AV.int IntKind.u8 1, AV.int IntKind.i64 0, AV.str (a1_0_2 ++ a2_0_2)]]
                    else
                      .stuck
                else
                  .ret (AV.tup [AV.agg [AV.int IntKind.u8 a2_0_0, AV.int IntKind.i64 a2_0_1, AV.str a2_0_2, AV.int IntKind.i64 (IntKind.i64.wrap (a1_1 + a2_1))], AV.int IntKind.i64 0]) [AObj.var 28 [AV.int IntKind.u8 a1_0_0, AV.int IntKind.i64 a1_0_1, AV.str a1_0_2, AV.int IntKind.i64 a1_1], AObj.var 28 [AV.int IntKind.u8 a2_0_0, AV.int IntKind.i64 a2_0_1, AV.str a2_0_2, AV.int IntKind.i64 a2_1], AObj.var 28 [AV.int IntKind.u8 a2_0_0, AV.int IntKind.i64 a2_0_1, AV.str a2_0_2, AV.int IntKind.i64 (IntKind.i64.wrap (a1_1 + a2_1))], AObj.var 26 [AV.int IntKind.u8 a2_0_0, AV.int IntKind.i64 a2_0_1, AV.str a2_0_2]]
              else
                bif eqI a0 6 then
                  bif eqI a0 4 then
                    bif ltI 65536 (IntKind.i64.wrap (↑a1_0_2.length + ↑a2_0_2.length)) then
                      .ret (AV.tup [AV.agg [AV.int IntKind.u8 0, AV.int IntKind.i64 0, AV.str [], AV.int IntKind.i64 0], AV.int IntKind.i64 5]) [AObj.var 28 [AV.int IntKind.u8 a1_0_0, AV.int IntKind.i64 a1_0_1, AV.str a1_0_2, AV.int IntKind.i64 a1_1], AObj.var 28 [AV.int IntKind.u8 a2_0_0, AV.int IntKind.i64 a2_0_1, AV.str a2_0_2, AV.int IntKind.i64 a2_1], AObj.var 28 [AV.int IntKind.u8 0, AV.int IntKind.i64 0, AV.str [], AV.int IntKind.i64 0], AObj.var 26 [AV.int IntKind.u8 a2_0_0, AV.int IntKind.i64 a2_0_1, AV.str a2_0_2]]
                    else
                      bif (a1_0_2.length + a2_0_2.length).ble maxLen then
                        .ret (AV.tup [AV.agg [AV.int IntKind.u8 1, AV.int IntKind.i64 0, AV.str (a1_0_2 ++ a2_0_2), AV.int IntKind.i64 (IntKind.i64.wrap (a1_1 + a2_1))], AV.int IntKind.i64 0]) [AObj.var 28 [AV.int IntKind.u8 a1_0_0, AV.int IntKind.i64 a1_0_1, AV.str a1_0_2, AV.int IntKind.i64 a1_1], AObj.var 28 [AV.int IntKind.u8 a2_0_0, AV.int IntKind.i64 a2_0_1, AV.str a2_0_2, AV.int IntKind.i64 a2_1], AObj.var 28 [AV.int IntKind.u8 1, AV.int IntKind.i64 0, AV.str (a1_0_2 ++ a2_0_2), AV.int IntKind.i64 (IntKind.i64.wrap (a1_1 + a2_1))], AObj.var 26 [AV.int IntKind.u8 1, AV.int IntKind.i64 0, AV.str (a1_0_2 ++ a2_0_2)]]
                      else
                        .stuck
                  else
                    .ret (AV.tup [AV.agg [AV.int IntKind.u8 a2_0_0, AV.int IntKind.i64 a2_0_1, AV.str a2_0_2, AV.int IntKind.i64 (IntKind.i64.wrap (a1_1 + a2_1))], AV.int IntKind.i64 0]) [AObj.var 28 [AV.int IntKind.u8 a1_0_0, AV.int IntKind.i64 a1_0_1, AV.str a1_0_2, AV.int IntKind.i64 a1_1], AObj.var 28 [AV.int IntKind.u8 a2_0_0, AV.int IntKind.i64 a2_0_1, AV.str a2_0_2, AV.int IntKind.i64 a2_1], AObj.var 28 [AV.int IntKind.u8 a2_0_0, AV.int IntKind.i64 a2_0_1, AV.str a2_0_2, AV.int IntKind.i64 (IntKind.i64.wrap (a1_1 + a2_1))], AObj.var 26 [AV.int IntKind.u8 a2_0_0, AV.int IntKind.i64 a2_0_1, AV.str a2_0_2]]
                else
                  bif eqI a0 4 then
                    bif ltI 65536 (IntKind.i64.wrap (↑a1_0_2.length + ↑a2_0_2.length)) then
                      .ret (AV.tup [AV.agg [AV.int IntKind.u8 0, AV.int IntKind.i64 0, AV.str [], AV.int IntKind.i64 0], AV.int IntKind.i64 5]) [AObj.var 28 [AV.int IntKind.u8 a1_0_0, AV.int IntKind.i64 a1_0_1, AV.str a1_0_2, AV.int IntKind.i64 a1_1], AObj.var 28 [AV.int IntKind.u8 a2_0_0, AV.int IntKind.i64 a2_0_1, AV.str a2_0_2, AV.int IntKind.i64 a2_1], AObj.var 28 [AV.int IntKind.u8 0, AV.int IntKind.i64 0, AV.str [], AV.int IntKind.i64 0], AObj.var 26 [AV.int IntKind.u8 0, AV.int IntKind.i64 (IntKind.i64.wrap (a1_0_1 + a2_0_1)), AV.str []]]
                    else
                      bif (a1_0_2.length + a2_0_2.length).ble maxLen then
                        .ret (AV.tup [AV.agg [AV.int IntKind.u8 1, AV.int IntKind.i64 0, AV.str (a1_0_2 ++ a2_0_2), AV.int IntKind.i64 (IntKind.i64.wrap (a1_1 + a2_1))], AV.int IntKind.i64 0]) [AObj.var 28 [AV.int IntKind.u8 a1_0_0, AV.int IntKind.i64 a1_0_1, AV.str a1_0_2, AV.int IntKind.i64 a1_1], AObj.var 28 [AV.int IntKind.u8 a2_0_0, AV.int IntKind.i64 a2_0_1, AV.str a2_0_2, AV.int IntKind.i64 a2_1], AObj.var 28 [AV.int IntKind.u8 1, AV.int IntKind.i64 0, AV.str (a1_0_2 ++ a2_0_2), AV.int IntKind.i64 (IntKind.i64.wrap (a1_1 + a2_1))], AObj.var 26 [AV.int IntKind.u8 1, AV.int IntKind.i64 0, AV.str (a1_0_2 ++ a2_0_2)]]
                      else
                        .stuck
                  else
                    .ret (AV.tup [AV.agg [AV.int IntKind.u8 0, AV.int IntKind.i64 (IntKind.i64.wrap (a1_0_1 + a2_0_1)), AV.str [], AV.int IntKind.i64 (IntKind.i64.wrap (a1_1 + a2_1))], AV.int IntKind.i64 0]) [AObj.var 28 [AV.int IntKind.u8 a1_0_0, AV.int IntKind.i64 a1_0_1, AV.str a1_0_2, AV.int IntKind.i64 a1_1], AObj.var 28 [AV.int IntKind.u8 a2_0_0, AV.int IntKind.i64 a2_0_1, AV.str a2_0_2, AV.int IntKind.i64 a2_1], AObj.var 28 [AV.int IntKind.u8 0, AV.int IntKind.i64 (IntKind.i64.wrap (a1_0_1 + a2_0_1)), AV.str [], AV.int IntKind.i64 (IntKind.i64.wrap (a1_1 + a2_1))], AObj.var 26 [AV.int IntKind.u8 0, AV.int IntKind.i64 (IntKind.i64.wrap (a1_0_1 + a2_0_1)), AV.str []]]
            else
              bif eqI a0 6 then
                bif eqI a0 4 then
                  bif ltI 65536 (IntKind.i64.wrap (↑a1_0_2.length + ↑a2_0_2.length)) then
                    .ret (AV.tup [AV.agg [AV.int IntKind.u8 0, AV.int IntKind.i64 0, AV.str [], AV.int IntKind.i64 0], AV.int IntKind.i64 5]) [AObj.var 28 [AV.int IntKind.u8 a1_0_0, AV.int IntKind.i64 a1_0_1, AV.str a1_0_2, AV.int IntKind.i64 a1_1], AObj.var 28 [AV.int IntKind.u8 a2_0_0, AV.int IntKind.i64 a2_0_1, AV.str a2_0_2, AV.int IntKind.i64 a2_1], AObj.var 28 [AV.int IntKind.u8 0, AV.int IntKind.i64 0, AV.str [], AV.int IntKind.i64 0], AObj.var 26 [AV.int IntKind.u8 a2_0_0, AV.int IntKind.i64 a2_0_1, AV.str a2_0_2]]
                  else
                    bif (a1_0_2.length + a2_0_2.length).ble maxLen then
                      .ret (AV.tup [AV.agg [AV.int IntKind.u8 1, AV.int IntKind.i64 0, AV.str (a1_0_2 ++ a2_0_2), AV.int IntKind.i64 (IntKind.i64.wrap (a1_1 + a2_1))], AV.int IntKind.i64 0]) [AObj.var 28 [AV.int IntKind.u8 a1_0_0, AV.int IntKind.i64 a1_0_1, AV.str a1_0_2, AV.int IntKind.i64 a1_1], AObj.var 28 [AV.int IntKind.u8 a2_0_0, AV.int IntKind.i64 a2_0_1, AV.str a2_0_2, AV.int IntKind.i64 a2_1], AObj.var 28 [AV.int IntKind.u8 1, AV.int IntKind.i64 0, AV.str (a1_0_2 ++ a2_0_2), AV.int IntKind.i64 (IntKind.i64.wrap (a1_1 + a2_1))], AObj.var 26 [AV.int IntKind.u8 1, AV.int IntKind.i64 0, AV.str (a1_0_2 ++ a2_0_2)]]
                    else
                      .stuck
                else
                  .ret (AV.tup [AV.agg [AV.int IntKind.u8 a2_0_0, AV.int IntKind.i64 a2_0_1, AV.str a2_0_2, AV.int IntKind.i64 (IntKind.i64.wrap (a1_1 + a2_1))], AV.int IntKind.i64 0]) [AObj.var 28 [AV.int IntKind.u8 a1_0_0, AV.int IntKind.i64 a1_0_1, AV.str a1_0_2, AV.int IntKind.i64 a1_1], AObj.var 28 [AV.int IntKind.u8 a2_0_0, AV.int IntKind.i64 a2_0_1, AV.str a2_0_2, AV.int IntKind.i64 a2_1], AObj.var 28 [AV.int IntKind.u8 a2_0_0, AV.int IntKind.i64 a2_0_1, AV.str a2_0_2, AV.int IntKind.i64 (IntKind.i64.wrap (a1_1 + a2_1))], AObj.var 26 [AV.int IntKind.u8 a2_0_0, AV.int IntKind.i64 a2_0_1, AV.str a2_0_2]]
              else
                bif eqI a0 4 then
                  bif ltI 65536 (IntKind.i64.wrap (↑a1_0_2.length + ↑a2_0_2.length)) then
                    .ret (AV.tup [AV.agg [AV.int IntKind.u8 0, AV.int IntKind.i64 0, AV.str [], AV.int IntKind.i64 0], AV.int IntKind.i64 5]) [AObj.var 28 [AV.int IntKind.u8 a1_0_0, AV.int IntKind.i64 a1_0_1, AV.str a1_0_2, AV.int IntKind.i64 a1_1], AObj.var 28 [AV.int IntKind.u8 a2_0_0, AV.int IntKind.i64 a2_0_1, AV.str a2_0_2, AV.int IntKind.i64 a2_1], AObj.var 28 [AV.int IntKind.u8 0, AV.int IntKind.i64 0, AV.str [], AV.int IntKind.i64 0], AObj.var 26 [AV.int IntKind.u8 0, AV.int IntKind.i64 (IntKind.i64.wrap (a1_0_1 + a2_0_1)), AV.str []]]
                  else
                    bif (a1_0_2.length + a2_0_2.length).ble maxLen then
                      .ret (AV.tup [AV.agg [AV.int IntKind.u8 1, AV.int IntKind.i64 0, AV.str (a1_0_2 ++ a2_0_2), AV.int IntKind.i64 (IntKind.i64.wrap (a1_1 + a2_1))], AV.int IntKind.i64 0]) [AObj.var 28 [AV.int IntKind.u8 a1_0_0, AV.int IntKind.i64 a1_0_1, AV.str a1_0_2, AV.int IntKind.i64 a1_1], AObj.var 28 [AV.int IntKind.u8 a2_0_0, AV.int IntKind.i64 a2_0_1, AV.str a2_0_2, AV.int IntKind.i64 a2_1], AObj.var 28 [AV.int IntKind.u8 1, AV.int IntKind.i64 0, AV.str (a1_0_2 ++ a2_0_2), AV.int IntKind.i64 (IntKind.i64.wrap (a1_1 + a2_1))], AObj.var 26 [AV.int IntKind.u8 1, AV.int IntKind.i64 0, AV.str (a1_0_2 ++ a2_0_2)]]
                    else
                      .stuck
                else
                  .ret (AV.tup [AV.agg [AV.int IntKind.u8 0, AV.int IntKind.i64 (IntKind.i64.wrap (a1_0_1 + a2_0_1)), AV.str [], AV.int IntKind.i64 (IntKind.i64.wrap (a1_1 + a2_1))], AV.int IntKind.i64 0]) [AObj.var 28 [AV.int IntKind.u8 a1_0_0, AV.int IntKind.i64 a1_0_1, AV.str a1_0_2, AV.int IntKind.i64 a1_1], AObj.var 28 [AV.int IntKind.u8 a2_0_0, AV.int IntKind.i64 a2_0_1, AV.str a2_0_2, AV.int IntKind.i64 a2_1], AObj.var 28 [AV.int IntKind.u8 0, AV.int IntKind.i64 (IntKind.i64.wrap (a1_0_1 + a2_0_1)), AV.str [], AV.int IntKind.i64 (IntKind.i64.wrap (a1_1 + a2_1))], AObj.var 26 [AV.int IntKind.u8 0, AV.int IntKind.i64 (IntKind.i64.wrap (a1_0_1 + a2_0_1)), AV.str []]]
        else
          bif eqI a0 2 then
            bif ltI 0 (vOrd a2_0_0 a2_0_1 a2_0_2 a1_0_0 a1_0_1 a1_0_2) then
              bif eqI a0 4 then
                bif ltI 65536 (IntKind.i64.wrap (↑a1_0_2.length + ↑a2_0_2.length)) then
                  .ret (AV.tup [AV.agg [AV.int IntKind.u8 0, AV.int IntKind.i64 0, AV.str [], AV.int IntKind.i64 0], AV.int IntKind.i64 5]) [AObj.var 28 [AV.int IntKind.u8 a1_0_0, AV.int IntKind.i64 a1_0_1, AV.str a1_0_2, AV.int IntKind.i64 a1_1], AObj.var 28 [AV.int IntKind.u8 a2_0_0, AV.int IntKind.i64 a2_0_1, AV.str a2_0_2, AV.int IntKind.i64 a2_1], AObj.var 28 [AV.int IntKind.u8 0, AV.int IntKind.i64 0, AV.str [], AV.int IntKind.i64 0], AObj.var 26 [AV.int IntKind.u8 a2_0_0, AV.int IntKind.i64 a2_0_1, AV.str a2_0_2]]
                else
                  bif (a1_0_2.length + a2_0_2.length).ble maxLen then
                    .ret (AV.tup [AV.agg [AV.int IntKind.u8 1, AV.int IntKind.i64 0, AV.str (a1_0_2 ++ a2_0_2), AV.int IntKind.i64 (IntKind.i64.wrap (a1_1 + a2_1))], AV.int IntKind.i64 0]) [AObj.var 28 [AV.int IntKind.u8 a1_0_0, AV.int IntKind.i64 a1_0_1, AV.str a1_0_2, AV.int IntKind.i64 a1_1], AObj.var 28 [AV.int IntKind.u8 a2_0_0, AV.int IntKind.i64 a2_0_1, AV.str a2_0_2, AV.int IntKind.i64 a2_1], AObj.var 28 [AV.int IntKind.u8 1, AV.int IntKind.i64 0, AV.str (a1_0_2 ++ a2_0_2), AV.int IntKind.i64 (IntKind.i64.wrap (a1_1 + a2_1))], AObj.var 26 [AV.int IntKind.u8 1, AV.int IntKind.i64 0, AV.str (a1_0_2 ++ a2_0_2)]]
                  else
                    .stuck
              else
                .ret (AV.tup [AV.agg [AV.int IntKind.u8 a2_0_0, AV.int IntKind.i64 a2_0_1, AV.str a2_0_2, AV.int IntKind.i64 (IntKind.i64.wrap (a1_1 + a2_1))], AV.int IntKind.i64 0]) [AObj.var 28 [AV.int IntKind.u8 a1_0_0, AV.int IntKind.i64 a1_0_1, AV.str a1_0_2, AV.int IntKind.i64 a1_1], AObj.var 28 [AV.int IntKind.u8 a2_0_0, AV.int IntKind.i64 a2_0_1, AV.str a2_0_2, AV.int IntKind.i64 a2_1], AObj.var 28 [AV.int IntKind.u8 a2_0_0, AV.int IntKind.i64 a2_0_1, AV.str a2_0_2, AV.int IntKind.i64 (IntKind.i64.wrap (a1_1 + a2_1))], AObj.var 26 [AV.int IntKind.u8 a2_0_0, AV.int IntKind.i64 a2_0_1, AV.str a2_0_2]]
            else
              bif eqI a0 6 then
                bif eqI a0 4 then
                  bif ltI 65536 (IntKind.i64.wrap (↑a1_0_2.length + ↑a2_0_2.length)) then
                    .ret (AV.tup [AV.agg [AV.int IntKind.u8 0, AV.int IntKind.i64 0, AV.str [], AV.int IntKind.i64 0], AV.int IntKind.i64 5]) [AObj.var 28 [AV.int IntKind.u8 a1_0_0, AV.int IntKind.i64 a1_0_1, AV.str a1_0_2, AV.int IntKind.i64 a1_1], AObj.var 28 [AV.int IntKind.u8 a2_0_0, AV.int IntKind.i64 a2_0_1, AV.str a2_0_2, AV.int IntKind.i64 a2_1], AObj.var 28 [AV.int IntKind.u8 0, AV.int IntKind.i64 0, AV.str [], AV.int IntKind.i64 0], AObj.var 26 [AV.int IntKind.u8 a2_0_0, AV.int IntKind.i64 a2_0_1, AV.str a2_0_2]]
                  else
                    bif (a1_0_2.length + a2_0_2.length).ble maxLen then
                      .ret (AV.tup [AV.agg [AV.int IntKind.u8 1, AV.int IntKind.i64 0, AV.str (a1_0_2 ++ a2_0_2), AV.int IntKind.i64 (IntKind.i64.wrap (a1_1 + a2_1))], AV.int IntKind.i64 0]) [AObj.var 28 [AV.int IntKind.u8 a1_0_0, AV.int IntKind.i64 a1_0_1, AV.str a1_0_2, AV.int IntKind.i64 a1_1], AObj.var 28 [AV.int IntKind.u8 a2_0_0, AV.int IntKind.i64 a2_0_1, AV.str a2_0_2, AV.int IntKind.i64 a2_1], AObj.var 28 [AV.int IntKind.u8 1, AV.int IntKind.i64 0, AV.str (a1_0_2 ++ a2_0_2), AV.int IntKind.i64 (IntKind.i64.wrap (a1_1 + a2_1))], AObj.var 26 [AV.int IntKind.u8 1, AV.int IntKind.i64 0, AV.str (a1_0_2 ++ a2_0_2)]]
                    else
                      .stuck
                else
                  .ret (AV.tup [AV.agg [AV.int IntKind.u8 a2_0_0, AV.int IntKind.i64 a2_0_1, AV.str a2_0_2, AV.int IntKind.i64 (IntKind.i64.wrap (a1_1 + a2_1))], AV.int IntKind.i64 0]) [AObj.var 28 [AV.int IntKind.u8 a1_0_0, AV.int IntKind.i64 a1_0_1, AV.str a1_0_2, AV.int IntKind.i64 a1_1], AObj.var 28 [AV.int IntKind.u8 a2_0_0, AV.int IntKind.i64 a2_0_1, AV.str a2_0_2, AV.int IntKind.i64 a2_1], AObj.var 28 [AV.int IntKind.u8 a2_0_0, AV.int IntKind.i64 a2_0_1, AV.str a2_0_2, AV.int IntKind.i64 (IntKind.i64.wrap (a1_1 + a2_1))], AObj.var 26 [AV.int IntKind.u8 a2_0_0, AV.int IntKind.i64 a2_0_1, AV.str a2_0_2]]
              else
                bif eqI a0 4 then
                  bif ltI 65536 (IntKind.i64.wrap (↑a1_0_2.length + ↑a2_0_2.length)) then
                    .ret (AV.tup [AV.agg [AV.int IntKind.u8 0, AV.int IntKind.i64 0, AV.str [], AV.int IntKind.i64 0], AV.int IntKind.i64 5]) [AObj.var 28 [AV.int IntKind.u8 a1_0_0, AV.int IntKind.i64 a1_0_1, AV.str a1_0_2, AV.int IntKind.i64 a1_1], AObj.var 28 [AV.int IntKind.u8 a2_0_0, AV.int IntKind.i64 a2_0_1, AV.str a2_0_2, AV.int IntKind.i64 a2_1], AObj.var 28 [AV.int IntKind.u8 0, AV.int IntKind.i64 0, AV.str [], AV.int IntKind.i64 0], AObj.var 26 [AV.int IntKind.u8 0, AV.int IntKind.i64 (IntKind.i64.wrap (a1_0_1 + a2_0_1)), AV.str []]]
                  else
                    bif (a1_0_2.length + a2_0_2.length).ble maxLen then
                      .ret (AV.tup [AV.agg [AV.int IntKind.u8 1, AV.int IntKind.i64 0, AV.str (a1_0_2 ++ a2_0_2), AV.int IntKind.i64 (IntKind.i64.wrap (a1_1 + a2_1))], AV.int IntKind.i64 0]) [AObj.var 28 [AV.int IntKind.u8 a1_0_0, AV.int IntKind.i64 a1_0_1, AV.str a1_0_2, AV.int IntKind.i64 a1_1], AObj.var 28 [AV.int IntKind.u8 a2_0_0, AV.int IntKind.i64 a2_0_1, AV.str a2_0_2, AV.int IntKind.i64 a2_1], AObj.var 28 [AV.int IntKind.u8 1, AV.int IntKind.i64 0, AV.str (a1_0_2 ++ a2_0_2), AV.int IntKind.i64 (IntKind.i64.wrap (a1_1 + a2_1))], AObj.var 26 [AV.int IntKind.u8 1, AV.int IntKind.i64 0, AV.str (a1_0_2 ++ a2_0_2)]]
                    else
                      .stuck
                else
                  .ret (AV.tup [AV.agg [AV.int IntKind.u8 0, AV.int IntKind.i64 (IntKind.i64.wrap (a1_0_1 + a2_0_1)), AV.str [], AV.int IntKind.i64 (IntKind.i64.wrap (a1_1 + a2_1))], AV.int IntKind.i64 0]) [AObj.var 28 [AV.int IntKind.u8 a1_0_0, AV.int IntKind.i64 a1_0_1, AV.str a1_0_2, AV.int IntKind.i64 a1_1], AObj.var 28 [AV.int IntKind.u8 a2_0_0, AV.int IntKind.i64 a2_0_1, AV.str a2_0_2, AV.int IntKind.i64 a2_1], AObj.var 28 [AV.int IntKind.u8 0, AV.int IntKind.i64 (IntKind.i64.wrap (a1_0_1 + a2_0_1)), AV.str [], AV.int IntKind.i64 (IntKind.i64.wrap (a1_1 + a2_1))], AObj.var 26 [AV.int IntKind.u8 0, AV.int IntKind.i64 (IntKind.i64.wrap (a1_0_1 + a2_0_1)), AV.str []]]
          else
            bif eqI a0 6 then
              bif eqI a0 4 then
                bif ltI 65536 (IntKind.i64.wrap (↑a1_0_2.length + ↑a2_0_2.length)) then
                  .ret (AV.tup [AV.agg [AV.int IntKind.u8 0, AV.int IntKind.i64 0, AV.str [], AV.int IntKind.i64 0], AV.int IntKind.i64 5]) [AObj.var 28 [AV.int IntKind.u8 a1_0_0, AV.int IntKind.i64 a1_0_1, AV.str a1_0_2, AV.int IntKind.i64 a1_1], AObj.var 28 [AV.int IntKind.u8 a2_0_0, AV.int IntKind.i64 a2_0_1, AV.str a2_0_2, AV.int IntKind.i64 a2_1], AObj.var 28 [AV.int IntKind.u8 0, AV.int IntKind.i64 0, AV.str [], AV.int IntKind.i64 0], AObj.var 26 [AV.int IntKind.u8 a2_0_0, AV.int IntKind.i64 a2_0_1, AV.str a2_0_2]]
                else
                  bif (a1_0_2.length + a2_0_2.length).ble maxLen then
                    .ret (AV.tup [AV.agg [AV.int IntKind.u8 1, AV.int IntKind.i64 0, AV.str (a1_0_2 ++ a2_0_2), AV.int IntKind.i64 (IntKind.i64.wrap (a1_1 + a2_1))], AV.int IntKind.i64 0]) [AObj.var 28 [AV.int IntKind.u8 a1_0_0, AV.int IntKind.i64 a1_0_1, AV.str a1_0_2, AV.int IntKind.i64 a1_1], AObj.var 28 [AV.int IntKind.u8 a2_0_0, AV.int IntKind.i64 a2_0_1, AV.str a2_0_2, AV.int IntKind.i64 a2_1], AObj.var 28 [AV.int IntKind.u8 1, AV.int IntKind.i64 0, AV.str (a1_0_2 ++ a2_0_2), AV.int IntKind.i64 (IntKind.i64.wrap (a1_1 + a2_1))], AObj.var 26 [AV.int IntKind.u8 1, AV.int IntKind.i64 0, AV.str (a1_0_2 ++ a2_0_2)]]
                  else
                    .stuck
              else
                .ret (AV.tup [AV.agg [AV.int IntKind.u8 a2_0_0, AV.int IntKind.i64 a2_0_1, AV.str a2_0_2, AV.int IntKind.i64 (IntKind.i64.wrap (a1_1 + a2_1))], AV.int IntKind.i64 0]) [AObj.var 28 [AV.int IntKind.u8 a1_0_0, AV.int IntKind.i64 a1_0_1, AV.str a1_0_2, AV.int IntKind.i64 a1_1], AObj.var 28 [AV.int IntKind.u8 a2_0_0, AV.int IntKind.i64 a2_0_1, AV.str a2_0_2, AV.int IntKind.i64 a2_1], AObj.var 28 [AV.int IntKind.u8 a2_0_0, AV.int IntKind.i64 a2_0_1, AV.str a2_0_2, AV.int IntKind.i64 (IntKind.i64.wrap (a1_1 + a2_1))], AObj.var 26 [AV.int IntKind.u8 a2_0_0, AV.int IntKind.i64 a2_0_1, AV.str a2_0_2]]
            else
              bif eqI a0 4 then
                bif ltI 65536 (IntKind.i64.wrap (↑a1_0_2.length + ↑a2_0_2.length)) then
                  .ret (AV.tup [AV.agg [AV.int IntKind.u8 0, AV.int IntKind.i64 0, AV.str [], AV.int IntKind.i64 0], AV.int IntKind.i64 5]) [AObj.var 28 [AV.int IntKind.u8 a1_0_0, AV.int IntKind.i64 a1_0_1, AV.str a1_0_2, AV.int IntKind.i64 a1_1], AObj.var 28 [AV.int IntKind.u8 a2_0_0, AV.int IntKind.i64 a2_0_1, AV.str a2_0_2, AV.int IntKind.i64 a2_1], AObj.var 28 [AV.int IntKind.u8 0, AV.int IntKind.i64 0, AV.str [], AV.int IntKind.i64 0], AObj.var 26 [AV.int IntKind.u8 0, AV.int IntKind.i64 (IntKind.i64.wrap (a1_0_1 + a2_0_1)), AV.str []]]
                else
                  bif (a1_0_2.length + a2_0_2.length).ble maxLen then
                    .ret (AV.tup [AV.agg [AV.int IntKind.u8 1, AV.int IntKind.i64 0, AV.str (a1_0_2 ++ a2_0_2), AV.int IntKind.i64 (IntKind.i64.wrap (a1_1 + a2_1))], AV.int IntKind.i64 0]) [AObj.var 28 [AV.int IntKind.u8 a1_0_0, AV.int IntKind.i64 a1_0_1, AV.str a1_0_2, AV.int IntKind.i64 a1_1], AObj.var 28 [AV.int IntKind.u8 a2_0_0, AV.int IntKind.i64 a2_0_1, AV.str a2_0_2, AV.int IntKind.i64 a2_1], AObj.var 28 [AV.int IntKind.u8 1, AV.int IntKind.i64 0, AV.str (a1_0_2 ++ a2_0_2), AV.int IntKind.i64 (IntKind.i64.wrap (a1_1 + a2_1))], AObj.var 26 [AV.int IntKind.u8 1, AV.int IntKind.i64 0, AV.str (a1_0_2 ++ a2_0_2)]]
                  else
                    .stuck
              else
                .ret (AV.tup [AV.agg [AV.int IntKind.u8 0, AV.int IntKind.i64 (IntKind.i64.wrap (a1_0_1 + a2_0_1)), AV.str [], AV.int IntKind.i64 (IntKind.i64.wrap (a1_1 + a2_1))], AV.int IntKind.i64 0]) [AObj.var 28 [AV.int IntKind.u8 a1_0_0, AV.int IntKind.i64 a1_0_1, AV.str a1_0_2, AV.int IntKind.i64 a1_1], AObj.var 28 [AV.int IntKind.u8 a2_0_0, AV.int IntKind.i64 a2_0_1, AV.str a2_0_2, AV.int IntKind.i64 a2_1], AObj.var 28 [AV.int IntKind.u8 0, AV.int IntKind.i64 (IntKind.i64.wrap (a1_0_1 + a2_0_1)), AV.str [], AV.int IntKind.i64 (IntKind.i64.wrap (a1_1 + a2_1))], AObj.var 26 [AV.int IntKind.u8 0, AV.int IntKind.i64 (IntKind.i64.wrap (a1_0_1 + a2_0_1)), AV.str []]]
      else
        bif eqI a0 3 then
          bif eqI a0 1 then
            bif ltI (vOrd a2_0_0 a2_0_1 a2_0_2 a1_0_0 a1_0_1 a1_0_2) 0 then
              bif eqI a0 4 then
                bif ltI 65536 (IntKind.i64.wrap (↑a1_0_2.length + ↑a2_0_2.length)) then
                  .ret (AV.tup [AV.agg [AV.int IntKind.u8 0, AV.int IntKind.i64 0, AV.str [], AV.int IntKind.i64 0], AV.int IntKind.i64 5]) [AObj.var 28 [AV.int IntKind.u8 a1_0_0, AV.int IntKind.i64 a1_0_1, AV.str a1_0_2, AV.int IntKind.i64 a1_1], AObj.var 28 [AV.int IntKind.u8 a2_0_0, AV.int IntKind.i64 a2_0_1, AV.str a2_0_2, AV.int IntKind.i64 a2_1], AObj.var 28 [AV.int IntKind.u8 0, AV.int IntKind.i64 0, AV.str [], AV.int IntKind.i64 0], AObj.var 26 [AV.int IntKind.u8 a2_0_0, AV.int IntKind.i64 a2_0_1, AV.str a2_0_2]]
                else
                  bif (a1_0_2.length + a2_0_2.length).ble maxLen then
                    .ret (AV.tup [AV.agg [AV.int IntKind.u8 1, AV.int IntKind.i64 0, AV.str (a1_0_2 ++ a2_0_2), AV.int IntKind.i64 (IntKind.i64.wrap (a1_1 + a2_1))], AV.int IntKind.i64 0]) [AObj.var 28 [AV.int IntKind.u8 a1_0_0, AV.int IntKind.i64 a1_0_1, AV.str a1_0_2, AV.int IntKind.i64 a1_1], AObj.var 28 [AV.int IntKind.u8 a2_0_0, AV.int IntKind.i64 a2_0_1, AV.str a2_0_2, AV.int IntKind.i64 a2_1], AObj.var 28 [AV.int IntKind.u8 1, AV.int IntKind.i64 0, AV.str (a1_0_2 ++ a2_0_2), AV.int IntKind.i64 (IntKind.i64.wrap (a1_1 + a2_1))], AObj.var 26 [AV.int IntKind.u8 1, AV.int IntKind.i64 0, AV.str (a1_0_2 ++ a2_0_2)]]
                  else
                    .stuck
              else
                .ret (AV.tup [AV.agg [AV.int IntKind.u8 a2_0_0, AV.int IntKind.i64 a2_0_1, AV.str a2_0_2, AV.int IntKind.i64 (IntKind.i64.wrap (a1_1 + a2_1))], AV.int IntKind.i64 0]) [AObj.var 28 [AV.int IntKind.u8 a1_0_0, AV.int IntKind.i64 a1_0_1, AV.str a1_0_2, AV.int IntKind.i64 a1_1], AObj.var 28 [AV.int IntKind.u8 a2_0_0, AV.int IntKind.i64 a2_0_1, AV.str a2_0_2, AV.int IntKind.i64 a2_1], AObj.var 28 [AV.int IntKind.u8 a2_0_0, AV.int IntKind.i64 a2_0_1, AV.str a2_0_2, AV.int IntKind.i64 (IntKind.i64.wrap (a1_1 + a2_1))], AObj.var 26 [AV.int IntKind.u8 a2_0_0, AV.int IntKind.i64 a2_0_1, AV.str a2_0_2]]
            else
              bif eqI a0 2 then
                bif ltI 0 (vOrd a2_0_0 a2_0_1 a2_0_2 a1_0_0 a1_0_1 a1_0_2) then
                  bif eqI a0 4 then
                    bif ltI 65536 (IntKind.i64.wrap (↑a1_0_2.length + ↑a2_0_2.length)) then
                      .ret (AV.tup [AV.agg [AV.int IntKind.u8 0, AV.int IntKind.i64 0, AV.str [], AV.int IntKind.i64 0], AV.int IntKind.i64 5]) [AObj.var 28 [AV.int IntKind.u8 a1_0_0, AV.int IntKind.i64 a1_0_1, AV.str a1_0_2, AV.int IntKind.i64 a1_1], AObj.var 28 [AV.int IntKind.u8 a2_0_0, AV.int IntKind.i64 a2_0_1, AV.str a2_0_2, AV.int IntKind.i64 a2_1], AObj.var 28 [AV.int IntKind.u8 0, AV.int IntKind.i64 0, AV.str [], AV.int IntKind.i64 0], AObj.var 26 [AV.int IntKind.u8 a2_0_0, AV.int IntKind.i64 a2_0_1, AV.str a2_0_2]]
                    else
                      bif (a1_0_2.length + a2_0_2.length).ble maxLen then
                        .ret (AV.tup [AV.agg [AV.int IntKind.u8 1, AV.int IntKind.i64 0, AV.str (a1_0_2 ++ a2_0_2), AV.int IntKind.i64 (IntKind.i64.wrap (a1_1 + a2_1))], AV.int IntKind.i64 0]) [AObj.var 28 [AV.int IntKind.u8 a1_0_0, AV.int IntKind.i64 a1_0_1, AV.str a1_0_2, AV.int IntKind.i64 a1_1], AObj.var 28 [AV.int IntKind.u8 a2_0_0, AV.int IntKind.i64 a2_0_1, AV.str a2_0_2, AV.int IntKind.i64 a2_1], AObj.var 28 [AV.int IntKind.u8 1, AV.int IntKind.i64 0, AV.str (a1_0_2 ++ a2_0_2), AV.int IntKind.i64 (IntKind.i64.wrap (a1_1 + a2_1))], AObj.var 26 [AV.int IntKind.u8 1, AV.int IntKind.i64 0, AV.str (a1_0_2 ++ a2_0_2)]]
                      else
                        .stuck
                  else
                    .ret (AV.tup [AV.agg [AV.int IntKind.u8 a2_0_0, AV.int IntKind.i64 a2_0_1, AV.str a2_0_2, AV.int IntKind.i64 (IntKind.i64.wrap (a1_1 + a2_1))], AV.int IntKind.i64 0]) [AObj.var 28 [AV.int IntKind.u8 a1_0_0, AV.int IntKind.i64 a1_0_1, AV.str a1_0_2, AV.int IntKind.i64 a1_1], AObj.var 28 [AV.int IntKind.u8 a2_0_0, AV.int IntKind.i64 a2_0_1, AV.str a2_0_2, AV.int IntKind.i64 a2_1], AObj.var 28 [AV.int IntKind.u8 a2_0_0, AV.int IntKind.i64 a2_0_1, AV.str a2_0_2, AV.int IntKind.i64 (IntKind.i64.wrap (a1_1 + a2_1))], AObj.var 26 [AV.int IntKind.u8 a2_0_0, AV.int IntKind.i64 a2_0_1, AV.str a2_0_2]]
                else
                  bif eqI a0 6 then
                    bif eqI a0 4 then
                      bif ltI 65536 (IntKind.i64.wrap (↑a1_0_2.length + ↑a2_0_2.length)) then
                        .ret (AV.tup [AV.agg [AV.int IntKind.u8 0, AV.int IntKind.i64 0, AV.str [], AV.int IntKind.i64 0], AV.int IntKind.i64 5]) [AObj.var 28 [AV.int IntKind.u8 a1_0_0, AV.int IntKind.i64 a1_0_1, AV.str a1_0_2, AV.int IntKind.i64 a1_1], AObj.var 28 [AV.int IntKind.u8 a2_0_0, AV.int IntKind.i64 a2_0_1, AV.str a2_0_2, AV.int IntKind.i64 a2_1], AObj.var 28 [AV.int IntKind.u8 0, AV.int IntKind.i64 0, AV.str [], AV.int IntKind.i64 0], AObj.var 26 [AV.int IntKind.u8 a2_0_0, AV.int IntKind.i64 a2_0_1, AV.str a2_0_2]]
                      else
                        bif (a1_0_2.length + a2_0_2.length).ble maxLen then
                          .ret (AV.tup [AV.agg [AV.int IntKind.u8 1, AV.int IntKind.i64 0, AV.str (a1_0_2 ++ a2_0_2), AV.int IntKind.i64 (IntKind.i64.wrap (a1_1 + a2_1))], AV.int IntKind.i64 0]) [AObj.var 28 [AV.int IntKind.u8 a1_0_0, AV.int IntKind.i64 a1_0_1, AV.str a1_0_2, AV.int IntKind.i64 a1_1], AObj.var 28 [AV.int IntKind.u8 a2_0_0, AV.int IntKind.i64 a2_0_1, AV.str a2_0_2, AV.int IntKind.i64 a2_1], AObj.var 28 [AV.int IntKind.u8 1, AV.int IntKind.i64 0, AV.str (a1_0_2 ++ a2_0_2), AV.int IntKind.i64 (IntKind.i64.wrap (a1_1 + a2_1))], AObj.var 26 [AV.int IntKind.u8 1, AV.int IntKind.i64 0, AV.str (a1_0_2 ++ a2_0_2)]]
                        else
                          .stuck
                    else
                      .ret (AV.tup [AV.agg [AV.int IntKind.u8 a2_0_0, AV.int IntKind.i64 a2_0_1, AV.str a2_0_2, AV.int IntKind.i64 (IntKind.i64.wrap (a1_1 + a2_1))], AV.int IntKind.i64 0]) [AObj.var 28 [AV.int IntKind.u8 a1_0_0, AV.int IntKind.i64 a1_0_1, AV.str a1_0_2, AV.int IntKind.i64 a1_1], AObj.var 28 [AV.int IntKind.u8 a2_0_0, AV.int IntKind.i64 a2_0_1, AV.str a2_0_2, AV.int IntKind.i64 a2_1], AObj.var 28 [AV.int IntKind.u8 a2_0_0, AV.int IntKind.i64 a2_0_1, AV.str a2_0_2, AV.int IntKind.i64 (IntKind.i64.wrap (a1_1 + a2_1))], AObj.var 26 [AV.int IntKind.u8 a2_0_0, AV.int IntKind.i64 a2_0_1, AV.str a2_0_2]]
                  else
                    bif eqI a0 4 then
                      bif ltI 65536 (IntKind.i64.wrap (↑a1_0_2.length + ↑a2_0_2.length)) then
                        .ret (AV.tup [AV.agg [AV.int IntKind.u8 0, AV.int IntKind.i64 0, AV.str [], AV.int IntKind.i64 0], AV.int IntKind.i64 5]) [AObj.var 28 [AV.int IntKind.u8 a1_0_0, AV.int IntKind.i64 a1_0_1, AV.str a1_0_2, AV.int IntKind.i64 a1_1], AObj.var 28 [AV.int IntKind.u8 a2_0_0, AV.int IntKind.i64 a2_0_1, AV.str a2_0_2, AV.int IntKind.i64 a2_1], AObj.var 28 [AV.int IntKind.u8 0, AV.int IntKind.i64 0, AV.str [], AV.int IntKind.i64 0], AObj.var 26 [AV.int IntKind.u8 0, AV.int IntKind.i64 (IntKind.i64.wrap (a1_0_1 + a2_0_1)), AV.str []]]
                      else
                        bif (a1_0_2.length + a2_0_2.length).ble maxLen then
                          .ret (AV.tup [AV.agg [AV.int IntKind.u8 1, AV.int IntKind.i64 0, AV.str (a1_0_2 ++ a2_0_2), AV.int IntKind.i64 (IntKind.i64.wrap (a1_1 + a2_1))], AV.int IntKind.i64 0]) [AObj.var 28 [AV.int IntKind.u8 a1_0_0, AV.int IntKind.i64 a1_0_1, AV.str a1_0_2, AV.int IntKind.i64 a1_1], AObj.var 28 [AV.int IntKind.u8 a2_0_0, AV.int IntKind.i64 a2_0_1, AV.str a2_0_2, AV.int IntKind.i64 a2_1], AObj.var 28 [AV.int IntKind.u8 1, AV.int IntKind.i64 0, AV.str (a1_0_2 ++ a2_0_2), AV.int IntKind.i64 (IntKind.i64.wrap (a1_1 + a2_1))], AObj.var 26 [AV.int IntKind.u8 1, AV.int IntKind.i64 0, AV.str (a1_0_2 ++ a2_0_2)]]
                        else
                          .stuck
                    else
                      .ret (AV.tup [AV.agg [AV.int IntKind.u8 0, AV.int IntKind.i64 (IntKind.i64.wrap (a1_0_1 + a2_0_1)), AV.str [], AV.int IntKind.i64 (IntKind.i64.wrap (a1_1 + a2_1))], AV.int IntKind.i64 0]) [AObj.var 28 [AV.int IntKind.u8 a1_0_0, AV.int IntKind.i64 a1_0_1, AV.str a1_0_2, AV.int IntKind.i64 a1_1], AObj.var 28 [AV.int IntKind.u8 a2_0_0, AV.int IntKind.i64 a2_0_1, AV.str a2_0_2, AV.int IntKind.i64 a2_1], AObj.var 28 [AV.int IntKind.u8 0, AV.int IntKind.i64 (IntKind.i64.wrap (a1_0_1 + a2_0_1)), AV.str [], AV.int IntKind.i64 (IntKind.i64.wrap (a1_1 + a2_1))], AObj.var 26 [AV.int IntKind.u8 0, AV.int IntKind.i64 (IntKind.i64.wrap (a1_0_1 + a2_0_1)), AV.str []]]
              else
                bif eqI a0 6 then
                  bif eqI a0 4 then
                    bif ltI 65536 (IntKind.i64.wrap (↑a1_0_2.length + ↑a2_0_2.length)) then
                      .ret (AV.tup [AV.agg [AV.int IntKind.u8 0, AV.int IntKind.i64 0, AV.str [], AV.int IntKind.i64 0], AV.int IntKind.i64 5]) [AObj.var 28 [AV.int IntKind.u8 a1_0_0, AV.int IntKind.i64 a1_0_1, AV.str a1_0_2, AV.int IntKind.i64 a1_1], AObj.var 28 [AV.int IntKind.u8 a2_0_0, AV.int IntKind.i64 a2_0_1, AV.str a2_0_2, AV.int IntKind.i64 a2_1], AObj.var 28 [AV.int IntKind.u8 0, AV.int IntKind.i64 0, AV.str [], AV.int IntKind.i64 0], AObj.var 26 [AV.int IntKind.u8 a2_0_0, AV.int IntKind.i64 a2_0_1, AV.str a2_0_2]]
                    else
                      bif (a1_0_2.length + a2_0_2.length).ble maxLen then
                        .ret (AV.tup [AV.agg [AV.int IntKind.u8 1, AV.int IntKind.i64 0, AV.str (a1_0_2 ++ a2_0_2), AV.int IntKind.i64 (IntKind.i64.wrap (a1_1 + a2_1))], AV.int IntKind.i64 0]) [AObj.var 28 [AV.int IntKind.u8 a1_0_0, AV.int IntKind.i64 a1_0_1, AV.str a1_0_2, AV.int IntKind.i64 a1_1], AObj.var 28 [AV.int IntKind.u8 a2_0_0, AV.int IntKind.i64 a2_0_1, AV.str a2_0_2, AV.int IntKind.i64 a2_1], AObj.var 28 [AV.int IntKind.u8 1, AV.int IntKind.i64 0, AV.str (a1_0_2 ++ a2_0_2), AV.int IntKind.i64 (IntKind.i64.wrap (a1_1 + a2_1))], AObj.var 26 [AV.int IntKind.u8 1, AV.int IntKind.i64 0, AV.str (a1_0_2 ++ a2_0_2)]]
                      else
                        .stuck
                  else
                    .ret (AV.tup [AV.agg [AV.int IntKind.u8 a2_0_0, AV.int IntKind.i64 a2_0_1, AV.str a2_0_2, AV.int IntKind.i64 (IntKind.i64.wrap (a1_1 + a2_1))], AV.int IntKind.i64 0]) [AObj.var 28 [AV.int IntKind.u8 a1_0_0, AV.int IntKind.i64 a1_0_1, AV.str a1_0_2, AV.int IntKind.i64 a1_1], AObj.var 28 [AV.int IntKind.u8 a2_0_0, AV.int IntKind.i64 a2_0_1, AV.str a2_0_2, AV.int IntKind.i64 a2_1], AObj.var 28 [AV.int IntKind.u8 a2_0_0, AV.int IntKind.i64 a2_0_1, AV.str a2_0_2, AV.int IntKind.i64 (IntKind.i64.wrap (a1_1 + a2_1))], AObj.var 26 [AV.int IntKind.u8 a2_0_0, AV.int IntKind.i64 a2_0_1, AV.str a2_0_2]]
                else
                  bif eqI a0 4 then
                    bif ltI 65536 (IntKind.i64.wrap (↑a1_0_2.length + ↑a2_0_2.length)) then
                      .ret (AV.tup [AV.agg [AV.int IntKind.u8 0, AV.int IntKind.i64 0, AV.str [], AV.int IntKind.i64 0], AV.int IntKind.i64 5]) [AObj.var 28 [AV.int IntKind.u8 a1_0_0, AV.int IntKind.i64 a1_0_1, AV.str a1_0_2, AV.int IntKind.i64 a1_1], AObj.var 28 [AV.int IntKind.u8 a2_0_0, AV.int IntKind.i64 a2_0_1, AV.str a2_0_2, AV.int IntKind.i64 a2_1], AObj.var 28 [AV.int IntKind.u8 0, AV.int IntKind.i64 0, AV.str [], AV.int IntKind.i64 0], AObj.var 26 [AV.int IntKind.u8 0, AV.int IntKind.i64 (IntKind.i64.wrap (a1_0_1 + a2_0_1)), AV.str []]]
                    else
                      bif (a1_0_2.length + a2_0_2.length).ble maxLen then
                        .ret (AV.tup [AV.agg [AV.int IntKind.u8 1, AV.int IntKind.i64 0, AV.str (a1_0_2 ++ a2_0_2), AV.int IntKind.i64 (IntKind.i64.wrap (a1_1 + a2_1))], AV.int IntKind.i64 0]) [AObj.var 28 [AV.int IntKind.u8 a1_0_0, AV.int IntKind.i64 a1_0_1, AV.str a1_0_2, AV.int IntKind.i64 a1_1], AObj.var 28 [AV.int IntKind.u8 a2_0_0, AV.int IntKind.i64 a2_0_1, AV.str a2_0_2, AV.int IntKind.i64 a2_1], AObj.var 28 [AV.int IntKind.u8 1, AV.int IntKind.i64 0, AV.str (a1_0_2 ++ a2_0_2), AV.int IntKind.i64 (IntKind.i64.wrap (a1_1 + a2_1))], AObj.var 26 [AV.int IntKind.u8 1, AV.int IntKind.i64 0, AV.str (a1_0_2 ++ a2_0_2)]]
                      else
                        .stuck
                  else
                    .ret (AV.tup [AV.agg [AV.int IntKind.u8 0, AV.int IntKind.i64 (IntKind.i64.wrap (a1_0_1 + a2_0_1)), AV.str [], AV.int IntKind.i64 (IntKind.i64.wrap (a1_1 + a2_1))], AV.int IntKind.i64 0]) [AObj.var 28 [AV.int IntKind.u8 a1_0_0, AV.int IntKind.i64 a1_0_1, AV.str a1_0_2, AV.int IntKind.i64 a1_1], AObj.var 28 [AV.int IntKind.u8 a2_0_0, AV.int IntKind.i64 a2_0_1, AV.str a2_0_2, AV.int IntKind.i64 a2_1], AObj.var 28 [AV.int IntKind.u8 0, AV.int IntKind.i64 (IntKind.i64.wrap (a1_0_1 + a2_0_1)), AV.str [], AV.int IntKind.i64 (IntKind.i64.wrap (a1_1 + a2_1))], AObj.var 26 [AV.int IntKind.u8 0, AV.int IntKind.i64 (IntKind.i64.wrap (a1_0_1 + a2_0_1)), AV.str []]]
          else
            bif eqI a0 2 then
              bif ltI 0 (vOrd a2_0_0 a2_0_1 a2_0_2 a1_0_0 a1_0_1 a1_0_2) then
                bif eqI a0 4 then
                  bif ltI 65536 (IntKind.i64.wrap (↑a1_0_2.length + ↑a2_0_2.length)) then
                    .ret (AV.tup [AV.agg [AV.int IntKind.u8 0, AV.int IntKind.i64 0, AV.str [], AV.int IntKind.i64 0], AV.int IntKind.i64 5]) [AObj.var 28 [AV.int IntKind.u8 a1_0_0, AV.int IntKind.i64 a1_0_1, AV.str a1_0_2, AV.int IntKind.i64 a1_1], AObj.var 28 [AV.int IntKind.u8 a2_0_0, AV.int IntKind.i64 a2_0_1, AV.str a2_0_2, AV.int IntKind.i64 a2_1], AObj.var 28 [AV.int IntKind.u8 0, AV.int IntKind.i64 0, AV.str [], AV.int IntKind.i64 0], AObj.var 26 [AV.int IntKind.u8 a2_0_0, AV.int IntKind.i64 a2_0_1, AV.str a2_0_2]]
                  else
                    bif (a1_0_2.length + a2_0_2.length).ble maxLen then
                      .ret (AV.tup [AV.agg [AV.int IntKind.u8 1, AV.int IntKind.i64 0, AV.str (a1_0_2 ++ a2_0_2), AV.int IntKind.i64 (IntKind.i64.wrap (a1_1 + a2_1))], AV.int IntKind.i64 0]) [AObj.var 28 [AV.int IntKind.u8 a1_0_0, AV.int IntKind.i64 a1_0_1, AV.str a1_0_2, AV.int IntKind.i64 a1_1], AObj.var 28 [AV.int IntKind.u8 a2_0_0, AV.int IntKind.i64 a2_0_1, AV.str a2_0_2, AV.int IntKind.i64 a2_1], AObj.var 28 [AV.int IntKind.u8 1, AV.int IntKind.i64 0, AV.str (a1_0_2 ++ a2_0_2), AV.int IntKind.i64 (IntKind.i64.wrap (a1_1 + a2_1))], AObj.var 26 [AV.int IntKind.u8 1, AV.int IntKind.i64 0, AV.str (a1_0_2 ++ a2_0_2)]]
                    else
                      .stuck
                else
                  .ret (AV.tup [AV.agg [AV.int IntKind.u8 a2_0_0, AV.int IntKind.i64 a2_0_1, AV.str a2_0_2, AV.int IntKind.i64 (IntKind.i64.wrap (a1_1 + a2_1))], AV.int IntKind.i64 0]) [AObj.var 28 [AV.int IntKind.u8 a1_0_0, AV.int IntKind.i64 a1_0_1, AV.str a1_0_2, AV.int IntKind.i64 a1_1], AObj.var 28 [AV.int IntKind.u8 a2_0_0, AV.int IntKind.i64 a2_0_1, AV.str a2_0_2, AV.int IntKind.i64 a2_1], AObj.var 28 [AV.int IntKind.u8 a2_0_0, AV.int IntKind.i64 a2_0_1, AV.str a2_0_2, AV.int IntKind.i64 (IntKind.i64.wrap (a1_1 + a2_1))], AObj.var 26 [AV.int IntKind.u8 a2_0_0, AV.int IntKind.i64 a2_0_1, AV.str a2_0_2]]
              else
                bif eqI a0 6 then
                  bif eqI a0 4 then
                    bif ltI 65536 (IntKind.i64.wrap (↑a1_0_2.length + ↑a2_0_2.length)) then
                      .ret (AV.tup [AV.agg [AV.int IntKind.u8 0, AV.int IntKind.i64 0, AV.str [], AV.int IntKind.i64 0], AV.int IntKind.i64 5]) [AObj.var 28 [AV.int IntKind.u8 a1_0_0, AV.int IntKind.i64 a1_0_1, AV.str a1_0_2, AV.int IntKind.i64 a1_1], AObj.var 28 [AV.int IntKind.u8 a2_0_0, AV.int IntKind.i64 a2_0_1, AV.str a2_0_2, AV.int IntKind.i64 a2_1], AObj.var 28 [AV.int IntKind.u8 0, AV.int IntKind.i64 0, AV.str [], AV.int IntKind.i64 0], AObj.var 26 [AV.int IntKind.u8 a2_0_0, AV.int IntKind.i64 a2_0_1, AV.str a2_0_2]]
                    else
                      bif (a1_0_2.length + a2_0_2.length).ble maxLen then
                        .ret (AV.tup [AV.agg [AV.int IntKind.u8 1, AV.int IntKind.i64 0, AV.str (a1_0_2 ++ a2_0_2), AV.int IntKind.i64 (IntKind.i64.wrap (a1_1 + a2_1))], AV.int IntKind.i64 0]) [AObj.var 28 [AV.int IntKind.u8 a1_0_0, AV.int IntKind.i64 a1_0_1, AV.str a1_0_2, AV.int IntKind.i64 a1_1], AObj.var 28 [AV.int IntKind.u8 a2_0_0, AV.int IntKind.i64 a2_0_1, AV.str a2_0_2, AV.int IntKind.i64 a2_1], AObj.var 28 [AV.int IntKind.u8 1, AV.int IntKind.i64 0, AV.str (a1_0_2 ++ a2_0_2), AV.int IntKind.i64 (IntKind.i64.wrap (a1_1 + a2_1))], AObj.var 26 [AV.int IntKind.u8 1, AV.int IntKind.i64 0, AV.str (a1_0_2 ++ a2_0_2)]]
                      else
                        .stuck
                  else
                    .ret (AV.tup [AV.agg [AV.int IntKind.u8 a2_0_0, AV.int IntKind.i64 a2_0_1, AV.str a2_0_2, AV.int IntKind.i64 (IntKind.i64.wrap (a1_1 + a2_1))], AV.int IntKind.i64 0]) [AObj.var 28 [AV.int IntKind.u8 a1_0_0, AV.int IntKind.i64 a1_0_1, AV.str a1_0_2, AV.int IntKind.i64 a1_1], AObj.var 28 [AV.int IntKind.u8 a2_0_0, AV.int IntKind.i64 a2_0_1, AV.str a2_0_2, AV.int IntKind.i64 a2_1], AObj.var 28 [AV.int IntKind.u8 a2_0_0, AV.int IntKind.i64 a2_0_1, AV.str a2_0_2, AV.int IntKind.i64 (IntKind.i64.wrap (a1_1 + a2_1))], AObj.var 26 [AV.int IntKind.u8 a2_0_0, AV.int IntKind.i64 a2_0_1, AV.str a2_0_2]]
                else
                  bif eqI a0 4 then
                    bif ltI 65536 (IntKind.i64.wrap (↑a1_0_2.length + ↑a2_0_2.length)) then
                      .ret (AV.tup [AV.agg [AV.int IntKind.u8 0, AV.int IntKind.i64 0, AV.str [], AV.int IntKind.i64 0], AV.int IntKind.i64 5]) [AObj.var 28 [AV.int IntKind.u8 a1_0_0, AV.int IntKind.i64 a1_0_1, AV.str a1_0_2, AV.int IntKind.i64 a1_1], AObj.var 28 [AV.int IntKind.u8 a2_0_0, AV.int IntKind.i64 a2_0_1, AV.str a2_0_2, AV.int IntKind.i64 a2_1], AObj.var 28 [AV.int IntKind.u8 0, AV.int IntKind.i64 0, AV.str [], AV.int IntKind.i64 0], AObj.var 26 [AV.int IntKind.u8 0, AV.int IntKind.i64 (IntKind.i64.wrap (a1_0_1 + a2_0_1)), AV.str []]]
                    else
                      bif (a1_0_2.length + a2_0_2.length).ble maxLen then
                        .ret (AV.tup [AV.agg [AV.int IntKind.u8 1, AV.int IntKind.i64 0, AV.str (a1_0_2 ++ a2_0_2), AV.int IntKind.i64 (IntKind.i64.wrap (a1_1 + a2_1))], AV.int IntKind.i64 0]) [AObj.var 28 [AV.int IntKind.u8 a1_0_0, AV.int IntKind.i64 a1_0_1, AV.str a1_0_2, AV.int IntKind.i64 a1_1], AObj.var 28 [AV.int IntKind.u8 a2_0_0, AV.int IntKind.i64 a2_0_1, AV.str a2_0_2, AV.int IntKind.i64 a2_1], AObj.var 28 [AV.int IntKind.u8 1, AV.int IntKind.i64 0, AV.str (a1_0_2 ++ a2_0_2), AV.int IntKind.i64 (IntKind.i64.wrap (a1_1 + a2_1))], AObj.var 26 [AV.int IntKind.u8 1, AV.int IntKind.i64 0, AV.str (a1_0_2 ++ a2_0_2)]]
                      else
                        .stuck
                  else
                    .ret (AV.tup [AV.agg [AV.int IntKind.u8 0, AV.int IntKind.i64 (IntKind.i64.wrap (a1_0_1 + a2_0_1)), AV.str [], AV.int IntKind.i64 (IntKind.i64.wrap (a1_1 + a2_1))], AV.int IntKind.i64 0]) [AObj.var 28 [AV.int IntKind.u8 a1_0_0, AV.int IntKind.i64 a1_0_1, AV.str a1_0_2, AV.int IntKind.i64 a1_1], AObj.var 28 [AV.int IntKind.u8 a2_0_0, AV.int IntKind.i64 a2_0_1, AV.str a2_0_2, AV.int IntKind.i64 a2_1], AObj.var 28 [AV.int IntKind.u8 0, AV.int IntKind.i64 (IntKind.i64.wrap (a1_0_1 + a2_0_1)), AV.str [], AV.int IntKind.i64 (IntKind.i64.wrap (a1_1 + a2_1))], AObj.var 26 [AV.int IntKind.u8 0, AV.int IntKind.i64 (IntKind.i64.wrap (a1_0_1 + a2_0_1)), AV.str []]]
            else
              bif eqI a0 6 then
                bif eqI a0 4 then
                  bif ltI 65536 (IntKind.i64.wrap (↑a1_0_2.length + ↑a2_0_2.length)) then
                    .ret (AV.tup [AV.agg [AV.int IntKind.u8 0, AV.int IntKind.i64 0, AV.str [], AV.int IntKind.i64 0], AV.int IntKind.i64 5]) [AObj.var 28 [AV.int IntKind.u8 a1_0_0, AV.int IntKind.i64 a1_0_1, AV.str a1_0_2, AV.int IntKind.i64 a1_1], AObj.var 28 [AV.int IntKind.u8 a2_0_0, AV.int IntKind.i64 a2_0_1, AV.str a2_0_2, AV.int IntKind.i64 a2_1], AObj.var 28 [AV.int IntKind.u8 0, AV.int IntKind.i64 0, AV.str [], AV.int IntKind.i64 0], AObj.var 26 [AV.int IntKind.u8 a2_0_0, AV.int IntKind.i64 a2_0_1, AV.str a2_0_2]]
                  else
                    bif (a1_0_2.length + a2_0_2.length).ble maxLen then
                      .ret (AV.tup [AV.agg [AV.int IntKind.u8 1, AV.int IntKind.i64 0, AV.str (a1_0_2 ++ a2_0_2), AV.int IntKind.i64 (IntKind.i64.wrap (a1_1 + a2_1))], AV.int IntKind.i64 0]) [AObj.var 28 [AV.int IntKind.u8 a1_0_0, AV.int IntKind.i64 a1_0_1, AV.str a1_0_2, AV.int IntKind.i64 a1_1], AObj.var 28 [AV.int IntKind.u8 a2_0_0, AV.int IntKind.i64 a2_0_1, AV.str a2_0_2, AV.int IntKind.i64 a2_1], AObj.var 28 [AV.int IntKind.u8 1, AV.int IntKind.i64 0, AV.str (a1_0_2 ++ a2_0_2), AV.int IntKind.i64 (IntKind.i64.wrap (a1_1 + a2_1))], AObj.var 26 [AV.int IntKind.u8 1, AV.int IntKind.i64 0, AV.str (a1_0_2 ++ a2_0_2)]]
                    else
                      .stuck
                else
                  .ret (AV.tup [AV.agg [AV.int IntKind.u8 a2_0_0, AV.int IntKind.i64 a2_0_1, AV.str a2_0_2, AV.int IntKind.i64 (IntKind.i64.wrap (a1_1 + a2_1))], AV.int IntKind.i64 0]) [AObj.var 28 [AV.int IntKind.u8 a1_0_0, AV.int IntKind.i64 a1_0_1, AV.str a1_0_2, AV.int IntKind.i64 a1_1], AObj.var 28 [AV.int IntKind.u8 a2_0_0, AV.int IntKind.i64 a2_0_1, AV.str a2_0_2, AV.int IntKind.i64 a2_1], AObj.var 28 [AV.int IntKind.u8 a2_0_0, AV.int IntKind.i64 a2_0_1, AV.str a2_0_2, AV.int IntKind.i64 (IntKind.i64.wrap (a1_1 + a2_1))], AObj.var 26 [AV.int IntKind.u8 a2_0_0, AV.int IntKind.i64 a2_0_1, AV.str a2_0_2]]
              else
                bif eqI a0 4 then
                  bif ltI 65536 (IntKind.i64.wrap (↑a1_0_2.length + ↑a2_0_2.length)) then
                    .ret (AV.tup [AV.agg [AV.int IntKind.u8 0, AV.int IntKind.i64 0, AV.str [], AV.int IntKind.i64 0], AV.int IntKind.i64 5]) [AObj.var 28 [AV.int IntKind.u8 a1_0_0, AV.int IntKind.i64 a1_0_1, AV.str a1_0_2, AV.int IntKind.i64 a1_1], AObj.var 28 [AV.int IntKind.u8 a2_0_0, AV.int IntKind.i64 a2_0_1, AV.str a2_0_2, AV.int IntKind.i64 a2_1], AObj.var 28 [AV.int IntKind.u8 0, AV.int IntKind.i64 0, AV.str [], AV.int IntKind.i64 0], AObj.var 26 [AV.int IntKind.u8 0, AV.int IntKind.i64 (IntKind.i64.wrap (a1_0_1 + a2_0_1)), AV.str []]]
                  else
                    bif (a1_0_2.length + a2_0_2.length).ble maxLen then
                      .ret (AV.tup [AV.agg [AV.int IntKind.u8 1, AV.int IntKind.i64 0, AV.str (a1_0_2 ++ a2_0_2), AV.int IntKind.i64 (IntKind.i64.wrap (a1_1 + a2_1))], AV.int IntKind.i64 0]) [AObj.var 28 [AV.int IntKind.u8 a1_0_0, AV.int IntKind.i64 a1_0_1, AV.str a1_0_2, AV.int IntKind.i64 a1_1], AObj.var 28 [AV.int IntKind.u8 a2_0_0, AV.int IntKind.i64 a2_0_1, AV.str a2_0_2, AV.int IntKind.i64 a2_1], AObj.var 28 [AV.int IntKind.u8 1, AV.int IntKind.i64 0, AV.str (a1_0_2 ++ a2_0_2), AV.int IntKind.i64 (IntKind.i64.wrap (a1_1 + a2_1))], AObj.var 26 [AV.int IntKind.u8 1, AV.int IntKind.i64 0, AV.str (a1_0_2 ++ a2_0_2)]]
                    else
                      .stuck
                else
                  .ret (AV.tup [AV.agg [AV.int IntKind.u8 0, AV.int IntKind.i64 (IntKind.i64.wrap (a1_0_1 + a2_0_1)), AV.str [], AV.int IntKind.i64 (IntKind.i64.wrap (a1_1 + a2_1))], AV.int IntKind.i64 0]) [AObj.var 28 [AV.int IntKind.u8 a1_0_0, AV.int IntKind.i64 a1_0_1, AV.str a1_0_2, AV.int IntKind.i64 a1_1], AObj.var 28 [AV.int IntKind.u8 a2_0_0, AV.int IntKind.i64 a2_0_1, AV.str a2_0_2, AV.int IntKind.i64 a2_1], AObj.var 28 [AV.int IntKind.u8 0, AV.int IntKind.i64 (IntKind.i64.wrap (a1_0_1 + a2_0_1)), AV.str [], AV.int IntKind.i64 (IntKind.i64.wrap (a1_1 + a2_1))], AObj.var 26 [AV.int IntKind.u8 0, AV.int IntKind.i64 (IntKind.i64.wrap (a1_0_1 + a2_0_1)), AV.str []]]
        else
          bif eqI a0 1 then
            bif ltI (vOrd a2_0_0 a2_0_1 a2_0_2 a1_0_0 a1_0_1 a1_0_2) 0 then
              bif eqI a0 4 then
                bif ltI 65536 (IntKind.i64.wrap (↑a1_0_2.length + ↑a2_0_2.length)) then
                  .ret (AV.tup [AV.agg [AV.int IntKind.u8 0, AV.int IntKind.i64 0, AV.str [], AV.int IntKind.i64 0], AV.int IntKind.i64 5]) [AObj.var 28 [AV.int IntKind.u8 a1_0_0, AV.int IntKind.i64 a1_0_1, AV.str a1_0_2, AV.int IntKind.i64 a1_1], AObj.var 28 [AV.int IntKind.u8 a2_0_0, AV.int IntKind.i64 a2_0_1, AV.str a2_0_2, AV.int IntKind.i64 a2_1], AObj.var 28 [AV.int IntKind.u8 0, AV.int IntKind.i64 0, AV.str [], AV.int IntKind.i64 0], AObj.var 26 [AV.int IntKind.u8 a2_0_0, AV.int IntKind.i64 a2_0_1, AV.str a2_0_2]]
                else
                  bif (a1_0_2.length + a2_0_2.length).ble maxLen then
                    .ret (AV.tup [AV.agg [AV.int IntKind.u8 1, AV.int IntKind.i64 0, AV.str (a1_0_2 ++ a2_0_2), AV.int IntKind.i64 (IntKind.i64.wrap (a1_1 + a2_1))], AV.int IntKind.i64 0]) [AObj.var 28 [AV.int IntKind.u8 a1_0_0, AV.int IntKind.i64 a1_0_1, AV.str a1_0_2, AV.int IntKind.i64 a1_1], AObj.var 28 [AV.int IntKind.u8 a2_0_0, AV.int IntKind.i64 a2_0_1, AV.str a2_0_2, AV.int IntKind.i64 a2_1], AObj.var 28 [AV.int IntKind.u8 1, AV.int IntKind.i64 0, AV.str (a1_0_2 ++ a2_0_2), AV.int IntKind.i64 (IntKind.i64.wrap (a1_1 + a2_1))], AObj.var 26 [AV.int IntKind.u8 1, AV.int IntKind.i64 0, AV.str (a1_0_2 ++ a2_0_2)]]
                  else
                    .stuck
              else
                .ret (AV.tup [AV.agg [AV.int IntKind.u8 a2_0_0, AV.int IntKind.i64 a2_0_1, AV.str a2_0_2, AV.int IntKind.i64 (IntKind.i64.wrap (a1_1 + a2_1))], AV.int IntKind.i64 0]) [AObj.var 28 [AV.int IntKind.u8 a1_0_0, AV.int IntKind.i64 a1_0_1, AV.str a1_0_2, AV.int IntKind.i64 a1_1], AObj.var 28 [AV.int IntKind.u8 a2_0_0, AV.int IntKind.i64 a2_0_1, AV.str a2_0_2, AV.int IntKind.i64 a2_1], AObj.var 28 [AV.int IntKind.u8 a2_0_0, AV.int IntKind.i64 a2_0_1, AV.str a2_0_2, AV.int IntKind.i64 (IntKind.i64.wrap (a1_1 + a2_1))], AObj.var 26 [AV.int IntKind.u8 a2_0_0, AV.int IntKind.i64 a2_0_1, AV.str a2_0_2]]
            else
              bif eqI a0 2 then
                bif ltI 0 (vOrd a2_0_0 a2_0_1 a2_0_2 a1_0_0 a1_0_1 a1_0_2) then
                  bif eqI a0 4 then
                    bif ltI 65536 (IntKind.i64.wrap (↑a1_0_2.length + ↑a2_0_2.length)) then
                      .ret (AV.tup [AV.agg [AV.int IntKind.u8 0, AV.int IntKind.i64 0, AV.str [], AV.int IntKind.i64 0], AV.int IntKind.i64 5]) [AObj.var 28 [AV.int IntKind.u8 a1_0_0, AV.int IntKind.i64 a1_0_1, AV.str a1_0_2, AV.int IntKind.i64 a1_1], AObj.var 28 [AV.int IntKind.u8 a2_0_0, AV.int IntKind.i64 a2_0_1, AV.str a2_0_2, AV.int IntKind.i64 a2_1], AObj.var 28 [AV.int IntKind.u8 0, AV.int IntKind.i64 0, AV.str [], AV.int IntKind.i64 0], AObj.var 26 [AV.int IntKind.u8 a2_0_0, AV.int IntKind.i64 a2_0_1, AV.str a2_0_2]]
                    else
                      bif (a1_0_2.length + a2_0_2.length).ble maxLen then
                        .ret (AV.tup [AV.agg [AV.int IntKind.u8 1, AV.int IntKind.i64 0, AV.str (a1_0_2 ++ a2_0_2), AV.int IntKind.i64 (IntKind.i64.wrap (a1_1 + a2_1))], AV.int IntKind.i64 0]) [AObj.var 28 [AV.int IntKind.u8 a1_0_0, AV.int IntKind.i64 a1_0_1, AV.str a1_0_2, AV.int IntKind.i64 a1_1], AObj.var 28 [AV.int IntKind.u8 a2_0_0, AV.int IntKind.i64 a2_0_1, AV.str a2_0_2, AV.int IntKind.i64 a2_1], AObj.var 28 [AV.int IntKind.u8 1, AV.int IntKind.i64 0, AV.str (a1_0_2 ++ a2_0_2), AV.int IntKind.i64 (IntKind.i64.wrap (a1_1 + a2_1))], AObj.var 26 [AV.int IntKind.u8 1, AV.int IntKind.i64 0, AV.str (a1_0_2 ++ a2_0_2)]]
                      else
                        .stuck
                  else
                    .ret (AV.tup [AV.agg [AV.int IntKind.u8 a2_0_0, AV.int IntKind.i64 a2_0_1, AV.str a2_0_2, AV.int IntKind.i64 (IntKind.i64.wrap (a1_1 + a2_1))], AV.int IntKind.i64 0]) [AObj.var 28 [AV.int IntKind.u8 a1_0_0, AV.int IntKind.i64 a1_0_1, AV.str a1_0_2, AV.int IntKind.i64 a1_1], AObj.var 28 [AV.int IntKind.u8 a2_0_0, AV.int IntKind.i64 a2_0_1, AV.str a2_0_2, AV.int IntKind.i64 a2_1], AObj.var 28 [AV.int IntKind.u8 a2_0_0, AV.int IntKind.i64 a2_0_1, AV.str a2_0_2, AV.int IntKind.i64 (IntKind.i64.wrap (a1_1 + a2_1))], AObj.var 26 [AV.int IntKind.u8 a2_0_0, AV.int IntKind.i64 a2_0_1, AV.str a2_0_2]]
                else
                  bif eqI a0 6 then
                    bif eqI a0 4 then
                      bif ltI 65536 (IntKind.i64.wrap (↑a1_0_2.length + ↑a2_0_2.length)) then
                        .ret (AV.tup [AV.agg [AV.int IntKind.u8 0, AV.int IntKind.i64 0, AV.str [], AV.int IntKind.i64 0], AV.int IntKind.i64 5]) [AObj.var 28 [AV.int IntKind.u8 a1_0_0, AV.int IntKind.i64 a1_0_1, AV.str a1_0_2, AV.int IntKind.i64 a1_1], AObj.var 28 [AV.int IntKind.u8 a2_0_0, AV.int IntKind.i64 a2_0_1, AV.str a2_0_2, AV.int IntKind.i64 a2_1], AObj.var 28 [AV.int IntKind.u8 0, AV.int IntKind.i64 0, AV.str [], AV.int IntKind.i64 0], AObj.var 26 [AV.int IntKind.u8 a2_0_0, AV.int IntKind.i64 a2_0_1, AV.str a2_0_2]]
                      else
                        bif (a1_0_2.length + a2_0_2.length).ble maxLen then
                          .ret (AV.tup [AV.agg [AV.int IntKind.u8 1, AV.int IntKind.i64 0, AV.str (a1_0_2 ++ a2_0_2), AV.int IntKind.i64 (IntKind.i64.wrap (a1_1 + a2_1))], AV.int IntKind.i64 0]) [AObj.var 28 [AV.int IntKind.u8 a1_0_0, AV.int IntKind.i64 a1_0_1, AV.str a1_0_2, AV.int IntKind.i64 a1_1], AObj.var 28 [AV.int IntKind.u8 a2_0_0, AV.int IntKind.i64 a2_0_1, AV.str a2_0_2, AV.int IntKind.i64 a2_1], AObj.var 28 [AV.int IntKind.u8 1, AV.int IntKind.i64 0, AV.str (a1_0_2 ++ a2_0_2), AV.int IntKind.i64 (IntKind.i64.wrap (a1_1 + a2_1))], AObj.var 26 [AV.int IntKind.u8 1, AV.int IntKind.i64 0, AV.str (a1_0_2 ++ a2_0_2)]]
                        else
                          .stuck
                    else
                      .ret (AV.tup [AV.agg [AV.int IntKind.u8 a2_0_0, AV.int IntKind.i64 a2_0_1, AV.str a2_0_2, AV.int IntKind.i64 (IntKind.i64.wrap (a1_1 + a2_1))], AV.int IntKind.i64 0]) [AObj.var 28 [AV.int IntKind.u8 a1_0_0, AV.int IntKind.i64 a1_0_1, AV.str a1_0_2, AV.int IntKind.i64 a1_1], AObj.var 28 [AV.int IntKind.u8 a2_0_0, AV.int IntKind.i64 a2_0_1, AV.str a2_0_2, AV.int IntKind.i64 a2_1], AObj.var 28 [AV.int IntKind.u8 a2_0_0, AV.int IntKind.i64 a2_0_1, AV.str a2_0_2, AV.int IntKind.i64 (IntKind.i64.wrap (a1_1 + a2_1))], AObj.var 26 [AV.int IntKind.u8 a2_0_0, AV.int IntKind.i64 a2_0_1, AV.str a2_0_2]]
                  else
                    bif eqI a0 4 then
                      bif ltI 65536 (IntKind.i64.wrap (↑a1_0_2.length + ↑a2_0_2.length)) then
                        .ret (AV.tup [AV.agg [AV.int IntKind.u8 0, AV.int IntKind.i64 0, AV.str [], AV.int IntKind.i64 0], AV.int IntKind.i64 5]) [AObj.var 28 [AV.int IntKind.u8 a1_0_0, AV.int IntKind.i64 a1_0_1, AV.str a1_0_2, AV.int IntKind.i64 a1_1], AObj.var 28 [AV.int IntKind.u8 a2_0_0, AV.int IntKind.i64 a2_0_1, AV.str a2_0_2, AV.int IntKind.i64 a2_1], AObj.var 28 [AV.int IntKind.u8 0, AV.int IntKind.i64 0, AV.str [], AV.int IntKind.i64 0], AObj.var 26 [AV.int IntKind.u8 a1_0_0, AV.int IntKind.i64 a1_0_1, AV.str a1_0_2]]
                      else
                        bif (a1_0_2.length + a2_0_2.length).ble maxLen then
                          .ret (AV.tup [AV.agg [AV.int IntKind.u8 1, AV.int IntKind.i64 0, AV.str (a1_0_2 ++ a2_0_2), AV.int IntKind.i64 (IntKind.i64.wrap (a1_1 + a2_1))], AV.int IntKind.i64 0]) [AObj.var 28 [AV.int IntKind.u8 a1_0_0, AV.int IntKind.i64 a1_0_1, AV.str a1_0_2, AV.int IntKind.i64 a1_1], AObj.var 28 [AV.int IntKind.u8 a2_0_0, AV.int IntKind.i64 a2_0_1, AV.str a2_0_2, AV.int IntKind.i64 a2_1], AObj.var 28 [AV.int IntKind.u8 1, AV.int IntKind.i64 0, AV.str (a1_0_2 ++ a2_0_2), AV.int IntKind.i64 (IntKind.i64.wrap (a1_1 + a2_1))], AObj.var 26 [AV.int IntKind.u8 1, AV.int IntKind.i64 0, AV.str (a1_0_2 ++ a2_0_2)]]
                        else
                          .stuck
                    else
                      .ret (AV.tup [AV.agg [AV.int IntKind.u8 a1_0_0, AV.int IntKind.i64 a1_0_1, AV.str a1_0_2, AV.int IntKind.i64 (IntKind.i64.wrap (a1_1 + a2_1))], AV.int IntKind.i64 0]) [AObj.var 28 [AV.int IntKind.u8 a1_0_0, AV.int IntKind.i64 a1_0_1, AV.str a1_0_2, AV.int IntKind.i64 a1_1], AObj.var 28 [AV.int IntKind.u8 a2_0_0, AV.int IntKind.i64 a2_0_1, AV.str a2_0_2, AV.int IntKind.i64 a2_1], AObj.var 28 [AV.int IntKind.u8 a1_0_0, AV.int IntKind.i64 a1_0_1, AV.str a1_0_2, AV.int IntKind.i64 (IntKind.i64.wrap (a1_1 + a2_1))], AObj.var 26 [AV.int IntKind.u8 a1_0_0, AV.int IntKind.i64 a1_0_1, AV.str a1_0_2]]
              else
                bif eqI a0 6 then
                  bif eqI a0 4 then
                    bif ltI 65536 (IntKind.i64.wrap (↑a1_0_2.length + ↑a2_0_2.length)) then
                      .ret (AV.tup [AV.agg [AV.int IntKind.u8 0, AV.int IntKind.i64 0, AV.str [], AV.int IntKind.i64 0], AV.int IntKind.i64 5]) [AObj.var 28 [AV.int IntKind.u8 a1_0_0, AV.int IntKind.i64 a1_0_1, AV.str a1_0_2, AV.int IntKind.i64 a1_1], AObj.var 28 [AV.int IntKind.u8 a2_0_0, AV.int IntKind.i64 a2_0_1, AV.str a2_0_2, AV.int IntKind.i64 a2_1], AObj.var 28 [AV.int IntKind.u8 0, AV.int IntKind.i64 0, AV.str [], AV.int IntKind.i64 0], AObj.var 26 [AV.int IntKind.u8 a2_0_0, AV.int IntKind.i64 a2_0_1, AV.str a2_0_2]]
                    else
                      bif (a1_0_2.length + a2_0_2.length).ble maxLen then
                        .ret (AV.tup [AV.agg [AV.int IntKind.u8 1, AV.int IntKind.i64 0, AV.str (a1_0_2 ++ a2_0_2), AV.int IntKind.i64 (IntKind.i64.wrap (a1_1 + a2_1))], AV.int IntKind.i64 0]) [AObj.var 28 [AV.int IntKind.u8 a1_0_0, AV.int IntKind.i64 a1_0_1, AV.str a1_0_2, AV.int IntKind.i64 a1_1], AObj.var 28 [AV.int IntKind.u8 a2_0_0, AV.int IntKind.i64 a2_0_1, AV.str a2_0_2, AV.int IntKind.i64 a2_1], AObj.var 28 [AV.int IntKind.u8 1, AV.int IntKind.i64 0, AV.str (a1_0_2 ++ a2_0_2), AV.int IntKind.i64 (IntKind.i64.wrap (a1_1 + a2_1))], AObj.var 26 [AV.int IntKind.u8 1, AV.int IntKind.i64 0, AV.str (a1_0_2 ++ a2_0_2)]]
                      else
                        .stuck
                  else
                    .ret (AV.tup [AV.agg [AV.int IntKind.u8 a2_0_0, AV.int IntKind.i64 a2_0_1, AV.str a2_0_2, AV.int IntKind.i64 (IntKind.i64.wrap (a1_1 + a2_1))], AV.int IntKind.i64 0]) [AObj.var 28 [AV.int IntKind.u8 a1_0_0, AV.int IntKind.i64 a1_0_1, AV.str a1_0_2, AV.int IntKind.i64 a1_1], AObj.var 28 [AV.int IntKind.u8 a2_0_0, AV.int IntKind.i64 a2_0_1, AV.str a2_0_2, AV.int IntKind.i64 a2_1], AObj.var 28 [AV.int IntKind.u8 a2_0_0, AV.int IntKind.i64 a2_0_1, AV.str a2_0_2, AV.int IntKind.i64 (IntKind.i64.wrap (a1_1 + a2_1))], AObj.var 26 [AV.int IntKind.u8 a2_0_0, AV.int IntKind.i64 a2_0_1, AV.str a2_0_2]]
                else
                  bif eqI a0 4 then
                    bif ltI 65536 (IntKind.i64.wrap (↑a1_0_2.length + ↑a2_0_2.length)) then
                      .ret (AV.tup [AV.agg [AV.int IntKind.u8 0, AV.int IntKind.i64 0, AV.str [], AV.int IntKind.i64 0], AV.int IntKind.i64 5]) [AObj.var 28 [AV.int IntKind.u8 a1_0_0, AV.int IntKind.i64 a1_0_1, AV.str a1_0_2, AV.int IntKind.i64 a1_1], AObj.var 28 [AV.int IntKind.u8 a2_0_0, AV.int IntKind.i64 a2_0_1, AV.str a2_0_2, AV.int IntKind.i64 a2_1], AObj.var 28 [AV.int IntKind.u8 0, AV.int IntKind.i64 0, AV.str [], AV.int IntKind.i64 0], AObj.var 26 [AV.int IntKind.u8 a1_0_0, AV.int IntKind.i64 a1_0_1, AV.str a1_0_2]]
                    else
                      bif (a1_0_2.length + a2_0_2.length).ble maxLen then
                        .ret (AV.tup [AV.agg [AV.int IntKind.u8 1, AV.int IntKind.i64 0, AV.str (a1_0_2 ++ a2_0_2), AV.int IntKind.i64 (IntKind.i64.wrap (a1_1 + a2_1))], AV.int IntKind.i64 0]) [AObj.var 28 [AV.int IntKind.u8 a1_0_0, AV.int IntKind.i64 a1_0_1, AV.str a1_0_2, AV.int IntKind.i64 a1_1], AObj.var 28 [AV.int IntKind.u8 a2_0_0, AV.int IntKind.i64 a2_0_1, AV.str a2_0_2, AV.int IntKind.i64 a2_1], AObj.var 28 [AV.int IntKind.u8 1, AV.int IntKind.i64 0, AV.str (a1_0_2 ++ a2_0_2), AV.int IntKind.i64 (IntKind.i64.wrap (a1_1 + a2_1))], AObj.var 26 [AV.int IntKind.u8 1, AV.int IntKind.i64 0, AV.str (a1_0_2 ++ a2_0_2)]]
                      else
                        .stuck
                  else
                    .ret (AV.tup [AV.agg [AV.int IntKind.u8 a1_0_0, AV.int IntKind.i64 a1_0_1, AV.str a1_0_2, AV.int IntKind.i64 (IntKind.i64.wrap (a1_1 + a2_1))], AV.int IntKind.i64 0]) [AObj.var 28 [AV.int IntKind.u8 a1_0_0, AV.int IntKind.i64 a1_0_1, AV.str a1_0_2, AV.int IntKind.i64 a1_1], AObj.var 28 [AV.int IntKind.u8 a2_0_0, AV.int IntKind.i64 a2_0_1, AV.str a2_0_2, AV.int IntKind.i64 a2_1], AObj.var 28 [AV.int IntKind.u8 a1_0_0, AV.int IntKind.i64 a1_0_1, AV.str a1_0_2, AV.int IntKind.i64 (IntKind.i64.wrap (a1_1 + a2_1))], AObj.var 26 [AV.int IntKind.u8 a1_0_0, AV.int IntKind.i64 a1_0_1, AV.str a1_0_2]]
          else
            bif eqI a0 2 then
              bif ltI 0 (vOrd a2_0_0 a2_0_1 a2_0_2 a1_0_0 a1_0_1 a1_0_2) then
                bif eqI a0 4 then
                  bif ltI 65536 (IntKind.i64.wrap (↑a1_0_2.length + ↑a2_0_2.length)) then
                    .ret (AV.tup [AV.agg [AV.int IntKind.u8 0, AV.int IntKind.i64 0, AV.str [], AV.int IntKind.i64 0], AV.int IntKind.i64 5]) [AObj.var 28 [AV.int IntKind.u8 a1_0_0, AV.int IntKind.i64 a1_0_1, AV.str a1_0_2, AV.int IntKind.i64 a1_1], AObj.var 28 [AV.int IntKind.u8 a2_0_0, AV.int IntKind.i64 a2_0_1, AV.str a2_0_2, AV.int IntKind.i64 a2_1], AObj.var 28 [AV.int IntKind.u8 0, AV.int IntKind.i64 0, AV.str [], AV.int IntKind.i64 0], AObj.var 26 [AV.int IntKind.u8 a2_0_0, AV.int IntKind.i64 a2_0_1, AV.str a2_0_2]]
                  else
                    bif (a1_0_2.length + a2_0_2.length).ble maxLen then
                      .ret (AV.tup [AV.agg [AV.int IntKind.u8 1, AV.int IntKind.i64 0, AV.str (a1_0_2 ++ a2_0_2), AV.int IntKind.i64 (IntKind.i64.wrap (a1_1 + a2_1))], AV.int IntKind.i64 0]) [AObj.var 28 [AV.int IntKind.u8 a1_0_0, AV.int IntKind.i64 a1_0_1, AV.str a1_0_2, AV.int IntKind.i64 a1_1], AObj.var 28 [AV.int IntKind.u8 a2_0_0, AV.int IntKind.i64 a2_0_1, AV.str a2_0_2, AV.int IntKind.i64 a2_1], AObj.var 28 [AV.int IntKind.u8 1, AV.int IntKind.i64 0, AV.str (a1_0_2 ++ a2_0_2), AV.int IntKind.i64 (IntKind.i64.wrap (a1_1 + a2_1))], AObj.var 26 [AV.int IntKind.u8 1, AV.int IntKind.i64 0, AV.str (a1_0_2 ++ a2_0_2)]]
                    else
                      .stuck
                else
                  .ret (AV.tup [AV.agg [AV.int IntKind.u8 a2_0_0, AV.int IntKind.i64 a2_0_1, AV.str a2_0_2, AV.int IntKind.i64 (IntKind.i64.wrap (a1_1 + a2_1))], AV.int IntKind.i64 0]) [AObj.var 28 [AV.int IntKind.u8 a1_0_0, AV.int IntKind.i64 a1_0_1, AV.str a1_0_2, AV.int IntKind.i64 a1_1], AObj.var 28 [AV.int IntKind.u8 a2_0_0, AV.int IntKind.i64 a2_0_1, AV.str a2_0_2, AV.int IntKind.i64 a2_1], AObj.var 28 [AV.int IntKind.u8 a2_0_0, AV.int IntKind.i64 a2_0_1, AV.str a2_0_2, AV.int IntKind.i64 (IntKind.i64.wrap (a1_1 + a2_1))], AObj.var 26 [AV.int IntKind.u8 a2_0_0, AV.int IntKind.i64 a2_0_1, AV.str a2_0_2]]
              else
                bif eqI a0 6 then
                  bif eqI a0 4 then
                    bif ltI 65536 (IntKind.i64.wrap (↑a1_0_2.length + ↑a2_0_2.length)) then
                      .ret (AV.tup [AV.agg [AV.int IntKind.u8 0, AV.int IntKind.i64 0, AV.str [], AV.int IntKind.i64 0], AV.int IntKind.i64 5]) [AObj.var 28 [AV.int IntKind.u8 a1_0_0, AV.int IntKind.i64 a1_0_1, AV.str a1_0_2, AV.int IntKind.i64 a1_1], AObj.var 28 [AV.int IntKind.u8 a2_0_0, AV.int IntKind.i64 a2_0_1, AV.str a2_0_2, AV.int IntKind.i64 a2_1], AObj.var 28 [AV.int IntKind.u8 0, AV.int IntKind.i64 0, AV.str [], AV.int IntKind.i64 0], AObj.var 26 [AV.int IntKind.u8 a2_0_0, AV.int IntKind.i64 a2_0_1, AV.str a2_0_2]]
                    else
                      bif (a1_0_2.length + a2_0_2.length).ble maxLen then
                        .ret (AV.tup [AV.agg [AV.int IntKind.u8 1, AV.int IntKind.i64 0, AV.str (a1_0_2 ++ a2_0_2), AV.int IntKind.i64 (IntKind.i64.wrap (a1_1 + a2_1))], AV.int IntKind.i64 0]) [AObj.var 28 [AV.int IntKind.u8 a1_0_0, AV.int IntKind.i64 a1_0_1, AV.str a1_0_2, AV.int IntKind.i64 a1_1], AObj.var 28 [AV.int IntKind.u8 a2_0_0, AV.int IntKind.i64 a2_0_1, AV.str a2_0_2, AV.int IntKind.i64 a2_1], AObj.var 28 [AV.int IntKind.u8 1, AV.int IntKind.i64 0, AV.str (a1_0_2 ++ a2_0_2), AV.int IntKind.i64 (IntKind.i64.wrap (a1_1 + a2_1))], AObj.var 26 [AV.int IntKind.u8 1, AV.int IntKind.i64 0, AV.str (a1_0_2 ++ a2_0_2)]]
                      else
                        .stuck
                  else
                    .ret (AV.tup [AV.agg [AV.int IntKind.u8 a2_0_0, AV.int IntKind.i64 a2_0_1, AV.str a2_0_2, AV.int IntKind.i64 (IntKind.i64.wrap (a1_1 + a2_1))], AV.int IntKind.i64 0]) [AObj.var 28 [AV.int IntKind.u8 a1_0_0, AV.int IntKind.i64 a1_0_1, AV.str a1_0_2, AV.int IntKind.i64 a1_1], AObj.var 28 [AV.int IntKind.u8 a2_0_0, AV.int IntKind.i64 a2_0_1, AV.str a2_0_2, AV.int IntKind.i64 a2_1], AObj.var 28 [AV.int IntKind.u8 a2_0_0, AV.int IntKind.i64 a2_0_1, AV.str a2_0_2, AV.int IntKind.i64 (IntKind.i64.wrap (a1_1 + a2_1))], AObj.var 26 [AV.int IntKind.u8 a2_0_0, AV.int IntKind.i64 a2_0_1, AV.str a2_0_2]]
                else
                  bif eqI a0 4 then
                    bif ltI 65536 (IntKind.i64.wrap (↑a1_0_2.length + ↑a2_0_2.length)) then
                      .ret (AV.tup [AV.agg [AV.int IntKind.u8 0, AV.int IntKind.i64 0, AV.str [], AV.int IntKind.i64 0], AV.int IntKind.i64 5]) [AObj.var 28 [AV.int IntKind.u8 a1_0_0, AV.int IntKind.i64 a1_0_1, AV.str a1_0_2, AV.int IntKind.i64 a1_1], AObj.var 28 [AV.int IntKind.u8 a2_0_0, AV.int IntKind.i64 a2_0_1, AV.str a2_0_2, AV.int IntKind.i64 a2_1], AObj.var 28 [AV.int IntKind.u8 0, AV.int IntKind.i64 0, AV.str [], AV.int IntKind.i64 0], AObj.var 26 [AV.int IntKind.u8 a1_0_0, AV.int IntKind.i64 a1_0_1, AV.str a1_0_2]]
                    else
                      bif (a1_0_2.length + a2_0_2.length).ble maxLen then
                        .ret (AV.tup [AV.agg [AV.int IntKind.u8 1, AV.int IntKind.i64 0, AV.str (a1_0_2 ++ a2_0_2), AV.int IntKind.i64 (IntKind.i64.wrap (a1_1 + a2_1))], AV.int IntKind.i64 0]) [AObj.var 28 [AV.int IntKind.u8 a1_0_0, AV.int IntKind.i64 a1_0_1, AV.str a1_0_2, AV.int IntKind.i64 a1_1], AObj.var 28 [AV.int IntKind.u8 a2_0_0, AV.int IntKind.i64 a2_0_1, AV.str a2_0_2, AV.int IntKind.i64 a2_1], AObj.var 28 [AV.int IntKind.u8 1, AV.int IntKind.i64 0, AV.str (a1_0_2 ++ a2_0_2), AV.int IntKind.i64 (IntKind.i64.wrap (a1_1 + a2_1))], AObj.var 26 [AV.int IntKind.u8 1, AV.int IntKind.i64 0, AV.str (a1_0_2 ++ a2_0_2)]]
                      else
                        .stuck
                  else
                    .ret (AV.tup [AV.agg [AV.int IntKind.u8 a1_0_0, AV.int IntKind.i64 a1_0_1, AV.str a1_0_2, AV.int IntKind.i64 (IntKind.i64.wrap (a1_1 + a2_1))], AV.int IntKind.i64 0]) [AObj.var 28 [AV.int IntKind.u8 a1_0_0, AV.int IntKind.i64 a1_0_1, AV.str a1_0_2, AV.int IntKind.i64 a1_1], AObj.var 28 [AV.int IntKind.u8 a2_0_0, AV.int IntKind.i64 a2_0_1, AV.str a2_0_2, AV.int IntKind.i64 a2_1], AObj.var 28 [AV.int IntKind.u8 a1_0_0, AV.int IntKind.i64 a1_0_1, AV.str a1_0_2, AV.int IntKind.i64 (IntKind.i64.wrap (a1_1 + a2_1))], AObj.var 26 [AV.int IntKind.u8 a1_0_0, AV.int IntKind.i64 a1_0_1, AV.str a1_0_2]]
            else
              bif eqI a0 6 then
                bif eqI a0 4 then
                  bif ltI 65536 (IntKind.i64.wrap (↑a1_0_2.length + ↑a2_0_2.length)) then
                    .ret (AV.tup [AV.agg [AV.int IntKind.u8 0, AV.int IntKind.i64 0, AV.str [], AV.int IntKind.i64 0], AV.int IntKind.i64 5]) [AObj.var 28 [AV.int IntKind.u8 a1_0_0, AV.int IntKind.i64 a1_0_1, AV.str a1_0_2, AV.int IntKind.i64 a1_1], AObj.var 28 [AV.int IntKind.u8 a2_0_0, AV.int IntKind.i64 a2_0_1, AV.str a2_0_2, AV.int IntKind.i64 a2_1], AObj.var 28 [AV.int IntKind.u8 0, AV.int IntKind.i64 0, AV.str [], AV.int IntKind.i64 0], AObj.var 26 [AV.int IntKind.u8 a2_0_0, AV.int IntKind.i64 a2_0_1, AV.str a2_0_2]]
                  else
                    bif (a1_0_2.length + a2_0_2.length).ble maxLen then
                      .ret (AV.tup [AV.agg [AV.int IntKind.u8 1, AV.int IntKind.i64 0, AV.str (a1_0_2 ++ a2_0_2), AV.int IntKind.i64 (IntKind.i64.wrap (a1_1 + a2_1))], AV.int IntKind.i64 0]) [AObj.var 28 [AV.int IntKind.u8 a1_0_0, AV.int IntKind.i64 a1_0_1, AV.str a1_0_2, AV.int IntKind.i64 a1_1], AObj.var 28 [AV.int IntKind.u8 a2_0_0, AV.int IntKind.i64 a2_0_1, AV.str a2_0_2, AV.int IntKind.i64 a2_1], AObj.var 28 [AV.int IntKind.u8 1, AV.int IntKind.i64 0, AV.str (a1_0_2 ++ a2_0_2), AV.int IntKind.i64 (IntKind.i64.wrap (a1_1 + a2_1))], AObj.var 26 [AV.int IntKind.u8 1, AV.int IntKind.i64 0, AV.str (a1_0_2 ++ a2_0_2)]]
                    else
                      .stuck
                else
                  .ret (AV.tup [AV.agg [AV.int IntKind.u8 a2_0_0, AV.int IntKind.i64 a2_0_1, AV.str a2_0_2, AV.int IntKind.i64 (IntKind.i64.wrap (a1_1 + a2_1))], AV.int IntKind.i64 0]) [AObj.var 28 [AV.int IntKind.u8 a1_0_0, AV.int IntKind.i64 a1_0_1, AV.str a1_0_2, AV.int IntKind.i64 a1_1], AObj.var 28 [AV.int IntKind.u8 a2_0_0, AV.int IntKind.i64 a2_0_1, AV.str a2_0_2, AV.int IntKind.i64 a2_1], AObj.var 28 [AV.int IntKind.u8 a2_0_0, AV.int IntKind.i64 a2_0_1, AV.str a2_0_2, AV.int IntKind.i64 (IntKind.i64.wrap (a1_1 + a2_1))], AObj.var 26 [AV.int IntKind.u8 a2_0_0, AV.int IntKind.i64 a2_0_1, AV.str a2_0_2]]
              else
                bif eqI a0 4 then
                  bif ltI 65536 (IntKind.i64.wrap (↑a1_0_2.length + ↑a2_0_2.length)) then
                    .ret (AV.tup [AV.agg [AV.int IntKind.u8 0, AV.int IntKind.i64 0, AV.str [], AV.int IntKind.i64 0], AV.int IntKind.i64 5]) [AObj.var 28 [AV.int IntKind.u8 a1_0_0, AV.int IntKind.i64 a1_0_1, AV.str a1_0_2, AV.int IntKind.i64 a1_1], AObj.var 28 [AV.int IntKind.u8 a2_0_0, AV.int IntKind.i64 a2_0_1, AV.str a2_0_2, AV.int IntKind.i64 a2_1], AObj.var 28 [AV.int IntKind.u8 0, AV.int IntKind.i64 0, AV.str [], AV.int IntKind.i64 0], AObj.var 26 [AV.int IntKind.u8 a1_0_0, AV.int IntKind.i64 a1_0_1, AV.str a1_0_2]]
                  else
                    bif (a1_0_2.length + a2_0_2.length).ble maxLen then
                      .ret (AV.tup [AV.agg [AV.int IntKind.u8 1, AV.int IntKind.i64 0, AV.str (a1_0_2 ++ a2_0_2), AV.int IntKind.i64 (IntKind.i64.wrap (a1_1 + a2_1))], AV.int IntKind.i64 0]) [AObj.var 28 [AV.int IntKind.u8 a1_0_0, AV.int IntKind.i64 a1_0_1, AV.str a1_0_2, AV.int IntKind.i64 a1_1], AObj.var 28 [AV.int IntKind.u8 a2_0_0, AV.int IntKind.i64 a2_0_1, AV.str a2_0_2, AV.int IntKind.i64 a2_1], AObj.var 28 [AV.int IntKind.u8 1, AV.int IntKind.i64 0, AV.str (a1_0_2 ++ a2_0_2), AV.int IntKind.i64 (IntKind.i64.wrap (a1_1 + a2_1))], AObj.var 26 [AV.int IntKind.u8 1, AV.int IntKind.i64 0, AV.str (a1_0_2 ++ a2_0_2)]]
                    else
                      .stuck
                else
                  .ret (AV.tup [AV.agg [AV.int IntKind.u8 a1_0_0, AV.int IntKind.i64 a1_0_1, AV.str a1_0_2, AV.int IntKind.i64 (IntKind.i64.wrap (a1_1 + a2_1))], AV.int IntKind.i64 0]) [AObj.var 28 [AV.int IntKind.u8 a1_0_0, AV.int IntKind.i64 a1_0_1, AV.str a1_0_2, AV.int IntKind.i64 a1_1], AObj.var 28 [AV.int IntKind.u8 a2_0_0, AV.int IntKind.i64 a2_0_1, AV.str a2_0_2, AV.int IntKind.i64 a2_1], AObj.var 28 [AV.int IntKind.u8 a1_0_0, AV.int IntKind.i64 a1_0_1, AV.str a1_0_2, AV.int IntKind.i64 (IntKind.i64.wrap (a1_1 + a2_1))], AObj.var 26 [AV.int IntKind.u8 a1_0_0, AV.int IntKind.i64 a1_0_1, AV.str a1_0_2]] := by kernel_rfl


def tt16 : Tab := [(3, ty3), (29, ty29)]
theorem tt16_ok : TabOk Try.prog tt16 := tabOk_of_all ⟨ty3_ok, ty29_ok, trivial⟩
def c16 (F : Nat) : Cfg := ⟨tt16, [], F, [], [], 0⟩
theorem f16_eq (F : Nat) (a0 : Int) : afun (c16 F) Try.f16 [AV.int IntKind.i64 a0] [] =
  .ret (AV.int IntKind.i64 a0) [] := by kernel_rfl


theorem ok17 : PureOk Try.prog 17 go17 := by
  refine pureOk_of (c17 rounds) tt17_ok (.cons ok41 .nil) follows rfl Try.func17 (by kernel_rfl) (by kernel_rfl) ?_ ?_
  · intro R stk args k; unfold go17; split
    · rename_i f p n s c q m t d; cases Nat.ble s.length roomB <;> cases Nat.ble t.length roomB <;> rfl
    · rfl
  · intro args r objs h hr
    unfold go17 at h
    split at h
    · rename_i f p n s c q m t d
      obtain ⟨hs, h⟩ := cond_out h
      obtain ⟨ht, h⟩ := cond_out h
      cases h
      refine ⟨_, ?_, .same⟩
      unfold apure
      rw [f17_eq]
      simp only [hs, ht, cond_true, bif_ltI, bif_neI]
      unfold joinP
      dsimp only
      by_cases h1 : c < 1
      · simp only [h1, if_true]; rfl
      by_cases h2 : d < 1
      · simp only [h1, h2, if_true, if_false]; rfl
      simp only [h1, h2, if_false]
      by_cases h3 : (accP f (p, n, s) (q, m, t)).2 = 0 <;> simp only [h3, if_true, if_false] <;> rfl
    · cases h

theorem ok18 : PureOk Try.prog 18 go17 := by
  refine pureOk_of (c18 rounds) tt18_ok (.cons ok42 .nil) follows rfl Try.func18 (by kernel_rfl) (by kernel_rfl) ?_ ?_
  · intro R stk args k; unfold go17; split
    · rename_i f p n s c q m t d; cases Nat.ble s.length roomB <;> cases Nat.ble t.length roomB <;> rfl
    · rfl
  · intro args r objs h hr
    unfold go17 at h
    split at h
    · rename_i f p n s c q m t d
      obtain ⟨hs, h⟩ := cond_out h
      obtain ⟨ht, h⟩ := cond_out h
      cases h
      refine ⟨_, ?_, .same⟩
      unfold apure
      rw [ble_iff] at hs ht
      unfold roomB at hs ht
      have e : IntKind.i64.wrap ((s.length : Int) + t.length) = s.length + t.length := wrap64 (by omega) (by omega)
      rw [f18_eq, e]
      simp only [bif_eqI, bif_ltI]
      unfold joinP accP vO
      dsimp only
      by_cases h1 : c < 1
      · simp only [h1, if_true]; rfl
      by_cases h2 : d < 1
      · simp only [h1, h2, if_true, if_false]; rfl
      simp only [h1, h2, if_false]
      by_cases k0 : f = 0
      · subst k0; rfl
      by_cases k3 : f = 3
      · subst k3; rfl
      by_cases k1 : f = 1
      · subst k1
        by_cases g : vOrd q m t p n s < 0 <;> simp only [g] <;> rfl
      by_cases k2 : f = 2
      · subst k2
        by_cases g : 0 < vOrd q m t p n s <;> simp only [g] <;> rfl
      by_cases k4 : f = 4
      · subst k4
        by_cases g : (65536 : Int) < s.length + t.length
        · have g2 : 65536 < s.length + t.length := by omega
          simp only [g, g2]; rfl
        · have g2 : ¬ 65536 < s.length + t.length := by omega
          have g3 : Nat.ble (s.length + t.length) maxLen = true := ble_iff.2 (by unfold maxLen; omega)
          simp only [g, g2, g3]; rfl
      by_cases k6 : f = 6
      · subst k6; rfl
      · simp only [k0, k3, k1, k2, k4, k6, if_true, if_false, or_false]; rfl
    · cases h

theorem ok16 : PureOk Try.prog 16 go16 := by
  refine pureOk_of (c16 rounds) tt16_ok .nil follows rfl Try.func16 (by kernel_rfl) (by kernel_rfl) ?_ ?_
  · intro R stk args k; unfold go16; split <;> rfl
  · intro args r objs h hr
    unfold go16 at h
    split at h
    · rename_i n
      cases h
      refine ⟨_, ?_, .same⟩
      unfold apure
      rw [f16_eq]
      rfl
    · cases h

end Go.Proofs.YthejefgpanceoaaG
