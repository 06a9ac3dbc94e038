/- A part of the proof: plain laws, and what functions of the given program come to; no condition. -/
import Derived.Test.YthejefgpanceoaaGq
namespace Go.Proofs.YthejefgpanceoaaG
open Go Go.Proofs.YthejefgpanceoaaGm
set_option maxRecDepth 100000

def tt11 : Tab := [(0, ty0), (2, ty2), (3, ty3), (4, ty4), (5, ty5), (9, ty9), (22, ty22), (26, ty26)]
theorem tt11_ok : TabOk Try.prog tt11 := tabOk_of_all ⟨ty0_ok, ty2_ok, ty3_ok, ty4_ok, ty5_ok, ty9_ok, ty22_ok, ty26_ok, trivial⟩
def c11 (F : Nat) : Cfg := ⟨tt11, [], F, [(0, ⟨[0, 3, 4], []⟩)], [], 0⟩
noncomputable def f11_0 (F k : Nat) (x0 : List (List AV)) (x3 : Int) (x4 : Int) : Res := aloop (c11 F) Try.f11 0 [] k (St.mk [AV.ro (Pay.rows 3 x0), AV.top, AV.top, AV.int IntKind.i64 x3, AV.int IntKind.i64 x4, AV.top, AV.top, AV.top, AV.top, AV.top, AV.top, AV.top, AV.top, AV.top, AV.top, AV.top, AV.top, AV.top, AV.top, AV.top, AV.top, AV.top, AV.top, AV.top, AV.top, AV.top, AV.top, AV.top] [])
theorem f11_eq (F : Nat) (vs : List Vl) : afun (c11 F) Try.f11 [AV.ro (Pay.rows 3 (List.map valRow vs))] [] =
  f11_0 F F (List.map valRow vs) 0 0 := by kernel_rfl
theorem f11_0_eq (F k : Nat) (x0 : List (List AV)) (x3 : Int) (x4 : Int) : f11_0 F (k + 1) x0 x3 x4 =
  bif ltI x4 ↑x0.length then
    bif ltI x4 100 then
      bif inB x4 x0.length then
        bif isStr (nth (x0.getD x4.toNat []) 2) then
          bif ltI 100000 (IntKind.i64.wrap (x3 + ↑(strOf (nth (x0.getD x4.toNat []) 2)).length)) then
            .ret (AV.bool true) []
          else
            f11_0 F k x0 (IntKind.i64.wrap (x3 + ↑(strOf (nth (x0.getD x4.toNat []) 2)).length)) (IntKind.i64.wrap (x4 + 1))
        else
          .stuck
      else
        .stuck
    else
      .ret (AV.bool (ltI 100 ↑x0.length)) []
  else
    .ret (AV.bool (ltI 100 ↑x0.length)) [] := by kernel_rfl


def tt12 : Tab := [(0, ty0), (1, ty1), (2, ty2), (3, ty3), (4, ty4), (5, ty5), (9, ty9), (22, ty22), (26, ty26), (28, ty28), (29, ty29), (30, ty30)]
theorem tt12_ok : TabOk Try.prog tt12 := tabOk_of_all ⟨ty0_ok, ty1_ok, ty2_ok, ty3_ok, ty4_ok, ty5_ok, ty9_ok, ty22_ok, ty26_ok, ty28_ok, ty29_ok, ty30_ok, trivial⟩
def c12 (F : Nat) : Cfg := ⟨tt12, [(13, .pure go13), (16, .pure go16)], F, [], [], 0⟩
theorem f11_run (F : Nat) (vs : List Vl) (hv : ∀ v ∈ vs, v.2.2.length ≤ roomB) (hl : vs.length ≤ maxLen) : ∀ (d k j : Nat) (n : Int), j + d = vs.length → d < k → 0 ≤ n → n ≤ 100000 →
    f11_0 F k (vs.map valRow) n j = .ret (.bool (longV (vs.drop j) j n)) []
  | 0, k + 1, j, n, h1, h2, h3, h4 => by
    rw [f11_0_eq, List.length_map, bif_neg (by rw [ltI_iff]; omega), List.drop_eq_nil_of_le (by omega)]
    have e : ltI 100 (vs.length : Int) = decide ((100 : Int) < j) := by rw [Bool.eq_iff_iff, ltI_iff, decide_eq_true_eq]; omega
    rw [e]; rfl
  | d + 1, k + 1, j, n, h1, h2, h3, h4 => by
    have hj : j < vs.length := by omega
    unfold maxLen at hl
    have e := mapRow_getD vs j hj
    have hm : vs.getD j (0, 0, []) ∈ vs := by rw [List.getD_eq_getElem?_getD, List.getElem?_eq_getElem hj]; exact List.getElem_mem hj
    rw [f11_0_eq, List.length_map, bif_pos (by rw [ltI_iff]; omega), show (j : Int).toNat = j by omega, e, drop_getD vs j (0, 0, []) hj]
    generalize vs.getD j (0, 0, []) = v at hm ⊢
    have hvl := hv v hm
    unfold roomB at hvl
    have n2 : nth (valRow v) 2 = .str v.2.2 := rfl
    rw [n2, bif_ltI]
    unfold longV
    by_cases g1 : (100 : Int) ≤ j
    · rw [if_neg (by omega), if_pos g1]
      congr 2
      exact ltI_iff.2 (by omega)
    rw [if_pos (by omega), if_neg g1, bif_pos (by rw [inB_iff]; omega), bif_pos (c := isStr _) rfl, show strOf (AV.str v.2.2) = v.2.2 from rfl, wrap64 (by omega) (by omega), bif_ltI]
    by_cases g2 : 100000 < n + v.2.2.length
    · rw [if_pos g2, if_pos g2]
    · rw [if_neg g2, if_neg g2, wrap64 (by omega) (by omega), show (j : Int) + 1 = ((j + 1 : Nat) : Int) by omega]
      exact f11_run F vs hv (by unfold maxLen; omega) d k (j + 1) (n + v.2.2.length) (by omega) (by omega) (by omega) (by omega)

theorem ok11 : PureOk Try.prog 11 go11 := by
  refine pureOk_of (c11 rounds) tt11_ok .nil follows rfl Try.func11 (by kernel_rfl) (by kernel_rfl) ?_ ?_
  · intro R stk args k; unfold go11; split
    · rename_i l; cases allVal l <;> rfl
    · rfl
  · intro args r objs h hr
    unfold go11 at h
    split at h
    · rename_i l
      obtain ⟨ha, h⟩ := cond_out h
      cases h
      obtain ⟨hl, hv⟩ := allVal_out ha
      have hlen := hr.rowsLen
      generalize decVals l = vs at hl hv ⊢
      subst hl
      rw [List.length_map] at hlen
      refine ⟨_, ?_, .same⟩
      unfold apure
      have hlen2 := hlen
      unfold maxLen at hlen
      rw [f11_eq]
      have e := f11_run rounds vs hv hlen2 vs.length rounds 0 0 (by omega) (by unfold rounds; omega) (by omega) (by omega)
      rw [List.drop_zero] at e
      rw [show ((0 : Nat) : Int) = 0 from rfl] at e
      rw [e]
      rfl
    · cases h

theorem ok12 : PureOk Try.prog 12 go12 := by
  refine pureOk_of (c12 rounds) tt12_ok (.cons ok13 (.cons ok16 .nil)) follows rfl Try.func12 (by kernel_rfl) (by kernel_rfl) ?_ ?_
  · intro R stk args k; unfold go12; split <;> rfl
  · intro args r objs h hr
    unfold go12 at h
    split at h
    · cases h
      exact ⟨_, (by kernel_rfl : apure (c12 rounds) Try.f12 [] = some (.bool true, [])), .same⟩
    · cases h

end Go.Proofs.YthejefgpanceoaaG
