/- A part of the proof: plain laws, and what functions of the given program come to; no condition. -/
import Derived.Test.YtdkihlkcnnlkcaaGv
namespace Go.Proofs.YtdkihlkcnnlkcaaG
open Go Go.Proofs.YtdkihlkcnnlkcaaGm
set_option maxRecDepth 100000
set_option maxHeartbeats 0

def go24 (R : Type) (stk : R) (args : List AV) (ret : AV → List AObj → R) : R :=
  match args with
  | [.ro (.rows 2 x), .ro (.ints .i64 l)] => bif okI x && Nat.ble x.length 1000000 then ret (.own 0) [.arr 35 (.rows 2 ((onlyI (decIs x) l).map recI))] else stk
  | _ => stk

def go15 (R : Type) (stk : R) (args : List AV) (ret : AV → List AObj → R) : R :=
  match args with
  | [] => ret (.bool true) []
  | _ => stk

def tt41 : Tab := [(0, ty0), (3, ty3), (4, ty4), (9, ty9), (24, ty24), (35, ty35), (78, ty78)]
theorem tt41_ok : TabOk Try.prog tt41 := tabOk_of_all ⟨ty0_ok, ty3_ok, ty4_ok, ty9_ok, ty24_ok, ty35_ok, ty78_ok, trivial⟩
def c41 (F : Nat) : Cfg := ⟨tt41, [(42, .eff go42)], F, [(0, ⟨[0, 1, 7, 8], []⟩)], [], 1⟩
noncomputable def f41_0 (F k : Nat) (x0 : List (List AV)) (x7 : Int) (x8 : Int) (xh0 : Int) : Res := aloop (c41 F) Try.f41 0 [] k (St.mk [AV.ro (Pay.rows 2 x0), AV.fn 42 [AV.ptr 0 0], AV.top, AV.top, AV.top, AV.top, AV.top, AV.int IntKind.i64 x7, AV.int IntKind.i64 x8, AV.top, AV.top, AV.top, AV.top, AV.top, AV.top, AV.top, AV.top, AV.top, AV.top] [AObj.var 3 [AV.int IntKind.i64 xh0]])
theorem f41_eq (F : Nat) (x : List (List AV)) (n : Int) : afun (c41 F) Try.f41 [AV.ro (Pay.rows 2 x), AV.fn 42 [AV.ptr 0 0]] [AObj.var 3 [AV.int IntKind.i64 n]] =
  f41_0 F F x ↑x.length 0 n := by kernel_rfl
theorem f41_0_eq (F k : Nat) (x0 : List (List AV)) (x7 : Int) (x8 : Int) (xh0 : Int) : f41_0 F (k + 1) x0 x7 x8 xh0 =
  bif ltI x8 x7 then
    bif inB x8 x0.length then
      bif isInt IntKind.i64 (nth (List.take 2 (List.drop 0 (x0.getD x8.toNat []))) 0) then
        bif isStr (nth (List.take 2 (List.drop 0 (x0.getD x8.toNat []))) (0 + 1)) then
          bif eqI (intOf (nth (List.take 2 (List.drop 0 (x0.getD x8.toNat []))) 0)) xh0 then
            .ret (AV.int IntKind.i64 x8) [AObj.var 3 [AV.int IntKind.i64 xh0]]
          else
            f41_0 F k x0 x7 (IntKind.i64.wrap (x8 + 1)) xh0
        else
          .stuck
      else
        .stuck
    else
      .stuck
  else
    .ret (AV.int IntKind.i64 (-1)) [AObj.var 3 [AV.int IntKind.i64 xh0]] := by kernel_rfl


def tt47 : Tab := [(3, ty3), (4, ty4), (51, ty51)]
theorem tt47_ok : TabOk Try.prog tt47 := tabOk_of_all ⟨ty3_ok, ty4_ok, ty51_ok, trivial⟩
def c47 (F : Nat) : Cfg := ⟨tt47, [(64, .pure go64)], F, [], [], 0⟩
theorem f47_eq (F : Nat) (a0 : List Int) (a1 : Int) : afun (c47 F) Try.f47 [AV.ro (Pay.ints IntKind.i64 a0), AV.int IntKind.i64 a1] [] =
  .ret (AV.bool (leI 0 (idxI (List.findIdx? (fun (x : Int) => eqI x a1) a0)))) [] := by kernel_rfl


def tt25 : Tab := [(0, ty0), (1, ty1), (3, ty3), (4, ty4), (9, ty9), (24, ty24), (35, ty35), (51, ty51)]
theorem tt25_ok : TabOk Try.prog tt25 := tabOk_of_all ⟨ty0_ok, ty1_ok, ty3_ok, ty4_ok, ty9_ok, ty24_ok, ty35_ok, ty51_ok, trivial⟩
def c25 (F : Nat) : Cfg := ⟨tt25, [(48, .pure go48)], F, [(0, ⟨[0, 1, 5, 6], [(5, 35)]⟩)], [], 0⟩
noncomputable def f25_0 (F k : Nat) (x0 : List (List AV)) (x1 : List Int) (x6 : Int) (xh0 : List (List AV)) : Res := aloop (c25 F) Try.f25 0 [] k (St.mk [AV.ro (Pay.rows 2 x0), AV.ro (Pay.ints IntKind.i64 x1), AV.top, AV.top, AV.top, AV.own 0, AV.int IntKind.i64 x6, AV.top, AV.top, AV.top, AV.top, AV.top, AV.top, AV.top, AV.top, AV.top, AV.top, AV.top, AV.top, AV.top, AV.top, AV.top, AV.top, AV.top, AV.top, AV.top, AV.top, AV.top] [AObj.arr 35 (Pay.rows 2 xh0)])
theorem f25_eq (F : Nat) (a0 : List (List AV)) (a1 : List Int) : afun (c25 F) Try.f25 [AV.ro (Pay.rows 2 a0), AV.ro (Pay.ints IntKind.i64 a1)] [] =
  f25_0 F F a0 a1 0 [] := by kernel_rfl
theorem f25_0_eq (F k : Nat) (x0 : List (List AV)) (x1 : List Int) (x6 : Int) (xh0 : List (List AV)) : f25_0 F (k + 1) x0 x1 x6 xh0 =
  bif ltI x6 ↑x0.length then
    bif inB x6 x0.length then
      bif isInt IntKind.i64 (nth (x0.getD x6.toNat []) 0) then
        bif hasI x1 (intOf (nth (x0.getD x6.toNat []) 0)) then
          bif inB x6 x0.length then
            bif isInt IntKind.i64 (nth (List.take 2 (List.drop 0 (x0.getD x6.toNat []))) 0) then
              bif isStr (nth (List.take 2 (List.drop 0 (x0.getD x6.toNat []))) (0 + 1)) then
                bif appFits ty35 (Pay.rows 2 (xh0 ++ [[AV.int IntKind.i64 (intOf (nth (List.take 2 (List.drop 0 (x0.getD x6.toNat []))) 0)), AV.str (strOf (nth (List.take 2 (List.drop 0 (x0.getD x6.toNat []))) (0 + 1)))]])) then
                  f25_0 F k x0 x1 (IntKind.i64.wrap (x6 + 1)) (xh0 ++ [[AV.int IntKind.i64 (intOf (nth (List.take 2 (List.drop 0 (x0.getD x6.toNat []))) 0)), AV.str (strOf (nth (List.take 2 (List.drop 0 (x0.getD x6.toNat []))) (0 + 1)))]])
                else
                  .stuck
              else
                .stuck
            else
              .stuck
          else
            .stuck
        else
          f25_0 F k x0 x1 (IntKind.i64.wrap (x6 + 1)) xh0
      else
        .stuck
    else
      .stuck
  else
    .ret (AV.own 0) [AObj.arr 35 (Pay.rows 2 xh0)] := by kernel_rfl


def tt15 : Tab := [(3, ty3), (4, ty4), (5, ty5), (9, ty9), (23, ty23), (24, ty24), (25, ty25), (26, ty26), (35, ty35)]
theorem tt15_ok : TabOk Try.prog tt15 := tabOk_of_all ⟨ty3_ok, ty4_ok, ty5_ok, ty9_ok, ty23_ok, ty24_ok, ty25_ok, ty26_ok, ty35_ok, trivial⟩
def c15 (F : Nat) : Cfg := ⟨tt15, [(11, .pure go11), (14, .pure go14), (13, .pure go13)], F, [], [], 0⟩
theorem f15_eq (F : Nat) : afun (c15 F) Try.f15 [] [] =
  .ret (AV.bool (decide (decIs (recRows (records (((([UInt8.ofNat (Int.toNat 97), 0, 0, 0, 0].set (1, Operand.const (Value.int IntKind.u8 10)).fst (UInt8.ofNat (Int.toNat 10))).set (2, Operand.const (Value.int IntKind.u8 10)).fst (UInt8.ofNat (Int.toNat 10))).set (3, Operand.const (Value.int IntKind.u8 98)).fst (UInt8.ofNat (Int.toNat 98))).set (4, Operand.const (Value.int IntKind.u8 99)).fst (UInt8.ofNat (Int.toNat 99)))).fst) = decIs (([[AV.int IntKind.i64 0, AV.str (ByteArray.mk #[97]).data.toList], [AV.int IntKind.i64 0, AV.str ByteArray.empty.data.toList], [AV.int IntKind.i64 0, AV.str ByteArray.empty.data.toList]].set (1, Operand.tmp 17).fst [AV.int IntKind.i64 2, AV.str ByteArray.empty.data.toList]).set (2, Operand.tmp 18).fst [AV.int IntKind.i64 3, AV.str (ByteArray.mk #[98, 99]).data.toList])))) [AObj.dead, AObj.arr 35 (Pay.rows 2 (([[AV.int IntKind.i64 0, AV.str (ByteArray.mk #[97]).data.toList], [AV.int IntKind.i64 0, AV.str ByteArray.empty.data.toList], [AV.int IntKind.i64 0, AV.str ByteArray.empty.data.toList]].set (1, Operand.tmp 17).fst [AV.int IntKind.i64 2, AV.str ByteArray.empty.data.toList]).set (2, Operand.tmp 18).fst [AV.int IntKind.i64 3, AV.str (ByteArray.mk #[98, 99]).data.toList]))] := by kernel_rfl


def go41 (R : Type) (stk : R) (args : List AV) (hp : List AObj) (ret : AV → List AObj → R) : R :=
  match args, hp with
  | [.ro (.rows 2 x), .fn 42 [.ptr 0 0]], [.var 3 [.int .i64 n]] => bif okI x then ret (.int .i64 (idxI (whichN (decIs x) n))) [.var 3 [.int .i64 n]] else stk
  | _, _ => stk
theorem rowsLenE {n : Nat} {p : List (List AV)} {l : List AV} {hp : List AObj} (h : RealE (.ro (.rows n p) :: l) hp) : p.length ≤ 9223372036854775807 := by
  obtain ⟨tt, w, M, ρ, cargs, _, h⟩ := h
  cases h with | cons h _ =>
  cases h with
  | roN h0 => have : p.length = 0 := h0; omega
  | ro _ _ _ _ _ _ _ hcap hm => have := Nat.le_trans hcap hm; unfold maxLen at this; exact this
theorem f41_run (F : Nat) (X : List (Int × Txt)) (n : Int) (hb : X.length ≤ 9223372036854775807) : ∀ (d k j : Nat), j + d = X.length → d < k → f41_0 F k (X.map recI) X.length j n = .ret (.int .i64 (idxI ((whichN (X.drop j) n).map (· + j)))) [.var 3 [.int .i64 n]]
  | d, k + 1, j, h1, h2 => by
    rw [f41_0_eq, List.length_map]
    by_cases hj : j < X.length
    · obtain ⟨d, rfl⟩ : ∃ m, d = m + 1 := ⟨d - 1, by omega⟩
      rw [bif_pos (by rw [ltI_iff]; omega), bif_pos (by rw [inB_iff]; omega), Int.toNat_natCast, recI_getD X j hj, wrap64 (n := (j : Int) + 1) (by omega) (by omega)]
      simp only [nI, nS, isI, isS, ofI, ofS, cond_true]
      unfold whichN
      rw [findIdx_drop _ X j (0, []) hj]
      have ih := f41_run F X n hb d k (j + 1) (by omega) (by omega)
      unfold whichN at ih
      cases eqI (X.getD j (0, [])).1 n with
      | true =>
        rw [cond_true, if_pos rfl, Option.map_some, Nat.zero_add]; rfl
      | false =>
        rw [cond_false, if_neg (by simp), show (j : Int) + 1 = ((j + 1 : Nat) : Int) from rfl, ih]
        cases (X.drop (j + 1)).findIdx? fun x => eqI x.1 n with
        | none => rfl
        | some i => simp [idxI]; omega
    · rw [bif_neg (by rw [ltI_iff]; omega), List.drop_eq_nil_of_le (by omega)]; rfl
theorem f41_all (F : Nat) (X : List (Int × Txt)) (n : Int) (hb : X.length ≤ 9223372036854775807) (hF : 9223372036854775807 < F) : aeff (c41 F) Try.f41 [.ro (.rows 2 (X.map recI)), .fn 42 [.ptr 0 0]] [.var 3 [.int .i64 n]] = some (.int .i64 (idxI (whichN X n)), [.var 3 [.int .i64 n]]) := by
  have h := f41_run F X n hb X.length F 0 (by omega) (by omega)
  rw [List.drop_zero, addz, Option.map_id] at h
  unfold aeff
  rw [f41_eq, List.length_map, show (0 : Int) = ((0 : Nat) : Int) from rfl, h]
  rfl
theorem ok41 : EffOk Try.prog 41 go41 := by
  refine effOk_of follows Try.func41 (by kernel_rfl) (by kernel_rfl) ?_ ?_
  · intro R stk args hp k; unfold go41; split
    · simp only [elim_cond]; rfl
    · rfl
  · intro args hp r hp' h hr
    unfold go41 at h
    split at h
    · rename_i x n
      rcases bif_alt h with ⟨hf0, h⟩ | ⟨hf0, h⟩
      · cases h
        have hl := rowsLenE hr
        rw [okI_out hf0, List.length_map] at hl
        refine ⟨c41 rounds, tt41_ok, .consE ok42 .nil, ?_⟩
        rw [okI_out hf0, decIs_map]
        exact f41_all rounds _ n hl big
      · cases h
    · cases h
theorem hasI_idx (l : List Int) (n : Int) : leI 0 (idxI (l.findIdx? fun x => eqI x n)) = hasI l n := by
  unfold hasI
  rw [← List.findIdx?_isSome]
  cases l.findIdx? fun x => eqI x n with
  | none => rfl
  | some i => exact leI_iff.2 (by show (0 : Int) ≤ (i : Int); omega)
theorem f25_run (F : Nat) (X : List (Int × Txt)) (l : List Int) (hb : X.length ≤ 1000000) : ∀ (d k j : Nat) (Z : List (Int × Txt)), j + d = X.length → d < k → Z.length ≤ j → outR (f25_0 F k (X.map recI) l j (Z.map recI)) = some (.own 0, [.arr 35 (.rows 2 ((Z ++ onlyI (X.drop j) l).map recI))])
  | d, k + 1, j, Z, h1, h2, h3 => by
    rw [f25_0_eq, List.length_map]
    by_cases hj : j < X.length
    · obtain ⟨d, rfl⟩ : ∃ m, d = m + 1 := ⟨d - 1, by omega⟩
      rw [bif_pos (by rw [ltI_iff]; omega), show inB (j : Int) X.length = true by rw [inB_iff]; omega, Int.toNat_natCast, recI_getD X j hj, wrap64 (n := (j : Int) + 1) (by omega) (by omega)]
      simp only [nI, nS, nI', isI, isS, ofI, ofS, cond_true]
      rw [show X.drop j = X.getD j (0, []) :: X.drop (j + 1) by rw [List.getD_eq_getElem?_getD, List.getElem?_eq_getElem hj]; exact List.drop_eq_getElem_cons hj]
      generalize X.getD j (0, []) = x
      unfold onlyI
      rw [List.filter_cons]
      cases hasI l x.1 with
      | true =>
        rw [cond_true, bif_pos (fits35 _ (by rw [List.length_append, List.length_map, List.length_singleton]; omega)), if_pos rfl, show Z.map recI ++ [[AV.int .i64 x.1, AV.str x.2]] = (Z ++ [x]).map recI by rw [List.map_append]; rfl, show (j : Int) + 1 = ((j + 1 : Nat) : Int) from rfl,
          f25_run F X l hb d k (j + 1) (Z ++ [x]) (by omega) (by omega) (by rw [List.length_append, List.length_singleton]; omega), List.append_assoc]
        rfl
      | false =>
        rw [cond_false, if_neg (by simp), show (j : Int) + 1 = ((j + 1 : Nat) : Int) from rfl]
        exact f25_run F X l hb d k (j + 1) Z (by omega) (by omega) (by omega)
    · rw [bif_neg (by rw [ltI_iff]; omega), List.drop_eq_nil_of_le (by omega), show onlyI [] l = [] from rfl, List.append_nil]; rfl
theorem f25_all (F : Nat) (X : List (Int × Txt)) (l : List Int) (hb : X.length ≤ 1000000) (hF : 9223372036854775807 < F) : outR (afun (c25 F) Try.f25 [.ro (.rows 2 (X.map recI)), .ro (.ints .i64 l)] []) = some (.own 0, [.arr 35 (.rows 2 ((onlyI X l).map recI))]) := by
  rw [f25_eq]
  exact f25_run F X l hb X.length F 0 [] (by omega) (by omega) (by simp)

theorem ok47 : PureOk Try.prog 47 go48 := by
  refine pureOk_of (c47 rounds) tt47_ok (.cons ok64 .nil) follows rfl Try.func47 (by kernel_rfl) (by kernel_rfl) ?_ ?_
  · intro R stk args ret
    unfold go48
    split
    · rfl
    · rfl
  · intro args r objs h hr
    unfold go48 at h
    split at h
    · rename_i l n
      cases h
      refine ⟨_, ?_, .same⟩
      rw [apure_out]
      rw [f47_eq, hasI_idx]
      rfl
    · cases h

theorem ok25 : PureOk Try.prog 25 go24 := by
  refine pureOk_of (c25 rounds) tt25_ok (.cons ok48 .nil) follows rfl Try.func25 (by kernel_rfl) (by kernel_rfl) ?_ ?_
  · intro R stk args ret
    unfold go24
    split
    · simp only [elim_cond]; rfl
    · rfl
  · intro args r objs h hr
    unfold go24 at h
    split at h
    · rename_i x l
      rcases bif_alt h with ⟨hf0, h⟩ | ⟨hf0, h⟩
      · cases h
        rw [Bool.and_eq_true, ble_iff] at hf0
        have hl := hf0.2
        rw [okI_out hf0.1, List.length_map] at hl
        refine ⟨_, ?_, .same⟩
        rw [apure_out]
        rw [okI_out hf0.1, decIs_map]
        exact f25_all rounds _ l hl big
      ·
        cases h
    · cases h

theorem ok15 : PureOk Try.prog 15 go15 := by
  refine pureOk_of (c15 rounds) tt15_ok (.cons ok11 (.cons ok14 (.cons ok13 .nil))) follows rfl Try.func15 (by kernel_rfl) (by kernel_rfl) ?_ ?_
  · intro R stk args ret
    unfold go15
    split
    · rfl
    · rfl
  · intro args r objs h hr
    unfold go15 at h
    split at h
    · rename_i a
      cases h
      refine ⟨_, ?_, .same⟩
      rw [apure_out]
      rw [f15_eq]
      rfl
    · cases h

end Go.Proofs.YtdkihlkcnnlkcaaG
