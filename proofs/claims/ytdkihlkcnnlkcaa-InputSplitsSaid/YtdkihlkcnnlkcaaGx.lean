/- A part of the proof: plain laws, and what functions of the given program come to; no condition. -/
import Derived.Test.YtdkihlkcnnlkcaaGw
namespace Go.Proofs.YtdkihlkcnnlkcaaG
open Go Go.Proofs.YtdkihlkcnnlkcaaGm
set_option maxRecDepth 100000
set_option maxHeartbeats 0

def go16 (R : Type) (stk : R) (args : List AV) (ret : AV → List AObj → R) : R :=
  match args with
  | [.ro (.bytes b), .int .i64 n] => ret (.tup [.str (atI (recsI b) n), .bool (whichN (recsI b) n).isSome]) []
  | _ => stk

def tt18 : Tab := [(0, ty0), (3, ty3), (4, ty4), (9, ty9), (24, ty24), (35, ty35), (78, ty78)]
theorem tt18_ok : TabOk Try.prog tt18 := tabOk_of_all ⟨ty0_ok, ty3_ok, ty4_ok, ty9_ok, ty24_ok, ty35_ok, ty78_ok, trivial⟩
def c18 (F : Nat) : Cfg := ⟨tt18, [(41, .eff go41)], F, [], [], 0⟩
theorem f18_eq (F : Nat) (a0 : List (List AV)) (a1 : Int) : afun (c18 F) Try.f18 [AV.ro (Pay.rows 2 a0), AV.int IntKind.i64 a1] [] =
  bif okI a0 then
    .ret (AV.tup [AV.int IntKind.i64 (if 0 > idxI (whichN (decIs a0) a1) then 0 else idxI (whichN (decIs a0) a1)), AV.bool (leI 0 (idxI (whichN (decIs a0) a1)))]) [AObj.var 3 [AV.int IntKind.i64 a1]]
  else
    .stuck := by kernel_rfl


def tt24 : Tab := [(0, ty0), (1, ty1), (3, ty3), (4, ty4), (9, ty9), (24, ty24), (35, ty35), (51, ty51)]
theorem tt24_ok : TabOk Try.prog tt24 := tabOk_of_all ⟨ty0_ok, ty1_ok, ty3_ok, ty4_ok, ty9_ok, ty24_ok, ty35_ok, ty51_ok, trivial⟩
def c24 (F : Nat) : Cfg := ⟨tt24, [(47, .pure go48)], F, [(0, ⟨[1, 5, 8, 9, 10], [(5, 35)]⟩)], [], 0⟩
noncomputable def f24_0 (F k : Nat) (x1 : List Int) (x8 : List (List AV)) (x9 : Int) (x10 : Int) (xh0 : List (List AV)) : Res := aloop (c24 F) Try.f24 0 [] k (St.mk [AV.top, AV.ro (Pay.ints IntKind.i64 x1), AV.top, AV.top, AV.top, AV.own 0, AV.top, AV.top, AV.ro (Pay.rows 2 x8), AV.int IntKind.i64 x9, AV.int IntKind.i64 x10, AV.top, AV.top, AV.top, AV.top, AV.top, AV.top, AV.top, AV.top, AV.top, AV.top, AV.top, AV.top, AV.top] [AObj.arr 35 (Pay.rows 2 xh0)])
theorem f24_eq (F : Nat) (a0 : List (List AV)) (a1 : List Int) : afun (c24 F) Try.f24 [AV.ro (Pay.rows 2 a0), AV.ro (Pay.ints IntKind.i64 a1)] [] =
  f24_0 F F a1 a0 ↑a0.length 0 [] := by kernel_rfl
theorem f24_0_eq (F k : Nat) (x1 : List Int) (x8 : List (List AV)) (x9 : Int) (x10 : Int) (xh0 : List (List AV)) : f24_0 F (k + 1) x1 x8 x9 x10 xh0 =
  bif ltI x10 x9 then
    bif inB x10 x8.length then
      bif isInt IntKind.i64 (nth (List.take 2 (List.drop 0 (x8.getD x10.toNat []))) 0) then
        bif isStr (nth (List.take 2 (List.drop 0 (x8.getD x10.toNat []))) (0 + 1)) then
          bif hasI x1 (intOf (AV.int IntKind.i64 (intOf (nth (List.take 2 (List.drop 0 (x8.getD x10.toNat []))) 0)))) then
            bif appFits ty35 (Pay.rows 2 (xh0 ++ [[AV.int IntKind.i64 (intOf (nth (List.take 2 (List.drop 0 (x8.getD x10.toNat []))) 0)), AV.str (strOf (nth (List.take 2 (List.drop 0 (x8.getD x10.toNat []))) (0 + 1)))]])) then
              f24_0 F k x1 x8 x9 (IntKind.i64.wrap (x10 + 1)) (xh0 ++ [[AV.int IntKind.i64 (intOf (nth (List.take 2 (List.drop 0 (x8.getD x10.toNat []))) 0)), AV.str (strOf (nth (List.take 2 (List.drop 0 (x8.getD x10.toNat []))) (0 + 1)))]])
            else
              .stuck
          else
            f24_0 F k x1 x8 x9 (IntKind.i64.wrap (x10 + 1)) xh0
        else
          .stuck
      else
        .stuck
    else
      .stuck
  else
    .ret (AV.own 0) [AObj.arr 35 (Pay.rows 2 xh0)] := by kernel_rfl


def tt16 : Tab := [(0, ty0), (1, ty1), (3, ty3), (4, ty4), (5, ty5), (9, ty9), (23, ty23), (24, ty24), (25, ty25), (26, ty26), (35, ty35), (39, ty39)]
theorem tt16_ok : TabOk Try.prog tt16 := tabOk_of_all ⟨ty0_ok, ty1_ok, ty3_ok, ty4_ok, ty5_ok, ty9_ok, ty23_ok, ty24_ok, ty25_ok, ty26_ok, ty35_ok, ty39_ok, trivial⟩
def c16 (F : Nat) : Cfg := ⟨tt16, [(11, .pure go11), (18, .pure go17)], F, [], [], 0⟩
theorem f16_eq (F : Nat) (a0 : List UInt8) (a1 : Int) : afun (c16 F) Try.f16 [AV.ro (Pay.bytes a0), AV.int IntKind.i64 a1] [] =
  bif okI (recRows (records a0).fst) then
    bif !(whichN (decIs (recRows (records a0).fst)) a1).isSome then
      .ret (AV.tup [AV.str (ByteArray.mk #[]).data.toList, AV.bool false]) []
    else
      bif inB (zeroI (whichN (decIs (recRows (records a0).fst)) a1)) (recRows (records a0).fst).length then
        bif isStr (nth ((recRows (records a0).fst).getD (zeroI (whichN (decIs (recRows (records a0).fst)) a1)).toNat []) 1) then
          .ret (AV.tup [AV.str (strOf (nth ((recRows (records a0).fst).getD (zeroI (whichN (decIs (recRows (records a0).fst)) a1)).toNat []) 1)), AV.bool true]) []
        else
          .stuck
      else
        .stuck
  else
    .stuck := by kernel_rfl


theorem f24_run (F : Nat) (X : List (Int × Txt)) (l : List Int) (hb : X.length ≤ 1000000) : ∀ (d k j : Nat) (Z : List (Int × Txt)), j + d = X.length → d < k → Z.length ≤ j → outR (f24_0 F k l (X.map recI) X.length j (Z.map recI)) = some (.own 0, [.arr 35 (.rows 2 ((Z ++ onlyI (X.drop j) l).map recI))])
  | d, k + 1, j, Z, h1, h2, h3 => by
    rw [f24_0_eq, List.length_map]
    by_cases hj : j < X.length
    · obtain ⟨d, rfl⟩ : ∃ m, d = m + 1 := ⟨d - 1, by omega⟩
      rw [bif_pos (by rw [ltI_iff]; omega), show inB (j : Int) X.length = true by rw [inB_iff]; omega, Int.toNat_natCast, recI_getD X j hj, wrap64 (n := (j : Int) + 1) (by omega) (by omega)]
      simp only [nI, nS, nI', isI, isS, ofI, ofS, cond_true]
      rw [show X.drop j = X.getD j (0, []) :: X.drop (j + 1) by rw [List.getD_eq_getElem?_getD, List.getElem?_eq_getElem hj]; exact List.drop_eq_getElem_cons hj]
      generalize X.getD j (0, []) = x
      unfold onlyI
      rw [List.filter_cons]
      cases hasI l x.1 with
      | true =>
        rw [cond_true, bif_pos (fits35 _ (by rw [List.length_append, List.length_map, List.length_singleton]; omega)), if_pos rfl, show Z.map recI ++ [[AV.int .i64 x.1, AV.str x.2]] = (Z ++ [x]).map recI by rw [List.map_append]; rfl, show (j : Int) + 1 = ((j + 1 : Nat) : Int) from rfl,
          f24_run F X l hb d k (j + 1) (Z ++ [x]) (by omega) (by omega) (by rw [List.length_append, List.length_singleton]; omega), List.append_assoc]
        rfl
      | false =>
        rw [cond_false, if_neg (by simp), show (j : Int) + 1 = ((j + 1 : Nat) : Int) from rfl]
        exact f24_run F X l hb d k (j + 1) Z (by omega) (by omega) (by omega)
    · rw [bif_neg (by rw [ltI_iff]; omega), List.drop_eq_nil_of_le (by omega), show onlyI [] l = [] from rfl, List.append_nil]; rfl
theorem f24_all (F : Nat) (X : List (Int × Txt)) (l : List Int) (hb : X.length ≤ 1000000) (hF : 9223372036854775807 < F) : outR (afun (c24 F) Try.f24 [.ro (.rows 2 (X.map recI)), .ro (.ints .i64 l)] []) = some (.own 0, [.arr 35 (.rows 2 ((onlyI X l).map recI))]) := by
  rw [f24_eq, List.length_map]
  exact f24_run F X l hb X.length F 0 [] (by omega) (by omega) (by simp)
theorem f18_all (F : Nat) (X : List (Int × Txt)) (n : Int) : outR (afun (c18 F) Try.f18 [.ro (.rows 2 (X.map recI)), .int .i64 n] []) = some (.tup [.int .i64 (zeroI (whichN X n)), .bool (whichN X n).isSome], []) := by
  rw [f18_eq, okI_map, decIs_map, cond_true]
  cases whichN X n with
  | none => rfl
  | some i =>
    show some (AV.tup [.int .i64 (if (0 : Int) > (i : Int) then 0 else (i : Int)), .bool (leI 0 (i : Int))], _) = _
    rw [if_neg (by omega), leI_iff.2 (by omega)]; rfl
theorem f16_all (F : Nat) (b : Txt) (n : Int) : outR (afun (c16 F) Try.f16 [.ro (.bytes b), .int .i64 n] []) = some (.tup [.str (atI (recsI b) n), .bool (whichN (recsI b) n).isSome], []) := by
  rw [f16_eq, recRows_I, show (records b).1.map (fun x => ((x.1 : Int), x.2)) = recsI b from rfl, okI_map, decIs_map, cond_true]
  generalize recsI b = X
  unfold atI
  cases h : whichN X n with
  | none => rfl
  | some i =>
    have hi : i < X.length := (List.findIdx?_eq_some_iff_getElem.1 h).1
    rw [List.length_map]
    show outR (bif false then _ else bif inB (i : Int) X.length then _ else _) = _
    rw [cond_false, bif_pos (by rw [inB_iff]; omega)]
    show outR (bif isStr (nth ((X.map recI).getD i []) 1) then _ else _) = some (AV.tup [.str (X.getD i (0, [])).2, .bool true], [])
    rw [show (zeroI (some i)).toNat = i from rfl, recI_getD X i hi]; rfl
theorem ok12_end (F k : Nat) (b : Txt) (j : Nat) (rows : List (Nat × Txt)) (hj : b.length < j) : outR (f12_0 F (k + 1) b j j (recRows rows)) = some (recOut b.length rows j (spl (b.drop j))) := by
  rw [f12_0_eq, bif_neg (by rw [leI_iff]; omega), List.drop_eq_nil_of_le (by omega)]
  unfold recOut
  simp only [spl, recE, recs, recRows, List.map_nil, List.append_nil]
  rfl
theorem f12_run (F : Nat) (b : Txt) (hb : b.length ≤ 1048576) : ∀ (d k j f : Nat) (rows : List (Nat × Txt)), b.length + 1 ≤ j + d → j ≤ b.length → f ≤ j → d + 1 < k → rows.length ≤ 65536 → (∀ c ∈ (b.drop f).take (j - f), ¬ (c.toNat : Int) = 10) →
    outR (f12_0 F k b f j (recRows rows)) = some (recOut b.length rows f (spl (b.drop f)))
  | d, k + 1, j, f, rows, h1, h2, h3, h4, h5, hn => by
    obtain ⟨d, rfl⟩ : ∃ m, d = m + 1 := ⟨d - 1, by omega⟩
    obtain ⟨k, rfl⟩ : ∃ m, k = m + 1 := ⟨k - 1, by omega⟩
    rw [f12_0_eq, bif_pos (by rw [leI_iff]; omega), show inB (j : Int) b.length = decide (j < b.length) by rw [Bool.eq_iff_iff, inB_iff]; simp, wrap64 (n := (j : Int) + 1) (by omega) (by omega), wrap64 (n := (j : Int) - f) (by omega) (by omega), Int.toNat_natCast, Int.toNat_natCast,
      show (leI 0 (f : Int) && leI (f : Int) j && leI (j : Int) b.length) = true by simp only [Bool.and_eq_true, leI_iff]; omega, cond_true, recRows_len]
    have key : ∀ t ls, spl (b.drop f) = t :: ls → (b.drop f).take (j - f) = t → t.length = j - f → (∀ rows', rows'.length ≤ 65536 → outR (f12_0 F (k + 1) b ((j + 1 : Nat) : Int) ((j + 1 : Nat) : Int) (recRows rows')) = some (recOut b.length rows' (j + 1) ls)) →
        outR (bif ltI 65536 ((j : Int) - f) then Res.ret (AV.tup [AV.nil, AV.int .i64 f, AV.int .i64 5]) [AObj.arr 35 (Pay.rows 2 (recRows rows))] else bif eqI (rows.length : Int) 65536 then Res.ret (AV.tup [AV.nil, AV.int .i64 f, AV.int .i64 9]) [AObj.arr 35 (Pay.rows 2 (recRows rows))] else
          bif appFits ty35 (Pay.rows 2 (recRows rows ++ [[AV.int .i64 f, AV.str ((b.drop f).take (j - f))]])) then f12_0 F (k + 1) b ((j : Int) + 1) ((j : Int) + 1) (recRows rows ++ [[AV.int .i64 f, AV.str ((b.drop f).take (j - f))]]) else Res.stuck) = some (recOut b.length rows f (spl (b.drop f))) := by
      intro t ls e1 e2 e3 ih
      rw [e1, e2, bif_ltI]
      by_cases g1 : 65536 < t.length
      · rw [if_pos (by omega)]
        unfold recOut
        rw [recE, if_pos g1]; rfl
      rw [if_neg (by omega)]
      by_cases g2 : 65536 ≤ rows.length
      · rw [bif_pos (by rw [eqI_iff]; omega)]
        unfold recOut
        rw [recE, if_neg g1, if_pos g2]; rfl
      rw [bif_neg (by rw [eqI_iff]; omega), bif_pos (fits35 _ (by rw [List.length_append, recRows_len, List.length_singleton]; omega)), show recRows rows ++ [[AV.int .i64 (f : Int), AV.str t]] = recRows (rows ++ [(f, t)]) from (recRows_snoc rows (f, t)).symm,
        show (j : Int) + 1 = ((j + 1 : Nat) : Int) from rfl, ih _ (by rw [List.length_append, List.length_singleton]; omega), ← recOut_more _ _ _ _ _ g1 g2, show f + t.length + 1 = j + 1 by omega]
    by_cases hj : j < b.length
    · rw [bif_pos (by rw [ltI_iff]; omega), decide_eq_true hj, cond_true, show (j : Int) + 1 = ((j + 1 : Nat) : Int) from rfl]
      by_cases hc : ((b.getD j 0).toNat : Int) = 10
      · rw [show (!eqI ((b.getD j 0).toNat : Int) 10) = false by rw [Bool.not_eq_false', eqI_iff]; exact hc, cond_false, bif_neg (by rw [eqI_iff]; omega)]
        obtain ⟨e1, e2⟩ := spl_found (find_at h3 hj hn hc)
        refine key _ _ e1 rfl (by rw [List.length_take]; omega) fun rows' hr => ?_
        rw [List.drop_drop, show f + (j - f + 1) = j + 1 by omega]
        exact f12_run F b hb d (k + 1) (j + 1) (j + 1) rows' (by omega) (by omega) (by omega) (by omega) hr (by simp)
      · rw [show (!eqI ((b.getD j 0).toNat : Int) 10) = true by rw [Bool.not_eq_true', Bool.eq_false_iff, Ne, eqI_iff]; exact hc, cond_true]
        exact f12_run F b hb d (k + 1) (j + 1) f rows (by omega) (by omega) (by omega) (by omega) h5 (seg_more h3 hj hn hc)
    · have hj' : j = b.length := by omega
      rw [bif_neg (by rw [ltI_iff]; omega), bif_pos (by rw [eqI_iff]; omega)]
      by_cases hf : f = j
      · subst hf
        rw [bif_pos (by rw [eqI_iff])]
        have e : b.drop f = [] := List.drop_eq_nil_of_le (by omega)
        rw [f12_0_eq, bif_neg (by rw [leI_iff]; omega), e]
        unfold recOut
        simp only [spl, recE, recs, recRows, List.map_nil, List.append_nil]
        rfl
      · rw [bif_neg (by rw [eqI_iff]; omega)]
        have e2 : (b.drop f).take (j - f) = b.drop f := List.take_of_length_le (by rw [List.length_drop]; omega)
        rw [e2] at hn
        refine key _ [] (spl_none (find_not hn) (fun e => by have : (b.drop f).length = 0 := by rw [e]; rfl
                                                             rw [List.length_drop] at this; omega)) e2 (by rw [List.length_drop]; omega) fun rows' hr => ?_
        have := ok12_end F k b (j + 1) rows' (by omega)
        rw [List.drop_eq_nil_of_le (by omega)] at this
        exact this
theorem f12_all (F : Nat) (b : Txt) (hF : 9223372036854775807 < F) : ∃ x, outR (afun (c12 F) Try.f12 [.ro (.bytes b)] []) = some x ∧ Weak tt12 x (.tup [.ro (.rows 2 (recRows (records b).1)), .int .i64 (records b).2.1, .int .i64 (records b).2.2], []) := by
  rw [f12_eq, bif_ltI]
  by_cases hb : 1048576 < b.length
  · rw [if_pos (by omega)]
    refine ⟨_, rfl, ?_⟩
    unfold records
    rw [if_pos hb]
    exact .tup (.empty rfl (.same (.same .nil)))
  · rw [if_neg (by omega)]
    have h := f12_run F b (by omega) (b.length + 1) F 0 0 [] (by omega) (by omega) (by omega) (by omega) (by simp) (by simp)
    refine ⟨_, h, ?_⟩
    rw [List.drop_zero]
    unfold recOut records
    rw [if_neg hb, show ([] : List (Nat × Txt)).length = 0 from rfl]
    cases recE 0 0 (spl b) with
    | some x => exact .tup (.empty rfl (.same (.same .nil)))
    | none => exact .lend

theorem ok18 : PureOk Try.prog 18 go17 := by
  refine pureOk_of (c18 rounds) tt18_ok (.consE ok41 .nil) follows rfl Try.func18 (by kernel_rfl) (by kernel_rfl) ?_ ?_
  · intro R stk args ret
    unfold go17
    split
    · simp only [elim_cond]; rfl
    · rfl
  · intro args r objs h hr
    unfold go17 at h
    split at h
    · rename_i x n
      rcases bif_alt h with ⟨hf0, h⟩ | ⟨hf0, h⟩
      · cases h
        refine ⟨_, ?_, .same⟩
        rw [apure_out]
        rw [okI_out hf0, decIs_map]
        exact f18_all rounds _ n
      ·
        cases h
    · cases h

theorem ok24 : PureOk Try.prog 24 go24 := by
  refine pureOk_of (c24 rounds) tt24_ok (.cons ok47 .nil) follows rfl Try.func24 (by kernel_rfl) (by kernel_rfl) ?_ ?_
  · intro R stk args ret
    unfold go24
    split
    · simp only [elim_cond]; rfl
    · rfl
  · intro args r objs h hr
    unfold go24 at h
    split at h
    · rename_i x l
      rcases bif_alt h with ⟨hf0, h⟩ | ⟨hf0, h⟩
      · cases h
        rw [Bool.and_eq_true, ble_iff] at hf0
        have hl := hf0.2
        rw [okI_out hf0.1, List.length_map] at hl
        refine ⟨_, ?_, .same⟩
        rw [apure_out]
        rw [okI_out hf0.1, decIs_map]
        exact f24_all rounds _ l hl big
      ·
        cases h
    · cases h

theorem ok16 : PureOk Try.prog 16 go16 := by
  refine pureOk_of (c16 rounds) tt16_ok (.cons ok11 (.cons ok18 .nil)) follows rfl Try.func16 (by kernel_rfl) (by kernel_rfl) ?_ ?_
  · intro R stk args ret
    unfold go16
    split
    · rfl
    · rfl
  · intro args r objs h hr
    unfold go16 at h
    split at h
    · rename_i b n
      cases h
      refine ⟨_, ?_, .same⟩
      rw [apure_out]
      exact f16_all rounds b n
    · cases h

theorem ok12 : PureOk Try.prog 12 go11 := by
  refine pureOk_of (c12 rounds) tt12_ok .nil follows rfl Try.func12 (by kernel_rfl) (by kernel_rfl) ?_ ?_
  · intro R stk args ret
    unfold go11
    split
    · rfl
    · rfl
  · intro args r objs h hr
    unfold go11 at h
    split at h
    · rename_i b
      cases h
      exact f12_all rounds b big
    · cases h

end Go.Proofs.YtdkihlkcnnlkcaaG
