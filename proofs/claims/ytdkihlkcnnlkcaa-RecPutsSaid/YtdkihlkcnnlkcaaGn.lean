/- A part of the proof: plain laws, and what functions of the given program come to; no condition. -/
import Derived.Test.YtdkihlkcnnlkcaaGl
import Derived.Test.YtdkihlkcnnlkcaaGmYrec
namespace Go.Proofs.YtdkihlkcnnlkcaaG
open Go Go.Proofs.YtdkihlkcnnlkcaaGm
set_option maxRecDepth 100000


def go44 (R : Type) (stk : R) (args : List AV) (ret : AV → List AObj → R) : R :=
  match args with
  | [.str s] => ret (.own 0) [.arr 9 (.rows 1 [[.str s]])]
  | _ => stk

def go46 (R : Type) (stk : R) (args : List AV) (ret : AV → List AObj → R) : R :=
  match args with
  | [.agg [.str a, .str b]] => ret (.own 0) [.arr 9 (.rows 1 [[.str a], [.str b]])]
  | _ => stk

def tt44 : Tab := [(0, ty0), (1, ty1), (9, ty9), (44, ty44)]
theorem tt44_ok : TabOk Try.prog tt44 := tabOk_of_all ⟨ty0_ok, ty1_ok, ty9_ok, ty44_ok, trivial⟩
def c44 (F : Nat) : Cfg := ⟨tt44, [], F, [], [], 0⟩
theorem f44_eq (F : Nat) (a0 : List UInt8) : afun (c44 F) Try.f44 [AV.str a0] [] =
  .ret (AV.own 0) [AObj.arr 9 (Pay.rows 1 [[AV.str a0]])] := by kernel_rfl


def tt46 : Tab := [(0, ty0), (1, ty1), (2, ty2), (9, ty9), (44, ty44), (47, ty47)]
theorem tt46_ok : TabOk Try.prog tt46 := tabOk_of_all ⟨ty0_ok, ty1_ok, ty2_ok, ty9_ok, ty44_ok, ty47_ok, trivial⟩
def c46 (F : Nat) : Cfg := ⟨tt46, [], F, [], [], 0⟩
theorem f46_eq (F : Nat) (a0_0 : List UInt8) (a0_1 : List UInt8) : afun (c46 F) Try.f46 [AV.agg [AV.str a0_0, AV.str a0_1]] [] =
  .ret (AV.own 1) [AObj.var 47 [AV.str a0_0, AV.str a0_1], AObj.arr 9 (Pay.rows 1 ([[AV.str a0_0], [AV.str ByteArray.empty.data.toList]].set (1, Operand.tmp 6).fst [AV.str a0_1]))] := by kernel_rfl


theorem ok44 : PureOk Try.prog 44 go44 := by
  refine pureOk_of (c44 rounds) tt44_ok .nil follows rfl Try.func44 (by kernel_rfl) (by kernel_rfl) ?_ ?_
  · intro R stk args ret
    unfold go44
    split
    · rfl
    · rfl
  · intro args r objs h hr
    unfold go44 at h
    split at h
    · rename_i s
      cases h
      refine ⟨_, ?_, .same⟩
      rw [apure_out]
      rw [f44_eq]
      rfl
    · cases h

theorem ok46 : PureOk Try.prog 46 go46 := by
  refine pureOk_of (c46 rounds) tt46_ok .nil follows rfl Try.func46 (by kernel_rfl) (by kernel_rfl) ?_ ?_
  · intro R stk args ret
    unfold go46
    split
    · rfl
    · rfl
  · intro args r objs h hr
    unfold go46 at h
    split at h
    · rename_i a b
      cases h
      refine ⟨_, ?_, .same⟩
      rw [apure_out]
      rw [f46_eq]
      rfl
    · cases h

def tt43 : Tab := [(0, ty0), (3, ty3), (4, ty4), (5, ty5), (9, ty9), (23, ty23), (25, ty25), (44, ty44), (80, ty80), (94, ty94)]
theorem tt43_ok : TabOk Try.prog tt43 := tabOk_of_all ⟨ty0_ok, ty3_ok, ty4_ok, ty5_ok, ty9_ok, ty23_ok, ty25_ok, ty44_ok, ty80_ok, ty94_ok, trivial⟩
def c43 (F : Nat) : Cfg := ⟨tt43, [(62, .pure go62), (63, .pure go63), (44, .pure go44)], F, [(0, ⟨[2, 8, 21, 22, 23], [(8, 5)]⟩), (2, ⟨[2, 8, 21, 22, 23, 29, 30, 31], [(8, 5)]⟩)], [], 0⟩
noncomputable def f43_0 (F k : Nat) (x21 : List (List AV)) (x22 : Int) (x23 : Int) (xh0 : List UInt8) : Res := aloop (c43 F) Try.f43 0 [] k (St.mk [AV.top, AV.top, AV.fn 44 [], AV.top, AV.top, AV.top, AV.top, AV.top, AV.own 0, AV.top, AV.top, AV.top, AV.top, AV.top, AV.top, AV.top, AV.top, AV.top, AV.top, AV.top, AV.top, AV.ro (Pay.rows 1 x21), AV.int IntKind.i64 x22, AV.int IntKind.i64 x23, AV.top, AV.top, AV.top, AV.top, AV.top, AV.top, AV.top, AV.top, AV.top, AV.top, AV.top, AV.top, AV.top, AV.top, AV.top, AV.top, AV.top, AV.top, AV.top, AV.top, AV.top] [AObj.arr 5 (Pay.bytes xh0)])
noncomputable def f43_2 (F k : Nat) (g0 : Nat) (x21 : List (List AV)) (x22 : Int) (x23 : Int) (x30 : Int) (x31 : Int) (xh0 : List UInt8) (xh1 : List (List AV)) : Res := aloop (c43 F) Try.f43 2 [g0] k (St.mk [AV.top, AV.top, AV.fn 44 [], AV.top, AV.top, AV.top, AV.top, AV.top, AV.own 0, AV.top, AV.top, AV.top, AV.top, AV.top, AV.top, AV.top, AV.top, AV.top, AV.top, AV.top, AV.top, AV.ro (Pay.rows 1 x21), AV.int IntKind.i64 x22, AV.int IntKind.i64 x23, AV.top, AV.top, AV.top, AV.top, AV.top, AV.own 1, AV.int IntKind.i64 x30, AV.int IntKind.i64 x31, AV.top, AV.top, AV.top, AV.top, AV.top, AV.top, AV.top, AV.top, AV.top, AV.top, AV.top, AV.top, AV.top] [AObj.arr 5 (Pay.bytes xh0), AObj.arr 9 (Pay.rows 1 xh1)])
theorem f43_eq (F : Nat) (a0 : List UInt8) (l : List (List AV)) : afun (c43 F) Try.f43 [AV.ro (Pay.bytes a0), AV.ro (Pay.rows 1 l), AV.fn 44 []] [] =
  bif ltI 65536 ↑l.length then
    .ret (AV.tup [AV.nil, AV.int IntKind.i64 9]) []
  else
    bif (a0.length + 9).ble 140737488355328 then
      f43_0 F F l ↑l.length 0 (a0 ++ enc (IntKind.u64.wrap ↑l.length))
    else
      .stuck := by kernel_rfl
theorem f43_0_eq (F k : Nat) (x21 : List (List AV)) (x22 : Int) (x23 : Int) (xh0 : List UInt8) : f43_0 F (k + 1) x21 x22 x23 xh0 =
  bif ltI x23 x22 then
    bif inB x23 x21.length then
      bif isStr (nth (x21.getD x23.toNat []) 0) then
        f43_2 F F k x21 x22 x23 (↑[[AV.str (strOf (nth (x21.getD x23.toNat []) 0))]].length) 0 xh0 [[AV.str (strOf (nth (x21.getD x23.toNat []) 0))]]
      else
        .stuck
    else
      .stuck
  else
    .ret (AV.tup [AV.own 0, AV.int IntKind.i64 0]) [AObj.arr 5 (Pay.bytes xh0)] := by kernel_rfl
theorem f43_2_eq (F k : Nat) (g0 : Nat) (x21 : List (List AV)) (x22 : Int) (x23 : Int) (x30 : Int) (x31 : Int) (xh0 : List UInt8) (xh1 : List (List AV)) : f43_2 F (k + 1) g0 x21 x22 x23 x30 x31 xh0 xh1 =
  bif ltI x31 x30 then
    bif inB x31 xh1.length then
      bif isStr (nth (xh1.getD x31.toNat []) 0) then
        bif ltI 65536 ↑(strOf (nth (xh1.getD x31.toNat []) 0)).length then
          .ret (AV.tup [AV.nil, AV.int IntKind.i64 5]) [AObj.arr 5 (Pay.bytes xh0), AObj.arr 9 (Pay.rows 1 xh1)]
        else
          bif ((strOf (nth (xh1.getD x31.toNat []) 0)).length + 9).ble 140737488355328 then
            bif appFits ty5 (Pay.bytes (xh0 ++ encT (strOf (nth (xh1.getD x31.toNat []) 0)))) then
              f43_2 F k g0 x21 x22 x23 x30 (IntKind.i64.wrap (x31 + 1)) (xh0 ++ encT (strOf (nth (xh1.getD x31.toNat []) 0))) xh1
            else
              .stuck
          else
            .stuck
      else
        .stuck
    else
      .stuck
  else
    f43_0 F g0 x21 x22 (IntKind.i64.wrap (x23 + 1)) xh0 := by kernel_rfl


theorem f43n_eq (F : Nat) (l : List (List AV)) : afun (c43 F) Try.f43 [AV.nil, AV.ro (Pay.rows 1 l), AV.fn 44 []] [] =
  bif ltI 65536 ↑l.length then
    .ret (AV.tup [AV.nil, AV.int IntKind.i64 9]) []
  else
    f43_0 F F l ↑l.length 0 (enc (IntKind.u64.wrap ↑l.length)) := by kernel_rfl

def go43 (R : Type) (stk : R) (args : List AV) (ret : AV → List AObj → R) : R :=
  match args with
  | [.ro (.bytes b), .ro (.rows 1 l), .fn 44 []] => bif Nat.blt 65536 l.length then ret (.tup [.nil, .int .i64 9]) [] else bif longT (decRows l).flatten && okRows 1 l && Nat.ble (b.length + 9 + szT (decRows l).flatten) 140737488355328 then ret (.tup [.nil, .int .i64 5]) [] else bif okRows 1 l && Nat.ble (b.length + 9 + szT (decRows l).flatten) 140737488355328 then ret (.tup [.own 0, .int .i64 0]) [.arr 5 (.bytes (b ++ enc l.length ++ encTs (decRows l).flatten))] else stk
  | [.nil, .ro (.rows 1 l), .fn 44 []] => bif Nat.blt 65536 l.length then ret (.tup [.nil, .int .i64 9]) [] else bif longT (decRows l).flatten && okRows 1 l && Nat.ble (9 + szT (decRows l).flatten) 140737488355328 then ret (.tup [.nil, .int .i64 5]) [] else bif okRows 1 l && Nat.ble (9 + szT (decRows l).flatten) 140737488355328 then ret (.tup [.own 0, .int .i64 0]) [.arr 5 (.bytes (enc l.length ++ encTs (decRows l).flatten))] else stk
  | _ => stk

theorem f43_2_run (F g : Nat) (x21 : List (List AV)) (x22 x23 : Int) (ts : List Txt) (hl : ts.length ≤ 1000) : ∀ (d k j : Nat) (xb : List UInt8), j + d = ts.length → d < k → xb.length + szT (ts.drop j) ≤ 140737488355328 →
    outR (f43_2 F k g x21 x22 x23 ts.length j xb (ts.map fun s => [.str s])) =
      bif longT (ts.drop j) then some (.tup [.nil, .int .i64 5], []) else outR (f43_0 F g x21 x22 (IntKind.i64.wrap (x23 + 1)) (xb ++ encTs (ts.drop j)))
  | 0, k + 1, j, xb, h1, h2, h3 => by
    rw [f43_2_eq, bif_neg (by rw [ltI_iff]; omega), List.drop_eq_nil_of_le (by omega)]
    simp [longT, encTs]
  | d + 1, k + 1, j, xb, h1, h2, h3 => by
    have hj : j < ts.length := by omega
    have e : (ts.map fun s => [AV.str s]).getD j [] = [.str (ts.getD j [])] := by simp [List.getD, hj]
    rw [drop_getD' ts j [] hj] at h3 ⊢
    rw [f43_2_eq, bif_pos (by rw [ltI_iff]; omega), List.length_map, bif_pos (by rw [inB_iff]; omega), show (j : Int).toNat = j by omega, e]
    generalize ts.getD j [] = s at h3
    rw [szT_cons] at h3
    have hs := encT_len s
    rw [longT_cons, show nth [AV.str s] 0 = .str s from rfl, bif_pos (c := isStr _) rfl, show strOf (.str s) = s from rfl, bif_ltI]
    by_cases g1 : (65536 : Int) < s.length
    · rw [if_pos g1, show Nat.blt 65536 s.length = true by rw [blt_iff]; omega]
      rfl
    · rw [if_neg g1, show Nat.blt 65536 s.length = false by rw [Bool.eq_false_iff, Ne, blt_iff]; omega, Bool.false_or, bif_pos (by rw [ble_iff]; omega), bif_pos (by rw [fits5, List.length_append]; omega), wrap64 (n := (j : Int) + 1) (by omega) (by omega),
        show (j : Int) + 1 = ((j + 1 : Nat) : Int) by omega, f43_2_run F g x21 x22 x23 ts hl d k (j + 1) (xb ++ encT s) (by omega) (by omega) (by rw [List.length_append]; omega)]
      have e2 : encTs (s :: ts.drop (j + 1)) = encT s ++ encTs (ts.drop (j + 1)) := by simp [encTs]
      rw [e2, List.append_assoc]
theorem f43_0_run (F : Nat) (tss : List (List Txt)) (hn : ∀ ts ∈ tss, ts.length = 1) (hl : tss.length ≤ 65536) (hF : 1000 ≤ F) : ∀ (d k j : Nat) (xb : List UInt8), j + d = tss.length → d < k → xb.length + szT (tss.drop j).flatten ≤ 140737488355328 →
    outR (f43_0 F k (tss.map strRow) tss.length j xb) =
      bif longT (tss.drop j).flatten then some (.tup [.nil, .int .i64 5], []) else some (.tup [.own 0, .int .i64 0], [.arr 5 (.bytes (xb ++ encTs (tss.drop j).flatten))])
  | 0, k + 1, j, xb, h1, h2, h3 => by
    rw [f43_0_eq, bif_neg (by rw [ltI_iff]; omega), List.drop_eq_nil_of_le (by omega)]
    simp only [List.flatten_nil, longT, encTs, List.any_nil, List.flatMap_nil, List.append_nil, cond_false]
    rfl
  | d + 1, k + 1, j, xb, h1, h2, h3 => by
    have hj : j < tss.length := by omega
    have hm : (tss.getD j []).length = 1 := hn _ (by rw [List.getD, List.getElem?_eq_getElem hj]; exact List.getElem_mem hj)
    have ih := f43_0_run F tss hn hl hF d k (j + 1)
    rw [drop_getD' tss j [] hj] at h3 ⊢
    rw [f43_0_eq, bif_pos (by rw [ltI_iff]; omega), List.length_map, bif_pos (by rw [inB_iff]; omega), show (j : Int).toNat = j by omega, rows_getD tss j hj]
    generalize tss.getD j [] = ts at h3 hm
    rw [List.flatten_cons, szT_app] at h3

    obtain ⟨s, rfl⟩ := List.length_eq_one_iff.1 hm
    rw [show nth (strRow [s]) 0 = .str s from rfl, bif_pos (c := isStr _) rfl, show strOf (.str s) = s from rfl]
    have key := f43_2_run F k (tss.map strRow) tss.length j [s] (by simp) 1 F 0 xb rfl (by omega) (by rw [List.drop_zero]; omega)
    rw [List.drop_zero] at key
    refine key.trans ?_
    have hs := encTs_len [s]
    rw [wrap64 (n := (j : Int) + 1) (by omega) (by omega), show (j : Int) + 1 = ((j + 1 : Nat) : Int) by omega, ih _ (by omega) (by omega) (by rw [List.length_append]; omega), List.flatten_cons, longT_app, encTs_app, List.append_assoc]
    cases longT [s] <;> rfl

theorem ok43 : PureOk Try.prog 43 go43 := by
  refine pureOk_of (c43 rounds) tt43_ok (.cons ok62 (.cons ok63 (.cons ok44 .nil))) follows rfl Try.func43 (by kernel_rfl) (by kernel_rfl) ?_ ?_
  · intro R stk args ret
    unfold go43
    split
    · simp only [elim_cond]; rfl
    · simp only [elim_cond]; rfl
    · rfl
  · intro args r objs h hr
    unfold go43 at h
    split at h
    · rename_i b l
      rcases bif_alt h with ⟨hf0, h⟩ | ⟨hf0, h⟩
      · cases h
        rw [blt_iff] at hf0
        refine ⟨_, ?_, .same⟩
        rw [apure_out]
        rw [f43_eq, bif_ltI, if_pos (by omega)]
        rfl
      ·
        rcases bif_alt h with ⟨hf1, h⟩ | ⟨hf1, h⟩
        · cases h
          rw [Bool.eq_false_iff, Ne, blt_iff] at hf0
          have he := be_len (l.length : Int)
          simp only [Bool.and_eq_true] at hf1
          obtain ⟨⟨h1, h2⟩, h3⟩ := hf1
          rw [ble_iff] at h3
          obtain ⟨e1, e2⟩ := okRows_out h2
          have hlen : (decRows l).length = l.length := List.length_map _
          refine ⟨_, ?_, .same⟩
          rw [apure_out]
          rw [f43_eq, bif_ltI, if_neg (by omega), wrapu64 (by omega) (by omega), bif_pos (by rw [ble_iff]; omega)]
          have key := f43_0_run rounds (decRows l) e2 (by omega) (by unfold rounds; omega) (decRows l).length rounds 0 (b ++ enc l.length) (by omega) (by unfold rounds; omega) (by rw [List.drop_zero]; rw [List.length_append]; omega)
          rw [List.drop_zero, ← e1, hlen, h1, cond_true] at key
          exact key
        ·
          rcases bif_alt h with ⟨hf2, h⟩ | ⟨hf2, h⟩
          · cases h
            rw [Bool.eq_false_iff, Ne, blt_iff] at hf0
            have he := be_len (l.length : Int)
            simp only [Bool.and_eq_true] at hf2
            obtain ⟨h2, h3⟩ := hf2
            rw [h2, h3, Bool.and_true, Bool.and_true] at hf1
            rw [ble_iff] at h3
            obtain ⟨e1, e2⟩ := okRows_out h2
            have hlen : (decRows l).length = l.length := List.length_map _
            refine ⟨_, ?_, .same⟩
            rw [apure_out]
            rw [f43_eq, bif_ltI, if_neg (by omega), wrapu64 (by omega) (by omega), bif_pos (by rw [ble_iff]; omega)]
            have key := f43_0_run rounds (decRows l) e2 (by omega) (by unfold rounds; omega) (decRows l).length rounds 0 (b ++ enc l.length) (by omega) (by unfold rounds; omega) (by rw [List.drop_zero]; rw [List.length_append]; omega)
            rw [List.drop_zero, ← e1, hlen, hf1, cond_false] at key
            exact key
          ·
            cases h
    · rename_i l
      rcases bif_alt h with ⟨hf0, h⟩ | ⟨hf0, h⟩
      · cases h
        rw [blt_iff] at hf0
        refine ⟨_, ?_, .same⟩
        rw [apure_out]
        rw [f43n_eq, bif_ltI, if_pos (by omega)]
        rfl
      ·
        rcases bif_alt h with ⟨hf1, h⟩ | ⟨hf1, h⟩
        · cases h
          rw [Bool.eq_false_iff, Ne, blt_iff] at hf0
          have he := be_len (l.length : Int)
          simp only [Bool.and_eq_true] at hf1
          obtain ⟨⟨h1, h2⟩, h3⟩ := hf1
          rw [ble_iff] at h3
          obtain ⟨e1, e2⟩ := okRows_out h2
          have hlen : (decRows l).length = l.length := List.length_map _
          refine ⟨_, ?_, .same⟩
          rw [apure_out]
          rw [f43n_eq, bif_ltI, if_neg (by omega), wrapu64 (by omega) (by omega)]
          have key := f43_0_run rounds (decRows l) e2 (by omega) (by unfold rounds; omega) (decRows l).length rounds 0 (enc l.length) (by omega) (by unfold rounds; omega) (by rw [List.drop_zero]; omega)
          rw [List.drop_zero, ← e1, hlen, h1, cond_true] at key
          exact key
        ·
          rcases bif_alt h with ⟨hf2, h⟩ | ⟨hf2, h⟩
          · cases h
            rw [Bool.eq_false_iff, Ne, blt_iff] at hf0
            have he := be_len (l.length : Int)
            simp only [Bool.and_eq_true] at hf2
            obtain ⟨h2, h3⟩ := hf2
            rw [h2, h3, Bool.and_true, Bool.and_true] at hf1
            rw [ble_iff] at h3
            obtain ⟨e1, e2⟩ := okRows_out h2
            have hlen : (decRows l).length = l.length := List.length_map _
            refine ⟨_, ?_, .same⟩
            rw [apure_out]
            rw [f43n_eq, bif_ltI, if_neg (by omega), wrapu64 (by omega) (by omega)]
            have key := f43_0_run rounds (decRows l) e2 (by omega) (by unfold rounds; omega) (decRows l).length rounds 0 (enc l.length) (by omega) (by unfold rounds; omega) (by rw [List.drop_zero]; omega)
            rw [List.drop_zero, ← e1, hlen, hf1, cond_false] at key
            exact key
          ·
            cases h
    · cases h

def tt45 : Tab := [(0, ty0), (3, ty3), (4, ty4), (5, ty5), (9, ty9), (23, ty23), (25, ty25), (44, ty44), (47, ty47), (48, ty48), (82, ty82), (94, ty94)]
theorem tt45_ok : TabOk Try.prog tt45 := tabOk_of_all ⟨ty0_ok, ty3_ok, ty4_ok, ty5_ok, ty9_ok, ty23_ok, ty25_ok, ty44_ok, ty47_ok, ty48_ok, ty82_ok, ty94_ok, trivial⟩
def c45 (F : Nat) : Cfg := ⟨tt45, [(62, .pure go62), (63, .pure go63), (46, .pure go46)], F, [(0, ⟨[2, 8, 21, 22, 23], [(8, 5)]⟩), (2, ⟨[2, 8, 21, 22, 23, 29, 30, 31], [(8, 5)]⟩)], [], 0⟩
noncomputable def f45_0 (F k : Nat) (x21 : List (List AV)) (x22 : Int) (x23 : Int) (xh0 : List UInt8) : Res := aloop (c45 F) Try.f45 0 [] k (St.mk [AV.top, AV.top, AV.fn 46 [], AV.top, AV.top, AV.top, AV.top, AV.top, AV.own 0, AV.top, AV.top, AV.top, AV.top, AV.top, AV.top, AV.top, AV.top, AV.top, AV.top, AV.top, AV.top, AV.ro (Pay.rows 2 x21), AV.int IntKind.i64 x22, AV.int IntKind.i64 x23, AV.top, AV.top, AV.top, AV.top, AV.top, AV.top, AV.top, AV.top, AV.top, AV.top, AV.top, AV.top, AV.top, AV.top, AV.top, AV.top, AV.top, AV.top, AV.top, AV.top, AV.top] [AObj.arr 5 (Pay.bytes xh0)])
noncomputable def f45_2 (F k : Nat) (g0 : Nat) (x21 : List (List AV)) (x22 : Int) (x23 : Int) (x30 : Int) (x31 : Int) (xh0 : List UInt8) (xh1 : List (List AV)) : Res := aloop (c45 F) Try.f45 2 [g0] k (St.mk [AV.top, AV.top, AV.fn 46 [], AV.top, AV.top, AV.top, AV.top, AV.top, AV.own 0, AV.top, AV.top, AV.top, AV.top, AV.top, AV.top, AV.top, AV.top, AV.top, AV.top, AV.top, AV.top, AV.ro (Pay.rows 2 x21), AV.int IntKind.i64 x22, AV.int IntKind.i64 x23, AV.top, AV.top, AV.top, AV.top, AV.top, AV.own 1, AV.int IntKind.i64 x30, AV.int IntKind.i64 x31, AV.top, AV.top, AV.top, AV.top, AV.top, AV.top, AV.top, AV.top, AV.top, AV.top, AV.top, AV.top, AV.top] [AObj.arr 5 (Pay.bytes xh0), AObj.arr 9 (Pay.rows 1 xh1)])
theorem f45_eq (F : Nat) (a0 : List UInt8) (l : List (List AV)) : afun (c45 F) Try.f45 [AV.ro (Pay.bytes a0), AV.ro (Pay.rows 2 l), AV.fn 46 []] [] =
  bif ltI 65536 ↑l.length then
    .ret (AV.tup [AV.nil, AV.int IntKind.i64 9]) []
  else
    bif (a0.length + 9).ble 140737488355328 then
      f45_0 F F l ↑l.length 0 (a0 ++ enc (IntKind.u64.wrap ↑l.length))
    else
      .stuck := by kernel_rfl
theorem f45_0_eq (F k : Nat) (x21 : List (List AV)) (x22 : Int) (x23 : Int) (xh0 : List UInt8) : f45_0 F (k + 1) x21 x22 x23 xh0 =
  bif ltI x23 x22 then
    bif inB x23 x21.length then
      bif isStr (nth (List.take 2 (List.drop 0 (x21.getD x23.toNat []))) 0) then
        bif isStr (nth (List.take 2 (List.drop 0 (x21.getD x23.toNat []))) (0 + 1)) then
          f45_2 F F k x21 x22 x23 (↑[[AV.str (strOf (nth (List.take 2 (List.drop 0 (x21.getD x23.toNat []))) 0))], [AV.str (strOf (nth (List.take 2 (List.drop 0 (x21.getD x23.toNat []))) (0 + 1)))]].length) 0 xh0 [[AV.str (strOf (nth (List.take 2 (List.drop 0 (x21.getD x23.toNat []))) 0))], [AV.str (strOf (nth (List.take 2 (List.drop 0 (x21.getD x23.toNat []))) (0 + 1)))]]
        else
          .stuck
      else
        .stuck
    else
      .stuck
  else
    .ret (AV.tup [AV.own 0, AV.int IntKind.i64 0]) [AObj.arr 5 (Pay.bytes xh0)] := by kernel_rfl
theorem f45_2_eq (F k : Nat) (g0 : Nat) (x21 : List (List AV)) (x22 : Int) (x23 : Int) (x30 : Int) (x31 : Int) (xh0 : List UInt8) (xh1 : List (List AV)) : f45_2 F (k + 1) g0 x21 x22 x23 x30 x31 xh0 xh1 =
  bif ltI x31 x30 then
    bif inB x31 xh1.length then
      bif isStr (nth (xh1.getD x31.toNat []) 0) then
        bif ltI 65536 ↑(strOf (nth (xh1.getD x31.toNat []) 0)).length then
          .ret (AV.tup [AV.nil, AV.int IntKind.i64 5]) [AObj.arr 5 (Pay.bytes xh0), AObj.arr 9 (Pay.rows 1 xh1)]
        else
          bif ((strOf (nth (xh1.getD x31.toNat []) 0)).length + 9).ble 140737488355328 then
            bif appFits ty5 (Pay.bytes (xh0 ++ encT (strOf (nth (xh1.getD x31.toNat []) 0)))) then
              f45_2 F k g0 x21 x22 x23 x30 (IntKind.i64.wrap (x31 + 1)) (xh0 ++ encT (strOf (nth (xh1.getD x31.toNat []) 0))) xh1
            else
              .stuck
          else
            .stuck
      else
        .stuck
    else
      .stuck
  else
    f45_0 F g0 x21 x22 (IntKind.i64.wrap (x23 + 1)) xh0 := by kernel_rfl


theorem f45n_eq (F : Nat) (l : List (List AV)) : afun (c45 F) Try.f45 [AV.nil, AV.ro (Pay.rows 2 l), AV.fn 46 []] [] =
  bif ltI 65536 ↑l.length then
    .ret (AV.tup [AV.nil, AV.int IntKind.i64 9]) []
  else
    f45_0 F F l ↑l.length 0 (enc (IntKind.u64.wrap ↑l.length)) := by kernel_rfl

def go45 (R : Type) (stk : R) (args : List AV) (ret : AV → List AObj → R) : R :=
  match args with
  | [.ro (.bytes b), .ro (.rows 2 l), .fn 46 []] => bif Nat.blt 65536 l.length then ret (.tup [.nil, .int .i64 9]) [] else bif longT (decRows l).flatten && okRows 2 l && Nat.ble (b.length + 9 + szT (decRows l).flatten) 140737488355328 then ret (.tup [.nil, .int .i64 5]) [] else bif okRows 2 l && Nat.ble (b.length + 9 + szT (decRows l).flatten) 140737488355328 then ret (.tup [.own 0, .int .i64 0]) [.arr 5 (.bytes (b ++ enc l.length ++ encTs (decRows l).flatten))] else stk
  | [.nil, .ro (.rows 2 l), .fn 46 []] => bif Nat.blt 65536 l.length then ret (.tup [.nil, .int .i64 9]) [] else bif longT (decRows l).flatten && okRows 2 l && Nat.ble (9 + szT (decRows l).flatten) 140737488355328 then ret (.tup [.nil, .int .i64 5]) [] else bif okRows 2 l && Nat.ble (9 + szT (decRows l).flatten) 140737488355328 then ret (.tup [.own 0, .int .i64 0]) [.arr 5 (.bytes (enc l.length ++ encTs (decRows l).flatten))] else stk
  | _ => stk

theorem f45_2_run (F g : Nat) (x21 : List (List AV)) (x22 x23 : Int) (ts : List Txt) (hl : ts.length ≤ 1000) : ∀ (d k j : Nat) (xb : List UInt8), j + d = ts.length → d < k → xb.length + szT (ts.drop j) ≤ 140737488355328 →
    outR (f45_2 F k g x21 x22 x23 ts.length j xb (ts.map fun s => [.str s])) =
      bif longT (ts.drop j) then some (.tup [.nil, .int .i64 5], []) else outR (f45_0 F g x21 x22 (IntKind.i64.wrap (x23 + 1)) (xb ++ encTs (ts.drop j)))
  | 0, k + 1, j, xb, h1, h2, h3 => by
    rw [f45_2_eq, bif_neg (by rw [ltI_iff]; omega), List.drop_eq_nil_of_le (by omega)]
    simp [longT, encTs]
  | d + 1, k + 1, j, xb, h1, h2, h3 => by
    have hj : j < ts.length := by omega
    have e : (ts.map fun s => [AV.str s]).getD j [] = [.str (ts.getD j [])] := by simp [List.getD, hj]
    rw [drop_getD' ts j [] hj] at h3 ⊢
    rw [f45_2_eq, bif_pos (by rw [ltI_iff]; omega), List.length_map, bif_pos (by rw [inB_iff]; omega), show (j : Int).toNat = j by omega, e]
    generalize ts.getD j [] = s at h3
    rw [szT_cons] at h3
    have hs := encT_len s
    rw [longT_cons, show nth [AV.str s] 0 = .str s from rfl, bif_pos (c := isStr _) rfl, show strOf (.str s) = s from rfl, bif_ltI]
    by_cases g1 : (65536 : Int) < s.length
    · rw [if_pos g1, show Nat.blt 65536 s.length = true by rw [blt_iff]; omega]
      rfl
    · rw [if_neg g1, show Nat.blt 65536 s.length = false by rw [Bool.eq_false_iff, Ne, blt_iff]; omega, Bool.false_or, bif_pos (by rw [ble_iff]; omega), bif_pos (by rw [fits5, List.length_append]; omega), wrap64 (n := (j : Int) + 1) (by omega) (by omega),
        show (j : Int) + 1 = ((j + 1 : Nat) : Int) by omega, f45_2_run F g x21 x22 x23 ts hl d k (j + 1) (xb ++ encT s) (by omega) (by omega) (by rw [List.length_append]; omega)]
      have e2 : encTs (s :: ts.drop (j + 1)) = encT s ++ encTs (ts.drop (j + 1)) := by simp [encTs]
      rw [e2, List.append_assoc]
theorem f45_0_run (F : Nat) (tss : List (List Txt)) (hn : ∀ ts ∈ tss, ts.length = 2) (hl : tss.length ≤ 65536) (hF : 1000 ≤ F) : ∀ (d k j : Nat) (xb : List UInt8), j + d = tss.length → d < k → xb.length + szT (tss.drop j).flatten ≤ 140737488355328 →
    outR (f45_0 F k (tss.map strRow) tss.length j xb) =
      bif longT (tss.drop j).flatten then some (.tup [.nil, .int .i64 5], []) else some (.tup [.own 0, .int .i64 0], [.arr 5 (.bytes (xb ++ encTs (tss.drop j).flatten))])
  | 0, k + 1, j, xb, h1, h2, h3 => by
    rw [f45_0_eq, bif_neg (by rw [ltI_iff]; omega), List.drop_eq_nil_of_le (by omega)]
    simp only [List.flatten_nil, longT, encTs, List.any_nil, List.flatMap_nil, List.append_nil, cond_false]
    rfl
  | d + 1, k + 1, j, xb, h1, h2, h3 => by
    have hj : j < tss.length := by omega
    have hm : (tss.getD j []).length = 2 := hn _ (by rw [List.getD, List.getElem?_eq_getElem hj]; exact List.getElem_mem hj)
    have ih := f45_0_run F tss hn hl hF d k (j + 1)
    rw [drop_getD' tss j [] hj] at h3 ⊢
    rw [f45_0_eq, bif_pos (by rw [ltI_iff]; omega), List.length_map, bif_pos (by rw [inB_iff]; omega), show (j : Int).toNat = j by omega, rows_getD tss j hj]
    generalize tss.getD j [] = ts at h3 hm
    rw [List.flatten_cons, szT_app] at h3

    obtain ⟨a, b, rfl⟩ : ∃ a b, ts = [a, b] := by match ts, hm with | [a, b], _ => exact ⟨a, b, rfl⟩
    rw [show List.take 2 (List.drop 0 (strRow [a, b])) = [.str a, .str b] from rfl, show nth [AV.str a, AV.str b] 0 = .str a from rfl, show nth [AV.str a, AV.str b] (0 + 1) = .str b from rfl, bif_pos (c := isStr _) rfl, bif_pos (c := isStr _) rfl, show strOf (.str a) = a from rfl, show strOf (.str b) = b from rfl]
    have key := f45_2_run F k (tss.map strRow) tss.length j [a, b] (by simp) 2 F 0 xb rfl (by omega) (by rw [List.drop_zero]; omega)
    rw [List.drop_zero] at key
    refine key.trans ?_
    have hs := encTs_len [a, b]
    rw [wrap64 (n := (j : Int) + 1) (by omega) (by omega), show (j : Int) + 1 = ((j + 1 : Nat) : Int) by omega, ih _ (by omega) (by omega) (by rw [List.length_append]; omega), List.flatten_cons, longT_app, encTs_app, List.append_assoc]
    cases longT [a, b] <;> rfl

theorem ok45 : PureOk Try.prog 45 go45 := by
  refine pureOk_of (c45 rounds) tt45_ok (.cons ok62 (.cons ok63 (.cons ok46 .nil))) follows rfl Try.func45 (by kernel_rfl) (by kernel_rfl) ?_ ?_
  · intro R stk args ret
    unfold go45
    split
    · simp only [elim_cond]; rfl
    · simp only [elim_cond]; rfl
    · rfl
  · intro args r objs h hr
    unfold go45 at h
    split at h
    · rename_i b l
      rcases bif_alt h with ⟨hf0, h⟩ | ⟨hf0, h⟩
      · cases h
        rw [blt_iff] at hf0
        refine ⟨_, ?_, .same⟩
        rw [apure_out]
        rw [f45_eq, bif_ltI, if_pos (by omega)]
        rfl
      ·
        rcases bif_alt h with ⟨hf1, h⟩ | ⟨hf1, h⟩
        · cases h
          rw [Bool.eq_false_iff, Ne, blt_iff] at hf0
          have he := be_len (l.length : Int)
          simp only [Bool.and_eq_true] at hf1
          obtain ⟨⟨h1, h2⟩, h3⟩ := hf1
          rw [ble_iff] at h3
          obtain ⟨e1, e2⟩ := okRows_out h2
          have hlen : (decRows l).length = l.length := List.length_map _
          refine ⟨_, ?_, .same⟩
          rw [apure_out]
          rw [f45_eq, bif_ltI, if_neg (by omega), wrapu64 (by omega) (by omega), bif_pos (by rw [ble_iff]; omega)]
          have key := f45_0_run rounds (decRows l) e2 (by omega) (by unfold rounds; omega) (decRows l).length rounds 0 (b ++ enc l.length) (by omega) (by unfold rounds; omega) (by rw [List.drop_zero]; rw [List.length_append]; omega)
          rw [List.drop_zero, ← e1, hlen, h1, cond_true] at key
          exact key
        ·
          rcases bif_alt h with ⟨hf2, h⟩ | ⟨hf2, h⟩
          · cases h
            rw [Bool.eq_false_iff, Ne, blt_iff] at hf0
            have he := be_len (l.length : Int)
            simp only [Bool.and_eq_true] at hf2
            obtain ⟨h2, h3⟩ := hf2
            rw [h2, h3, Bool.and_true, Bool.and_true] at hf1
            rw [ble_iff] at h3
            obtain ⟨e1, e2⟩ := okRows_out h2
            have hlen : (decRows l).length = l.length := List.length_map _
            refine ⟨_, ?_, .same⟩
            rw [apure_out]
            rw [f45_eq, bif_ltI, if_neg (by omega), wrapu64 (by omega) (by omega), bif_pos (by rw [ble_iff]; omega)]
            have key := f45_0_run rounds (decRows l) e2 (by omega) (by unfold rounds; omega) (decRows l).length rounds 0 (b ++ enc l.length) (by omega) (by unfold rounds; omega) (by rw [List.drop_zero]; rw [List.length_append]; omega)
            rw [List.drop_zero, ← e1, hlen, hf1, cond_false] at key
            exact key
          ·
            cases h
    · rename_i l
      rcases bif_alt h with ⟨hf0, h⟩ | ⟨hf0, h⟩
      · cases h
        rw [blt_iff] at hf0
        refine ⟨_, ?_, .same⟩
        rw [apure_out]
        rw [f45n_eq, bif_ltI, if_pos (by omega)]
        rfl
      ·
        rcases bif_alt h with ⟨hf1, h⟩ | ⟨hf1, h⟩
        · cases h
          rw [Bool.eq_false_iff, Ne, blt_iff] at hf0
          have he := be_len (l.length : Int)
          simp only [Bool.and_eq_true] at hf1
          obtain ⟨⟨h1, h2⟩, h3⟩ := hf1
          rw [ble_iff] at h3
          obtain ⟨e1, e2⟩ := okRows_out h2
          have hlen : (decRows l).length = l.length := List.length_map _
          refine ⟨_, ?_, .same⟩
          rw [apure_out]
          rw [f45n_eq, bif_ltI, if_neg (by omega), wrapu64 (by omega) (by omega)]
          have key := f45_0_run rounds (decRows l) e2 (by omega) (by unfold rounds; omega) (decRows l).length rounds 0 (enc l.length) (by omega) (by unfold rounds; omega) (by rw [List.drop_zero]; omega)
          rw [List.drop_zero, ← e1, hlen, h1, cond_true] at key
          exact key
        ·
          rcases bif_alt h with ⟨hf2, h⟩ | ⟨hf2, h⟩
          · cases h
            rw [Bool.eq_false_iff, Ne, blt_iff] at hf0
            have he := be_len (l.length : Int)
            simp only [Bool.and_eq_true] at hf2
            obtain ⟨h2, h3⟩ := hf2
            rw [h2, h3, Bool.and_true, Bool.and_true] at hf1
            rw [ble_iff] at h3
            obtain ⟨e1, e2⟩ := okRows_out h2
            have hlen : (decRows l).length = l.length := List.length_map _
            refine ⟨_, ?_, .same⟩
            rw [apure_out]
            rw [f45n_eq, bif_ltI, if_neg (by omega), wrapu64 (by omega) (by omega)]
            have key := f45_0_run rounds (decRows l) e2 (by omega) (by unfold rounds; omega) (decRows l).length rounds 0 (enc l.length) (by omega) (by unfold rounds; omega) (by rw [List.drop_zero]; omega)
            rw [List.drop_zero, ← e1, hlen, hf1, cond_false] at key
            exact key
          ·
            cases h
    · cases h

end Go.Proofs.YtdkihlkcnnlkcaaG
