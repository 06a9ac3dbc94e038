/- A part of the proof: plain laws, and what functions of the given program come to; no condition. -/
import Derived.Test.YtdkihlkcnnlkcaaGo
import Derived.Test.YtdkihlkcnnlkcaaGcmp
namespace Go.Proofs.YtdkihlkcnnlkcaaG
open Go Go.Proofs.YtdkihlkcnnlkcaaGm
set_option maxRecDepth 100000


def go54 (R : Type) (stk : R) (args : List AV) (ret : AV → List AObj → R) : R :=
  match args with
  | [.ro (.rows 1 l)] => bif okRows 1 l && Nat.blt 0 l.length then ret (.str (txtAt l 0)) [] else stk
  | _ => stk

def go57 (R : Type) (stk : R) (args : List AV) (ret : AV → List AObj → R) : R :=
  match args with
  | [.ro (.rows 1 l)] => bif okRows 1 l && Nat.blt 1 l.length then ret (.agg [.str (txtAt l 0), .str (txtAt l 1)]) [] else stk
  | _ => stk

def go53 (R : Type) (stk : R) (args : List AV) (ret : AV → List AObj → R) : R :=
  match args with
  | [.ro (.bytes b), .int .i64 i, .int .i64 1, .fn 54 []] => ret (.tup [.ro (.rows 1 (oneR (getL b i 1).1)), .int .i64 (getL b i 1).2.1, .int .i64 (getL b i 1).2.2]) []
  | _ => stk

def go56 (R : Type) (stk : R) (args : List AV) (ret : AV → List AObj → R) : R :=
  match args with
  | [.ro (.bytes b), .int .i64 i, .int .i64 2, .fn 57 []] => ret (.tup [.ro (.rows 2 (pairR (getL b i 2).1)), .int .i64 (getL b i 2).2.1, .int .i64 (getL b i 2).2.2]) []
  | _ => stk

def go31 (R : Type) (stk : R) (args : List AV) (ret : AV → List AObj → R) : R :=
  match args with
  | [.ro (.bytes b), .int .i64 i] => ret (.tup [.ro (.rows 1 (oneR (getL b i 1).1)), .int .i64 (getL b i 1).2.1, .int .i64 (getL b i 1).2.2]) []
  | _ => stk

def go33 (R : Type) (stk : R) (args : List AV) (ret : AV → List AObj → R) : R :=
  match args with
  | [.ro (.bytes b), .int .i64 i] => ret (.tup [.ro (.rows 2 (pairR (getL b i 2).1)), .int .i64 (getL b i 2).2.1, .int .i64 (getL b i 2).2.2]) []
  | _ => stk

def go55 (R : Type) (stk : R) (args : List AV) (ret : AV → List AObj → R) : R :=
  match args with
  | [.ro (.bytes b), .int .i64 i, .int .i64 1] => ret (.tup [.ro (.rows 1 (oneR (getL b i 1).1)), .int .i64 (getL b i 1).2.1, .int .i64 (getL b i 1).2.2]) []
  | [.ro (.bytes b), .int .i64 i, .int .i64 2] => ret (.tup [.ro (.rows 1 (oneR (getL b i 2).1)), .int .i64 (getL b i 2).2.1, .int .i64 (getL b i 2).2.2]) []
  | _ => stk

def tt54 : Tab := [(0, ty0), (9, ty9), (44, ty44)]
theorem tt54_ok : TabOk Try.prog tt54 := tabOk_of_all ⟨ty0_ok, ty9_ok, ty44_ok, trivial⟩
def c54 (F : Nat) : Cfg := ⟨tt54, [], F, [], [], 0⟩
theorem f54_eq (F : Nat) (l : List (List AV)) : afun (c54 F) Try.f54 [AV.ro (Pay.rows 1 l)] [] =
  bif inB 0 l.length then
    bif isStr (nth (l.getD (Int.toNat 0) []) 0) then
      .ret (AV.str (strOf (nth (l.getD (Int.toNat 0) []) 0))) []
    else
      .stuck
  else
    .stuck := by kernel_rfl


def tt57 : Tab := [(0, ty0), (9, ty9), (44, ty44), (47, ty47)]
theorem tt57_ok : TabOk Try.prog tt57 := tabOk_of_all ⟨ty0_ok, ty9_ok, ty44_ok, ty47_ok, trivial⟩
def c57 (F : Nat) : Cfg := ⟨tt57, [], F, [], [], 0⟩
theorem f57_eq (F : Nat) (l : List (List AV)) : afun (c57 F) Try.f57 [AV.ro (Pay.rows 1 l)] [] =
  bif inB 0 l.length then
    bif isStr (nth (l.getD (Int.toNat 0) []) 0) then
      bif inB 1 l.length then
        bif isStr (nth (l.getD (Int.toNat 1) []) 0) then
          .ret (AV.agg [AV.str (strOf (nth (l.getD (Int.toNat 0) []) 0)), AV.str (strOf (nth (l.getD (Int.toNat 1) []) 0))]) [AObj.var 47 [AV.str (strOf (nth (l.getD (Int.toNat 0) []) 0)), AV.str (strOf (nth (l.getD (Int.toNat 1) []) 0))]]
        else
          .stuck
      else
        .stuck
    else
      .stuck
  else
    .stuck := by kernel_rfl


theorem okRows_at {n : Nat} {l : List (List AV)} (h : okRows 1 l = true) (hn : n < l.length) : isStr (nth (l.getD n []) 0) = true := by
  obtain ⟨e, h1⟩ := okRows_out h
  have hl : (decRows l).length = l.length := List.length_map _
  have hm : (decRows l).getD n [] ∈ decRows l := by rw [List.getD, List.getElem?_eq_getElem (by omega)]; exact List.getElem_mem _
  have h2 := h1 _ hm
  rw [e, rows_getD _ _ (by omega)]
  obtain ⟨s, hs⟩ := List.length_eq_one_iff.1 h2
  rw [hs]; rfl

theorem ok54 : PureOk Try.prog 54 go54 := by
  refine pureOk_of (c54 rounds) tt54_ok .nil follows rfl Try.func54 (by kernel_rfl) (by kernel_rfl) ?_ ?_
  · intro R stk args ret
    unfold go54
    split
    · simp only [elim_cond]; rfl
    · rfl
  · intro args r objs h hr
    unfold go54 at h
    split at h
    · rename_i l
      rcases bif_alt h with ⟨hf0, h⟩ | ⟨hf0, h⟩
      · cases h
        simp only [Bool.and_eq_true, blt_iff] at hf0
        obtain ⟨h1, h2⟩ := hf0
        refine ⟨_, ?_, .same⟩
        rw [apure_out]
        rw [f54_eq, bif_pos (by rw [inB_iff]; omega), show Int.toNat 0 = 0 from rfl, bif_pos (okRows_at h1 h2)]
        rfl
      ·
        cases h
    · cases h

theorem ok57 : PureOk Try.prog 57 go57 := by
  refine pureOk_of (c57 rounds) tt57_ok .nil follows rfl Try.func57 (by kernel_rfl) (by kernel_rfl) ?_ ?_
  · intro R stk args ret
    unfold go57
    split
    · simp only [elim_cond]; rfl
    · rfl
  · intro args r objs h hr
    unfold go57 at h
    split at h
    · rename_i l
      rcases bif_alt h with ⟨hf0, h⟩ | ⟨hf0, h⟩
      · cases h
        simp only [Bool.and_eq_true, blt_iff] at hf0
        obtain ⟨h1, h2⟩ := hf0
        refine ⟨_, ?_, .same⟩
        rw [apure_out]
        rw [f57_eq, bif_pos (by rw [inB_iff]; omega), show Int.toNat 0 = 0 from rfl, show Int.toNat 1 = 1 from rfl, bif_pos (okRows_at h1 (by omega)), bif_pos (by rw [inB_iff]; omega), bif_pos (okRows_at h1 h2)]
        rfl
      ·
        cases h
    · cases h

theorem fits9 {l : List (List AV)} : appFits ty9 (.rows 1 l) = true ↔ l.length * 16 ≤ 140737488355328 := by
  show Nat.ble (l.length * 16) 140737488355328 = true ↔ _
  exact ble_iff
theorem fits47 {l : List (List AV)} : appFits ty47 (.rows 2 l) = true ↔ l.length * 32 ≤ 140737488355328 := by
  show Nat.ble (l.length * 32) 140737488355328 = true ↔ _
  exact ble_iff

def tt53 : Tab := [(0, ty0), (1, ty1), (3, ty3), (4, ty4), (5, ty5), (9, ty9), (23, ty23), (25, ty25), (44, ty44), (89, ty89), (94, ty94), (101, ty101), (103, ty103)]
theorem tt53_ok : TabOk Try.prog tt53 := tabOk_of_all ⟨ty0_ok, ty1_ok, ty3_ok, ty4_ok, ty5_ok, ty9_ok, ty23_ok, ty25_ok, ty44_ok, ty89_ok, ty94_ok, ty101_ok, ty103_ok, trivial⟩
def c53 (F : Nat) : Cfg := ⟨tt53, [(66, .pure go66), (67, .pure go67), (54, .pure go54)], F, [(0, ⟨[0, 1, 2, 3, 8, 32, 33], [(8, 9)]⟩), (2, ⟨[0, 1, 2, 3, 8, 12, 32, 33, 35, 36], [(12, 9)]⟩)], [], 0⟩
noncomputable def f53_0 (F k : Nat) (x0 : List UInt8) (x1 : Int) (x2 : Int) (x32 : Int) (x33 : Int) (xh0 : List (List AV)) : Res := aloop (c53 F) Try.f53 0 [] k (St.mk [AV.ro (Pay.bytes x0), AV.int IntKind.i64 x1, AV.int IntKind.i64 x2, AV.fn 54 [], AV.top, AV.top, AV.top, AV.top, AV.own 0, AV.top, AV.top, AV.top, AV.top, AV.top, AV.top, AV.top, AV.top, AV.top, AV.top, AV.top, AV.top, AV.top, AV.top, AV.top, AV.top, AV.top, AV.top, AV.top, AV.top, AV.top, AV.top, AV.top, AV.int IntKind.u64 x32, AV.int IntKind.u64 x33, AV.top, AV.top, AV.top, AV.top, AV.top, AV.top, AV.top, AV.top, AV.top, AV.top, AV.top, AV.top, AV.top, AV.top, AV.top, AV.top, AV.top, AV.top, AV.top, AV.top, AV.top, AV.top, AV.top, AV.top, AV.top, AV.top, AV.top, AV.top, AV.top] [AObj.arr 9 (Pay.rows 1 xh0)])
noncomputable def f53_2 (F k : Nat) (g0 : Nat) (x0 : List UInt8) (x1 : Int) (x2 : Int) (x32 : Int) (x33 : Int) (x35 : Int) (x36 : Int) (xh0 : List (List AV)) (xh1 : List (List AV)) : Res := aloop (c53 F) Try.f53 2 [g0] k (St.mk [AV.ro (Pay.bytes x0), AV.int IntKind.i64 x1, AV.int IntKind.i64 x2, AV.fn 54 [], AV.top, AV.top, AV.top, AV.top, AV.own 0, AV.top, AV.top, AV.top, AV.own 1, AV.top, AV.top, AV.top, AV.top, AV.top, AV.top, AV.top, AV.top, AV.top, AV.top, AV.top, AV.top, AV.top, AV.top, AV.top, AV.top, AV.top, AV.top, AV.top, AV.int IntKind.u64 x32, AV.int IntKind.u64 x33, AV.top, AV.int IntKind.i64 x35, AV.int IntKind.i64 x36, AV.top, AV.top, AV.top, AV.top, AV.top, AV.top, AV.top, AV.top, AV.top, AV.top, AV.top, AV.top, AV.top, AV.top, AV.top, AV.top, AV.top, AV.top, AV.top, AV.top, AV.top, AV.top, AV.top, AV.top, AV.top, AV.top] [AObj.arr 9 (Pay.rows 1 xh0), AObj.arr 9 (Pay.rows 1 xh1)])
theorem f53_eq (F : Nat) (b : List UInt8) (i : Int) : afun (c53 F) Try.f53 [AV.ro (Pay.bytes b), AV.int IntKind.i64 i, AV.int IntKind.i64 1, AV.fn 54 []] [] =
  bif eqI (getV b i).snd.snd 0 then
    bif ltI 65536 (getV b i).fst then
      .ret (AV.tup [AV.nil, AV.int IntKind.i64 0, AV.int IntKind.i64 9]) []
    else
      bif !eqI (getV b i).snd.snd 0 then
        .ret (AV.tup [AV.nil, AV.int IntKind.i64 0, AV.int IntKind.i64 (getV b i).snd.snd]) []
      else
        f53_0 F F b ((getV b i).snd.fst) 1 ((getV b i).fst) 0 []
  else
    bif !eqI (getV b i).snd.snd 0 then
      .ret (AV.tup [AV.nil, AV.int IntKind.i64 0, AV.int IntKind.i64 (getV b i).snd.snd]) []
    else
      f53_0 F F b ((getV b i).snd.fst) 1 ((getV b i).fst) 0 [] := by kernel_rfl
theorem f53_0_eq (F k : Nat) (x0 : List UInt8) (x1 : Int) (x2 : Int) (x32 : Int) (x33 : Int) (xh0 : List (List AV)) : f53_0 F (k + 1) x0 x1 x2 x32 x33 xh0 =
  bif ltI x33 x32 then
    f53_2 F F k x0 x1 x2 x32 x33 x2 0 xh0 []
  else
    .ret (AV.tup [AV.own 0, AV.int IntKind.i64 x1, AV.int IntKind.i64 0]) [AObj.arr 9 (Pay.rows 1 xh0)] := by kernel_rfl
theorem f53_2_eq (F k : Nat) (g0 : Nat) (x0 : List UInt8) (x1 : Int) (x2 : Int) (x32 : Int) (x33 : Int) (x35 : Int) (x36 : Int) (xh0 : List (List AV)) (xh1 : List (List AV)) : f53_2 F (k + 1) g0 x0 x1 x2 x32 x33 x35 x36 xh0 xh1 =
  bif ltI x36 x35 then
    bif !eqI (getT x0 x1 65536).snd.snd 0 then
      .ret (AV.tup [AV.nil, AV.int IntKind.i64 0, AV.int IntKind.i64 (getT x0 x1 65536).snd.snd]) [AObj.arr 9 (Pay.rows 1 xh0), AObj.arr 9 (Pay.rows 1 xh1)]
    else
      bif appFits ty9 (Pay.rows 1 (xh1 ++ [[AV.str (getT x0 x1 65536).fst]])) then
        f53_2 F k g0 x0 ((getT x0 x1 65536).snd.fst) x2 x32 x33 x35 (IntKind.i64.wrap (x36 + 1)) xh0 (xh1 ++ [[AV.str (getT x0 x1 65536).fst]])
      else
        .stuck
  else
    bif okRows 1 xh1 && Nat.blt 0 xh1.length then
      bif appFits ty9 (Pay.rows 1 (xh0 ++ [[AV.str (txtAt xh1 0)]])) then
        f53_0 F g0 x0 x1 x2 x32 (IntKind.u64.wrap (x33 + 1)) (xh0 ++ [[AV.str (txtAt xh1 0)]])
      else
        .stuck
    else
      .stuck := by kernel_rfl


theorem f53_item (m g : Nat) (b : Txt) (i x32 x33 : Int) (xh : List (List AV)) (hx : xh.length ≤ 100000) :
    outR (f53_2 (m + 2) (m + 2) g b i 1 x32 x33 1 0 xh []) = if (getT b i 65536).2.2 ≠ 0 then some (.tup [.nil, .int .i64 0, .int .i64 (getT b i 65536).2.2], []) else
      outR (f53_0 (m + 2) g b (getT b i 65536).2.1 1 x32 (IntKind.u64.wrap (x33 + 1)) (xh ++ [[.str (getT b i 65536).1]])) := by
  rw [f53_2_eq, bif_pos (by rw [ltI_iff]; decide), bif_neI]
  by_cases h : (getT b i 65536).2.2 = 0
  · rw [if_pos h, if_neg fun x => x h, bif_pos (by rw [fits9]; simp), wrap64 (n := 0 + 1) (by decide) (by decide), f53_2_eq, bif_neg (by rw [ltI_iff]; decide),
      bif_pos (c := okRows 1 _ && _) rfl, bif_pos (by rw [fits9]; simp; omega)]
    rfl
  · rw [if_neg h, if_pos h]; rfl

theorem f53_0_run (m : Nat) (b : Txt) (n : Int) (hn : n ≤ 65536) : ∀ (d k : Nat) (j i : Int) (xh : List (List AV)), 0 ≤ j → j + d = n → d < k → (xh.length : Int) ≤ j →
    outR (f53_0 (m + 2) k b i 1 n j xh) = if (getTs b (d * 1) i).2.2 ≠ 0 then some (.tup [.nil, .int .i64 0, .int .i64 (getTs b (d * 1) i).2.2], [])
      else some (.tup [.own 0, .int .i64 (getTs b (d * 1) i).2.1, .int .i64 0], [.arr 9 (.rows 1 (xh ++ oneR (getTs b (d * 1) i).1))])
  | 0, k + 1, j, i, xh, h0, h1, h2, h3 => by
    rw [f53_0_eq, bif_neg (by rw [ltI_iff]; omega)]
    show _ = if (0 : Int) ≠ 0 then _ else _
    rw [if_neg (by decide)]
    simp only [Nat.zero_mul, getTs, oneR, List.map_nil, List.append_nil]
    rfl

  | d + 1, k + 1, j, i, xh, h0, h1, h2, h3 => by
    rw [f53_0_eq, bif_pos (by rw [ltI_iff]; omega), f53_item m k b i n j xh (by omega), show (d + 1) * 1 = d * 1 + 1 by omega]
    by_cases h : (getT b i 65536).2.2 = 0
    · rw [if_neg fun x => x h, wrapu64 (by omega) (by omega), f53_0_run m b n hn d k (j + 1) _ _ (by omega) (by omega) (by omega) (by simp; omega), getTs_go h]
      generalize getTs b (d * 1) (getT b i 65536).2.1 = r
      by_cases h2 : r.2.2 = 0
      · simp [h2, oneR]
      · simp [h2]
    · rw [if_pos h, getTs_stop h, if_pos h]

theorem ok53 : PureOk Try.prog 53 go53 := by
  refine pureOk_of (c53 rounds) tt53_ok (.cons ok66 (.cons ok67 (.cons ok54 .nil))) follows rfl Try.func53 (by kernel_rfl) (by kernel_rfl) ?_ ?_
  · intro R stk args ret
    unfold go53
    split
    · rfl
    · rfl
  · intro args r objs h hr
    unfold go53 at h
    split at h
    · rename_i b i
      cases h
      have hf := getV_fits b i
      have hw : ∀ x y : Int, WeakL [.nil, .int .i64 x, .int .i64 y] [.ro (.rows 1 []), .int .i64 x, .int .i64 y] := fun x y => .empty rfl (.same (.same .nil))
      unfold getL
      by_cases h1 : (getV b i).2.2 = 0
      · rw [if_neg fun x => x h1]
        by_cases h2 : 65536 < (getV b i).1
        · rw [if_pos h2]
          refine ⟨_, ?_, .tup (hw 0 9)⟩
          rw [apure_out, f53_eq, bif_pos (eqI_iff.2 h1), bif_pos (ltI_iff.2 h2)]
          rfl
        · rw [if_neg h2]
          have key := f53_0_run (rounds - 2) b (getV b i).1 (by omega) (getV b i).1.toNat rounds 0 (getV b i).2.1 [] (by omega) (by omega) (by unfold rounds; omega) (by simp)
          rw [show rounds - 2 + 2 = rounds from rfl] at key
          generalize hr : getTs b ((getV b i).1.toNat * 1) (getV b i).2.1 = r at key
          by_cases h3 : r.2.2 = 0
          · rw [if_neg fun x => x h3] at key
            refine ⟨(.tup [.own 0, .int .i64 r.2.1, .int .i64 0], [.arr 9 (.rows 1 (oneR r.1))]), ?_, .trans .lend ?_⟩
            · rw [apure_out, f53_eq, bif_pos (eqI_iff.2 h1), bif_neg (by rw [ltI_iff]; exact h2), h1, bif_neg (c := !eqI 0 0) (by decide)]
              exact key
            · rw [h3]; exact .same
          · rw [if_pos h3] at key
            have hb := getTs_bad b _ _ (hr ▸ h3)
            rw [hr] at hb
            rw [hb.1, hb.2]
            refine ⟨_, ?_, .tup (hw 0 r.2.2)⟩
            rw [apure_out, f53_eq, bif_pos (eqI_iff.2 h1), bif_neg (by rw [ltI_iff]; exact h2), h1, bif_neg (c := !eqI 0 0) (by decide)]
            exact key
      · rw [if_pos h1]
        refine ⟨_, ?_, .tup (hw 0 (getV b i).2.2)⟩
        rw [apure_out, f53_eq, bif_neg (by rw [eqI_iff]; exact h1), bif_neI, if_neg h1]
        rfl
    · cases h

def tt56 : Tab := [(0, ty0), (1, ty1), (3, ty3), (4, ty4), (5, ty5), (9, ty9), (23, ty23), (25, ty25), (44, ty44), (47, ty47), (48, ty48), (92, ty92), (94, ty94), (101, ty101), (103, ty103)]
theorem tt56_ok : TabOk Try.prog tt56 := tabOk_of_all ⟨ty0_ok, ty1_ok, ty3_ok, ty4_ok, ty5_ok, ty9_ok, ty23_ok, ty25_ok, ty44_ok, ty47_ok, ty48_ok, ty92_ok, ty94_ok, ty101_ok, ty103_ok, trivial⟩
def c56 (F : Nat) : Cfg := ⟨tt56, [(66, .pure go66), (67, .pure go67), (57, .pure go57)], F, [(0, ⟨[0, 1, 2, 3, 8, 32, 33], [(8, 47)]⟩), (2, ⟨[0, 1, 2, 3, 8, 12, 32, 33, 35, 36], [(12, 9)]⟩)], [], 0⟩
noncomputable def f56_0 (F k : Nat) (x0 : List UInt8) (x1 : Int) (x2 : Int) (x32 : Int) (x33 : Int) (xh0 : List (List AV)) : Res := aloop (c56 F) Try.f56 0 [] k (St.mk [AV.ro (Pay.bytes x0), AV.int IntKind.i64 x1, AV.int IntKind.i64 x2, AV.fn 57 [], AV.top, AV.top, AV.top, AV.top, AV.own 0, AV.top, AV.top, AV.top, AV.top, AV.top, AV.top, AV.top, AV.top, AV.top, AV.top, AV.top, AV.top, AV.top, AV.top, AV.top, AV.top, AV.top, AV.top, AV.top, AV.top, AV.top, AV.top, AV.top, AV.int IntKind.u64 x32, AV.int IntKind.u64 x33, AV.top, AV.top, AV.top, AV.top, AV.top, AV.top, AV.top, AV.top, AV.top, AV.top, AV.top, AV.top, AV.top, AV.top, AV.top, AV.top, AV.top, AV.top, AV.top, AV.top, AV.top, AV.top, AV.top, AV.top, AV.top, AV.top, AV.top, AV.top, AV.top] [AObj.arr 47 (Pay.rows 2 xh0)])
noncomputable def f56_2 (F k : Nat) (g0 : Nat) (x0 : List UInt8) (x1 : Int) (x2 : Int) (x32 : Int) (x33 : Int) (x35 : Int) (x36 : Int) (xh0 : List (List AV)) (xh1 : List (List AV)) : Res := aloop (c56 F) Try.f56 2 [g0] k (St.mk [AV.ro (Pay.bytes x0), AV.int IntKind.i64 x1, AV.int IntKind.i64 x2, AV.fn 57 [], AV.top, AV.top, AV.top, AV.top, AV.own 0, AV.top, AV.top, AV.top, AV.own 1, AV.top, AV.top, AV.top, AV.top, AV.top, AV.top, AV.top, AV.top, AV.top, AV.top, AV.top, AV.top, AV.top, AV.top, AV.top, AV.top, AV.top, AV.top, AV.top, AV.int IntKind.u64 x32, AV.int IntKind.u64 x33, AV.top, AV.int IntKind.i64 x35, AV.int IntKind.i64 x36, AV.top, AV.top, AV.top, AV.top, AV.top, AV.top, AV.top, AV.top, AV.top, AV.top, AV.top, AV.top, AV.top, AV.top, AV.top, AV.top, AV.top, AV.top, AV.top, AV.top, AV.top, AV.top, AV.top, AV.top, AV.top, AV.top] [AObj.arr 47 (Pay.rows 2 xh0), AObj.arr 9 (Pay.rows 1 xh1)])
theorem f56_eq (F : Nat) (b : List UInt8) (i : Int) : afun (c56 F) Try.f56 [AV.ro (Pay.bytes b), AV.int IntKind.i64 i, AV.int IntKind.i64 2, AV.fn 57 []] [] =
  bif eqI (getV b i).snd.snd 0 then
    bif ltI 65536 (getV b i).fst then
      .ret (AV.tup [AV.nil, AV.int IntKind.i64 0, AV.int IntKind.i64 9]) []
    else
      bif !eqI (getV b i).snd.snd 0 then
        .ret (AV.tup [AV.nil, AV.int IntKind.i64 0, AV.int IntKind.i64 (getV b i).snd.snd]) []
      else
        f56_0 F F b ((getV b i).snd.fst) 2 ((getV b i).fst) 0 []
  else
    bif !eqI (getV b i).snd.snd 0 then
      .ret (AV.tup [AV.nil, AV.int IntKind.i64 0, AV.int IntKind.i64 (getV b i).snd.snd]) []
    else
      f56_0 F F b ((getV b i).snd.fst) 2 ((getV b i).fst) 0 [] := by kernel_rfl
theorem f56_0_eq (F k : Nat) (x0 : List UInt8) (x1 : Int) (x2 : Int) (x32 : Int) (x33 : Int) (xh0 : List (List AV)) : f56_0 F (k + 1) x0 x1 x2 x32 x33 xh0 =
  bif ltI x33 x32 then
    f56_2 F F k x0 x1 x2 x32 x33 x2 0 xh0 []
  else
    .ret (AV.tup [AV.own 0, AV.int IntKind.i64 x1, AV.int IntKind.i64 0]) [AObj.arr 47 (Pay.rows 2 xh0)] := by kernel_rfl
theorem f56_2_eq (F k : Nat) (g0 : Nat) (x0 : List UInt8) (x1 : Int) (x2 : Int) (x32 : Int) (x33 : Int) (x35 : Int) (x36 : Int) (xh0 : List (List AV)) (xh1 : List (List AV)) : f56_2 F (k + 1) g0 x0 x1 x2 x32 x33 x35 x36 xh0 xh1 =
  bif ltI x36 x35 then
    bif !eqI (getT x0 x1 65536).snd.snd 0 then
      .ret (AV.tup [AV.nil, AV.int IntKind.i64 0, AV.int IntKind.i64 (getT x0 x1 65536).snd.snd]) [AObj.arr 47 (Pay.rows 2 xh0), AObj.arr 9 (Pay.rows 1 xh1)]
    else
      bif appFits ty9 (Pay.rows 1 (xh1 ++ [[AV.str (getT x0 x1 65536).fst]])) then
        f56_2 F k g0 x0 ((getT x0 x1 65536).snd.fst) x2 x32 x33 x35 (IntKind.i64.wrap (x36 + 1)) xh0 (xh1 ++ [[AV.str (getT x0 x1 65536).fst]])
      else
        .stuck
  else
    bif okRows 1 xh1 && Nat.blt 1 xh1.length then
      bif appFits ty47 (Pay.rows 2 (xh0 ++ [[AV.str (txtAt xh1 0), AV.str (txtAt xh1 1)]])) then
        f56_0 F g0 x0 x1 x2 x32 (IntKind.u64.wrap (x33 + 1)) (xh0 ++ [[AV.str (txtAt xh1 0), AV.str (txtAt xh1 1)]])
      else
        .stuck
    else
      .stuck := by kernel_rfl


theorem f56_item (m g : Nat) (b : Txt) (i x32 x33 : Int) (xh : List (List AV)) (hx : xh.length ≤ 100000) :
    outR (f56_2 (m + 3) (m + 3) g b i 2 x32 x33 2 0 xh []) = if (getT b i 65536).2.2 ≠ 0 then some (.tup [.nil, .int .i64 0, .int .i64 (getT b i 65536).2.2], []) else
      if (getT b (getT b i 65536).2.1 65536).2.2 ≠ 0 then some (.tup [.nil, .int .i64 0, .int .i64 (getT b (getT b i 65536).2.1 65536).2.2], []) else
      outR (f56_0 (m + 3) g b (getT b (getT b i 65536).2.1 65536).2.1 2 x32 (IntKind.u64.wrap (x33 + 1)) (xh ++ [[.str (getT b i 65536).1, .str (getT b (getT b i 65536).2.1 65536).1]])) := by
  rw [f56_2_eq, bif_pos (by rw [ltI_iff]; decide), bif_neI]
  by_cases h : (getT b i 65536).2.2 = 0
  · rw [if_pos h, if_neg fun x => x h, bif_pos (by rw [fits9]; simp), wrap64 (n := 0 + 1) (by decide) (by decide), f56_2_eq, bif_pos (by rw [ltI_iff]; decide), bif_neI]
    generalize (getT b i 65536).2.1 = i2
    by_cases h' : (getT b i2 65536).2.2 = 0
    · rw [if_pos h', if_neg fun x => x h', bif_pos (by rw [fits9]; simp), wrap64 (n := 0 + 1 + 1) (by decide) (by decide), f56_2_eq, bif_neg (by rw [ltI_iff]; decide),
        bif_pos (c := okRows 1 _ && _) rfl, bif_pos (by rw [fits47]; simp; omega)]
      rfl
    · rw [if_neg h', if_pos h']; rfl
  · rw [if_neg h, if_pos h]; rfl

theorem f56_0_run (m : Nat) (b : Txt) (n : Int) (hn : n ≤ 65536) : ∀ (d k : Nat) (j i : Int) (xh : List (List AV)), 0 ≤ j → j + d = n → d < k → (xh.length : Int) ≤ j →
    outR (f56_0 (m + 3) k b i 2 n j xh) = if (getTs b (d * 2) i).2.2 ≠ 0 then some (.tup [.nil, .int .i64 0, .int .i64 (getTs b (d * 2) i).2.2], [])
      else some (.tup [.own 0, .int .i64 (getTs b (d * 2) i).2.1, .int .i64 0], [.arr 47 (.rows 2 (xh ++ pairR (getTs b (d * 2) i).1))])
  | 0, k + 1, j, i, xh, h0, h1, h2, h3 => by
    rw [f56_0_eq, bif_neg (by rw [ltI_iff]; omega)]
    show _ = if (0 : Int) ≠ 0 then _ else _
    rw [if_neg (by decide)]
    simp only [Nat.zero_mul, getTs, pairR, List.map_nil, List.append_nil]
    rfl

  | d + 1, k + 1, j, i, xh, h0, h1, h2, h3 => by
    rw [f56_0_eq, bif_pos (by rw [ltI_iff]; omega), f56_item m k b i n j xh (by omega), show (d + 1) * 2 = d * 2 + 1 + 1 by omega]
    by_cases h : (getT b i 65536).2.2 = 0
    · rw [if_neg fun x => x h, getTs_go h]
      generalize getT b i 65536 = t
      by_cases h' : (getT b t.2.1 65536).2.2 = 0
      · rw [if_neg fun x => x h', wrapu64 (by omega) (by omega), f56_0_run m b n hn d k (j + 1) _ _ (by omega) (by omega) (by omega) (by simp; omega), getTs_go h']
        generalize getTs b (d * 2) (getT b t.2.1 65536).2.1 = r
        by_cases h2 : r.2.2 = 0
        · simp [h2, pairR]
        · simp [h2]
      · rw [if_pos h', getTs_stop h']; simp [h']
    · rw [if_pos h, getTs_stop h, if_pos h]

theorem ok56 : PureOk Try.prog 56 go56 := by
  refine pureOk_of (c56 rounds) tt56_ok (.cons ok66 (.cons ok67 (.cons ok57 .nil))) follows rfl Try.func56 (by kernel_rfl) (by kernel_rfl) ?_ ?_
  · intro R stk args ret
    unfold go56
    split
    · rfl
    · rfl
  · intro args r objs h hr
    unfold go56 at h
    split at h
    · rename_i b i
      cases h
      have hf := getV_fits b i
      have hw : ∀ x y : Int, WeakL [.nil, .int .i64 x, .int .i64 y] [.ro (.rows 2 []), .int .i64 x, .int .i64 y] := fun x y => .empty rfl (.same (.same .nil))
      unfold getL
      by_cases h1 : (getV b i).2.2 = 0
      · rw [if_neg fun x => x h1]
        by_cases h2 : 65536 < (getV b i).1
        · rw [if_pos h2]
          refine ⟨_, ?_, .tup (hw 0 9)⟩
          rw [apure_out, f56_eq, bif_pos (eqI_iff.2 h1), bif_pos (ltI_iff.2 h2)]
          rfl
        · rw [if_neg h2]
          have key := f56_0_run (rounds - 3) b (getV b i).1 (by omega) (getV b i).1.toNat rounds 0 (getV b i).2.1 [] (by omega) (by omega) (by unfold rounds; omega) (by simp)
          rw [show rounds - 3 + 3 = rounds from rfl] at key
          generalize hr : getTs b ((getV b i).1.toNat * 2) (getV b i).2.1 = r at key
          by_cases h3 : r.2.2 = 0
          · rw [if_neg fun x => x h3] at key
            refine ⟨(.tup [.own 0, .int .i64 r.2.1, .int .i64 0], [.arr 47 (.rows 2 (pairR r.1))]), ?_, .trans .lend ?_⟩
            · rw [apure_out, f56_eq, bif_pos (eqI_iff.2 h1), bif_neg (by rw [ltI_iff]; exact h2), h1, bif_neg (c := !eqI 0 0) (by decide)]
              exact key
            · rw [h3]; exact .same
          · rw [if_pos h3] at key
            have hb := getTs_bad b _ _ (hr ▸ h3)
            rw [hr] at hb
            rw [hb.1, hb.2]
            refine ⟨_, ?_, .tup (hw 0 r.2.2)⟩
            rw [apure_out, f56_eq, bif_pos (eqI_iff.2 h1), bif_neg (by rw [ltI_iff]; exact h2), h1, bif_neg (c := !eqI 0 0) (by decide)]
            exact key
      · rw [if_pos h1]
        refine ⟨_, ?_, .tup (hw 0 (getV b i).2.2)⟩
        rw [apure_out, f56_eq, bif_neg (by rw [eqI_iff]; exact h1), bif_neI, if_neg h1]
        rfl
    · cases h

end Go.Proofs.YtdkihlkcnnlkcaaG
