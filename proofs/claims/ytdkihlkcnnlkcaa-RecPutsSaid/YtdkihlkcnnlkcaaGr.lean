/- A part of the proof: plain laws, and what functions of the given program come to; no condition. -/
import Derived.Test.YtdkihlkcnnlkcaaGq
namespace Go.Proofs.YtdkihlkcnnlkcaaG
open Go Go.Proofs.YtdkihlkcnnlkcaaGm
set_option maxRecDepth 100000


def go32 (R : Type) (stk : R) (args : List AV) (ret : AV → List AObj → R) : R :=
  match args with
  | [.ro (.bytes b), .int .i64 i] => ret (.tup [.ro (.rows 1 (oneR (getL b i 1).1)), .int .i64 (getL b i 1).2.1, .int .i64 (getL b i 1).2.2]) []
  | _ => stk

def go34 (R : Type) (stk : R) (args : List AV) (ret : AV → List AObj → R) : R :=
  match args with
  | [.ro (.bytes b), .int .i64 i] => ret (.tup [.ro (.rows 2 (pairR (getL b i 2).1)), .int .i64 (getL b i 2).2.1, .int .i64 (getL b i 2).2.2]) []
  | _ => stk

def tt55 : Tab := [(0, ty0), (1, ty1), (3, ty3), (4, ty4), (5, ty5), (9, ty9), (23, ty23), (44, ty44), (94, ty94), (105, ty105), (107, ty107)]
theorem tt55_ok : TabOk Try.prog tt55 := tabOk_of_all ⟨ty0_ok, ty1_ok, ty3_ok, ty4_ok, ty5_ok, ty9_ok, ty23_ok, ty44_ok, ty94_ok, ty105_ok, ty107_ok, trivial⟩
def c55 (F : Nat) : Cfg := ⟨tt55, [(68, .pure go66), (69, .pure go67)], F, [(0, ⟨[0, 2, 9, 10, 12, 13], [(12, 9)]⟩)], [], 0⟩
noncomputable def f55_0 (F k : Nat) (x0 : List UInt8) (x2 : Int) (x9 : Int) (x10 : Int) (x13 : Int) (xh0 : List (List AV)) : Res := aloop (c55 F) Try.f55 0 [] k (St.mk [AV.ro (Pay.bytes x0), AV.top, AV.int IntKind.i64 x2, AV.top, AV.top, AV.top, AV.top, AV.top, AV.top, AV.int IntKind.u64 x9, AV.int IntKind.i64 x10, AV.top, AV.own 0, AV.int IntKind.i64 x13, AV.top, AV.top, AV.top, AV.top, AV.top, AV.top, AV.top, AV.top, AV.top, AV.top, AV.top, AV.top, AV.top, AV.top, AV.top, AV.top, AV.top, AV.top, AV.top, AV.top, AV.top, AV.top, AV.top, AV.top, AV.top, AV.top, AV.top, AV.top, AV.top, AV.top, AV.top, AV.top, AV.top, AV.top, AV.top, AV.top, AV.top, AV.top, AV.top, AV.top] [AObj.arr 9 (Pay.rows 1 xh0)])
theorem f55_eq (F : Nat) (a0 : List UInt8) (a1 : Int) (a2 : Int) : afun (c55 F) Try.f55 [AV.ro (Pay.bytes a0), AV.int IntKind.i64 a1, AV.int IntKind.i64 a2] [] =
  bif !eqI (getV a0 a1).snd.snd 0 then
    .ret (AV.tup [AV.nil, AV.int IntKind.i64 0, AV.int IntKind.i64 (getV a0 a1).snd.snd]) []
  else
    bif ltI 65536 (getV a0 a1).fst then
      .ret (AV.tup [AV.nil, AV.int IntKind.i64 0, AV.int IntKind.i64 9]) []
    else
      f55_0 F F a0 a2 ((getV a0 a1).fst) ((getV a0 a1).snd.fst) 0 [] := by kernel_rfl
theorem f55_0_eq (F k : Nat) (x0 : List UInt8) (x2 : Int) (x9 : Int) (x10 : Int) (x13 : Int) (xh0 : List (List AV)) : f55_0 F (k + 1) x0 x2 x9 x10 x13 xh0 =
  bif ltI x13 (IntKind.i64.wrap (IntKind.i64.wrap x9 * x2)) then
    bif !eqI (getT x0 x10 65536).snd.snd 0 then
      .ret (AV.tup [AV.nil, AV.int IntKind.i64 0, AV.int IntKind.i64 (getT x0 x10 65536).snd.snd]) [AObj.arr 9 (Pay.rows 1 xh0)]
    else
      bif appFits ty9 (Pay.rows 1 (xh0 ++ [[AV.str (getT x0 x10 65536).fst]])) then
        f55_0 F k x0 x2 x9 ((getT x0 x10 65536).snd.fst) (IntKind.i64.wrap (x13 + 1)) (xh0 ++ [[AV.str (getT x0 x10 65536).fst]])
      else
        .stuck
  else
    .ret (AV.tup [AV.own 0, AV.int IntKind.i64 x10, AV.int IntKind.i64 0]) [AObj.arr 9 (Pay.rows 1 xh0)] := by kernel_rfl


theorem f55_run (F : Nat) (b : Txt) (n by' : Int) (hn : 0 ≤ n ∧ n ≤ 65536) (hb : 0 ≤ by' ∧ by' ≤ 2) : ∀ (d k : Nat) (j i : Int) (xh : List (List AV)), 0 ≤ j → j + d = n * by' → d < k → (xh.length : Int) ≤ j →
    outR (f55_0 F k b by' n i j xh) = if (getTs b d i).2.2 ≠ 0 then some (.tup [.nil, .int .i64 0, .int .i64 (getTs b d i).2.2], [])
      else some (.tup [.own 0, .int .i64 (getTs b d i).2.1, .int .i64 0], [.arr 9 (.rows 1 (xh ++ oneR (getTs b d i).1))])
  | 0, k + 1, j, i, xh, h0, h1, h2, h3 => by
    have hm : 0 ≤ n * by' ∧ n * by' ≤ 65536 * 2 := ⟨Int.mul_nonneg hn.1 hb.1, Int.mul_le_mul hn.2 hb.2 hb.1 (by decide)⟩
    rw [f55_0_eq, wrap64 (n := n) (by omega) (by omega), wrap64 (n := n * by') (by omega) (by omega), bif_neg (by rw [ltI_iff]; omega)]
    show _ = if (0 : Int) ≠ 0 then _ else _
    rw [if_neg (by decide)]
    simp only [getTs, oneR, List.map_nil, List.append_nil]
    rfl
  | d + 1, k + 1, j, i, xh, h0, h1, h2, h3 => by
    have hm : 0 ≤ n * by' ∧ n * by' ≤ 65536 * 2 := ⟨Int.mul_nonneg hn.1 hb.1, Int.mul_le_mul hn.2 hb.2 hb.1 (by decide)⟩
    rw [f55_0_eq, wrap64 (n := n) (by omega) (by omega), wrap64 (n := n * by') (by omega) (by omega), bif_pos (by rw [ltI_iff]; omega), bif_neI]
    by_cases h : (getT b i 65536).2.2 = 0
    · rw [if_pos h, bif_pos (by rw [fits9]; simp; omega), wrap64 (n := j + 1) (by omega) (by omega), f55_run F b n by' hn hb d k (j + 1) _ _ (by omega) (by omega) (by omega) (by simp; omega), getTs_go h]
      generalize getTs b d (getT b i 65536).2.1 = r
      by_cases h2 : r.2.2 = 0
      · simp [h2, oneR]
      · simp [h2]
    · rw [if_neg h, getTs_stop h, if_pos h]; rfl

theorem ok55 : PureOk Try.prog 55 go55 := by
  refine pureOk_of (c55 rounds) tt55_ok (.cons ok68 (.cons ok69 .nil)) follows rfl Try.func55 (by kernel_rfl) (by kernel_rfl) ?_ ?_
  · intro R stk args ret
    unfold go55
    split
    · rfl
    · rfl
    · rfl
  · intro args r objs h hr
    unfold go55 at h
    split at h
    · rename_i b i
      cases h
      have hf := getV_fits b i
      have hw : ∀ x y : Int, WeakL [.nil, .int .i64 x, .int .i64 y] [.ro (.rows 1 []), .int .i64 x, .int .i64 y] := fun x y => .empty rfl (.same (.same .nil))
      unfold getL
      by_cases h1 : (getV b i).2.2 = 0
      · rw [if_neg fun x => x h1]
        by_cases h2 : 65536 < (getV b i).1
        · rw [if_pos h2]
          refine ⟨_, ?_, .tup (hw 0 9)⟩
          rw [apure_out, f55_eq, bif_neI, if_pos h1, bif_pos (ltI_iff.2 h2)]
          rfl
        · rw [if_neg h2]
          have key := f55_run rounds b (getV b i).1 1 (by omega) (by decide) ((getV b i).1.toNat * 1) rounds 0 (getV b i).2.1 [] (by omega) (by omega) (by unfold rounds; omega) (by simp)
          generalize hr : getTs b ((getV b i).1.toNat * 1) (getV b i).2.1 = r at key
          by_cases h3 : r.2.2 = 0
          · rw [if_neg fun x => x h3] at key
            refine ⟨(.tup [.own 0, .int .i64 r.2.1, .int .i64 0], [.arr 9 (.rows 1 (oneR r.1))]), ?_, .trans .lend ?_⟩
            · rw [apure_out, f55_eq, bif_neI, if_pos h1, bif_neg (by rw [ltI_iff]; exact h2)]
              exact key
            · rw [h3]; exact .same
          · rw [if_pos h3] at key
            have hb := getTs_bad b _ _ (hr ▸ h3)
            rw [hr] at hb
            rw [hb.1, hb.2]
            refine ⟨_, ?_, .tup (hw 0 r.2.2)⟩
            rw [apure_out, f55_eq, bif_neI, if_pos h1, bif_neg (by rw [ltI_iff]; exact h2)]
            exact key
      · rw [if_pos h1]
        refine ⟨_, ?_, .tup (hw 0 (getV b i).2.2)⟩
        rw [apure_out, f55_eq, bif_neI, if_neg h1]
        rfl
    · rename_i b i
      cases h
      have hf := getV_fits b i
      have hw : ∀ x y : Int, WeakL [.nil, .int .i64 x, .int .i64 y] [.ro (.rows 1 []), .int .i64 x, .int .i64 y] := fun x y => .empty rfl (.same (.same .nil))
      unfold getL
      by_cases h1 : (getV b i).2.2 = 0
      · rw [if_neg fun x => x h1]
        by_cases h2 : 65536 < (getV b i).1
        · rw [if_pos h2]
          refine ⟨_, ?_, .tup (hw 0 9)⟩
          rw [apure_out, f55_eq, bif_neI, if_pos h1, bif_pos (ltI_iff.2 h2)]
          rfl
        · rw [if_neg h2]
          have key := f55_run rounds b (getV b i).1 2 (by omega) (by decide) ((getV b i).1.toNat * 2) rounds 0 (getV b i).2.1 [] (by omega) (by omega) (by unfold rounds; omega) (by simp)
          generalize hr : getTs b ((getV b i).1.toNat * 2) (getV b i).2.1 = r at key
          by_cases h3 : r.2.2 = 0
          · rw [if_neg fun x => x h3] at key
            refine ⟨(.tup [.own 0, .int .i64 r.2.1, .int .i64 0], [.arr 9 (.rows 1 (oneR r.1))]), ?_, .trans .lend ?_⟩
            · rw [apure_out, f55_eq, bif_neI, if_pos h1, bif_neg (by rw [ltI_iff]; exact h2)]
              exact key
            · rw [h3]; exact .same
          · rw [if_pos h3] at key
            have hb := getTs_bad b _ _ (hr ▸ h3)
            rw [hr] at hb
            rw [hb.1, hb.2]
            refine ⟨_, ?_, .tup (hw 0 r.2.2)⟩
            rw [apure_out, f55_eq, bif_neI, if_pos h1, bif_neg (by rw [ltI_iff]; exact h2)]
            exact key
      · rw [if_pos h1]
        refine ⟨_, ?_, .tup (hw 0 (getV b i).2.2)⟩
        rw [apure_out, f55_eq, bif_neI, if_neg h1]
        rfl
    · cases h

def tt32 : Tab := [(0, ty0), (3, ty3), (5, ty5), (9, ty9), (23, ty23), (44, ty44), (62, ty62)]
theorem tt32_ok : TabOk Try.prog tt32 := tabOk_of_all ⟨ty0_ok, ty3_ok, ty5_ok, ty9_ok, ty23_ok, ty44_ok, ty62_ok, trivial⟩
def c32 (F : Nat) : Cfg := ⟨tt32, [(55, .pure go55)], F, [], [], 0⟩
theorem f32_eq (F : Nat) (a0 : List UInt8) (a1 : Int) : afun (c32 F) Try.f32 [AV.ro (Pay.bytes a0), AV.int IntKind.i64 a1] [] =
  .ret (AV.tup [AV.ro (Pay.rows 1 (oneR (getL a0 a1 1).fst)), AV.int IntKind.i64 (getL a0 a1 1).snd.fst, AV.int IntKind.i64 (getL a0 a1 1).snd.snd]) [] := by kernel_rfl


theorem ok32 : PureOk Try.prog 32 go32 := by
  refine pureOk_of (c32 rounds) tt32_ok (.cons ok55 .nil) follows rfl Try.func32 (by kernel_rfl) (by kernel_rfl) ?_ ?_
  · intro R stk args ret
    unfold go32
    split
    · rfl
    · rfl
  · intro args r objs h hr
    unfold go32 at h
    split at h
    · rename_i b i
      cases h
      refine ⟨_, ?_, .same⟩
      rw [apure_out]
      rw [f32_eq]
      rfl
    · cases h

def tt34 : Tab := [(0, ty0), (1, ty1), (3, ty3), (4, ty4), (5, ty5), (9, ty9), (23, ty23), (44, ty44), (47, ty47), (48, ty48), (62, ty62)]
theorem tt34_ok : TabOk Try.prog tt34 := tabOk_of_all ⟨ty0_ok, ty1_ok, ty3_ok, ty4_ok, ty5_ok, ty9_ok, ty23_ok, ty44_ok, ty47_ok, ty48_ok, ty62_ok, trivial⟩
def c34 (F : Nat) : Cfg := ⟨tt34, [(55, .pure go55)], F, [(0, ⟨[7, 8, 9, 10, 11], [(10, 47)]⟩)], [], 0⟩
noncomputable def f34_0 (F k : Nat) (x7 : List (List AV)) (x8 : Int) (x9 : Int) (x11 : Int) (xh0 : List (List AV)) : Res := aloop (c34 F) Try.f34 0 [] k (St.mk [AV.top, AV.top, AV.top, AV.top, AV.top, AV.top, AV.top, AV.ro (Pay.rows 1 x7), AV.int IntKind.i64 x8, AV.int IntKind.i64 x9, AV.own 0, AV.int IntKind.i64 x11, AV.top, AV.top, AV.top, AV.top, AV.top, AV.top, AV.top, AV.top, AV.top, AV.top, AV.top, AV.top, AV.top, AV.top, AV.top, AV.top, AV.top, AV.top, AV.top, AV.top, AV.top, AV.top, AV.top, AV.top, AV.top, AV.top, AV.top, AV.top, AV.top, AV.top] [AObj.arr 47 (Pay.rows 2 xh0)])
theorem f34_eq (F : Nat) (a0 : List UInt8) (a1 : Int) : afun (c34 F) Try.f34 [AV.ro (Pay.bytes a0), AV.int IntKind.i64 a1] [] =
  f34_0 F F (oneR (getL a0 a1 2).fst) ((getL a0 a1 2).snd.fst) ((getL a0 a1 2).snd.snd) 0 [] := by kernel_rfl
theorem f34_0_eq (F k : Nat) (x7 : List (List AV)) (x8 : Int) (x9 : Int) (x11 : Int) (xh0 : List (List AV)) : f34_0 F (k + 1) x7 x8 x9 x11 xh0 =
  bif ltI (IntKind.i64.wrap (x11 + 1)) ↑x7.length then
    bif inB x11 x7.length then
      bif isStr (nth (x7.getD x11.toNat []) 0) then
        bif inB (IntKind.i64.wrap (x11 + 1)) x7.length then
          bif isStr (nth (x7.getD (IntKind.i64.wrap (x11 + 1)).toNat []) 0) then
            bif appFits ty47 (Pay.rows 2 (xh0 ++ [[AV.str (strOf (nth (x7.getD x11.toNat []) 0)), AV.str (strOf (nth (x7.getD (IntKind.i64.wrap (x11 + 1)).toNat []) 0))]])) then
              f34_0 F k x7 x8 x9 (IntKind.i64.wrap (x11 + 2)) (xh0 ++ [[AV.str (strOf (nth (x7.getD x11.toNat []) 0)), AV.str (strOf (nth (x7.getD (IntKind.i64.wrap (x11 + 1)).toNat []) 0))]])
            else
              .stuck
          else
            .stuck
        else
          .stuck
      else
        .stuck
    else
      .stuck
  else
    .ret (AV.tup [AV.own 0, AV.int IntKind.i64 x8, AV.int IntKind.i64 x9]) [AObj.arr 47 (Pay.rows 2 xh0)] := by kernel_rfl


theorem getL_len (b : Txt) (i : Int) (n : Nat) : (getL b i n).1.length ≤ 65536 * n := by
  unfold getL
  split
  · simp
  · split
    · simp
    · by_cases h : (getTs b ((getV b i).1.toNat * n) (getV b i).2.1).2.2 = 0
      · rw [getTs_len b _ _ h]
        exact Nat.mul_le_mul_right _ (by omega)
      · rw [(getTs_bad b _ _ h).1]; simp
theorem pairR_small : ∀ l : List Txt, l.length ≤ 1 → pairR l = []
  | [], _ => rfl
  | [_], _ => rfl
  | _ :: _ :: _, h => by simp at h
theorem pairR_len : ∀ l : List Txt, (pairR l).length ≤ l.length
  | [] => Nat.zero_le _
  | [_] => Nat.zero_le _
  | _ :: _ :: r => by have := pairR_len r; simp only [pairR, List.length_cons]; omega
theorem oneR_at (ts : List Txt) (i : Nat) (h : i < ts.length) : (oneR ts).getD i [] = [.str (ts.getD i [])] := by simp [oneR, List.getD, h]
theorem f34_run (F : Nat) (ts : List Txt) (nx e : Int) (hl : ts.length ≤ 200000) : ∀ (d k i : Nat) (xh : List (List AV)), ts.length ≤ i + 2 * d + 1 → d < k → i ≤ ts.length + 1 → xh.length ≤ i →
    outR (f34_0 F k (oneR ts) nx e i xh) = some (.tup [.own 0, .int .i64 nx, .int .i64 e], [.arr 47 (.rows 2 (xh ++ pairR (ts.drop i)))])
  | 0, k + 1, i, xh, h1, h2, h3, h4 => by
    rw [f34_0_eq, wrap64 (n := (i : Int) + 1) (by omega) (by omega), show (oneR ts).length = ts.length from List.length_map _, bif_neg (by rw [ltI_iff]; omega), pairR_small _ (by rw [List.length_drop]; omega), List.append_nil]
    rfl
  | d + 1, k + 1, i, xh, h1, h2, h3, h4 => by
    by_cases hlt : i + 1 < ts.length
    · rw [f34_0_eq, wrap64 (n := (i : Int) + 1) (by omega) (by omega), show (oneR ts).length = ts.length from List.length_map _, bif_pos (by rw [ltI_iff]; omega), bif_pos (by rw [inB_iff]; omega), show (i : Int).toNat = i by omega, show ((i : Int) + 1).toNat = i + 1 by omega,
        oneR_at ts i (by omega), oneR_at ts (i + 1) hlt, show nth [AV.str (ts.getD i [])] 0 = .str (ts.getD i []) from rfl, show nth [AV.str (ts.getD (i + 1) [])] 0 = .str (ts.getD (i + 1) []) from rfl, bif_pos (c := isStr _) rfl, bif_pos (by rw [inB_iff]; omega), bif_pos (c := isStr _) rfl,
        bif_pos (by rw [fits47]; simp; omega), wrap64 (n := (i : Int) + 2) (by omega) (by omega), show (i : Int) + 2 = ((i + 2 : Nat) : Int) by omega, f34_run F ts nx e hl d k (i + 2) _ (by omega) (by omega) (by omega) (by simp; omega), drop_getD' ts i [] (by omega), drop_getD' ts (i + 1) [] hlt]
      simp [pairR, strOf]
    · rw [f34_0_eq, wrap64 (n := (i : Int) + 1) (by omega) (by omega), show (oneR ts).length = ts.length from List.length_map _, bif_neg (by rw [ltI_iff]; omega), pairR_small _ (by rw [List.length_drop]; omega), List.append_nil]
      rfl

theorem ok34 : PureOk Try.prog 34 go34 := by
  refine pureOk_of (c34 rounds) tt34_ok (.cons ok55 .nil) follows rfl Try.func34 (by kernel_rfl) (by kernel_rfl) ?_ ?_
  · intro R stk args ret
    unfold go34
    split
    · rfl
    · rfl
  · intro args r objs h hr
    unfold go34 at h
    split at h
    · rename_i b i
      cases h
      have hl := getL_len b i 2
      refine ⟨(.tup [.own 0, .int .i64 (getL b i 2).2.1, .int .i64 (getL b i 2).2.2], [.arr 47 (.rows 2 (pairR (getL b i 2).1))]), ?_, .lend⟩
      rw [apure_out, f34_eq]
      have key := f34_run rounds (getL b i 2).1 (getL b i 2).2.1 (getL b i 2).2.2 (by omega) (getL b i 2).1.length rounds 0 [] (by omega) (by unfold rounds; omega) (by omega) (by simp)
      exact key
    · cases h

def tt49 : Tab := [(0, ty0), (3, ty3), (4, ty4), (51, ty51)]
theorem tt49_ok : TabOk Try.prog tt49 := tabOk_of_all ⟨ty0_ok, ty3_ok, ty4_ok, ty51_ok, trivial⟩
def c49 (F : Nat) : Cfg := ⟨tt49, [], F, [(0, ⟨[3, 6, 7, 8], []⟩)], [], 0⟩
noncomputable def f49_0 (F k : Nat) (x3 : Int) (x6 : List Int) (x7 : Int) (x8 : Int) : Res := aloop (c49 F) Try.f49 0 [] k (St.mk [AV.top, AV.top, AV.top, AV.int IntKind.i64 x3, AV.top, AV.top, AV.ro (Pay.ints IntKind.i64 x6), AV.int IntKind.i64 x7, AV.int IntKind.i64 x8, AV.top, AV.top, AV.top, AV.top, AV.top, AV.top, AV.top, AV.top, AV.top] [])
theorem f49_eq (F : Nat) (a0 : List Int) : afun (c49 F) Try.f49 [AV.ro (Pay.ints IntKind.i64 a0)] [] =
  f49_0 F F 0 a0 ↑a0.length 0 := by kernel_rfl
theorem f49_0_eq (F k : Nat) (x3 : Int) (x6 : List Int) (x7 : Int) (x8 : Int) : f49_0 F (k + 1) x3 x6 x7 x8 =
  bif ltI x8 x7 then
    bif inB x8 x6.length then
      bif !eqI (x6.getD x8.toNat 0) x3 then
        .ret (AV.int IntKind.i64 (x6.getD x8.toNat 0)) []
      else
        f49_0 F k x3 x6 x7 (IntKind.i64.wrap (x8 + 1))
    else
      .stuck
  else
    .ret (AV.int IntKind.i64 x3) [] := by kernel_rfl


theorem f49_run (F : Nat) (l : List Int) (hm : l.length ≤ maxLen) : ∀ (d k j : Nat), j + d = l.length → d < k → outR (f49_0 F k 0 l l.length j) = some (.int .i64 (orL (l.drop j)), [])
  | 0, k + 1, j, h1, h2 => by
    rw [f49_0_eq, bif_neg (by rw [ltI_iff]; omega), List.drop_eq_nil_of_le (by omega)]; rfl
  | d + 1, k + 1, j, h1, h2 => by
    have hj : j < l.length := by omega
    unfold maxLen at hm
    rw [drop_getD' l j 0 hj, f49_0_eq, bif_pos (by rw [ltI_iff]; omega), bif_pos (by rw [inB_iff]; omega), show (j : Int).toNat = j by omega, bif_neI]
    unfold orL
    by_cases h : l.getD j 0 = 0
    · rw [if_pos h, if_neg fun x => x h, wrap64 (n := (j : Int) + 1) (by omega) (by omega), show (j : Int) + 1 = ((j + 1 : Nat) : Int) by omega]
      exact f49_run F l (by unfold maxLen; omega) d k (j + 1) (by omega) (by omega)
    · rw [if_neg h, if_pos h]; rfl
theorem Real.intsLen {k : IntKind} {p : List Int} {l : List AV} (h : Real (.ro (.ints k p) :: l)) : p.length ≤ maxLen := by
  obtain ⟨w, M, vs, h⟩ := h
  cases h with | cons h _ =>
  cases h with
  | roN h0 => have : p.length = 0 := h0; rw [this]; exact Nat.zero_le _
  | ro _ _ _ _ _ _ _ hcap hm => exact Nat.le_trans hcap hm

theorem ok49 : PureOk Try.prog 49 go49 := by
  refine pureOk_of (c49 rounds) tt49_ok .nil follows rfl Try.func49 (by kernel_rfl) (by kernel_rfl) ?_ ?_
  · intro R stk args ret
    unfold go49
    split
    · rfl
    · rfl
  · intro args r objs h hr
    unfold go49 at h
    split at h
    · rename_i l
      cases h
      have hl := Real.intsLen hr
      refine ⟨_, ?_, .same⟩
      rw [apure_out]
      rw [f49_eq]
      exact f49_run rounds l hl l.length rounds 0 (by omega) (by unfold rounds; unfold maxLen at hl; omega)
    · cases h

def tt27 : Tab := [(0, ty0), (1, ty1), (2, ty2), (3, ty3), (9, ty9), (47, ty47), (51, ty51)]
theorem tt27_ok : TabOk Try.prog tt27 := tabOk_of_all ⟨ty0_ok, ty1_ok, ty2_ok, ty3_ok, ty9_ok, ty47_ok, ty51_ok, trivial⟩
def c27 (F : Nat) : Cfg := ⟨tt27, [(49, .pure go49), (50, .pure go75)], F, [], [], 0⟩
theorem f27_eq (F : Nat) (a0_0 : List UInt8) (a0_1 : List UInt8) (a1_0 : List UInt8) (a1_1 : List UInt8) : afun (c27 F) Try.f27 [AV.agg [AV.str a0_0, AV.str a0_1], AV.agg [AV.str a1_0, AV.str a1_1]] [] =
  .ret (AV.int IntKind.i64 (orL ([cmpB a0_0 a1_0, 0].set (1, Operand.tmp 14).fst (cmpB a0_1 a1_1)))) [AObj.var 47 [AV.str a0_0, AV.str a0_1], AObj.var 47 [AV.str a1_0, AV.str a1_1], AObj.arr 3 (Pay.ints IntKind.i64 ([cmpB a0_0 a1_0, 0].set (1, Operand.tmp 14).fst (cmpB a0_1 a1_1)))] := by kernel_rfl


theorem ok27 : PureOk Try.prog 27 go27 := by
  refine pureOk_of (c27 rounds) tt27_ok (.cons ok49 (.cons ok50 .nil)) follows rfl Try.func27 (by kernel_rfl) (by kernel_rfl) ?_ ?_
  · intro R stk args ret
    unfold go27
    split
    · rfl
    · rfl
  · intro args r objs h hr
    unfold go27 at h
    split at h
    · rename_i a b c d
      cases h
      refine ⟨_, ?_, .same⟩
      rw [apure_out]
      rw [f27_eq]
      have e : orL ([cmpB a c, 0].set (1, Operand.tmp 14).fst (cmpB b d)) = ordP a b c d := by
        show (if cmpB a c ≠ 0 then cmpB a c else if cmpB b d ≠ 0 then cmpB b d else 0) = if cmpB a c ≠ 0 then cmpB a c else cmpB b d
        by_cases h : cmpB b d = 0
        · simp [h]
        · simp [h]
      rw [e]
      rfl
    · cases h

def tt28 : Tab := [(0, ty0), (1, ty1), (3, ty3), (4, ty4), (9, ty9), (47, ty47)]
theorem tt28_ok : TabOk Try.prog tt28 := tabOk_of_all ⟨ty0_ok, ty1_ok, ty3_ok, ty4_ok, ty9_ok, ty47_ok, trivial⟩
def c28 (F : Nat) : Cfg := ⟨tt28, [(51, .pure go51)], F, [], [], 0⟩
theorem f28_eq (F : Nat) (a0_0 : List UInt8) (a0_1 : List UInt8) (a1_0 : List UInt8) (a1_1 : List UInt8) : afun (c28 F) Try.f28 [AV.agg [AV.str a0_0, AV.str a0_1], AV.agg [AV.str a1_0, AV.str a1_1]] [] =
  bif lessB a0_0 a1_0 then
    .ret (AV.int IntKind.i64 (-1)) [AObj.var 47 [AV.str a0_0, AV.str a0_1], AObj.var 47 [AV.str a1_0, AV.str a1_1]]
  else
    bif eqS a0_0 a1_0 then
      bif lessB a0_1 a1_1 then
        .ret (AV.int IntKind.i64 (-1)) [AObj.var 47 [AV.str a0_0, AV.str a0_1], AObj.var 47 [AV.str a1_0, AV.str a1_1]]
      else
        bif eqS a0_0 a1_0 && (eqS a0_1 a1_1 && true) then
          .ret (AV.int IntKind.i64 0) [AObj.var 47 [AV.str a0_0, AV.str a0_1], AObj.var 47 [AV.str a1_0, AV.str a1_1]]
        else
          .ret (AV.int IntKind.i64 1) [AObj.var 47 [AV.str a0_0, AV.str a0_1], AObj.var 47 [AV.str a1_0, AV.str a1_1]]
    else
      bif eqS a0_0 a1_0 && (eqS a0_1 a1_1 && true) then
        .ret (AV.int IntKind.i64 0) [AObj.var 47 [AV.str a0_0, AV.str a0_1], AObj.var 47 [AV.str a1_0, AV.str a1_1]]
      else
        .ret (AV.int IntKind.i64 1) [AObj.var 47 [AV.str a0_0, AV.str a0_1], AObj.var 47 [AV.str a1_0, AV.str a1_1]] := by kernel_rfl


theorem ok28 : PureOk Try.prog 28 go27 := by
  refine pureOk_of (c28 rounds) tt28_ok (.cons ok51 .nil) follows rfl Try.func28 (by kernel_rfl) (by kernel_rfl) ?_ ?_
  · intro R stk args ret
    unfold go27
    split
    · rfl
    · rfl
  · intro args r objs h hr
    unfold go27 at h
    split at h
    · rename_i a b c d
      cases h
      refine ⟨_, ?_, .same⟩
      rw [apure_out]
      have e : outR (afun (c28 rounds) Try.f28 [.agg [.str a, .str b], .agg [.str c, .str d]] []) = some (.int .i64 (ordP a b c d), []) := by
        rw [f28_eq, Bool.and_true, lessB_iff, lessB_iff]
        have h1 := cmpB_range a c
        have h2 := cmpB_range b d
        have e1 : eqS a c = decide (cmpB a c = 0) := by
          rw [Bool.eq_iff_iff, decide_eq_true_eq]
          simp only [eqS, beq_iff_eq]
          exact ⟨fun h => by rw [h, cmpB_self], cmpB_zero⟩
        have e2 : eqS b d = decide (cmpB b d = 0) := by
          rw [Bool.eq_iff_iff, decide_eq_true_eq]
          simp only [eqS, beq_iff_eq]
          exact ⟨fun h => by rw [h, cmpB_self], cmpB_zero⟩
        rw [e1, e2]
        unfold ordP
        rcases h1 with h1 | h1 | h1 <;> rcases h2 with h2 | h2 | h2 <;> rw [h1, h2] <;> rfl
      exact e
    · cases h

theorem key_at (X : List (List Txt)) (hX : ∀ t ∈ X, t.length = 2) (i : Nat) (h : i < X.length) : (X.map strRow).getD i [] = [.str (txt0 (X.getD i [])), .str (txt1 (X.getD i []))] := by
  have htx := hX (X.getD i []) (by rw [List.getD, List.getElem?_eq_getElem h]; exact List.getElem_mem h)
  rw [rows_getD X i h]
  generalize X.getD i [] = t at htx
  obtain ⟨a, b, rfl⟩ : ∃ a b, t = [a, b] := by match t, htx with | [a, b], _ => exact ⟨a, b, rfl⟩
  rfl

def tt30 : Tab := [(0, ty0), (3, ty3), (4, ty4), (9, ty9), (47, ty47), (48, ty48)]
theorem tt30_ok : TabOk Try.prog tt30 := tabOk_of_all ⟨ty0_ok, ty3_ok, ty4_ok, ty9_ok, ty47_ok, ty48_ok, trivial⟩
def c30 (F : Nat) : Cfg := ⟨tt30, [(51, .pure go51)], F, [(0, ⟨[0, 3], []⟩)], [], 0⟩
noncomputable def f30_0 (F k : Nat) (x0 : List (List AV)) (x3 : Int) : Res := aloop (c30 F) Try.f30 0 [] k (St.mk [AV.ro (Pay.rows 2 x0), AV.top, AV.top, AV.int IntKind.i64 x3, AV.top, AV.top, AV.top, AV.top, AV.top, AV.top, AV.top, AV.top, AV.top, AV.top, AV.top, AV.top, AV.top, AV.top, AV.top, AV.top, AV.top, AV.top, AV.top] [])
theorem f30_eq (F : Nat) (a0 : List (List AV)) : afun (c30 F) Try.f30 [AV.ro (Pay.rows 2 a0)] [] =
  f30_0 F F a0 1 := by kernel_rfl
theorem f30_0_eq (F k : Nat) (x0 : List (List AV)) (x3 : Int) : f30_0 F (k + 1) x0 x3 =
  bif ltI x3 ↑x0.length then
    bif inB (IntKind.i64.wrap (x3 - 1)) x0.length then
      bif isStr (nth (x0.getD (IntKind.i64.wrap (x3 - 1)).toNat []) 0) then
        bif inB x3 x0.length then
          bif isStr (nth (x0.getD x3.toNat []) 0) then
            bif !lessB (strOf (nth (x0.getD (IntKind.i64.wrap (x3 - 1)).toNat []) 0)) (strOf (nth (x0.getD x3.toNat []) 0)) then
              .ret (AV.bool false) []
            else
              f30_0 F k x0 (IntKind.i64.wrap (x3 + 1))
          else
            .stuck
        else
          .stuck
      else
        .stuck
    else
      .stuck
  else
    .ret (AV.bool true) [] := by kernel_rfl


theorem f30_run (F : Nat) (X : List (List Txt)) (hX : ∀ t ∈ X, t.length = 2) (hm : X.length ≤ maxLen) : ∀ (d k j : Nat), X.length ≤ j + 1 + d → d < k → outR (f30_0 F k (X.map strRow) ((j + 1 : Nat) : Int)) = some (.bool (chainB lessK (X.drop j)), [])
  | d, 0, j, h1, h2 => absurd h2 (Nat.not_lt_zero _)
  | d, k + 1, j, h1, h2 => by
    unfold maxLen at hm
    by_cases hj : j + 1 < X.length
    · obtain ⟨d, rfl⟩ : ∃ m, d = m + 1 := ⟨d - 1, by omega⟩
      have ih := f30_run F X hX (by unfold maxLen; omega) d k (j + 1) (by omega) (by omega)
      rw [f30_0_eq, List.length_map, bif_pos (by rw [ltI_iff]; omega), wrap64 (n := ((j + 1 : Nat) : Int) - 1) (by omega) (by omega), bif_pos (by rw [inB_iff]; omega), show (((j + 1 : Nat) : Int) - 1).toNat = j by omega, show (((j + 1 : Nat) : Int)).toNat = j + 1 by omega,
        key_at X hX j (by omega), key_at X hX (j + 1) hj, drop_getD' X j [] (by omega), drop_getD' X (j + 1) [] hj]
      rw [drop_getD' X (j + 1) [] hj] at ih
      generalize X.getD j [] = s
      generalize X.getD (j + 1) [] = t at ih
      rw [show nth [AV.str (txt0 s), AV.str (txt1 s)] 0 = .str (txt0 s) from rfl, show nth [AV.str (txt0 t), AV.str (txt1 t)] 0 = .str (txt0 t) from rfl, bif_pos (c := isStr _) rfl, bif_pos (by rw [inB_iff]; omega), bif_pos (c := isStr _) rfl, show strOf (.str (txt0 s)) = txt0 s from rfl, show strOf (.str (txt0 t)) = txt0 t from rfl]
      unfold chainB
      show _ = some (AV.bool (lessB (txt0 s) (txt0 t) && _), [])
      cases hb : lessB (txt0 s) (txt0 t) with
      | false => rfl
      | true =>
        rw [Bool.not_true, cond_false, Bool.true_and, wrap64 (n := ((j + 1 : Nat) : Int) + 1) (by omega) (by omega), show ((j + 1 : Nat) : Int) + 1 = ((j + 1 + 1 : Nat) : Int) by omega]
        exact ih
    · rw [f30_0_eq, List.length_map, bif_neg (by rw [ltI_iff]; omega)]
      have : chainB lessK (X.drop j) = true := by
        have hl : (X.drop j).length ≤ 1 := by rw [List.length_drop]; omega
        match X.drop j, hl with
        | [], _ => rfl
        | [_], _ => rfl
      rw [this]; rfl

theorem ok30 : PureOk Try.prog 30 go30 := by
  refine pureOk_of (c30 rounds) tt30_ok (.cons ok51 .nil) follows rfl Try.func30 (by kernel_rfl) (by kernel_rfl) ?_ ?_
  · intro R stk args ret
    unfold go30
    split
    · simp only [elim_cond]; rfl
    · rfl
  · intro args r objs h hr
    unfold go30 at h
    split at h
    · rename_i l
      rcases bif_alt h with ⟨hf0, h⟩ | ⟨hf0, h⟩
      · cases h
        obtain ⟨e1, e2⟩ := okRows_out hf0
        have hl := hr.rowsLen
        have hx : (decRows l).length = l.length := List.length_map _
        refine ⟨_, ?_, .same⟩
        rw [apure_out]
        rw [f30_eq]
        have key := f30_run rounds (decRows l) e2 (by omega) (decRows l).length rounds 0 (by omega) (by unfold rounds; unfold maxLen at hl; omega)
        rw [← e1] at key
        exact key
      ·
        cases h
    · cases h

def tt52 : Tab := [(0, ty0), (3, ty3), (4, ty4), (9, ty9), (47, ty47), (48, ty48), (58, ty58)]
theorem tt52_ok : TabOk Try.prog tt52 := tabOk_of_all ⟨ty0_ok, ty3_ok, ty4_ok, ty9_ok, ty47_ok, ty48_ok, ty58_ok, trivial⟩
def c52 (F : Nat) : Cfg := ⟨tt52, [(27, .pure go27)], F, [(0, ⟨[0, 1, 5], []⟩)], [], 0⟩
noncomputable def f52_0 (F k : Nat) (x0 : List (List AV)) (x5 : Int) : Res := aloop (c52 F) Try.f52 0 [] k (St.mk [AV.ro (Pay.rows 2 x0), AV.fn 27 [], AV.top, AV.top, AV.top, AV.int IntKind.i64 x5, AV.top, AV.top, AV.top, AV.top, AV.top, AV.top, AV.top, AV.top, AV.top, AV.top, AV.top, AV.top, AV.top, AV.top, AV.top, AV.top, AV.top, AV.top, AV.top] [])
theorem f52_eq (F : Nat) (l : List (List AV)) : afun (c52 F) Try.f52 [AV.ro (Pay.rows 2 l), AV.fn 27 []] [] =
  f52_0 F F l (IntKind.i64.wrap (↑l.length - 1)) := by kernel_rfl
theorem f52_0_eq (F k : Nat) (x0 : List (List AV)) (x5 : Int) : f52_0 F (k + 1) x0 x5 =
  bif ltI 0 x5 then
    bif inB x5 x0.length then
      bif isStr (nth (List.take 2 (List.drop 0 (x0.getD x5.toNat []))) 0) then
        bif isStr (nth (List.take 2 (List.drop 0 (x0.getD x5.toNat []))) (0 + 1)) then
          bif inB (IntKind.i64.wrap (x5 - 1)) x0.length then
            bif isStr (nth (List.take 2 (List.drop 0 (x0.getD (IntKind.i64.wrap (x5 - 1)).toNat []))) 0) then
              bif isStr (nth (List.take 2 (List.drop 0 (x0.getD (IntKind.i64.wrap (x5 - 1)).toNat []))) (0 + 1)) then
                bif ltI (ordP (strOf (nth (List.take 2 (List.drop 0 (x0.getD x5.toNat []))) 0)) (strOf (nth (List.take 2 (List.drop 0 (x0.getD x5.toNat []))) (0 + 1))) (strOf (nth (List.take 2 (List.drop 0 (x0.getD (IntKind.i64.wrap (x5 - 1)).toNat []))) 0)) (strOf (nth (List.take 2 (List.drop 0 (x0.getD (IntKind.i64.wrap (x5 - 1)).toNat []))) (0 + 1)))) 0 then
                  .ret (AV.bool false) []
                else
                  f52_0 F k x0 (IntKind.i64.wrap (x5 - 1))
              else
                .stuck
            else
              .stuck
          else
            .stuck
        else
          .stuck
      else
        .stuck
    else
      .stuck
  else
    .ret (AV.bool true) [] := by kernel_rfl


theorem f52_run (F : Nat) (X : List (List Txt)) (hX : ∀ t ∈ X, t.length = 2) (hm : X.length ≤ maxLen) : ∀ (j k : Nat), j < X.length → j < k → outR (f52_0 F k (X.map strRow) j) = some (.bool (chainB notDown (X.take (j + 1))), [])
  | 0, k + 1, h1, h2 => by
    rw [f52_0_eq, bif_neg (by rw [ltI_iff]; omega)]
    have : chainB notDown (X.take (0 + 1)) = true := by
      have hl : (X.take (0 + 1)).length ≤ 1 := by rw [List.length_take]; omega
      match X.take (0 + 1), hl with
      | [], _ => rfl
      | [_], _ => rfl
    rw [this]; rfl
  | j + 1, k + 1, h1, h2 => by
    have ih := f52_run F X hX hm j k (by omega) (by omega)
    unfold maxLen at hm
    have hg : ∀ i, i < X.length → X[i]? = some (X.getD i []) := fun i hi => by rw [List.getD, List.getElem?_eq_getElem hi]; rfl
    have t1 : X.take (j + 1) = X.take j ++ [X.getD j []] := by rw [List.take_add_one, hg j (by omega)]; rfl
    have t2 : X.take (j + 1 + 1) = X.take j ++ [X.getD j [], X.getD (j + 1) []] := by rw [List.take_add_one, hg (j + 1) h1, t1]; simp
    rw [t1] at ih
    rw [t2, f52_0_eq, List.length_map, bif_pos (by rw [ltI_iff]; omega), bif_pos (by rw [inB_iff]; omega), wrap64 (n := ((j + 1 : Nat) : Int) - 1) (by omega) (by omega), show (((j + 1 : Nat) : Int) - 1) = (j : Int) by omega, show ((j : Int)).toNat = j by omega, show (((j + 1 : Nat) : Int)).toNat = j + 1 by omega,
      key_at X hX j (by omega), key_at X hX (j + 1) h1, chainB_snoc]
    generalize X.getD j [] = s at ih
    generalize X.getD (j + 1) [] = t
    rw [show List.take 2 (List.drop 0 [AV.str (txt0 s), AV.str (txt1 s)]) = [AV.str (txt0 s), AV.str (txt1 s)] from rfl, show List.take 2 (List.drop 0 [AV.str (txt0 t), AV.str (txt1 t)]) = [AV.str (txt0 t), AV.str (txt1 t)] from rfl,
      bif_pos (c := isStr _) rfl, bif_pos (c := isStr _) rfl, bif_pos (by rw [inB_iff]; omega), bif_pos (c := isStr _) rfl, bif_pos (c := isStr _) rfl]
    show outR (bif ltI (ordP (txt0 t) (txt1 t) (txt0 s) (txt1 s)) 0 then _ else _) = some (AV.bool (_ && !ltI (ordP (txt0 t) (txt1 t) (txt0 s) (txt1 s)) 0), [])
    cases ltI (ordP (txt0 t) (txt1 t) (txt0 s) (txt1 s)) 0 with
    | true => rw [Bool.not_true, Bool.and_false]; rfl
    | false => rw [Bool.not_false, Bool.and_true]; exact ih

theorem ok52 : PureOk Try.prog 52 go52 := by
  refine pureOk_of (c52 rounds) tt52_ok (.cons ok27 .nil) follows rfl Try.func52 (by kernel_rfl) (by kernel_rfl) ?_ ?_
  · intro R stk args ret
    unfold go52
    split
    · simp only [elim_cond]; rfl
    · rfl
  · intro args r objs h hr
    unfold go52 at h
    split at h
    · rename_i l
      rcases bif_alt h with ⟨hf0, h⟩ | ⟨hf0, h⟩
      · cases h
        obtain ⟨e1, e2⟩ := okRows_out hf0
        have hl := hr.rowsLen
        unfold maxLen at hl
        have hx : (decRows l).length = l.length := List.length_map _
        refine ⟨_, ?_, .same⟩
        rw [apure_out]
        rw [f52_eq, wrap64 (by omega) (by omega)]
        by_cases h0 : l.length = 0
        · have : l = [] := List.eq_nil_of_length_eq_zero h0
          subst this
          rw [show rounds = (rounds - 1) + 1 from rfl, f52_0_eq]
          rfl
        · have key := f52_run rounds (decRows l) e2 (by unfold maxLen; omega) (l.length - 1) rounds (by omega) (by unfold rounds; omega)
          rw [← e1, show ((l.length - 1 : Nat) : Int) = (l.length : Int) - 1 by omega, List.take_of_length_le (by omega)] at key
          exact key
      ·
        cases h
    · cases h

def tt29 : Tab := [(0, ty0), (3, ty3), (4, ty4), (9, ty9), (47, ty47), (48, ty48), (58, ty58)]
theorem tt29_ok : TabOk Try.prog tt29 := tabOk_of_all ⟨ty0_ok, ty3_ok, ty4_ok, ty9_ok, ty47_ok, ty48_ok, ty58_ok, trivial⟩
def c29 (F : Nat) : Cfg := ⟨tt29, [(52, .pure go52), (27, .pure go27)], F, [(0, ⟨[0, 5, 6], []⟩)], [], 0⟩
noncomputable def f29_0 (F k : Nat) (x0 : List (List AV)) (x5 : Int) (x6 : Int) : Res := aloop (c29 F) Try.f29 0 [] k (St.mk [AV.ro (Pay.rows 2 x0), AV.top, AV.top, AV.top, AV.top, AV.int IntKind.i64 x5, AV.int IntKind.i64 x6, AV.top, AV.top, AV.top, AV.top, AV.top, AV.top, AV.top, AV.top, AV.top, AV.top, AV.top, AV.top, AV.top, AV.top, AV.top, AV.top, AV.top, AV.top, AV.top, AV.top, AV.top] [])
theorem f29_eq (F : Nat) (a0 : List (List AV)) : afun (c29 F) Try.f29 [AV.ro (Pay.rows 2 a0)] [] =
  f29_0 F F a0 ↑a0.length 0 := by kernel_rfl
theorem f29_0_eq (F k : Nat) (x0 : List (List AV)) (x5 : Int) (x6 : Int) : f29_0 F (k + 1) x0 x5 x6 =
  bif ltI x6 x5 then
    bif ltI 0 x6 then
      bif inB (IntKind.i64.wrap (x6 - 1)) x0.length then
        bif isStr (nth (x0.getD (IntKind.i64.wrap (x6 - 1)).toNat []) 0) then
          bif inB x6 x0.length then
            bif isStr (nth (x0.getD x6.toNat []) 0) then
              bif !ltS (strOf (nth (x0.getD (IntKind.i64.wrap (x6 - 1)).toNat []) 0)) (strOf (nth (x0.getD x6.toNat []) 0)) then
                .ret (AV.bool false) []
              else
                f29_0 F k x0 x5 (IntKind.i64.wrap (x6 + 1))
            else
              .stuck
          else
            .stuck
        else
          .stuck
      else
        .stuck
    else
      f29_0 F k x0 x5 (IntKind.i64.wrap (x6 + 1))
  else
    bif okRows 2 x0 then
      .ret (AV.bool (chainB notDown (decRows x0))) []
    else
      .stuck := by kernel_rfl


theorem f29_run (F : Nat) (X : List (List Txt)) (hX : ∀ t ∈ X, t.length = 2) (hm : X.length ≤ maxLen) : ∀ (d k j : Nat), j + d = X.length → d < k → outR (f29_0 F k (X.map strRow) X.length j) = some (.bool (chainB lessK (X.drop (j - 1)) && chainB notDown X), [])
  | 0, k + 1, j, h1, h2 => by
    rw [f29_0_eq, bif_neg (by rw [ltI_iff]; omega), bif_pos (okRows_map hX), decRows_map]
    have : chainB lessK (X.drop (j - 1)) = true := by
      have hl : (X.drop (j - 1)).length ≤ 1 := by rw [List.length_drop]; omega
      match X.drop (j - 1), hl with
      | [], _ => rfl
      | [_], _ => rfl
    rw [this]; rfl
  | d + 1, k + 1, j, h1, h2 => by
    have ih := f29_run F X hX hm d k (j + 1) (by omega) (by omega)
    unfold maxLen at hm
    rw [f29_0_eq, List.length_map, bif_pos (by rw [ltI_iff]; omega)]
    by_cases h0 : j = 0
    · subst h0
      rw [bif_neg (by rw [ltI_iff]; decide)]
      exact ih
    · obtain ⟨j, rfl⟩ : ∃ m, j = m + 1 := ⟨j - 1, by omega⟩
      rw [show j + 1 - 1 = j from rfl]
      rw [show j + 1 + 1 - 1 = j + 1 from rfl, drop_getD' X (j + 1) [] (by omega)] at ih
      rw [bif_pos (by rw [ltI_iff]; omega), wrap64 (n := ((j + 1 : Nat) : Int) - 1) (by omega) (by omega), bif_pos (by rw [inB_iff]; omega), show (((j + 1 : Nat) : Int) - 1).toNat = j by omega, show (((j + 1 : Nat) : Int)).toNat = j + 1 by omega,
        key_at X hX j (by omega), key_at X hX (j + 1) (by omega), drop_getD' X j [] (by omega), drop_getD' X (j + 1) [] (by omega)]
      generalize X.getD j [] = s
      generalize X.getD (j + 1) [] = t at ih
      rw [show nth [AV.str (txt0 s), AV.str (txt1 s)] 0 = .str (txt0 s) from rfl, show nth [AV.str (txt0 t), AV.str (txt1 t)] 0 = .str (txt0 t) from rfl, bif_pos (c := isStr _) rfl, bif_pos (by rw [inB_iff]; omega), bif_pos (c := isStr _) rfl, show strOf (.str (txt0 s)) = txt0 s from rfl, show strOf (.str (txt0 t)) = txt0 t from rfl]
      show _ = some (AV.bool (lessB (txt0 s) (txt0 t) && chainB lessK (t :: X.drop (j + 1 + 1)) && chainB notDown X), [])
      rw [show ltS (txt0 s) (txt0 t) = lessB (txt0 s) (txt0 t) from rfl]
      cases hb : lessB (txt0 s) (txt0 t) with
      | false => rfl
      | true =>
        rw [Bool.not_true, cond_false, Bool.true_and, wrap64 (n := ((j + 1 : Nat) : Int) + 1) (by omega) (by omega), show ((j + 1 : Nat) : Int) + 1 = ((j + 1 + 1 : Nat) : Int) by omega]
        exact ih

theorem ok29 : PureOk Try.prog 29 go30 := by
  refine pureOk_of (c29 rounds) tt29_ok (.cons ok52 (.cons ok27 .nil)) follows rfl Try.func29 (by kernel_rfl) (by kernel_rfl) ?_ ?_
  · intro R stk args ret
    unfold go30
    split
    · simp only [elim_cond]; rfl
    · rfl
  · intro args r objs h hr
    unfold go30 at h
    split at h
    · rename_i l
      rcases bif_alt h with ⟨hf0, h⟩ | ⟨hf0, h⟩
      · cases h
        obtain ⟨e1, e2⟩ := okRows_out hf0
        have hl := hr.rowsLen
        have hx : (decRows l).length = l.length := List.length_map _
        refine ⟨_, ?_, .same⟩
        rw [apure_out]
        rw [f29_eq]
        have key := f29_run rounds (decRows l) e2 (by omega) (decRows l).length rounds 0 (by omega) (by unfold rounds; unfold maxLen at hl; omega)
        have hc : (chainB lessK ((decRows l).drop (0 - 1)) && chainB notDown (decRows l)) = chainB lessK (decRows l) := by
          rw [show (decRows l).drop (0 - 1) = decRows l from rfl]
          cases h : chainB lessK (decRows l) with
          | false => rfl
          | true => rw [chainB_mono lessK_notDown _ h]; rfl
        rw [hc, ← e1, hx] at key
        exact key
      ·
        cases h
    · cases h

end Go.Proofs.YtdkihlkcnnlkcaaG
