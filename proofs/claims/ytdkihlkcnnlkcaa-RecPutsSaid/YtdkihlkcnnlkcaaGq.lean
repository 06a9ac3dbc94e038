/- A part of the proof: plain laws, and what functions of the given program come to; no condition. -/
import Derived.Test.YtdkihlkcnnlkcaaGp
namespace Go.Proofs.YtdkihlkcnnlkcaaG
open Go Go.Proofs.YtdkihlkcnnlkcaaGm
set_option maxRecDepth 100000


def go35 (R : Type) (stk : R) (args : List AV) (ret : AV → List AObj → R) : R :=
  match args with
  | [.ro (.rows 1 x), .ro (.rows 1 y)] => bif okRows 1 x && okRows 1 y then ret (.bool (decide (decRows x = decRows y))) [] else stk
  | _ => stk

def go36 (R : Type) (stk : R) (args : List AV) (ret : AV → List AObj → R) : R :=
  match args with
  | [.ro (.rows 2 x), .ro (.rows 2 y)] => bif okRows 2 x && okRows 2 y then ret (.bool (decide (decRows x = decRows y))) [] else stk
  | _ => stk

def go37 (R : Type) (stk : R) (args : List AV) (ret : AV → List AObj → R) : R :=
  match args with
  | [.ro (.rows 1 l)] => bif okRows 1 l && roomT (decRows l).flatten then ret (.bool (longF (lens (decRows l)) 0 0)) [] else stk
  | _ => stk

def go26 (R : Type) (stk : R) (args : List AV) (ret : AV → List AObj → R) : R :=
  match args with
  | [.ro (.rows 2 l)] => bif okRows 2 l && roomT (decRows l).flatten then ret (.bool (longF (lens (decRows l)) 0 0)) [] else stk
  | _ => stk

def go38 (R : Type) (stk : R) (args : List AV) (ret : AV → List AObj → R) : R :=
  match args with
  | [.ro (.rows 1 l)] => bif okRows 1 l && Nat.ble (9 + szT (decRows l).flatten) 140737488355328 then ret (.own 0) [.arr 5 (.bytes (enc l.length ++ encTs (decRows l).flatten))] else stk
  | _ => stk

def go39 (R : Type) (stk : R) (args : List AV) (ret : AV → List AObj → R) : R :=
  match args with
  | [.ro (.rows 2 l)] => bif okRows 2 l && Nat.ble (9 + szT (decRows l).flatten) 140737488355328 then ret (.own 0) [.arr 5 (.bytes (enc l.length ++ encTs (decRows l).flatten))] else stk
  | _ => stk

def go49 (R : Type) (stk : R) (args : List AV) (ret : AV → List AObj → R) : R :=
  match args with
  | [.ro (.ints .i64 l)] => ret (.int .i64 (orL l)) []
  | _ => stk

def go27 (R : Type) (stk : R) (args : List AV) (ret : AV → List AObj → R) : R :=
  match args with
  | [.agg [.str a, .str b], .agg [.str c, .str d]] => ret (.int .i64 (ordP a b c d)) []
  | _ => stk

def go30 (R : Type) (stk : R) (args : List AV) (ret : AV → List AObj → R) : R :=
  match args with
  | [.ro (.rows 2 l)] => bif okRows 2 l then ret (.bool (chainB lessK (decRows l))) [] else stk
  | _ => stk

def go52 (R : Type) (stk : R) (args : List AV) (ret : AV → List AObj → R) : R :=
  match args with
  | [.ro (.rows 2 l), .fn 27 []] => bif okRows 2 l then ret (.bool (chainB notDown (decRows l))) [] else stk
  | _ => stk

def tt31 : Tab := [(0, ty0), (3, ty3), (5, ty5), (9, ty9), (23, ty23), (25, ty25), (44, ty44), (60, ty60), (89, ty89)]
theorem tt31_ok : TabOk Try.prog tt31 := tabOk_of_all ⟨ty0_ok, ty3_ok, ty5_ok, ty9_ok, ty23_ok, ty25_ok, ty44_ok, ty60_ok, ty89_ok, trivial⟩
def c31 (F : Nat) : Cfg := ⟨tt31, [(53, .pure go53)], F, [], [], 0⟩
theorem f31_eq (F : Nat) (a0 : List UInt8) (a1 : Int) : afun (c31 F) Try.f31 [AV.ro (Pay.bytes a0), AV.int IntKind.i64 a1] [] =
  .ret (AV.tup [AV.ro (Pay.rows 1 (oneR (getL a0 a1 1).fst)), AV.int IntKind.i64 (getL a0 a1 1).snd.fst, AV.int IntKind.i64 (getL a0 a1 1).snd.snd]) [] := by kernel_rfl


theorem ok31 : PureOk Try.prog 31 go31 := by
  refine pureOk_of (c31 rounds) tt31_ok (.cons ok53 .nil) follows rfl Try.func31 (by kernel_rfl) (by kernel_rfl) ?_ ?_
  · intro R stk args ret
    unfold go31
    split
    · rfl
    · rfl
  · intro args r objs h hr
    unfold go31 at h
    split at h
    · rename_i b i
      cases h
      refine ⟨_, ?_, .same⟩
      rw [apure_out]
      rw [f31_eq]
      rfl
    · cases h

def tt33 : Tab := [(0, ty0), (3, ty3), (5, ty5), (9, ty9), (23, ty23), (25, ty25), (47, ty47), (48, ty48), (64, ty64), (92, ty92)]
theorem tt33_ok : TabOk Try.prog tt33 := tabOk_of_all ⟨ty0_ok, ty3_ok, ty5_ok, ty9_ok, ty23_ok, ty25_ok, ty47_ok, ty48_ok, ty64_ok, ty92_ok, trivial⟩
def c33 (F : Nat) : Cfg := ⟨tt33, [(56, .pure go56)], F, [], [], 0⟩
theorem f33_eq (F : Nat) (a0 : List UInt8) (a1 : Int) : afun (c33 F) Try.f33 [AV.ro (Pay.bytes a0), AV.int IntKind.i64 a1] [] =
  .ret (AV.tup [AV.ro (Pay.rows 2 (pairR (getL a0 a1 2).fst)), AV.int IntKind.i64 (getL a0 a1 2).snd.fst, AV.int IntKind.i64 (getL a0 a1 2).snd.snd]) [] := by kernel_rfl


theorem ok33 : PureOk Try.prog 33 go33 := by
  refine pureOk_of (c33 rounds) tt33_ok (.cons ok56 .nil) follows rfl Try.func33 (by kernel_rfl) (by kernel_rfl) ?_ ?_
  · intro R stk args ret
    unfold go33
    split
    · rfl
    · rfl
  · intro args r objs h hr
    unfold go33 at h
    split at h
    · rename_i b i
      cases h
      refine ⟨_, ?_, .same⟩
      rw [apure_out]
      rw [f33_eq]
      rfl
    · cases h

def tt35 : Tab := [(0, ty0), (3, ty3), (4, ty4), (9, ty9), (44, ty44)]
theorem tt35_ok : TabOk Try.prog tt35 := tabOk_of_all ⟨ty0_ok, ty3_ok, ty4_ok, ty9_ok, ty44_ok, trivial⟩
def c35 (F : Nat) : Cfg := ⟨tt35, [], F, [(0, ⟨[0, 1, 5], []⟩)], [], 0⟩
noncomputable def f35_0 (F k : Nat) (x0 : List (List AV)) (x1 : List (List AV)) (x5 : Int) : Res := aloop (c35 F) Try.f35 0 [] k (St.mk [AV.ro (Pay.rows 1 x0), AV.ro (Pay.rows 1 x1), AV.top, AV.top, AV.top, AV.int IntKind.i64 x5, AV.top, AV.top, AV.top, AV.top, AV.top, AV.top, AV.top, AV.top, AV.top, AV.top, AV.top, AV.top, AV.top, AV.top, AV.top, AV.top, AV.top, AV.top, AV.top, AV.top] [])
theorem f35_eq (F : Nat) (a0 : List (List AV)) (a1 : List (List AV)) : afun (c35 F) Try.f35 [AV.ro (Pay.rows 1 a0), AV.ro (Pay.rows 1 a1)] [] =
  bif !eqI ↑a0.length ↑a1.length then
    .ret (AV.bool false) []
  else
    f35_0 F F a0 a1 0 := by kernel_rfl
theorem f35_0_eq (F k : Nat) (x0 : List (List AV)) (x1 : List (List AV)) (x5 : Int) : f35_0 F (k + 1) x0 x1 x5 =
  bif ltI x5 ↑x0.length then
    bif inB x5 x0.length then
      bif isStr (nth (x0.getD x5.toNat []) 0) then
        bif inB x5 x1.length then
          bif isStr (nth (x1.getD x5.toNat []) 0) then
            bif !eqS (strOf (nth (x0.getD x5.toNat []) 0)) (strOf (nth (x1.getD x5.toNat []) 0)) then
              .ret (AV.bool false) []
            else
              f35_0 F k x0 x1 (IntKind.i64.wrap (x5 + 1))
          else
            .stuck
        else
          .stuck
      else
        .stuck
    else
      .stuck
  else
    .ret (AV.bool true) [] := by kernel_rfl


theorem f35_run (F : Nat) (X Y : List (List Txt)) (hX : ∀ t ∈ X, t.length = 1) (hY : ∀ t ∈ Y, t.length = 1) (hl : X.length = Y.length) (hm : X.length ≤ maxLen) : ∀ (d k j : Nat), j + d = X.length → d < k →
    outR (f35_0 F k (X.map strRow) (Y.map strRow) j) = some (.bool (decide (X.drop j = Y.drop j)), [])
  | 0, k + 1, j, h1, h2 => by
    rw [f35_0_eq, bif_neg (by rw [ltI_iff, List.length_map]; omega), List.drop_eq_nil_of_le (by omega), List.drop_eq_nil_of_le (by omega)]
    rfl
  | d + 1, k + 1, j, h1, h2 => by
    have ih := f35_run F X Y hX hY hl hm d k (j + 1) (by omega) (by omega)
    have hj : j < X.length := by omega
    have hj' : j < Y.length := by omega
    have htx : (X.getD j []).length = 1 := hX _ (by rw [List.getD, List.getElem?_eq_getElem hj]; exact List.getElem_mem hj)
    have hty : (Y.getD j []).length = 1 := hY _ (by rw [List.getD, List.getElem?_eq_getElem hj']; exact List.getElem_mem hj')
    rw [drop_getD' X j [] hj, drop_getD' Y j [] hj', f35_0_eq, bif_pos (by rw [ltI_iff, List.length_map]; omega), bif_pos (by rw [inB_iff, List.length_map]; omega), show (j : Int).toNat = j by omega, rows_getD X j hj, rows_getD Y j hj']
    generalize X.getD j [] = tx at htx
    generalize Y.getD j [] = ty at hty
    unfold maxLen at hm
    obtain ⟨a, rfl⟩ := List.length_eq_one_iff.1 htx
    obtain ⟨b, rfl⟩ := List.length_eq_one_iff.1 hty
    rw [show nth (strRow [a]) 0 = .str a from rfl, show nth (strRow [b]) 0 = .str b from rfl, bif_pos (c := isStr _) rfl, bif_pos (by rw [inB_iff, List.length_map]; omega), bif_pos (c := isStr _) rfl, show strOf (.str a) = a from rfl, show strOf (.str b) = b from rfl]
    by_cases e : a = b
    · subst e
      rw [show eqS a a = true by simp [eqS], bif_neg (c := !true) (by decide), wrap64 (n := (j : Int) + 1) (by omega) (by omega), show (j : Int) + 1 = ((j + 1 : Nat) : Int) by omega, ih]
      simp
    · rw [show eqS a b = false by simp [eqS, e], bif_pos (c := !false) rfl]
      have : decide ([a] :: X.drop (j + 1) = [b] :: Y.drop (j + 1)) = false := by simp [e]
      rw [this]; rfl

theorem ok35 : PureOk Try.prog 35 go35 := by
  refine pureOk_of (c35 rounds) tt35_ok .nil follows rfl Try.func35 (by kernel_rfl) (by kernel_rfl) ?_ ?_
  · intro R stk args ret
    unfold go35
    split
    · simp only [elim_cond]; rfl
    · rfl
  · intro args r objs h hr
    unfold go35 at h
    split at h
    · rename_i x y
      rcases bif_alt h with ⟨hf0, h⟩ | ⟨hf0, h⟩
      · cases h
        rw [Bool.and_eq_true] at hf0
        obtain ⟨e1, e2⟩ := okRows_out hf0.1
        obtain ⟨e3, e4⟩ := okRows_out hf0.2
        have hl := hr.rowsLen
        have hx : (decRows x).length = x.length := List.length_map _
        have hy : (decRows y).length = y.length := List.length_map _
        refine ⟨_, ?_, .same⟩
        rw [apure_out]
        rw [f35_eq, bif_neI]
        by_cases e : x.length = y.length
        · rw [if_pos (by omega)]
          have key := f35_run rounds (decRows x) (decRows y) e2 e4 (by omega) (by omega) (decRows x).length rounds 0 (by omega) (by unfold rounds; unfold maxLen at hl; omega)
          rw [← e1, ← e3] at key
          exact key
        · rw [if_neg (by omega)]
          have : decide (decRows x = decRows y) = false := by
            rw [decide_eq_false_iff_not]
            intro h
            rw [h] at hx
            omega
          rw [this]; rfl
      ·
        cases h
    · cases h

def tt36 : Tab := [(0, ty0), (3, ty3), (4, ty4), (9, ty9), (47, ty47), (48, ty48)]
theorem tt36_ok : TabOk Try.prog tt36 := tabOk_of_all ⟨ty0_ok, ty3_ok, ty4_ok, ty9_ok, ty47_ok, ty48_ok, trivial⟩
def c36 (F : Nat) : Cfg := ⟨tt36, [], F, [(0, ⟨[0, 1, 5], []⟩)], [], 0⟩
noncomputable def f36_0 (F k : Nat) (x0 : List (List AV)) (x1 : List (List AV)) (x5 : Int) : Res := aloop (c36 F) Try.f36 0 [] k (St.mk [AV.ro (Pay.rows 2 x0), AV.ro (Pay.rows 2 x1), AV.top, AV.top, AV.top, AV.int IntKind.i64 x5, AV.top, AV.top, AV.top, AV.top, AV.top, AV.top, AV.top, AV.top, AV.top, AV.top, AV.top, AV.top, AV.top, AV.top, AV.top, AV.top, AV.top, AV.top, AV.top, AV.top] [])
theorem f36_eq (F : Nat) (a0 : List (List AV)) (a1 : List (List AV)) : afun (c36 F) Try.f36 [AV.ro (Pay.rows 2 a0), AV.ro (Pay.rows 2 a1)] [] =
  bif !eqI ↑a0.length ↑a1.length then
    .ret (AV.bool false) []
  else
    f36_0 F F a0 a1 0 := by kernel_rfl
theorem f36_0_eq (F k : Nat) (x0 : List (List AV)) (x1 : List (List AV)) (x5 : Int) : f36_0 F (k + 1) x0 x1 x5 =
  bif ltI x5 ↑x0.length then
    bif inB x5 x0.length then
      bif isStr (nth (List.take 2 (List.drop 0 (x0.getD x5.toNat []))) 0) then
        bif isStr (nth (List.take 2 (List.drop 0 (x0.getD x5.toNat []))) (0 + 1)) then
          bif inB x5 x1.length then
            bif isStr (nth (List.take 2 (List.drop 0 (x1.getD x5.toNat []))) 0) then
              bif isStr (nth (List.take 2 (List.drop 0 (x1.getD x5.toNat []))) (0 + 1)) then
                bif !(eqS (strOf (nth (List.take 2 (List.drop 0 (x0.getD x5.toNat []))) 0)) (strOf (nth (List.take 2 (List.drop 0 (x1.getD x5.toNat []))) 0)) && (eqS (strOf (nth (List.take 2 (List.drop 0 (x0.getD x5.toNat []))) (0 + 1))) (strOf (nth (List.take 2 (List.drop 0 (x1.getD x5.toNat []))) (0 + 1))) && true)) then
                  .ret (AV.bool false) []
                else
                  f36_0 F k x0 x1 (IntKind.i64.wrap (x5 + 1))
              else
                .stuck
            else
              .stuck
          else
            .stuck
        else
          .stuck
      else
        .stuck
    else
      .stuck
  else
    .ret (AV.bool true) [] := by kernel_rfl


theorem f36_run (F : Nat) (X Y : List (List Txt)) (hX : ∀ t ∈ X, t.length = 2) (hY : ∀ t ∈ Y, t.length = 2) (hl : X.length = Y.length) (hm : X.length ≤ maxLen) : ∀ (d k j : Nat), j + d = X.length → d < k →
    outR (f36_0 F k (X.map strRow) (Y.map strRow) j) = some (.bool (decide (X.drop j = Y.drop j)), [])
  | 0, k + 1, j, h1, h2 => by
    rw [f36_0_eq, bif_neg (by rw [ltI_iff, List.length_map]; omega), List.drop_eq_nil_of_le (by omega), List.drop_eq_nil_of_le (by omega)]
    rfl
  | d + 1, k + 1, j, h1, h2 => by
    have ih := f36_run F X Y hX hY hl hm d k (j + 1) (by omega) (by omega)
    have hj : j < X.length := by omega
    have hj' : j < Y.length := by omega
    have htx : (X.getD j []).length = 2 := hX _ (by rw [List.getD, List.getElem?_eq_getElem hj]; exact List.getElem_mem hj)
    have hty : (Y.getD j []).length = 2 := hY _ (by rw [List.getD, List.getElem?_eq_getElem hj']; exact List.getElem_mem hj')
    rw [drop_getD' X j [] hj, drop_getD' Y j [] hj', f36_0_eq, bif_pos (by rw [ltI_iff, List.length_map]; omega), bif_pos (by rw [inB_iff, List.length_map]; omega), show (j : Int).toNat = j by omega, rows_getD X j hj, rows_getD Y j hj']
    generalize X.getD j [] = tx at htx
    generalize Y.getD j [] = ty at hty
    unfold maxLen at hm
    obtain ⟨a, a2, rfl⟩ : ∃ a b, tx = [a, b] := by match tx, htx with | [a, b], _ => exact ⟨a, b, rfl⟩
    obtain ⟨b, b2, rfl⟩ : ∃ a b, ty = [a, b] := by match ty, hty with | [a, b], _ => exact ⟨a, b, rfl⟩
    rw [show List.take 2 (List.drop 0 (strRow [a, a2])) = [.str a, .str a2] from rfl, show List.take 2 (List.drop 0 (strRow [b, b2])) = [.str b, .str b2] from rfl, bif_pos (c := isStr _) rfl, bif_pos (c := isStr _) rfl, bif_pos (by rw [inB_iff, List.length_map]; omega), bif_pos (c := isStr _) rfl, bif_pos (c := isStr _) rfl,
      show nth [AV.str a, AV.str a2] 0 = .str a from rfl, show nth [AV.str a, AV.str a2] (0 + 1) = .str a2 from rfl, show nth [AV.str b, AV.str b2] 0 = .str b from rfl, show nth [AV.str b, AV.str b2] (0 + 1) = .str b2 from rfl, show strOf (.str a) = a from rfl, show strOf (.str b) = b from rfl, show strOf (.str a2) = a2 from rfl, show strOf (.str b2) = b2 from rfl]
    by_cases e : a = b ∧ a2 = b2
    · obtain ⟨e1, e2⟩ := e
      subst e1; subst e2
      rw [show (eqS a a && (eqS a2 a2 && true)) = true by simp [eqS], bif_neg (c := !true) (by decide), wrap64 (n := (j : Int) + 1) (by omega) (by omega), show (j : Int) + 1 = ((j + 1 : Nat) : Int) by omega, ih]
      simp
    · have e3 : (eqS a b && (eqS a2 b2 && true)) = false := by
        rw [Bool.and_true, Bool.eq_false_iff, Ne, Bool.and_eq_true]
        simpa [eqS] using e
      rw [e3, bif_pos (c := !false) rfl]
      have : decide ([a, a2] :: X.drop (j + 1) = [b, b2] :: Y.drop (j + 1)) = false := by
        rw [decide_eq_false_iff_not]
        intro h
        simp at h
        exact e ⟨h.1.1, h.1.2⟩
      rw [this]; rfl

theorem ok36 : PureOk Try.prog 36 go36 := by
  refine pureOk_of (c36 rounds) tt36_ok .nil follows rfl Try.func36 (by kernel_rfl) (by kernel_rfl) ?_ ?_
  · intro R stk args ret
    unfold go36
    split
    · simp only [elim_cond]; rfl
    · rfl
  · intro args r objs h hr
    unfold go36 at h
    split at h
    · rename_i x y
      rcases bif_alt h with ⟨hf0, h⟩ | ⟨hf0, h⟩
      · cases h
        rw [Bool.and_eq_true] at hf0
        obtain ⟨e1, e2⟩ := okRows_out hf0.1
        obtain ⟨e3, e4⟩ := okRows_out hf0.2
        have hl := hr.rowsLen
        have hx : (decRows x).length = x.length := List.length_map _
        have hy : (decRows y).length = y.length := List.length_map _
        refine ⟨_, ?_, .same⟩
        rw [apure_out]
        rw [f36_eq, bif_neI]
        by_cases e : x.length = y.length
        · rw [if_pos (by omega)]
          have key := f36_run rounds (decRows x) (decRows y) e2 e4 (by omega) (by omega) (decRows x).length rounds 0 (by omega) (by unfold rounds; unfold maxLen at hl; omega)
          rw [← e1, ← e3] at key
          exact key
        · rw [if_neg (by omega)]
          have : decide (decRows x = decRows y) = false := by
            rw [decide_eq_false_iff_not]
            intro h
            rw [h] at hx
            omega
          rw [this]; rfl
      ·
        cases h
    · cases h

def tt37 : Tab := [(0, ty0), (3, ty3), (4, ty4), (9, ty9), (44, ty44)]
theorem tt37_ok : TabOk Try.prog tt37 := tabOk_of_all ⟨ty0_ok, ty3_ok, ty4_ok, ty9_ok, ty44_ok, trivial⟩
def c37 (F : Nat) : Cfg := ⟨tt37, [], F, [(0, ⟨[0, 3, 4], []⟩)], [], 0⟩
noncomputable def f37_0 (F k : Nat) (x0 : List (List AV)) (x3 : Int) (x4 : Int) : Res := aloop (c37 F) Try.f37 0 [] k (St.mk [AV.ro (Pay.rows 1 x0), AV.top, AV.top, AV.int IntKind.i64 x3, AV.int IntKind.i64 x4, AV.top, AV.top, AV.top, AV.top, AV.top, AV.top, AV.top, AV.top, AV.top, AV.top, AV.top, AV.top, AV.top, AV.top, AV.top, AV.top, AV.top, AV.top, AV.top, AV.top, AV.top, AV.top] [])
theorem f37_eq (F : Nat) (a0 : List (List AV)) : afun (c37 F) Try.f37 [AV.ro (Pay.rows 1 a0)] [] =
  f37_0 F F a0 0 0 := by kernel_rfl
theorem f37_0_eq (F k : Nat) (x0 : List (List AV)) (x3 : Int) (x4 : Int) : f37_0 F (k + 1) x0 x3 x4 =
  bif ltI x4 ↑x0.length then
    bif ltI x4 200 then
      bif inB x4 x0.length then
        bif isStr (nth (x0.getD x4.toNat []) 0) then
          bif ltI 3000 (IntKind.i64.wrap (x3 + ↑(strOf (nth (x0.getD x4.toNat []) 0)).length)) then
            .ret (AV.bool true) []
          else
            f37_0 F k x0 (IntKind.i64.wrap (x3 + ↑(strOf (nth (x0.getD x4.toNat []) 0)).length)) (IntKind.i64.wrap (x4 + 1))
        else
          .stuck
      else
        .stuck
    else
      .ret (AV.bool (ltI 200 ↑x0.length)) []
  else
    .ret (AV.bool (ltI 200 ↑x0.length)) [] := by kernel_rfl


theorem f37_run (F : Nat) (X : List (List Txt)) (hX : ∀ t ∈ X, t.length = 1) (hr : roomT X.flatten = true) (hm : X.length ≤ maxLen) : ∀ (d k j : Nat) (m : Int), j + d = X.length → d < k → 0 ≤ m → m ≤ 3000 →
    outR (f37_0 F k (X.map strRow) m j) = some (.bool (longF (lens (X.drop j)) j m), [])
  | 0, k + 1, j, m, h1, h2, h3, h4 => by
    rw [f37_0_eq, List.length_map, bif_neg (by rw [ltI_iff]; omega), List.drop_eq_nil_of_le (by omega)]
    have : ltI 200 (X.length : Int) = decide ((200 : Int) < j) := by rw [Bool.eq_iff_iff, ltI_iff, decide_eq_true_eq]; omega
    rw [this]; rfl
  | d + 1, k + 1, j, m, h1, h2, h3, h4 => by
    have hj : j < X.length := by omega
    have hmem : X.getD j [] ∈ X := by rw [List.getD, List.getElem?_eq_getElem hj]; exact List.getElem_mem hj
    have htx := hX _ hmem
    have hrx : ∀ s ∈ X.getD j [], s.length ≤ 140737488355328 := fun s hs => by
      have := List.all_eq_true.1 hr s (List.mem_flatten.2 ⟨_, hmem, hs⟩)
      exact ble_iff.1 this
    have ih := f37_run F X hX hr hm d k (j + 1)
    rw [drop_getD' X j [] hj, f37_0_eq, List.length_map, bif_pos (by rw [ltI_iff]; omega), bif_ltI]
    unfold maxLen at hm
    show outR _ = some (AV.bool (longF (((X.getD j []).map List.length).sum :: lens (X.drop (j + 1))) j m), [])
    unfold longF
    by_cases g : (200 : Int) ≤ j
    · rw [if_neg (by omega), if_pos g, show ltI 200 (X.length : Int) = true by rw [ltI_iff]; omega]
      rfl
    rw [if_pos (by omega), if_neg g, bif_pos (by rw [inB_iff]; omega), show (j : Int).toNat = j by omega, rows_getD X j hj]
    generalize X.getD j [] = tx at htx hrx
    obtain ⟨a, rfl⟩ := List.length_eq_one_iff.1 htx
    have ha := hrx a (by simp)
    rw [show nth (strRow [a]) 0 = .str a from rfl, bif_pos (c := isStr _) rfl, show strOf (.str a) = a from rfl, wrap64 (n := m + _) (by omega) (by omega), bif_ltI, show ((([a].map List.length).sum : Nat) : Int) = a.length by simp]
    by_cases g2 : 3000 < m + (a.length : Int)
    · rw [if_pos g2, if_pos g2]; rfl
    · rw [if_neg g2, if_neg g2, wrap64 (n := (j : Int) + 1) (by omega) (by omega), show (j : Int) + 1 = ((j + 1 : Nat) : Int) by omega]
      exact ih _ (by omega) (by omega) (by omega) (by omega)

theorem ok37 : PureOk Try.prog 37 go37 := by
  refine pureOk_of (c37 rounds) tt37_ok .nil follows rfl Try.func37 (by kernel_rfl) (by kernel_rfl) ?_ ?_
  · intro R stk args ret
    unfold go37
    split
    · simp only [elim_cond]; rfl
    · rfl
  · intro args r objs h hr
    unfold go37 at h
    split at h
    · rename_i l
      rcases bif_alt h with ⟨hf0, h⟩ | ⟨hf0, h⟩
      · cases h
        rw [Bool.and_eq_true] at hf0
        obtain ⟨e1, e2⟩ := okRows_out hf0.1
        have hl := hr.rowsLen
        have hx : (decRows l).length = l.length := List.length_map _
        refine ⟨_, ?_, .same⟩
        rw [apure_out]
        rw [f37_eq]
        have key := f37_run rounds (decRows l) e2 hf0.2 (by omega) (decRows l).length rounds 0 0 (by omega) (by unfold rounds; unfold maxLen at hl; omega) (by decide) (by decide)
        rw [← e1] at key
        exact key
      ·
        cases h
    · cases h

def tt26 : Tab := [(0, ty0), (1, ty1), (3, ty3), (4, ty4), (9, ty9), (47, ty47), (48, ty48)]
theorem tt26_ok : TabOk Try.prog tt26 := tabOk_of_all ⟨ty0_ok, ty1_ok, ty3_ok, ty4_ok, ty9_ok, ty47_ok, ty48_ok, trivial⟩
def c26 (F : Nat) : Cfg := ⟨tt26, [], F, [(0, ⟨[0, 3, 4], []⟩)], [], 0⟩
noncomputable def f26_0 (F k : Nat) (x0 : List (List AV)) (x3 : Int) (x4 : Int) : Res := aloop (c26 F) Try.f26 0 [] k (St.mk [AV.ro (Pay.rows 2 x0), AV.top, AV.top, AV.int IntKind.i64 x3, AV.int IntKind.i64 x4, AV.top, AV.top, AV.top, AV.top, AV.top, AV.top, AV.top, AV.top, AV.top, AV.top, AV.top, AV.top, AV.top, AV.top, AV.top, AV.top, AV.top, AV.top, AV.top, AV.top, AV.top, AV.top, AV.top, AV.top, AV.top, AV.top, AV.top, AV.top, AV.top, AV.top] [])
theorem f26_eq (F : Nat) (a0 : List (List AV)) : afun (c26 F) Try.f26 [AV.ro (Pay.rows 2 a0)] [] =
  f26_0 F F a0 0 0 := by kernel_rfl
theorem f26_0_eq (F k : Nat) (x0 : List (List AV)) (x3 : Int) (x4 : Int) : f26_0 F (k + 1) x0 x3 x4 =
  bif ltI x4 ↑x0.length then
    bif ltI x4 200 then
      bif inB x4 x0.length then
        bif isStr (nth (x0.getD x4.toNat []) 0) then
          bif inB x4 x0.length then
            bif isStr (nth (x0.getD x4.toNat []) 1) then
              bif ltI 3000 (IntKind.i64.wrap (IntKind.i64.wrap (x3 + ↑(strOf (nth (x0.getD x4.toNat []) 0)).length) + ↑(strOf (nth (x0.getD x4.toNat []) 1)).length)) then
                .ret (AV.bool true) []
              else
                f26_0 F k x0 (IntKind.i64.wrap (IntKind.i64.wrap (x3 + ↑(strOf (nth (x0.getD x4.toNat []) 0)).length) + ↑(strOf (nth (x0.getD x4.toNat []) 1)).length)) (IntKind.i64.wrap (x4 + 1))
            else
              .stuck
          else
            .stuck
        else
          .stuck
      else
        .stuck
    else
      .ret (AV.bool (ltI 200 ↑x0.length)) []
  else
    .ret (AV.bool (ltI 200 ↑x0.length)) [] := by kernel_rfl


theorem f26_run (F : Nat) (X : List (List Txt)) (hX : ∀ t ∈ X, t.length = 2) (hr : roomT X.flatten = true) (hm : X.length ≤ maxLen) : ∀ (d k j : Nat) (m : Int), j + d = X.length → d < k → 0 ≤ m → m ≤ 3000 →
    outR (f26_0 F k (X.map strRow) m j) = some (.bool (longF (lens (X.drop j)) j m), [])
  | 0, k + 1, j, m, h1, h2, h3, h4 => by
    rw [f26_0_eq, List.length_map, bif_neg (by rw [ltI_iff]; omega), List.drop_eq_nil_of_le (by omega)]
    have : ltI 200 (X.length : Int) = decide ((200 : Int) < j) := by rw [Bool.eq_iff_iff, ltI_iff, decide_eq_true_eq]; omega
    rw [this]; rfl
  | d + 1, k + 1, j, m, h1, h2, h3, h4 => by
    have hj : j < X.length := by omega
    have hmem : X.getD j [] ∈ X := by rw [List.getD, List.getElem?_eq_getElem hj]; exact List.getElem_mem hj
    have htx := hX _ hmem
    have hrx : ∀ s ∈ X.getD j [], s.length ≤ 140737488355328 := fun s hs => by
      have := List.all_eq_true.1 hr s (List.mem_flatten.2 ⟨_, hmem, hs⟩)
      exact ble_iff.1 this
    have ih := f26_run F X hX hr hm d k (j + 1)
    rw [drop_getD' X j [] hj, f26_0_eq, List.length_map, bif_pos (by rw [ltI_iff]; omega), bif_ltI]
    unfold maxLen at hm
    show outR _ = some (AV.bool (longF (((X.getD j []).map List.length).sum :: lens (X.drop (j + 1))) j m), [])
    unfold longF
    by_cases g : (200 : Int) ≤ j
    · rw [if_neg (by omega), if_pos g, show ltI 200 (X.length : Int) = true by rw [ltI_iff]; omega]
      rfl
    rw [if_pos (by omega), if_neg g, bif_pos (by rw [inB_iff]; omega), show (j : Int).toNat = j by omega, rows_getD X j hj]
    generalize X.getD j [] = tx at htx hrx
    obtain ⟨a, b, rfl⟩ : ∃ a b, tx = [a, b] := by match tx, htx with | [a, b], _ => exact ⟨a, b, rfl⟩
    have ha := hrx a (by simp)
    have hb := hrx b (by simp)
    rw [show nth (strRow [a, b]) 0 = .str a from rfl, show nth (strRow [a, b]) 1 = .str b from rfl, bif_pos (c := isStr _) rfl, bif_pos (by rw [inB_iff]; omega), bif_pos (c := isStr _) rfl, show strOf (.str a) = a from rfl, show strOf (.str b) = b from rfl,
      wrap64 (n := m + _) (by omega) (by omega), wrap64 (n := m + _ + _) (by omega) (by omega), bif_ltI, show ((([a, b].map List.length).sum : Nat) : Int) = a.length + b.length by simp]
    by_cases g2 : 3000 < m + ((a.length : Int) + b.length)
    · rw [if_pos (by omega), if_pos g2]; rfl
    · rw [if_neg (by omega), if_neg g2, wrap64 (n := (j : Int) + 1) (by omega) (by omega), show (j : Int) + 1 = ((j + 1 : Nat) : Int) by omega, ← Int.add_assoc]
      exact ih _ (by omega) (by omega) (by omega) (by omega)

theorem ok26 : PureOk Try.prog 26 go26 := by
  refine pureOk_of (c26 rounds) tt26_ok .nil follows rfl Try.func26 (by kernel_rfl) (by kernel_rfl) ?_ ?_
  · intro R stk args ret
    unfold go26
    split
    · simp only [elim_cond]; rfl
    · rfl
  · intro args r objs h hr
    unfold go26 at h
    split at h
    · rename_i l
      rcases bif_alt h with ⟨hf0, h⟩ | ⟨hf0, h⟩
      · cases h
        rw [Bool.and_eq_true] at hf0
        obtain ⟨e1, e2⟩ := okRows_out hf0.1
        have hl := hr.rowsLen
        have hx : (decRows l).length = l.length := List.length_map _
        refine ⟨_, ?_, .same⟩
        rw [apure_out]
        rw [f26_eq]
        have key := f26_run rounds (decRows l) e2 hf0.2 (by omega) (decRows l).length rounds 0 0 (by omega) (by unfold rounds; unfold maxLen at hl; omega) (by decide) (by decide)
        rw [← e1] at key
        exact key
      ·
        cases h
    · cases h

def tt38 : Tab := [(0, ty0), (3, ty3), (4, ty4), (5, ty5), (9, ty9), (23, ty23), (44, ty44), (94, ty94)]
theorem tt38_ok : TabOk Try.prog tt38 := tabOk_of_all ⟨ty0_ok, ty3_ok, ty4_ok, ty5_ok, ty9_ok, ty23_ok, ty44_ok, ty94_ok, trivial⟩
def c38 (F : Nat) : Cfg := ⟨tt38, [(58, .pure go58), (59, .pure go59)], F, [(0, ⟨[0, 3, 4], [(3, 5)]⟩)], [], 0⟩
noncomputable def f38_0 (F k : Nat) (x0 : List (List AV)) (x4 : Int) (xh0 : List UInt8) : Res := aloop (c38 F) Try.f38 0 [] k (St.mk [AV.ro (Pay.rows 1 x0), AV.top, AV.top, AV.own 0, AV.int IntKind.i64 x4, AV.top, AV.top, AV.top, AV.top, AV.top, AV.top, AV.top, AV.top, AV.top, AV.top, AV.top, AV.top, AV.top, AV.top, AV.top, AV.top, AV.top, AV.top] [AObj.arr 5 (Pay.bytes xh0)])
theorem f38_eq (F : Nat) (a0 : List (List AV)) : afun (c38 F) Try.f38 [AV.ro (Pay.rows 1 a0)] [] =
  f38_0 F F a0 0 (enc (IntKind.u64.wrap ↑a0.length)) := by kernel_rfl
theorem f38_0_eq (F k : Nat) (x0 : List (List AV)) (x4 : Int) (xh0 : List UInt8) : f38_0 F (k + 1) x0 x4 xh0 =
  bif ltI x4 ↑x0.length then
    bif inB x4 x0.length then
      bif isStr (nth (x0.getD x4.toNat []) 0) then
        bif ((strOf (nth (x0.getD x4.toNat []) 0)).length + 9).ble 140737488355328 then
          bif appFits ty5 (Pay.bytes (xh0 ++ encT (strOf (nth (x0.getD x4.toNat []) 0)))) then
            f38_0 F k x0 (IntKind.i64.wrap (x4 + 1)) (xh0 ++ encT (strOf (nth (x0.getD x4.toNat []) 0)))
          else
            .stuck
        else
          .stuck
      else
        .stuck
    else
      .stuck
  else
    .ret (AV.own 0) [AObj.arr 5 (Pay.bytes xh0)] := by kernel_rfl


theorem f38_run (F : Nat) (X : List (List Txt)) (hX : ∀ t ∈ X, t.length = 1) (hm : X.length ≤ maxLen) : ∀ (d k j : Nat) (xb : List UInt8), j + d = X.length → d < k → xb.length + szT (X.drop j).flatten ≤ 140737488355328 →
    outR (f38_0 F k (X.map strRow) j xb) = some (.own 0, [.arr 5 (.bytes (xb ++ encTs (X.drop j).flatten))])
  | 0, k + 1, j, xb, h1, h2, h3 => by
    rw [f38_0_eq, List.length_map, bif_neg (by rw [ltI_iff]; omega), List.drop_eq_nil_of_le (by omega)]
    simp only [List.flatten_nil, encTs, List.flatMap_nil, List.append_nil]
    rfl
  | d + 1, k + 1, j, xb, h1, h2, h3 => by
    have hj : j < X.length := by omega
    have htx : (X.getD j []).length = 1 := hX _ (by rw [List.getD, List.getElem?_eq_getElem hj]; exact List.getElem_mem hj)
    have ih := f38_run F X hX hm d k (j + 1)
    rw [drop_getD' X j [] hj] at h3 ⊢
    rw [f38_0_eq, List.length_map, bif_pos (by rw [ltI_iff]; omega), bif_pos (by rw [inB_iff]; omega), show (j : Int).toNat = j by omega, rows_getD X j hj]
    unfold maxLen at hm
    generalize X.getD j [] = tx at htx h3
    rw [List.flatten_cons, szT_app] at h3
    obtain ⟨a, rfl⟩ := List.length_eq_one_iff.1 htx
    have ha := encT_len a
    rw [szT_cons, show szT [] = 0 from rfl] at h3
    rw [show nth (strRow [a]) 0 = .str a from rfl, bif_pos (c := isStr _) rfl, show strOf (.str a) = a from rfl, bif_pos (by rw [ble_iff]; omega), bif_pos (by rw [fits5, List.length_append]; omega), wrap64 (n := (j : Int) + 1) (by omega) (by omega), show (j : Int) + 1 = ((j + 1 : Nat) : Int) by omega,
      ih _ (by omega) (by omega) (by rw [List.length_append]; omega), List.flatten_cons, encTs_app, show encTs [a] = encT a by simp [encTs], List.append_assoc]

theorem ok38 : PureOk Try.prog 38 go38 := by
  refine pureOk_of (c38 rounds) tt38_ok (.cons ok58 (.cons ok59 .nil)) follows rfl Try.func38 (by kernel_rfl) (by kernel_rfl) ?_ ?_
  · intro R stk args ret
    unfold go38
    split
    · simp only [elim_cond]; rfl
    · rfl
  · intro args r objs h hr
    unfold go38 at h
    split at h
    · rename_i l
      rcases bif_alt h with ⟨hf0, h⟩ | ⟨hf0, h⟩
      · cases h
        rw [Bool.and_eq_true, ble_iff] at hf0
        obtain ⟨e1, e2⟩ := okRows_out hf0.1
        have h3 := hf0.2
        have hl := hr.rowsLen
        have he := be_len (l.length : Int)
        have hx : (decRows l).length = l.length := List.length_map _
        refine ⟨_, ?_, .same⟩
        rw [apure_out]
        have hl2 := hl
        unfold maxLen at hl2
        rw [f38_eq, wrapu64 (by omega) (by omega)]
        have key := f38_run rounds (decRows l) e2 (by omega) (decRows l).length rounds 0 (enc l.length) (by omega) (by unfold rounds; omega) (by rw [List.drop_zero]; omega)
        rw [← e1, List.drop_zero] at key
        exact key
      ·
        cases h
    · cases h

def tt39 : Tab := [(0, ty0), (1, ty1), (3, ty3), (4, ty4), (5, ty5), (9, ty9), (23, ty23), (47, ty47), (48, ty48), (94, ty94)]
theorem tt39_ok : TabOk Try.prog tt39 := tabOk_of_all ⟨ty0_ok, ty1_ok, ty3_ok, ty4_ok, ty5_ok, ty9_ok, ty23_ok, ty47_ok, ty48_ok, ty94_ok, trivial⟩
def c39 (F : Nat) : Cfg := ⟨tt39, [(58, .pure go58), (59, .pure go59)], F, [(0, ⟨[0, 3, 4], [(3, 5)]⟩)], [], 0⟩
noncomputable def f39_0 (F k : Nat) (x0 : List (List AV)) (x4 : Int) (xh0 : List UInt8) : Res := aloop (c39 F) Try.f39 0 [] k (St.mk [AV.ro (Pay.rows 2 x0), AV.top, AV.top, AV.own 0, AV.int IntKind.i64 x4, AV.top, AV.top, AV.top, AV.top, AV.top, AV.top, AV.top, AV.top, AV.top, AV.top, AV.top, AV.top, AV.top, AV.top, AV.top, AV.top, AV.top, AV.top, AV.top, AV.top, AV.top, AV.top, AV.top, AV.top, AV.top, AV.top] [AObj.arr 5 (Pay.bytes xh0)])
theorem f39_eq (F : Nat) (a0 : List (List AV)) : afun (c39 F) Try.f39 [AV.ro (Pay.rows 2 a0)] [] =
  f39_0 F F a0 0 (enc (IntKind.u64.wrap ↑a0.length)) := by kernel_rfl
theorem f39_0_eq (F k : Nat) (x0 : List (List AV)) (x4 : Int) (xh0 : List UInt8) : f39_0 F (k + 1) x0 x4 xh0 =
  bif ltI x4 ↑x0.length then
    bif inB x4 x0.length then
      bif isStr (nth (x0.getD x4.toNat []) 0) then
        bif ((strOf (nth (x0.getD x4.toNat []) 0)).length + 9).ble 140737488355328 then
          bif appFits ty5 (Pay.bytes (xh0 ++ encT (strOf (nth (x0.getD x4.toNat []) 0)))) then
            bif inB x4 x0.length then
              bif isStr (nth (x0.getD x4.toNat []) 1) then
                bif ((strOf (nth (x0.getD x4.toNat []) 1)).length + 9).ble 140737488355328 then
                  bif appFits ty5 (Pay.bytes (xh0 ++ encT (strOf (nth (x0.getD x4.toNat []) 0)) ++ encT (strOf (nth (x0.getD x4.toNat []) 1)))) then
                    f39_0 F k x0 (IntKind.i64.wrap (x4 + 1)) (xh0 ++ encT (strOf (nth (x0.getD x4.toNat []) 0)) ++ encT (strOf (nth (x0.getD x4.toNat []) 1)))
                  else
                    .stuck
                else
                  .stuck
              else
                .stuck
            else
              .stuck
          else
            .stuck
        else
          .stuck
      else
        .stuck
    else
      .stuck
  else
    .ret (AV.own 0) [AObj.arr 5 (Pay.bytes xh0)] := by kernel_rfl


theorem f39_run (F : Nat) (X : List (List Txt)) (hX : ∀ t ∈ X, t.length = 2) (hm : X.length ≤ maxLen) : ∀ (d k j : Nat) (xb : List UInt8), j + d = X.length → d < k → xb.length + szT (X.drop j).flatten ≤ 140737488355328 →
    outR (f39_0 F k (X.map strRow) j xb) = some (.own 0, [.arr 5 (.bytes (xb ++ encTs (X.drop j).flatten))])
  | 0, k + 1, j, xb, h1, h2, h3 => by
    rw [f39_0_eq, List.length_map, bif_neg (by rw [ltI_iff]; omega), List.drop_eq_nil_of_le (by omega)]
    simp only [List.flatten_nil, encTs, List.flatMap_nil, List.append_nil]
    rfl
  | d + 1, k + 1, j, xb, h1, h2, h3 => by
    have hj : j < X.length := by omega
    have htx : (X.getD j []).length = 2 := hX _ (by rw [List.getD, List.getElem?_eq_getElem hj]; exact List.getElem_mem hj)
    have ih := f39_run F X hX hm d k (j + 1)
    rw [drop_getD' X j [] hj] at h3 ⊢
    rw [f39_0_eq, List.length_map, bif_pos (by rw [ltI_iff]; omega), bif_pos (by rw [inB_iff]; omega), show (j : Int).toNat = j by omega, rows_getD X j hj]
    unfold maxLen at hm
    generalize X.getD j [] = tx at htx h3
    rw [List.flatten_cons, szT_app] at h3
    obtain ⟨a, b, rfl⟩ : ∃ a b, tx = [a, b] := by match tx, htx with | [a, b], _ => exact ⟨a, b, rfl⟩
    have ha := encT_len a
    have hb := encT_len b
    rw [szT_cons, szT_cons, show szT [] = 0 from rfl] at h3
    rw [show nth (strRow [a, b]) 0 = .str a from rfl, show nth (strRow [a, b]) 1 = .str b from rfl, bif_pos (c := isStr _) rfl, show strOf (.str a) = a from rfl, show strOf (.str b) = b from rfl, bif_pos (by rw [ble_iff]; omega), bif_pos (by rw [fits5, List.length_append]; omega),
      bif_pos (by rw [inB_iff]; omega), bif_pos (c := isStr _) rfl, bif_pos (by rw [ble_iff]; omega), bif_pos (by rw [fits5, List.length_append, List.length_append]; omega), wrap64 (n := (j : Int) + 1) (by omega) (by omega), show (j : Int) + 1 = ((j + 1 : Nat) : Int) by omega,
      ih _ (by omega) (by omega) (by rw [List.length_append, List.length_append]; omega), List.flatten_cons, encTs_app, show encTs [a, b] = encT a ++ encT b by simp [encTs], List.append_assoc, List.append_assoc]
    simp [List.append_assoc]

theorem ok39 : PureOk Try.prog 39 go39 := by
  refine pureOk_of (c39 rounds) tt39_ok (.cons ok58 (.cons ok59 .nil)) follows rfl Try.func39 (by kernel_rfl) (by kernel_rfl) ?_ ?_
  · intro R stk args ret
    unfold go39
    split
    · simp only [elim_cond]; rfl
    · rfl
  · intro args r objs h hr
    unfold go39 at h
    split at h
    · rename_i l
      rcases bif_alt h with ⟨hf0, h⟩ | ⟨hf0, h⟩
      · cases h
        rw [Bool.and_eq_true, ble_iff] at hf0
        obtain ⟨e1, e2⟩ := okRows_out hf0.1
        have h3 := hf0.2
        have hl := hr.rowsLen
        have he := be_len (l.length : Int)
        have hx : (decRows l).length = l.length := List.length_map _
        refine ⟨_, ?_, .same⟩
        rw [apure_out]
        have hl2 := hl
        unfold maxLen at hl2
        rw [f39_eq, wrapu64 (by omega) (by omega)]
        have key := f39_run rounds (decRows l) e2 (by omega) (decRows l).length rounds 0 (enc l.length) (by omega) (by unfold rounds; omega) (by rw [List.drop_zero]; omega)
        rw [← e1, List.drop_zero] at key
        exact key
      ·
        cases h
    · cases h

end Go.Proofs.YtdkihlkcnnlkcaaG
