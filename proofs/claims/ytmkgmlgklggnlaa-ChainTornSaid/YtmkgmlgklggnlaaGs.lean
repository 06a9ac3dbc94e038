/- A part of the proof: plain laws, and what functions of the given program come to; no condition. -/
import Derived.Test.YtmkgmlgklggnlaaGr
import Derived.Test.YtmkgmlgklggnlaaGmYframe
namespace Go.Proofs.YtmkgmlgklggnlaaG
open Go Go.Proofs.YtmkgmlgklggnlaaGm
set_option maxRecDepth 100000
set_option maxHeartbeats 0

def go72 (R : Type) (stk : R) (args : List AV) (ret : AV → List AObj → R) : R :=
  match args with
  | [.ro (.rows 1 x)] => bif okB x && Nat.ble (szB (decB x)) 70368744177664 then ret (.own 0) [.arr 5 (.bytes (decB x).flatten)] else stk
  | _ => stk

def go46 (R : Type) (stk : R) (args : List AV) (ret : AV → List AObj → R) : R :=
  match args with
  | [.ro (.rows 1 x), .ro (.rows 1 y)] => bif okB x && okB y then ret (.bool (decide (decB x = decB y))) [] else stk
  | _ => stk

def go45 (R : Type) (stk : R) (args : List AV) (ret : AV → List AObj → R) : R :=
  match args with
  | [.int .i64 n] => ret (.int .i64 n) []
  | _ => stk

def go49 (R : Type) (stk : R) (args : List AV) (ret : AV → List AObj → R) : R :=
  match args with
  | [.int .i64 n] => ret (.int .i64 (sizeF n)) []
  | _ => stk

def go41 (R : Type) (stk : R) (args : List AV) (ret : AV → List AObj → R) : R :=
  match args with
  | [.ro (.bytes b), .int .i64 i] => bif Nat.ble b.length 140737488355320 then ret (.tup [.ro (.bytes (getF b i).1), .int .i64 (getF b i).2.1, .int .i64 (getF b i).2.2]) [] else stk
  | _ => stk

def go47 (R : Type) (stk : R) (args : List AV) (ret : AV → List AObj → R) : R :=
  match args with
  | [.ro (.bytes b), .ro (.bytes d)] => bif Nat.blt 1048576 d.length then ret (.tup [.nil, .int .i64 5]) [] else bif Nat.ble b.length 35184372088832 then ret (.tup [.own 0, .int .i64 0]) [.arr 5 (.bytes (b ++ encF d))] else stk
  | _ => stk

def go48 (R : Type) (stk : R) (args : List AV) (ret : AV → List AObj → R) : R :=
  match args with
  | [.ro (.bytes d)] => bif Nat.ble d.length 35184372088832 then ret (.own 0) [.arr 5 (.bytes (encF d))] else stk
  | _ => stk

def tt72 : Tab := [(0, ty0), (3, ty3), (4, ty4), (5, ty5), (9, ty9), (22, ty22), (68, ty68)]
theorem tt72_ok : TabOk Try.prog tt72 := tabOk_of_all ⟨ty0_ok, ty3_ok, ty4_ok, ty5_ok, ty9_ok, ty22_ok, ty68_ok, trivial⟩
def c72 (F : Nat) : Cfg := ⟨tt72, [(94, .pure (goGrow 5))], F, [(0, ⟨[0, 3, 9, 10, 11], []⟩), (2, ⟨[6, 25, 26, 27], [(6, 5)]⟩)], [], 0⟩
noncomputable def f72_0 (F k : Nat) (x0 : List (List AV)) (x3 : Int) (x9 : List (List AV)) (x10 : Int) (x11 : Int) : Res := aloop (c72 F) Try.f72 0 [] k (St.mk [AV.ro (Pay.rows 1 x0), .top, .top, AV.int .i64 x3, .top, .top, .top, .top, .top, AV.ro (Pay.rows 1 x9), AV.int .i64 x10, AV.int .i64 x11, .top, .top, .top, .top, .top, .top, .top, .top, .top, .top, .top, .top, .top, .top, .top, .top, .top, .top, .top, .top, .top, .top, .top, .top] [])
noncomputable def f72_2 (F k : Nat) (x25 : List (List AV)) (x26 : Int) (x27 : Int) (xh0 : List UInt8) : Res := aloop (c72 F) Try.f72 2 [] k (St.mk [.top, .top, .top, .top, .top, .top, AV.own 0, .top, .top, .top, .top, .top, .top, .top, .top, .top, .top, .top, .top, .top, .top, .top, .top, .top, .top, AV.ro (Pay.rows 1 x25), AV.int .i64 x26, AV.int .i64 x27, .top, .top, .top, .top, .top, .top, .top, .top] [AObj.arr 5 (Pay.bytes xh0)])
theorem f72_eq (F : Nat) (a0 : List (List AV)) : afun (c72 F) Try.f72 [AV.ro (Pay.rows 1 a0)] [] =
 f72_0 F F a0 0 a0 ↑a0.length 0 := by kernel_rfl
theorem f72_0_eq (F k : Nat) (x0 : List (List AV)) (x3 : Int) (x9 : List (List AV)) (x10 : Int) (x11 : Int) : f72_0 F (k + 1) x0 x3 x9 x10 x11 =
 bif ltI x11 x10 then
 bif inB x11 x9.length then
 bif isRo (Pay.bytes []) (nth (x9.getD x11.toNat []) 0) then
 bif ltI (IntKind.i64.wrap (x3 + ↑(bytesOf (nth (x9.getD x11.toNat []) 0)).length)) 0 then
 .stuck
 else
 f72_0 F k x0 (IntKind.i64.wrap (x3 + ↑(bytesOf (nth (x9.getD x11.toNat []) 0)).length)) x9 x10 (IntKind.i64.wrap (x11 + 1))
 else
 .stuck
 else
 .stuck
 else
 bif eqI x3 0 then
 f72_2 F F x0 ↑x0.length 0 []
 else
 bif leI 1 x3 && leI x3 70368744177664 then
 f72_2 F F x0 ↑x0.length 0 []
 else
 .stuck := by kernel_rfl
theorem f72_2_eq (F k : Nat) (x25 : List (List AV)) (x26 : Int) (x27 : Int) (xh0 : List UInt8) : f72_2 F (k + 1) x25 x26 x27 xh0 =
 bif ltI x27 x26 then
 bif inB x27 x25.length then
 bif isRo (Pay.bytes []) (nth (x25.getD x27.toNat []) 0) then
 bif appFits ty5 (Pay.bytes (xh0 ++ bytesOf (nth (x25.getD x27.toNat []) 0))) then
 f72_2 F k x25 x26 (IntKind.i64.wrap (x27 + 1)) (xh0 ++ bytesOf (nth (x25.getD x27.toNat []) 0))
 else
 .stuck
 else
 .stuck
 else
 .stuck
 else
 .ret (AV.own 0) [AObj.arr 5 (Pay.bytes xh0)] := by kernel_rfl


def tt46 : Tab := [(0, ty0), (3, ty3), (4, ty4), (5, ty5), (9, ty9), (22, ty22), (68, ty68)]
theorem tt46_ok : TabOk Try.prog tt46 := tabOk_of_all ⟨ty0_ok, ty3_ok, ty4_ok, ty5_ok, ty9_ok, ty22_ok, ty68_ok, trivial⟩
def c46 (F : Nat) : Cfg := ⟨tt46, [], F, [(0, ⟨[0, 1, 5], []⟩)], [], 0⟩
noncomputable def f46_0 (F k : Nat) (x0 : List (List AV)) (x1 : List (List AV)) (x5 : Int) : Res := aloop (c46 F) Try.f46 0 [] k (St.mk [AV.ro (Pay.rows 1 x0), AV.ro (Pay.rows 1 x1), .top, .top, .top, AV.int .i64 x5, .top, .top, .top, .top, .top, .top, .top, .top, .top, .top, .top, .top, .top, .top, .top, .top, .top, .top, .top, .top, .top, .top] [])
theorem f46_eq (F : Nat) (a0 : List (List AV)) (a1 : List (List AV)) : afun (c46 F) Try.f46 [AV.ro (Pay.rows 1 a0), AV.ro (Pay.rows 1 a1)] [] =
 bif !eqI ↑a0.length ↑a1.length then
 .ret (AV.bool false) []
 else
 f46_0 F F a0 a1 0 := by kernel_rfl
theorem f46_0_eq (F k : Nat) (x0 : List (List AV)) (x1 : List (List AV)) (x5 : Int) : f46_0 F (k + 1) x0 x1 x5 =
 bif ltI x5 ↑x0.length then
 bif inB x5 x0.length then
 bif isRo (Pay.bytes []) (nth (x0.getD x5.toNat []) 0) then
 bif inB x5 x1.length then
 bif isRo (Pay.bytes []) (nth (x1.getD x5.toNat []) 0) then
 bif !eqS (bytesOf (nth (x0.getD x5.toNat []) 0)) (bytesOf (nth (x1.getD x5.toNat []) 0)) then
 .ret (AV.bool false) []
 else
 f46_0 F k x0 x1 (IntKind.i64.wrap (x5 + 1))
 else
 .stuck
 else
 .stuck
 else
 .stuck
 else
 .stuck
 else
 .ret (AV.bool true) [] := by kernel_rfl


def tt45 : Tab := [(3, ty3), (27, ty27)]
theorem tt45_ok : TabOk Try.prog tt45 := tabOk_of_all ⟨ty3_ok, ty27_ok, trivial⟩
def c45 (F : Nat) : Cfg := ⟨tt45, [], F, [], [], 0⟩
theorem f45_eq (F : Nat) (a0 : Int) : afun (c45 F) Try.f45 [AV.int .i64 a0] [] =
 .ret (AV.int .i64 a0) [] := by kernel_rfl


def tt49 : Tab := [(3, ty3), (4, ty4), (99, ty99)]
theorem tt49_ok : TabOk Try.prog tt49 := tabOk_of_all ⟨ty3_ok, ty4_ok, ty99_ok, trivial⟩
def c49 (F : Nat) : Cfg := ⟨tt49, [(83, .pure go83)], F, [], [], 0⟩
theorem f49_eq (F : Nat) (a0 : Int) : afun (c49 F) Try.f49 [AV.int .i64 a0] [] =
 bif ltI a0 0 then
 .ret (AV.int .i64 0) []
 else
 bif ltI 1048576 a0 then
 .ret (AV.int .i64 0) []
 else
 .ret (AV.int .i64 (IntKind.i64.wrap (IntKind.i64.wrap (len9 (IntKind.u64.wrap a0) + a0) + 4))) [] := by kernel_rfl


theorem big : 9223372036854775807 < rounds := by unfold rounds; omega
theorem rowsLen1 {x : List (List AV)} {l : List AV} (hr : Real (.ro (.rows 1 x) :: l)) : x.length ≤ 9223372036854775807 := by
  have := hr.rowsLen
  unfold maxLen at this
  omega
theorem nB (x : Txt) : nth (byteRow x) 0 = .ro (.bytes x) := rfl
theorem isRB (x : Txt) : isRo (Pay.bytes []) (.ro (.bytes x)) = true := rfl
theorem ofB (x : Txt) : bytesOf (.ro (.bytes x)) = x := rfl
theorem dropB (X : List Txt) (j : Nat) (h : j < X.length) : X.drop j = X.getD j [] :: X.drop (j + 1) := drop_getD' X j [] h
theorem f72_2_run (F : Nat) (X : List Txt) (hb : X.length ≤ 9223372036854775807) : ∀ (d k j : Nat) (s : Txt), j + d = X.length → d < k → s.length + szB (X.drop j) ≤ 140737488355328 → outR (f72_2 F k (X.map byteRow) X.length j s) = some (.own 0, [.arr 5 (.bytes (s ++ (X.drop j).flatten))])
  | d, k + 1, j, s, h1, h2, h3 => by
    rw [f72_2_eq, List.length_map]
    by_cases hj : j < X.length
    · obtain ⟨d, rfl⟩ : ∃ m, d = m + 1 := ⟨d - 1, by omega⟩
      rw [dropB X j hj, szB_cons] at h3
      rw [bif_pos (by rw [ltI_iff]; omega), bif_pos (by rw [inB_iff]; omega), Int.toNat_natCast, byteRow_getD X j hj, nB, isRB, ofB, cond_true, bif_pos (fits5.2 (by rw [List.length_append]; omega)), wrap64 (n := (j : Int) + 1) (by omega) (by omega),
        show (j : Int) + 1 = ((j + 1 : Nat) : Int) from rfl, f72_2_run F X hb d k (j + 1) _ (by omega) (by omega) (by rw [List.length_append]; omega), dropB X j hj, List.flatten_cons, List.append_assoc]
    · rw [bif_neg (by rw [ltI_iff]; omega), List.drop_eq_nil_of_le (by omega), List.flatten_nil, List.append_nil]; rfl
theorem f72_0_run (F : Nat) (X : List Txt) (hb : X.length ≤ 9223372036854775807) (hF : 9223372036854775807 < F) (hs : szB X ≤ 70368744177664) : ∀ (d k j : Nat) (n : Int), j + d = X.length → d < k → 0 ≤ n → n + szB (X.drop j) ≤ 70368744177664 →
    outR (f72_0 F k (X.map byteRow) n (X.map byteRow) X.length j) = some (.own 0, [.arr 5 (.bytes X.flatten)])
  | d, k + 1, j, n, h1, h2, h0, h3 => by
    rw [f72_0_eq, List.length_map]
    by_cases hj : j < X.length
    · obtain ⟨d, rfl⟩ : ∃ m, d = m + 1 := ⟨d - 1, by omega⟩
      rw [dropB X j hj, szB_cons] at h3
      rw [bif_pos (by rw [ltI_iff]; omega), bif_pos (by rw [inB_iff]; omega), Int.toNat_natCast, byteRow_getD X j hj, nB, isRB, ofB, cond_true, wrap64 (n := n + _) (by omega) (by omega), bif_neg (by rw [ltI_iff]; omega), wrap64 (n := (j : Int) + 1) (by omega) (by omega)]
      exact f72_0_run F X hb hF hs d k (j + 1) _ (by omega) (by omega) (by omega) (by omega)
    · have key := f72_2_run F X hb X.length F 0 [] (by omega) (by omega) (by rw [List.drop_zero]; simp; omega)
      rw [List.drop_zero, List.nil_append] at key
      rw [bif_neg (by rw [ltI_iff]; omega)]
      by_cases h : n = 0
      · rw [bif_pos (eqI_iff.2 h)]; exact key
      · rw [bif_neg (by rw [eqI_iff]; exact h), bif_pos (by rw [Bool.and_eq_true, leI_iff, leI_iff]; rw [List.drop_eq_nil_of_le (by omega)] at h3; simp [szB] at h3; omega)]
        exact key
theorem f72_all (F : Nat) (X : List Txt) (hb : X.length ≤ 9223372036854775807) (hF : 9223372036854775807 < F) (hs : szB X ≤ 70368744177664) : outR (afun (c72 F) Try.f72 [.ro (.rows 1 (X.map byteRow))] []) = some (.own 0, [.arr 5 (.bytes X.flatten)]) := by
  rw [f72_eq, List.length_map]
  exact f72_0_run F X hb hF hs X.length F 0 0 (by omega) (by omega) (by omega) (by rw [List.drop_zero]; omega)
theorem f46_run (F : Nat) (X Y : List Txt) (hl : X.length = Y.length) (hb : X.length ≤ 9223372036854775807) : ∀ (d k j : Nat), j + d = X.length → d < k → outR (f46_0 F k (X.map byteRow) (Y.map byteRow) j) = some (.bool (decide (X.drop j = Y.drop j)), [])
  | d, k + 1, j, h1, h2 => by
    rw [f46_0_eq, List.length_map, List.length_map]
    by_cases hj : j < X.length
    · obtain ⟨d, rfl⟩ : ∃ m, d = m + 1 := ⟨d - 1, by omega⟩
      rw [bif_pos (by rw [ltI_iff]; omega), bif_pos (by rw [inB_iff]; omega), Int.toNat_natCast, byteRow_getD X j hj, byteRow_getD Y j (by omega), show inB (j : Int) Y.length = true by rw [inB_iff]; omega, wrap64 (n := (j : Int) + 1) (by omega) (by omega), nB, nB, isRB, isRB, ofB, ofB, cond_true, cond_true, cond_true,
        dropB X j hj, dropB Y j (by omega)]
      generalize X.getD j [] = x
      generalize Y.getD j [] = y
      have ih := f46_run F X Y hl hb d k (j + 1) (by omega) (by omega)
      by_cases h : x = y
      · subst h
        rw [eqS_iff.2 rfl, Bool.not_true, cond_false, show (j : Int) + 1 = ((j + 1 : Nat) : Int) from rfl, ih]
        simp
      · rw [show eqS x y = false by rw [Bool.eq_false_iff, Ne, eqS_iff]; exact h, Bool.not_false, cond_true]
        have : ¬ (x :: X.drop (j + 1) = y :: Y.drop (j + 1)) := fun e => h (List.cons.inj e).1
        rw [decide_eq_false this]; rfl
    · rw [bif_neg (by rw [ltI_iff]; omega), List.drop_eq_nil_of_le (by omega), List.drop_eq_nil_of_le (by omega)]; rfl
theorem f46_all (F : Nat) (X Y : List Txt) (hb : X.length ≤ 9223372036854775807) (hF : 9223372036854775807 < F) : outR (afun (c46 F) Try.f46 [.ro (.rows 1 (X.map byteRow)), .ro (.rows 1 (Y.map byteRow))] []) = some (.bool (decide (X = Y)), []) := by
  rw [f46_eq, List.length_map, List.length_map]
  by_cases h : X.length = Y.length
  · rw [show (!eqI (X.length : Int) Y.length) = false by rw [Bool.not_eq_false', eqI_iff]; omega, cond_false]
    exact f46_run F X Y h hb X.length F 0 (by omega) (by omega)
  · rw [show (!eqI (X.length : Int) Y.length) = true by rw [Bool.not_eq_true', Bool.eq_false_iff, Ne, eqI_iff]; omega, cond_true, decide_eq_false (fun e => h (by rw [e]))]; rfl
theorem f49_all (F : Nat) (n : Int) : outR (afun (c49 F) Try.f49 [.int .i64 n] []) = some (.int .i64 (sizeF n), []) := by
  rw [f49_eq, bif_ltI, bif_ltI]
  unfold sizeF
  by_cases h0 : n < 0
  · rw [if_pos h0, if_pos (.inl h0)]; rfl
  rw [if_neg h0]
  by_cases h1 : 1048576 < n
  · rw [if_pos h1, if_pos (.inr h1)]; rfl
  have := len9_range n
  rw [if_neg h1, if_neg (by omega), wrapu64 (by omega) (by omega), wrap64 (n := len9 n + n) (by omega) (by omega), wrap64 (by omega) (by omega)]; rfl

theorem ok72 : PureOk Try.prog 72 go72 := by
  refine pureOk_of (c72 rounds) tt72_ok (.cons ok94 .nil) follows rfl Try.func72 (by kernel_rfl) (by kernel_rfl) ?_ ?_
  · intro R stk args ret
    unfold go72
    split
    · simp only [elim_cond]; rfl
    · rfl
  · intro args r objs h hr
    unfold go72 at h
    split at h
    · rename_i x
      rcases bif_alt h with ⟨hf0, h⟩ | ⟨hf0, h⟩
      · cases h
        rw [Bool.and_eq_true, ble_iff] at hf0
        have hl := rowsLen1 hr
        rw [okB_out hf0.1, List.length_map] at hl
        refine ⟨_, ?_, .same⟩
        rw [apure_out]
        rw [okB_out hf0.1, decB_map]
        exact f72_all rounds _ hl big hf0.2
      ·
        cases h
    · cases h

theorem ok46 : PureOk Try.prog 46 go46 := by
  refine pureOk_of (c46 rounds) tt46_ok .nil follows rfl Try.func46 (by kernel_rfl) (by kernel_rfl) ?_ ?_
  · intro R stk args ret
    unfold go46
    split
    · simp only [elim_cond]; rfl
    · rfl
  · intro args r objs h hr
    unfold go46 at h
    split at h
    · rename_i x y
      rcases bif_alt h with ⟨hf0, h⟩ | ⟨hf0, h⟩
      · cases h
        rw [Bool.and_eq_true] at hf0
        have hl := rowsLen1 hr
        rw [okB_out hf0.1, List.length_map] at hl
        refine ⟨_, ?_, .same⟩
        rw [apure_out]
        rw [okB_out hf0.1, okB_out hf0.2, decB_map, decB_map]
        exact f46_all rounds _ _ hl big
      ·
        cases h
    · cases h

theorem ok45 : PureOk Try.prog 45 go45 := by
  refine pureOk_of (c45 rounds) tt45_ok .nil follows rfl Try.func45 (by kernel_rfl) (by kernel_rfl) ?_ ?_
  · intro R stk args ret
    unfold go45
    split
    · rfl
    · rfl
  · intro args r objs h hr
    unfold go45 at h
    split at h
    · rename_i n
      cases h
      refine ⟨_, ?_, .same⟩
      rw [apure_out]
      rw [f45_eq]
      rfl
    · cases h

theorem ok49 : PureOk Try.prog 49 go49 := by
  refine pureOk_of (c49 rounds) tt49_ok (.cons ok83 .nil) follows rfl Try.func49 (by kernel_rfl) (by kernel_rfl) ?_ ?_
  · intro R stk args ret
    unfold go49
    split
    · rfl
    · rfl
  · intro args r objs h hr
    unfold go49 at h
    split at h
    · rename_i n
      cases h
      refine ⟨_, ?_, .same⟩
      rw [apure_out]
      exact f49_all rounds n
    · cases h

end Go.Proofs.YtmkgmlgklggnlaaG
