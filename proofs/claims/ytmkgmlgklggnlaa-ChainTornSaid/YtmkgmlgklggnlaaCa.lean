/- A part of the proof: plain laws, and what functions of the given program come to; no condition. -/
import Derived.Test.YtmkgmlgklggnlaaGt
import Derived.Test.YtmkgmlgklggnlaaGmYchain
namespace Go.Proofs.YtmkgmlgklggnlaaG
open Go Go.Proofs.YtmkgmlgklggnlaaGm
set_option maxRecDepth 100000
set_option maxHeartbeats 0

def go21 (R : Type) (stk : R) (args : List AV) (ret : AV → List AObj → R) : R :=
  match args with
  | [.agg [.int .i64 k, .int .i64 a, .int .i64 b, .int .i64 c, .ro (.rows 32 x)]] => ret (.bool (rightE k a b c x.length)) []
  | _ => stk

def go61 (R : Type) (stk : R) (args : List AV) (ret : AV → List AObj → R) : R :=
  match args with
  | [.ro (.bytes l)] => bif Nat.ble 32 l.length then ret (.arr (spanB l 0 32)) [] else stk
  | _ => stk

def go62 (R : Type) (stk : R) (args : List AV) (ret : AV → List AObj → R) : R :=
  match args with
  | [.ro (.ints .i64 l)] => bif Nat.blt 0 l.length && Nat.ble l.length 1000 then ret (.own 0) [.arr 5 (.bytes (encN l))] else stk
  | _ => stk

def go63 (R : Type) (stk : R) (args : List AV) (ret : AV → List AObj → R) : R :=
  match args with
  | [.ro (.rows 32 x), .ro (.rows 32 y)] => bif okS x && okS y then ret (.bool (eqR x y)) [] else stk
  | _ => stk

def go23 (R : Type) (stk : R) (args : List AV) (ret : AV → List AObj → R) : R :=
  match args with
  | [.agg [.int .i64 k, .int .i64 a, .int .i64 b, .int .i64 c, .ro (.rows 32 x)], .agg [.int .i64 k2, .int .i64 a2, .int .i64 b2, .int .i64 c2, .ro (.rows 32 y)]] => bif okS x && okS y then ret (.bool (sameE k a b c x k2 a2 b2 c2 y)) [] else stk
  | _ => stk

def go20 (R : Type) (stk : R) (args : List AV) (ret : AV → List AObj → R) : R :=
  match args with
  | [.agg [.int .i64 k, .int .i64 a, .int .i64 b, .int .i64 c, .ro (.rows 32 x)]] => bif !(rightE k a b c x.length) then ret (.tup [.nil, .int .i64 3]) [] else bif okS x then ret (.tup [.own 0, .int .i64 0]) [.arr 5 (.bytes (encE k a b c x))] else stk
  | _ => stk

def go24 (R : Type) (stk : R) (args : List AV) (ret : AV → List AObj → R) : R :=
  match args with
  | [.agg [.int .i64 k, .int .i64 a, .int .i64 b, .int .i64 c, .ro (.rows 32 x)]] => bif okS x && rightE k a b c x.length then ret (.own 0) [.arr 5 (.bytes (encE k a b c x))] else stk
  | _ => stk

def go16 (R : Type) (stk : R) (args : List AV) (ret : AV → List AObj → R) : R :=
  match args with
  | [.ro (.bytes b)] => bif Nat.ble b.length 800000 then ret (.tup [entV (getE b).1, .int .i64 (getE b).2]) [] else stk
  | _ => stk

def go19 (R : Type) (stk : R) (args : List AV) (ret : AV → List AObj → R) : R :=
  match args with
  | [.int .i64 n] => ret (.int .i64 n) []
  | _ => stk

def tt21 : Tab := [(0, ty0), (1, ty1), (2, ty2), (3, ty3), (4, ty4), (5, ty5), (24, ty24), (26, ty26), (52, ty52)]
theorem tt21_ok : TabOk Try.prog tt21 := tabOk_of_all ⟨ty0_ok, ty1_ok, ty2_ok, ty3_ok, ty4_ok, ty5_ok, ty24_ok, ty26_ok, ty52_ok, trivial⟩
def c21 (F : Nat) : Cfg := ⟨tt21, [], F, [], [], 0⟩
theorem f21_eq (F : Nat) (a0_0 : Int) (a0_1 : Int) (a0_2 : Int) (a0_3 : Int) (a0_4 : List (List AV)) : afun (c21 F) Try.f21 [AV.agg [AV.int .i64 a0_0, AV.int .i64 a0_1, AV.int .i64 a0_2, AV.int .i64 a0_3, AV.ro (Pay.rows 32 a0_4)]] [] =
 bif eqI a0_0 3 then
 bif leI 0 a0_0 then
 bif ltI a0_0 6 then
 bif leI 0 (if a0_3 < if a0_2 < a0_1 then a0_2 else a0_1 then a0_3 else if a0_2 < a0_1 then a0_2 else a0_1) then
 bif leI (if a0_3 > if a0_2 > a0_1 then a0_2 else a0_1 then a0_3 else if a0_2 > a0_1 then a0_2 else a0_1) 1073741824 then
 .ret (AV.bool (eqI (↑a0_4.length) 2)) [AObj.var 26 [AV.int .i64 a0_0, AV.int .i64 a0_1, AV.int .i64 a0_2, AV.int .i64 a0_3, AV.ro (Pay.rows 32 a0_4)]]
 else
 .ret (AV.bool false) [AObj.var 26 [AV.int .i64 a0_0, AV.int .i64 a0_1, AV.int .i64 a0_2, AV.int .i64 a0_3, AV.ro (Pay.rows 32 a0_4)]]
 else
 .ret (AV.bool false) [AObj.var 26 [AV.int .i64 a0_0, AV.int .i64 a0_1, AV.int .i64 a0_2, AV.int .i64 a0_3, AV.ro (Pay.rows 32 a0_4)]]
 else
 .ret (AV.bool false) [AObj.var 26 [AV.int .i64 a0_0, AV.int .i64 a0_1, AV.int .i64 a0_2, AV.int .i64 a0_3, AV.ro (Pay.rows 32 a0_4)]]
 else
 .ret (AV.bool false) [AObj.var 26 [AV.int .i64 a0_0, AV.int .i64 a0_1, AV.int .i64 a0_2, AV.int .i64 a0_3, AV.ro (Pay.rows 32 a0_4)]]
 else
 bif leI 0 a0_0 then
 bif ltI a0_0 6 then
 bif leI 0 (if a0_3 < if a0_2 < a0_1 then a0_2 else a0_1 then a0_3 else if a0_2 < a0_1 then a0_2 else a0_1) then
 bif leI (if a0_3 > if a0_2 > a0_1 then a0_2 else a0_1 then a0_3 else if a0_2 > a0_1 then a0_2 else a0_1) 1073741824 then
 .ret (AV.bool (eqI (↑a0_4.length) 0)) [AObj.var 26 [AV.int .i64 a0_0, AV.int .i64 a0_1, AV.int .i64 a0_2, AV.int .i64 a0_3, AV.ro (Pay.rows 32 a0_4)]]
 else
 .ret (AV.bool false) [AObj.var 26 [AV.int .i64 a0_0, AV.int .i64 a0_1, AV.int .i64 a0_2, AV.int .i64 a0_3, AV.ro (Pay.rows 32 a0_4)]]
 else
 .ret (AV.bool false) [AObj.var 26 [AV.int .i64 a0_0, AV.int .i64 a0_1, AV.int .i64 a0_2, AV.int .i64 a0_3, AV.ro (Pay.rows 32 a0_4)]]
 else
 .ret (AV.bool false) [AObj.var 26 [AV.int .i64 a0_0, AV.int .i64 a0_1, AV.int .i64 a0_2, AV.int .i64 a0_3, AV.ro (Pay.rows 32 a0_4)]]
 else
 .ret (AV.bool false) [AObj.var 26 [AV.int .i64 a0_0, AV.int .i64 a0_1, AV.int .i64 a0_2, AV.int .i64 a0_3, AV.ro (Pay.rows 32 a0_4)]] := by kernel_rfl


def tt22 : Tab := [(0, ty0), (1, ty1), (2, ty2), (3, ty3), (4, ty4), (5, ty5), (24, ty24), (26, ty26), (52, ty52)]
theorem tt22_ok : TabOk Try.prog tt22 := tabOk_of_all ⟨ty0_ok, ty1_ok, ty2_ok, ty3_ok, ty4_ok, ty5_ok, ty24_ok, ty26_ok, ty52_ok, trivial⟩
def c22 (F : Nat) : Cfg := ⟨tt22, [], F, [], [], 0⟩
theorem f22_eq (F : Nat) (a0_0 : Int) (a0_1 : Int) (a0_2 : Int) (a0_3 : Int) (a0_4 : List (List AV)) : afun (c22 F) Try.f22 [AV.agg [AV.int .i64 a0_0, AV.int .i64 a0_1, AV.int .i64 a0_2, AV.int .i64 a0_3, AV.ro (Pay.rows 32 a0_4)]] [] =
 bif ltI a0_0 0 then
 .ret (AV.bool false) [AObj.var 26 [AV.int .i64 a0_0, AV.int .i64 a0_1, AV.int .i64 a0_2, AV.int .i64 a0_3, AV.ro (Pay.rows 32 a0_4)]]
 else
 bif ltI 5 a0_0 then
 .ret (AV.bool false) [AObj.var 26 [AV.int .i64 a0_0, AV.int .i64 a0_1, AV.int .i64 a0_2, AV.int .i64 a0_3, AV.ro (Pay.rows 32 a0_4)]]
 else
 bif ltI a0_1 0 then
 .ret (AV.bool false) [AObj.var 26 [AV.int .i64 a0_0, AV.int .i64 a0_1, AV.int .i64 a0_2, AV.int .i64 a0_3, AV.ro (Pay.rows 32 a0_4)]]
 else
 bif ltI a0_2 0 then
 .ret (AV.bool false) [AObj.var 26 [AV.int .i64 a0_0, AV.int .i64 a0_1, AV.int .i64 a0_2, AV.int .i64 a0_3, AV.ro (Pay.rows 32 a0_4)]]
 else
 bif ltI a0_3 0 then
 .ret (AV.bool false) [AObj.var 26 [AV.int .i64 a0_0, AV.int .i64 a0_1, AV.int .i64 a0_2, AV.int .i64 a0_3, AV.ro (Pay.rows 32 a0_4)]]
 else
 bif ltI 1073741824 a0_1 then
 .ret (AV.bool false) [AObj.var 26 [AV.int .i64 a0_0, AV.int .i64 a0_1, AV.int .i64 a0_2, AV.int .i64 a0_3, AV.ro (Pay.rows 32 a0_4)]]
 else
 bif ltI 1073741824 a0_2 then
 .ret (AV.bool false) [AObj.var 26 [AV.int .i64 a0_0, AV.int .i64 a0_1, AV.int .i64 a0_2, AV.int .i64 a0_3, AV.ro (Pay.rows 32 a0_4)]]
 else
 bif ltI 1073741824 a0_3 then
 .ret (AV.bool false) [AObj.var 26 [AV.int .i64 a0_0, AV.int .i64 a0_1, AV.int .i64 a0_2, AV.int .i64 a0_3, AV.ro (Pay.rows 32 a0_4)]]
 else
 bif eqI a0_0 3 then
 .ret (AV.bool (eqI (↑a0_4.length) 2)) [AObj.var 26 [AV.int .i64 a0_0, AV.int .i64 a0_1, AV.int .i64 a0_2, AV.int .i64 a0_3, AV.ro (Pay.rows 32 a0_4)]]
 else
 .ret (AV.bool (eqI (↑a0_4.length) 0)) [AObj.var 26 [AV.int .i64 a0_0, AV.int .i64 a0_1, AV.int .i64 a0_2, AV.int .i64 a0_3, AV.ro (Pay.rows 32 a0_4)]] := by kernel_rfl


def tt62 : Tab := [(0, ty0), (3, ty3), (5, ty5), (22, ty22), (76, ty76), (99, ty99)]
theorem tt62_ok : TabOk Try.prog tt62 := tabOk_of_all ⟨ty0_ok, ty3_ok, ty5_ok, ty22_ok, ty76_ok, ty99_ok, trivial⟩
def c62 (F : Nat) : Cfg := ⟨tt62, [(81, .pure (normGo [.leaf .bytes, .leaf .keep] go81))], F, [(0, ⟨[3, 6, 7, 8], []⟩)], [], 0⟩
noncomputable def f62_0 (F k : Nat) (x6 : List Int) (x7 : Int) (x8 : Int) : Res := aloop (c62 F) Try.f62 0 [] k (St.mk [.top, .top, .top, AV.nil, .top, .top, AV.ro (Pay.ints .i64 x6), AV.int .i64 x7, AV.int .i64 x8, .top, .top, .top, .top, .top, .top, .top, .top, .top] [])
noncomputable def f62_0_1 (F k : Nat) (x6 : List Int) (x7 : Int) (x8 : Int) (xh0 : List UInt8) : Res := aloop (c62 F) Try.f62 0 [] k (St.mk [.top, .top, .top, AV.own 0, .top, .top, AV.ro (Pay.ints .i64 x6), AV.int .i64 x7, AV.int .i64 x8, .top, .top, .top, .top, .top, .top, .top, .top, .top] [AObj.arr 5 (Pay.bytes xh0)])
theorem f62_eq (F : Nat) (a0 : List Int) : afun (c62 F) Try.f62 [AV.ro (Pay.ints .i64 a0)] [] =
 f62_0 F F a0 ↑a0.length 0 := by kernel_rfl
theorem f62_0_eq (F k : Nat) (x6 : List Int) (x7 : Int) (x8 : Int) : f62_0 F (k + 1) x6 x7 x8 =
 bif ltI x8 x7 then
 bif inB x8 x6.length then
 f62_0_1 F k x6 x7 (IntKind.i64.wrap (x8 + 1)) ([] ++ enc (IntKind.u64.wrap (x6.getD x8.toNat 0)))
 else
 .stuck
 else
 .ret AV.nil [] := by kernel_rfl
theorem f62_0_1_eq (F k : Nat) (x6 : List Int) (x7 : Int) (x8 : Int) (xh0 : List UInt8) : f62_0_1 F (k + 1) x6 x7 x8 xh0 =
 bif ltI x8 x7 then
 bif inB x8 x6.length then
 bif (xh0.length + 9).ble 140737488355328 then
 f62_0_1 F k x6 x7 (IntKind.i64.wrap (x8 + 1)) (xh0 ++ enc (IntKind.u64.wrap (x6.getD x8.toNat 0)))
 else
 .stuck
 else
 .stuck
 else
 .ret (AV.own 0) [AObj.arr 5 (Pay.bytes xh0)] := by kernel_rfl


def tt63 : Tab := [(0, ty0), (3, ty3), (4, ty4), (5, ty5), (24, ty24), (52, ty52)]
theorem tt63_ok : TabOk Try.prog tt63 := tabOk_of_all ⟨ty0_ok, ty3_ok, ty4_ok, ty5_ok, ty24_ok, ty52_ok, trivial⟩
def c63 (F : Nat) : Cfg := ⟨tt63, [], F, [(0, ⟨[0, 1, 12, 13], []⟩)], [], 0⟩
noncomputable def f63_0 (F k : Nat) (x0 : List (List AV)) (x1 : List (List AV)) (x12 : Int) (x13 : Int) : Res := aloop (c63 F) Try.f63 0 [] k (St.mk [AV.ro (Pay.rows 32 x0), AV.ro (Pay.rows 32 x1), .top, .top, .top, .top, .top, .top, .top, .top, .top, .top, AV.int .i64 x12, AV.int .i64 x13, .top, .top, .top, .top, .top, .top, .top, .top, .top, .top, .top, .top] [])
theorem f63_eq (F : Nat) (a0 : List (List AV)) (a1 : List (List AV)) : afun (c63 F) Try.f63 [AV.ro (Pay.rows 32 a0), AV.ro (Pay.rows 32 a1)] [] =
 bif !eqI ↑a0.length ↑a1.length then
 .ret (AV.bool false) []
 else
 f63_0 F F a0 a1 ↑a0.length 0 := by kernel_rfl
theorem f63_0_eq (F k : Nat) (x0 : List (List AV)) (x1 : List (List AV)) (x12 : Int) (x13 : Int) : f63_0 F (k + 1) x0 x1 x12 x13 =
 bif ltI x13 x12 then
 bif inB x13 x0.length then
 bif (List.take 32 (List.drop 0 (x0.getD x13.toNat []))).length.beq 32 && (List.take 32 (List.drop 0 (x0.getD x13.toNat []))).all (isInt .u8) then
 bif inB x13 x1.length then
 bif (List.take 32 (List.drop 0 (x1.getD x13.toNat []))).length.beq 32 && (List.take 32 (List.drop 0 (x1.getD x13.toNat []))).all (isInt .u8) then
 bif !eqAs (spanA IntKind.u8 (List.take 32 (List.drop 0 (x0.getD x13.toNat []))) 32) (spanA IntKind.u8 (List.take 32 (List.drop 0 (x1.getD x13.toNat []))) 32) then
 .ret (AV.bool false) []
 else
 f63_0 F k x0 x1 x12 (IntKind.i64.wrap (x13 + 1))
 else
 .stuck
 else
 .stuck
 else
 .stuck
 else
 .stuck
 else
 .ret (AV.bool true) [] := by kernel_rfl


def tt19 : Tab := [(3, ty3), (27, ty27)]
theorem tt19_ok : TabOk Try.prog tt19 := tabOk_of_all ⟨ty3_ok, ty27_ok, trivial⟩
def c19 (F : Nat) : Cfg := ⟨tt19, [], F, [], [], 0⟩
theorem f19_eq (F : Nat) (a0 : Int) : afun (c19 F) Try.f19 [AV.int .i64 a0] [] =
 .ret (AV.int .i64 a0) [] := by kernel_rfl


theorem f21_all (F : Nat) (k a b c : Int) (x : List (List AV)) : outR (afun (c21 F) Try.f21 [.agg [.int .i64 k, .int .i64 a, .int .i64 b, .int .i64 c, .ro (.rows 32 x)]] []) = some (.bool (rightE k a b c x.length), []) := by
  rw [f21_eq]
  have m1 : (if c < if b < a then b else a then c else if b < a then b else a) = min (min a b) c := by split <;> split at * <;> omega
  have m2 : (if c > if b > a then b else a then c else if b > a then b else a) = max (max a b) c := by split <;> split at * <;> omega
  rw [m1, m2]
  simp only [bif_eqI, bif_leI, bif_ltI]
  by_cases h3 : k = 3
  · subst h3
    rw [if_pos rfl, if_pos (by decide), if_pos (by decide)]
    by_cases h4 : 0 ≤ min (min a b) c
    · rw [if_pos h4]
      by_cases h5 : max (max a b) c ≤ 1073741824
      · rw [if_pos h5]
        rw [rightE_is (m := 2) (by unfold RightE; omega)]; rfl
      · rw [if_neg h5, rightE_f (by unfold RightE; omega)]; rfl
    · rw [if_neg h4, rightE_f (by unfold RightE; omega)]; rfl
  · rw [if_neg h3]
    by_cases h6 : 0 ≤ k
    · rw [if_pos h6]
      by_cases h7 : k < 6
      · rw [if_pos h7]
        by_cases h4 : 0 ≤ min (min a b) c
        · rw [if_pos h4]
          by_cases h5 : max (max a b) c ≤ 1073741824
          · rw [if_pos h5]
            rw [rightE_is (m := 0) (by unfold RightE; omega)]; rfl
          · rw [if_neg h5, rightE_f (by unfold RightE; omega)]; rfl
        · rw [if_neg h4, rightE_f (by unfold RightE; omega)]; rfl
      · rw [if_neg h7, rightE_f (by unfold RightE; omega)]; rfl
    · rw [if_neg h6, rightE_f (by unfold RightE; omega)]; rfl
theorem f22_all (F : Nat) (k a b c : Int) (x : List (List AV)) : outR (afun (c22 F) Try.f22 [.agg [.int .i64 k, .int .i64 a, .int .i64 b, .int .i64 c, .ro (.rows 32 x)]] []) = some (.bool (rightE k a b c x.length), []) := by
  rw [f22_eq]
  simp only [bif_eqI, bif_leI, bif_ltI]
  by_cases h1 : k < 0
  · rw [if_pos h1, rightE_f (by unfold RightE; omega)]; rfl
  rw [if_neg h1]
  by_cases h2 : 5 < k
  · rw [if_pos h2, rightE_f (by unfold RightE; omega)]; rfl
  rw [if_neg h2]
  by_cases h3 : a < 0
  · rw [if_pos h3, rightE_f (by unfold RightE; omega)]; rfl
  rw [if_neg h3]
  by_cases h4 : b < 0
  · rw [if_pos h4, rightE_f (by unfold RightE; omega)]; rfl
  rw [if_neg h4]
  by_cases h5 : c < 0
  · rw [if_pos h5, rightE_f (by unfold RightE; omega)]; rfl
  rw [if_neg h5]
  by_cases h6 : 1073741824 < a
  · rw [if_pos h6, rightE_f (by unfold RightE; omega)]; rfl
  rw [if_neg h6]
  by_cases h7 : 1073741824 < b
  · rw [if_pos h7, rightE_f (by unfold RightE; omega)]; rfl
  rw [if_neg h7]
  by_cases h8 : 1073741824 < c
  · rw [if_pos h8, rightE_f (by unfold RightE; omega)]; rfl
  rw [if_neg h8]
  by_cases h9 : k = 3
  · rw [if_pos h9]
    rw [rightE_is (m := 2) (by unfold RightE; omega)]; rfl
  · rw [if_neg h9]
    rw [rightE_is (m := 0) (by unfold RightE; omega)]; rfl
theorem inB_lt {i n : Nat} (h : i < n) : inB (i : Int) n = true := by rw [inB_iff]; omega
theorem f62_run (F : Nat) (l : List Int) (hb : l.length ≤ 1000) : ∀ (d k j : Nat), j + d = l.length → d < k → outR (f62_0_1 F k l l.length j (encN (l.take j))) = some (.own 0, [.arr 5 (.bytes (encN l))])
  | d, k + 1, j, h1, h2 => by
    rw [f62_0_1_eq]
    by_cases hj : j < l.length
    · obtain ⟨d, rfl⟩ : ∃ m, d = m + 1 := ⟨d - 1, by omega⟩
      have he := encN_len (l.take j)
      rw [List.length_take] at he
      rw [bif_pos (by rw [ltI_iff]; omega), bif_pos (by rw [inB_iff]; omega), bif_pos (by rw [ble_iff]; omega), Int.toNat_natCast, wrap64 (n := (j : Int) + 1) (by omega) (by omega), show (j : Int) + 1 = ((j + 1 : Nat) : Int) from rfl]
      have e : encN (l.take j) ++ enc (IntKind.u64.wrap (l.getD j 0)) = encN (l.take (j + 1)) := by
        rw [List.take_add_one, List.getD_eq_getElem?_getD, List.getElem?_eq_getElem hj, encN_app]
        simp [encN]
      rw [e]
      exact f62_run F l hb d k (j + 1) (by omega) (by omega)
    · rw [bif_neg (by rw [ltI_iff]; omega), List.take_of_length_le (by omega)]; rfl
theorem f62_all (F : Nat) (l : List Int) (h0 : 0 < l.length) (hb : l.length ≤ 1000) (hF : 9223372036854775807 < F) : outR (afun (c62 F) Try.f62 [.ro (.ints .i64 l)] []) = some (.own 0, [.arr 5 (.bytes (encN l))]) := by
  rw [f62_eq]
  have key : ∀ k : Nat, 2000 ≤ k → outR (f62_0 F k l l.length 0) = some (.own 0, [.arr 5 (.bytes (encN l))]) := by
    intro k hk
    obtain ⟨k, rfl⟩ : ∃ m, k = m + 1 := ⟨k - 1, by omega⟩
    rw [f62_0_eq, bif_pos (by rw [ltI_iff]; omega), bif_pos (by rw [inB_iff]; omega), show IntKind.i64.wrap (0 + 1) = ((1 : Nat) : Int) from rfl, show (0 : Int).toNat = 0 from rfl]
    have e : [] ++ enc (IntKind.u64.wrap (l.getD 0 0)) = encN (l.take 1) := by
      rw [List.take_add_one, List.getD_eq_getElem?_getD, List.getElem?_eq_getElem h0]
      simp [encN]
    rw [e]
    exact f62_run F l hb (l.length - 1) k 1 (by omega) (by omega)
  exact key F (by omega)
theorem f63_run (F : Nat) (X Y : List (List AV)) (hX : okS X = true) (hY : okS Y = true) (hl : X.length = Y.length) (hb : X.length ≤ 9223372036854775807) : ∀ (d k j : Nat), j + d = X.length → d < k → outR (f63_0 F k X Y X.length j) = some (.bool (eqR (X.drop j) (Y.drop j)), [])
  | d, k + 1, j, h1, h2 => by
    rw [f63_0_eq]
    by_cases hj : j < X.length
    · obtain ⟨d, rfl⟩ : ∃ m, d = m + 1 := ⟨d - 1, by omega⟩
      obtain ⟨a1, a2⟩ := sumOk_out (okS_at hX j hj)
      obtain ⟨b1, b2⟩ := sumOk_out (okS_at hY j (by omega))
      rw [bif_pos (by rw [ltI_iff]; omega), bif_pos (by rw [inB_iff]; omega), Int.toNat_natCast, sum_take a1, sum_take b1, a1, b1, a2, b2, spanA_eq a1 a2, spanA_eq b1 b2, show inB (j : Int) Y.length = true by rw [inB_iff]; omega, wrap64 (n := (j : Int) + 1) (by omega) (by omega),
        drop_getD' X j [] hj, drop_getD' Y j [] (by omega)]
      have ih := f63_run F X Y hX hY hl hb d k (j + 1) (by omega) (by omega)
      generalize X.getD j [] = x at *
      generalize Y.getD j [] = y at *
      simp only [cond_true, show Nat.beq 32 32 = true from rfl, Bool.and_true]
      show outR (bif !eqAs x y then _ else f63_0 F k X Y X.length ((j + 1 : Nat) : Int)) = some (AV.bool (eqAs x y && eqR (X.drop (j + 1)) (Y.drop (j + 1))), [])
      cases eqAs x y with
      | true => rw [Bool.not_true, cond_false, ih, Bool.true_and]
      | false => rfl
    · rw [bif_neg (by rw [ltI_iff]; omega), List.drop_eq_nil_of_le (by omega), List.drop_eq_nil_of_le (by omega)]; rfl
theorem f63_all (F : Nat) (X Y : List (List AV)) (hX : okS X = true) (hY : okS Y = true) (hb : X.length ≤ 9223372036854775807) (hF : 9223372036854775807 < F) : outR (afun (c63 F) Try.f63 [.ro (.rows 32 X), .ro (.rows 32 Y)] []) = some (.bool (eqR X Y), []) := by
  rw [f63_eq]
  by_cases h : X.length = Y.length
  · rw [show (!eqI (X.length : Int) Y.length) = false by rw [Bool.not_eq_false', eqI_iff]; omega, cond_false]
    exact f63_run F X Y hX hY h hb X.length F 0 (by omega) (by omega)
  · rw [show (!eqI (X.length : Int) Y.length) = true by rw [Bool.not_eq_true', Bool.eq_false_iff, Ne, eqI_iff]; omega, cond_true, eqR_len h]; rfl
theorem rowsLenN {n : Nat} {x : List (List AV)} {l : List AV} (hr : Real (.ro (.rows n x) :: l)) : x.length ≤ 9223372036854775807 := by
  have := hr.rowsLen
  unfold maxLen at this
  omega

theorem ok21 : PureOk Try.prog 21 go21 := by
  refine pureOk_of (c21 rounds) tt21_ok .nil follows rfl Try.func21 (by kernel_rfl) (by kernel_rfl) ?_ ?_
  · intro R stk args ret
    unfold go21
    split
    · rfl
    · rfl
  · intro args r objs h hr
    unfold go21 at h
    split at h
    · rename_i k a b c x
      cases h
      refine ⟨_, ?_, .same⟩
      rw [apure_out]
      exact f21_all rounds k a b c x
    · cases h

theorem ok22 : PureOk Try.prog 22 go21 := by
  refine pureOk_of (c22 rounds) tt22_ok .nil follows rfl Try.func22 (by kernel_rfl) (by kernel_rfl) ?_ ?_
  · intro R stk args ret
    unfold go21
    split
    · rfl
    · rfl
  · intro args r objs h hr
    unfold go21 at h
    split at h
    · rename_i k a b c x
      cases h
      refine ⟨_, ?_, .same⟩
      rw [apure_out]
      exact f22_all rounds k a b c x
    · cases h

theorem ok62 : PureOk Try.prog 62 go62 := by
  refine pureOk_of (c62 rounds) tt62_ok (.cons (ok81.norm _) .nil) follows rfl Try.func62 (by kernel_rfl) (by kernel_rfl) ?_ ?_
  · intro R stk args ret
    unfold go62
    split
    · simp only [elim_cond]; rfl
    · rfl
  · intro args r objs h hr
    unfold go62 at h
    split at h
    · rename_i l
      rcases bif_alt h with ⟨hf0, h⟩ | ⟨hf0, h⟩
      · cases h
        rw [Bool.and_eq_true, blt_iff, ble_iff] at hf0
        refine ⟨_, ?_, .same⟩
        rw [apure_out]
        exact f62_all rounds l hf0.1 hf0.2 big
      ·
        cases h
    · cases h

theorem ok63 : PureOk Try.prog 63 go63 := by
  refine pureOk_of (c63 rounds) tt63_ok .nil follows rfl Try.func63 (by kernel_rfl) (by kernel_rfl) ?_ ?_
  · intro R stk args ret
    unfold go63
    split
    · simp only [elim_cond]; rfl
    · rfl
  · intro args r objs h hr
    unfold go63 at h
    split at h
    · rename_i x y
      rcases bif_alt h with ⟨hf0, h⟩ | ⟨hf0, h⟩
      · cases h
        rw [Bool.and_eq_true] at hf0
        refine ⟨_, ?_, .same⟩
        rw [apure_out]
        exact f63_all rounds x y hf0.1 hf0.2 (rowsLenN hr) big
      ·
        cases h
    · cases h

theorem ok19 : PureOk Try.prog 19 go19 := by
  refine pureOk_of (c19 rounds) tt19_ok .nil follows rfl Try.func19 (by kernel_rfl) (by kernel_rfl) ?_ ?_
  · intro R stk args ret
    unfold go19
    split
    · rfl
    · rfl
  · intro args r objs h hr
    unfold go19 at h
    split at h
    · rename_i n
      cases h
      refine ⟨_, ?_, .same⟩
      rw [apure_out]
      rw [f19_eq]
      rfl
    · cases h

end Go.Proofs.YtmkgmlgklggnlaaG
