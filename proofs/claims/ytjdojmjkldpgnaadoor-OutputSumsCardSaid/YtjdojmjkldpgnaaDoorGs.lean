/- A part of the proof: plain laws, and what functions of the given program come to; no condition. -/
import Derived.Test.YtjdojmjkldpgnaaDoorGr
import Derived.Test.YtjdojmjkldpgnaaDoorGmYframe
namespace Go.Proofs.YtjdojmjkldpgnaaDoorG
open Go Go.Proofs.YtjdojmjkldpgnaaDoorGm
set_option maxRecDepth 100000
set_option maxHeartbeats 0

def go106 (R : Type) (stk : R) (args : List AV) (ret : AV → List AObj → R) : R :=
  match args with
  | [.ro (.rows 1 x)] => bif okB x && Nat.ble (szB (decB x)) 70368744177664 then ret (.own 0) [.arr 5 (.bytes (decB x).flatten)] else stk
  | _ => stk

def go43 (R : Type) (stk : R) (args : List AV) (ret : AV → List AObj → R) : R :=
  match args with
  | [.ro (.bytes b), .int .i64 i] => bif Nat.ble b.length 140737488355320 then ret (.tup [.ro (.bytes (getF b i).1), .int .i64 (getF b i).2.1, .int .i64 (getF b i).2.2]) [] else stk
  | _ => stk

def go57 (R : Type) (stk : R) (args : List AV) (ret : AV → List AObj → R) : R :=
  match args with
  | [.ro (.bytes b), .ro (.bytes d)] => bif Nat.blt 1048576 d.length then ret (.tup [.nil, .int .i64 5]) [] else bif Nat.ble b.length 35184372088832 then ret (.tup [.own 0, .int .i64 0]) [.arr 5 (.bytes (b ++ encF d))] else stk
  | _ => stk

def go64 (R : Type) (stk : R) (args : List AV) (ret : AV → List AObj → R) : R :=
  match args with
  | [.ro (.bytes d)] => bif Nat.ble d.length 35184372088832 then ret (.own 0) [.arr 5 (.bytes (encF d))] else stk
  | _ => stk

def tt106 : Tab := [(0, ty0), (3, ty3), (4, ty4), (5, ty5), (9, ty9), (33, ty33), (202, ty202)]
theorem tt106_ok : TabOk Tryd.prog tt106 := tabOk_of_all ⟨ty0_ok, ty3_ok, ty4_ok, ty5_ok, ty9_ok, ty33_ok, ty202_ok, trivial⟩
def c106 (F : Nat) : Cfg := ⟨tt106, [(138, .pure (goGrow 5))], F, [(0, ⟨[0, 3, 9, 10, 11], []⟩), (2, ⟨[6, 25, 26, 27], [(6, 5)]⟩)], [], 0⟩
noncomputable def f106_0 (F k : Nat) (x0 : List (List AV)) (x3 : Int) (x9 : List (List AV)) (x10 : Int) (x11 : Int) : Res := aloop (c106 F) Tryd.f106 0 [] k (St.mk [AV.ro (Pay.rows 1 x0), AV.top, AV.top, AV.int IntKind.i64 x3, AV.top, AV.top, AV.top, AV.top, AV.top, AV.ro (Pay.rows 1 x9), AV.int IntKind.i64 x10, AV.int IntKind.i64 x11, AV.top, AV.top, AV.top, AV.top, AV.top, AV.top, AV.top, AV.top, AV.top, AV.top, AV.top, AV.top, AV.top, AV.top, AV.top, AV.top, AV.top, AV.top, AV.top, AV.top, AV.top, AV.top, AV.top, AV.top] [])
noncomputable def f106_2 (F k : Nat) (x25 : List (List AV)) (x26 : Int) (x27 : Int) (xh0 : List UInt8) : Res := aloop (c106 F) Tryd.f106 2 [] k (St.mk [AV.top, AV.top, AV.top, AV.top, AV.top, AV.top, AV.own 0, AV.top, AV.top, AV.top, AV.top, AV.top, AV.top, AV.top, AV.top, AV.top, AV.top, AV.top, AV.top, AV.top, AV.top, AV.top, AV.top, AV.top, AV.top, AV.ro (Pay.rows 1 x25), AV.int IntKind.i64 x26, AV.int IntKind.i64 x27, AV.top, AV.top, AV.top, AV.top, AV.top, AV.top, AV.top, AV.top] [AObj.arr 5 (Pay.bytes xh0)])
theorem f106_eq (F : Nat) (a0 : List (List AV)) : afun (c106 F) Tryd.f106 [AV.ro (Pay.rows 1 a0)] [] =
  f106_0 F F a0 0 a0 ↑a0.length 0 := by kernel_rfl
theorem f106_0_eq (F k : Nat) (x0 : List (List AV)) (x3 : Int) (x9 : List (List AV)) (x10 : Int) (x11 : Int) : f106_0 F (k + 1) x0 x3 x9 x10 x11 =
  bif ltI x11 x10 then
    bif inB x11 x9.length then
      bif isRo (Pay.bytes []) (nth (x9.getD x11.toNat []) 0) then
        bif ltI (IntKind.i64.wrap (x3 + ↑(bytesOf (nth (x9.getD x11.toNat []) 0)).length)) 0 then
          .stuck
        else
          f106_0 F k x0 (IntKind.i64.wrap (x3 + ↑(bytesOf (nth (x9.getD x11.toNat []) 0)).length)) x9 x10 (IntKind.i64.wrap (x11 + 1))
      else
        .stuck
    else
      .stuck
  else
    bif eqI x3 0 then
      f106_2 F F x0 ↑x0.length 0 []
    else
      bif leI 1 x3 && leI x3 70368744177664 then
        f106_2 F F x0 ↑x0.length 0 []
      else
        .stuck := by kernel_rfl
theorem f106_2_eq (F k : Nat) (x25 : List (List AV)) (x26 : Int) (x27 : Int) (xh0 : List UInt8) : f106_2 F (k + 1) x25 x26 x27 xh0 =
  bif ltI x27 x26 then
    bif inB x27 x25.length then
      bif isRo (Pay.bytes []) (nth (x25.getD x27.toNat []) 0) then
        bif appFits ty5 (Pay.bytes (xh0 ++ bytesOf (nth (x25.getD x27.toNat []) 0))) then
          f106_2 F k x25 x26 (IntKind.i64.wrap (x27 + 1)) (xh0 ++ bytesOf (nth (x25.getD x27.toNat []) 0))
        else
          .stuck
      else
        .stuck
    else
      .stuck
  else
    .ret (AV.own 0) [AObj.arr 5 (Pay.bytes xh0)] := by kernel_rfl


theorem big : 9223372036854775807 < rounds := by unfold rounds; omega
theorem rowsLen1 {x : List (List AV)} {l : List AV} (hr : Real (.ro (.rows 1 x) :: l)) : x.length ≤ 9223372036854775807 := by
  have := hr.rowsLen
  unfold maxLen at this
  omega
theorem nB (x : Txt) : nth (byteRow x) 0 = .ro (.bytes x) := rfl
theorem isRB (x : Txt) : isRo (Pay.bytes []) (.ro (.bytes x)) = true := rfl
theorem ofB (x : Txt) : bytesOf (.ro (.bytes x)) = x := rfl
theorem dropB (X : List Txt) (j : Nat) (h : j < X.length) : X.drop j = X.getD j [] :: X.drop (j + 1) := drop_getD' X j [] h
theorem f106_2_run (F : Nat) (X : List Txt) (hb : X.length ≤ 9223372036854775807) : ∀ (d k j : Nat) (s : Txt), j + d = X.length → d < k → s.length + szB (X.drop j) ≤ 140737488355328 → outR (f106_2 F k (X.map byteRow) X.length j s) = some (.own 0, [.arr 5 (.bytes (s ++ (X.drop j).flatten))])
  | d, k + 1, j, s, h1, h2, h3 => by
    rw [f106_2_eq, List.length_map]
    by_cases hj : j < X.length
    · obtain ⟨d, rfl⟩ : ∃ m, d = m + 1 := ⟨d - 1, by omega⟩
      rw [dropB X j hj, szB_cons] at h3
      rw [bif_pos (by rw [ltI_iff]; omega), bif_pos (by rw [inB_iff]; omega), Int.toNat_natCast, byteRow_getD X j hj, nB, isRB, ofB, cond_true, bif_pos (fits5.2 (by rw [List.length_append]; omega)), wrap64 (n := (j : Int) + 1) (by omega) (by omega),
        show (j : Int) + 1 = ((j + 1 : Nat) : Int) from rfl, f106_2_run F X hb d k (j + 1) _ (by omega) (by omega) (by rw [List.length_append]; omega), dropB X j hj, List.flatten_cons, List.append_assoc]
    · rw [bif_neg (by rw [ltI_iff]; omega), List.drop_eq_nil_of_le (by omega), List.flatten_nil, List.append_nil]; rfl
theorem f106_0_run (F : Nat) (X : List Txt) (hb : X.length ≤ 9223372036854775807) (hF : 9223372036854775807 < F) (hs : szB X ≤ 70368744177664) : ∀ (d k j : Nat) (n : Int), j + d = X.length → d < k → 0 ≤ n → n + szB (X.drop j) ≤ 70368744177664 →
    outR (f106_0 F k (X.map byteRow) n (X.map byteRow) X.length j) = some (.own 0, [.arr 5 (.bytes X.flatten)])
  | d, k + 1, j, n, h1, h2, h0, h3 => by
    rw [f106_0_eq, List.length_map]
    by_cases hj : j < X.length
    · obtain ⟨d, rfl⟩ : ∃ m, d = m + 1 := ⟨d - 1, by omega⟩
      rw [dropB X j hj, szB_cons] at h3
      rw [bif_pos (by rw [ltI_iff]; omega), bif_pos (by rw [inB_iff]; omega), Int.toNat_natCast, byteRow_getD X j hj, nB, isRB, ofB, cond_true, wrap64 (n := n + _) (by omega) (by omega), bif_neg (by rw [ltI_iff]; omega), wrap64 (n := (j : Int) + 1) (by omega) (by omega)]
      exact f106_0_run F X hb hF hs d k (j + 1) _ (by omega) (by omega) (by omega) (by omega)
    · have key := f106_2_run F X hb X.length F 0 [] (by omega) (by omega) (by rw [List.drop_zero]; simp; omega)
      rw [List.drop_zero, List.nil_append] at key
      rw [bif_neg (by rw [ltI_iff]; omega)]
      by_cases h : n = 0
      · rw [bif_pos (eqI_iff.2 h)]; exact key
      · rw [bif_neg (by rw [eqI_iff]; exact h), bif_pos (by rw [Bool.and_eq_true, leI_iff, leI_iff]; rw [List.drop_eq_nil_of_le (by omega)] at h3; simp [szB] at h3; omega)]
        exact key
theorem f106_all (F : Nat) (X : List Txt) (hb : X.length ≤ 9223372036854775807) (hF : 9223372036854775807 < F) (hs : szB X ≤ 70368744177664) : outR (afun (c106 F) Tryd.f106 [.ro (.rows 1 (X.map byteRow))] []) = some (.own 0, [.arr 5 (.bytes X.flatten)]) := by
  rw [f106_eq, List.length_map]
  exact f106_0_run F X hb hF hs X.length F 0 0 (by omega) (by omega) (by omega) (by rw [List.drop_zero]; omega)
theorem ok106 : PureOk Tryd.prog 106 go106 := by
  refine pureOk_of (c106 rounds) tt106_ok (.cons ok138 .nil) follows rfl Tryd.func106 (by kernel_rfl) (by kernel_rfl) ?_ ?_
  · intro R stk args ret
    unfold go106
    split
    · simp only [elim_cond]; rfl
    · rfl
  · intro args r objs h hr
    unfold go106 at h
    split at h
    · rename_i x
      rcases bif_alt h with ⟨hf0, h⟩ | ⟨hf0, h⟩
      · cases h
        rw [Bool.and_eq_true, ble_iff] at hf0
        have hl := rowsLen1 hr
        rw [okB_out hf0.1, List.length_map] at hl
        refine ⟨_, ?_, .same⟩
        rw [apure_out]
        rw [okB_out hf0.1, decB_map]
        exact f106_all rounds _ hl big hf0.2
      ·
        cases h
    · cases h

end Go.Proofs.YtjdojmjkldpgnaaDoorG
