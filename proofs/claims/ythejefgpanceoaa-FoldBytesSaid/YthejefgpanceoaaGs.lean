/- A part of the proof: plain laws, and what functions of the given program come to; no condition. -/
import Derived.Test.YthejefgpanceoaaGr
import Derived.Test.YthejefgpanceoaaGmYfoldb
namespace Go.Proofs.YthejefgpanceoaaG
open Go Go.Proofs.YthejefgpanceoaaGm
set_option maxRecDepth 100000

def go57 (R : Type) (stk : R) (args : List AV) (ret : AV → List AObj → R) : R :=
  match args with
  | [.ro (.bytes l), .agg [.int .u8 k, .int .i64 n, .str s]] => bif Nat.ble (l.length + s.length + 10) 140737488355328 then ret (.own 0) [.arr 5 (.bytes (l ++ encVal (k, n, s)))] else stk
  | [.nil, .agg [.int .u8 k, .int .i64 n, .str s]] => bif Nat.ble (s.length + 10) 140737488355328 then ret (.own 0) [.arr 5 (.bytes (encVal (k, n, s)))] else stk
  | _ => stk

def go58 (R : Type) (stk : R) (args : List AV) (ret : AV → List AObj → R) : R :=
  match args with
  | [.ro (.bytes l), .int .i64 i] => ret (.tup [.agg [.int .u8 (getVal l i).1.1, .int .i64 (getVal l i).1.2.1, .str (getVal l i).1.2.2], .int .i64 (getVal l i).2.1, .int .i64 (getVal l i).2.2]) []
  | _ => stk

def go62 (R : Type) (stk : R) (args : List AV) (ret : AV → List AObj → R) : R :=
  match args with
  | [.agg [.int .u8 k, .int .i64 n, .str s]] => bif Nat.ble (s.length + 10) 140737488355328 then ret (.own 0) [.arr 5 (.bytes (encVal (k, n, s)))] else stk
  | _ => stk

def tt57 : Tab := [(0, ty0), (1, ty1), (2, ty2), (3, ty3), (4, ty4), (5, ty5), (9, ty9), (26, ty26), (43, ty43)]
theorem tt57_ok : TabOk Try.prog tt57 := tabOk_of_all ⟨ty0_ok, ty1_ok, ty2_ok, ty3_ok, ty4_ok, ty5_ok, ty9_ok, ty26_ok, ty43_ok, trivial⟩
def c57 (F : Nat) : Cfg := ⟨tt57, [(56, .pure go56), (79, .pure go79)], F, [], [], 0⟩
theorem f57_eq (F : Nat) (a0 : List UInt8) (a1_0 : Int) (a1_1 : Int) (a1_2 : List UInt8) : afun (c57 F) Try.f57 [AV.ro (Pay.bytes a0), AV.agg [AV.int IntKind.u8 a1_0, AV.int IntKind.i64 a1_1, AV.str a1_2]] [] =
  bif eqI a1_0 0 then
    bif appFits ty5 (Pay.bytes (List.replicate 0 0 ++ a0)) then
      bif appFits ty5 (Pay.bytes (List.replicate 0 0 ++ a0 ++ ([UInt8.ofNat (Int.toNat 0)] ++ enc (zig a1_1)))) then
        .ret (AV.own 1) [AObj.var 26 [AV.int IntKind.u8 a1_0, AV.int IntKind.i64 a1_1, AV.str a1_2], AObj.arr 5 (Pay.bytes (List.replicate 0 0 ++ a0 ++ ([UInt8.ofNat (Int.toNat 0)] ++ enc (zig a1_1)))), AObj.arr 5 (Pay.bytes [UInt8.ofNat (Int.toNat 0)]), AObj.arr 5 (Pay.bytes ([UInt8.ofNat (Int.toNat 0)] ++ enc (zig a1_1)))]
      else
        .stuck
    else
      .stuck
  else
    bif appFits ty5 (Pay.bytes (List.replicate 0 0 ++ a0)) then
      bif ([UInt8.ofNat (Int.toNat 1)].length + a1_2.length + 9).ble 140737488355328 then
        bif appFits ty5 (Pay.bytes (List.replicate 0 0 ++ a0 ++ ([UInt8.ofNat (Int.toNat 1)] ++ encT a1_2))) then
          .ret (AV.own 1) [AObj.var 26 [AV.int IntKind.u8 a1_0, AV.int IntKind.i64 a1_1, AV.str a1_2], AObj.arr 5 (Pay.bytes (List.replicate 0 0 ++ a0 ++ ([UInt8.ofNat (Int.toNat 1)] ++ encT a1_2))), AObj.arr 5 (Pay.bytes [UInt8.ofNat (Int.toNat 1)]), AObj.arr 5 (Pay.bytes ([UInt8.ofNat (Int.toNat 1)] ++ encT a1_2))]
        else
          .stuck
      else
        .stuck
    else
      .stuck := by kernel_rfl


def tt58 : Tab := [(0, ty0), (1, ty1), (2, ty2), (3, ty3), (4, ty4), (5, ty5), (9, ty9), (26, ty26), (29, ty29), (43, ty43), (95, ty95), (116, ty116)]
theorem tt58_ok : TabOk Try.prog tt58 := tabOk_of_all ⟨ty0_ok, ty1_ok, ty2_ok, ty3_ok, ty4_ok, ty5_ok, ty9_ok, ty26_ok, ty29_ok, ty43_ok, ty95_ok, ty116_ok, trivial⟩
def c58 (F : Nat) : Cfg := ⟨tt58, [(59, .pure go59), (80, .pure go80)], F, [], [], 0⟩
theorem f58_eq (F : Nat) (a0 : List UInt8) (a1 : Int) : afun (c58 F) Try.f58 [AV.ro (Pay.bytes a0), AV.int IntKind.i64 a1] [] =
  bif ltI a1 0 then
    .ret (AV.tup [AV.agg [AV.int IntKind.u8 0, AV.int IntKind.i64 0, AV.str ByteArray.empty.data.toList], AV.int IntKind.i64 0, AV.int IntKind.i64 8]) [AObj.var 26 [AV.int IntKind.u8 0, AV.int IntKind.i64 0, AV.str ByteArray.empty.data.toList]]
  else
    bif ltI (↑a0.length) a1 then
      .ret (AV.tup [AV.agg [AV.int IntKind.u8 0, AV.int IntKind.i64 0, AV.str ByteArray.empty.data.toList], AV.int IntKind.i64 0, AV.int IntKind.i64 8]) [AObj.var 26 [AV.int IntKind.u8 0, AV.int IntKind.i64 0, AV.str ByteArray.empty.data.toList]]
    else
      bif eqI a1 ↑a0.length then
        .ret (AV.tup [AV.agg [AV.int IntKind.u8 0, AV.int IntKind.i64 0, AV.str ByteArray.empty.data.toList], AV.int IntKind.i64 0, AV.int IntKind.i64 2]) [AObj.var 26 [AV.int IntKind.u8 0, AV.int IntKind.i64 0, AV.str ByteArray.empty.data.toList]]
      else
        bif inB a1 a0.length then
          bif eqI (↑(a0.getD a1.toNat 0).toNat) 0 then
            .ret (AV.tup [AV.agg [AV.int IntKind.u8 0, AV.int IntKind.i64 (getI a0 (IntKind.i64.wrap (a1 + 1))).fst, AV.str ByteArray.empty.data.toList], AV.int IntKind.i64 (getI a0 (IntKind.i64.wrap (a1 + 1))).snd.fst, AV.int IntKind.i64 (getI a0 (IntKind.i64.wrap (a1 + 1))).snd.snd]) [AObj.var 26 [AV.int IntKind.u8 0, AV.int IntKind.i64 (getI a0 (IntKind.i64.wrap (a1 + 1))).fst, AV.str ByteArray.empty.data.toList]]
          else
            bif eqI (↑(a0.getD a1.toNat 0).toNat) 1 then
              bif eqI (getT a0 (IntKind.i64.wrap (a1 + 1)) 65536).snd.snd 0 then
                .ret (AV.tup [AV.agg [AV.int IntKind.u8 1, AV.int IntKind.i64 0, AV.str (getT a0 (IntKind.i64.wrap (a1 + 1)) 65536).fst], AV.int IntKind.i64 (getT a0 (IntKind.i64.wrap (a1 + 1)) 65536).snd.fst, AV.int IntKind.i64 (getT a0 (IntKind.i64.wrap (a1 + 1)) 65536).snd.snd]) [AObj.var 26 [AV.int IntKind.u8 1, AV.int IntKind.i64 0, AV.str (getT a0 (IntKind.i64.wrap (a1 + 1)) 65536).fst]]
              else
                .ret (AV.tup [AV.agg [AV.int IntKind.u8 0, AV.int IntKind.i64 0, AV.str (getT a0 (IntKind.i64.wrap (a1 + 1)) 65536).fst], AV.int IntKind.i64 (getT a0 (IntKind.i64.wrap (a1 + 1)) 65536).snd.fst, AV.int IntKind.i64 (getT a0 (IntKind.i64.wrap (a1 + 1)) 65536).snd.snd]) [AObj.var 26 [AV.int IntKind.u8 0, AV.int IntKind.i64 0, AV.str (getT a0 (IntKind.i64.wrap (a1 + 1)) 65536).fst]]
            else
              .ret (AV.tup [AV.agg [AV.int IntKind.u8 0, AV.int IntKind.i64 0, AV.str ByteArray.empty.data.toList], AV.int IntKind.i64 0, AV.int IntKind.i64 3]) [AObj.var 26 [AV.int IntKind.u8 0, AV.int IntKind.i64 0, AV.str ByteArray.empty.data.toList]]
        else
          .stuck := by kernel_rfl


def tt60 : Tab := [(0, ty0), (3, ty3), (4, ty4), (5, ty5), (9, ty9), (26, ty26), (43, ty43), (99, ty99), (118, ty118)]
theorem tt60_ok : TabOk Try.prog tt60 := tabOk_of_all ⟨ty0_ok, ty3_ok, ty4_ok, ty5_ok, ty9_ok, ty26_ok, ty43_ok, ty99_ok, ty118_ok, trivial⟩
def c60 (F : Nat) : Cfg := ⟨tt60, [(61, .pure go59), (81, .pure go80)], F, [], [], 0⟩
theorem f60_eq (F : Nat) (a0 : List UInt8) (a1 : Int) : afun (c60 F) Try.f60 [AV.ro (Pay.bytes a0), AV.int IntKind.i64 a1] [] =
  bif ltI a1 0 then
    .ret (AV.tup [AV.agg [AV.int IntKind.u8 0, AV.int IntKind.i64 0, AV.str ByteArray.empty.data.toList], AV.int IntKind.i64 0, AV.int IntKind.i64 8]) [AObj.var 26 [AV.int IntKind.u8 0, AV.int IntKind.i64 0, AV.str ByteArray.empty.data.toList]]
  else
    bif ltI (↑a0.length) a1 then
      .ret (AV.tup [AV.agg [AV.int IntKind.u8 0, AV.int IntKind.i64 0, AV.str ByteArray.empty.data.toList], AV.int IntKind.i64 0, AV.int IntKind.i64 8]) [AObj.var 26 [AV.int IntKind.u8 0, AV.int IntKind.i64 0, AV.str ByteArray.empty.data.toList]]
    else
      bif eqI a1 ↑a0.length then
        .ret (AV.tup [AV.agg [AV.int IntKind.u8 0, AV.int IntKind.i64 0, AV.str ByteArray.empty.data.toList], AV.int IntKind.i64 0, AV.int IntKind.i64 2]) [AObj.var 26 [AV.int IntKind.u8 0, AV.int IntKind.i64 0, AV.str ByteArray.empty.data.toList]]
      else
        bif inB a1 a0.length then
          bif ltI 1 ↑(a0.getD a1.toNat 0).toNat then
            .ret (AV.tup [AV.agg [AV.int IntKind.u8 0, AV.int IntKind.i64 0, AV.str ByteArray.empty.data.toList], AV.int IntKind.i64 0, AV.int IntKind.i64 3]) [AObj.var 26 [AV.int IntKind.u8 0, AV.int IntKind.i64 0, AV.str ByteArray.empty.data.toList]]
          else
            bif inB a1 a0.length then
              bif eqI (↑(a0.getD a1.toNat 0).toNat) 0 then
                .ret (AV.tup [AV.agg [AV.int IntKind.u8 0, AV.int IntKind.i64 (getI a0 (IntKind.i64.wrap (a1 + 1))).fst, AV.str ByteArray.empty.data.toList], AV.int IntKind.i64 (getI a0 (IntKind.i64.wrap (a1 + 1))).snd.fst, AV.int IntKind.i64 (getI a0 (IntKind.i64.wrap (a1 + 1))).snd.snd]) [AObj.var 26 [AV.int IntKind.u8 0, AV.int IntKind.i64 (getI a0 (IntKind.i64.wrap (a1 + 1))).fst, AV.str ByteArray.empty.data.toList]]
              else
                bif !eqI (getT a0 (IntKind.i64.wrap (a1 + 1)) 65536).snd.snd 0 then
                  .ret (AV.tup [AV.agg [AV.int IntKind.u8 0, AV.int IntKind.i64 0, AV.str ByteArray.empty.data.toList], AV.int IntKind.i64 0, AV.int IntKind.i64 (getT a0 (IntKind.i64.wrap (a1 + 1)) 65536).snd.snd]) [AObj.var 26 [AV.int IntKind.u8 0, AV.int IntKind.i64 0, AV.str ByteArray.empty.data.toList]]
                else
                  .ret (AV.tup [AV.agg [AV.int IntKind.u8 1, AV.int IntKind.i64 0, AV.str (getT a0 (IntKind.i64.wrap (a1 + 1)) 65536).fst], AV.int IntKind.i64 (getT a0 (IntKind.i64.wrap (a1 + 1)) 65536).snd.fst, AV.int IntKind.i64 0]) [AObj.var 26 [AV.int IntKind.u8 1, AV.int IntKind.i64 0, AV.str (getT a0 (IntKind.i64.wrap (a1 + 1)) 65536).fst]]
            else
              .stuck
        else
          .stuck := by kernel_rfl


def tt62 : Tab := [(0, ty0), (1, ty1), (2, ty2), (3, ty3), (4, ty4), (5, ty5), (9, ty9), (26, ty26), (43, ty43), (74, ty74)]
theorem tt62_ok : TabOk Try.prog tt62 := tabOk_of_all ⟨ty0_ok, ty1_ok, ty2_ok, ty3_ok, ty4_ok, ty5_ok, ty9_ok, ty26_ok, ty43_ok, ty74_ok, trivial⟩
def c62 (F : Nat) : Cfg := ⟨tt62, [(63, .pure go63), (52, .pure go52), (82, .pure go82)], F, [], [], 0⟩
theorem f62_eq (F : Nat) (a0_0 : Int) (a0_1 : Int) (a0_2 : List UInt8) : afun (c62 F) Try.f62 [AV.agg [AV.int IntKind.u8 a0_0, AV.int IntKind.i64 a0_1, AV.str a0_2]] [] =
  bif eqI a0_0 0 then
    bif appFits ty5 (Pay.bytes ([UInt8.ofNat (Int.toNat 0)] ++ enc (zig a0_1))) then
      .ret (AV.own 1) [AObj.var 26 [AV.int IntKind.u8 a0_0, AV.int IntKind.i64 a0_1, AV.str a0_2], AObj.arr 5 (Pay.bytes ([UInt8.ofNat (Int.toNat 0)] ++ enc (zig a0_1))), AObj.arr 5 (Pay.bytes (enc (zig a0_1)))]
    else
      .stuck
  else
    bif (a0_2.length + 9).ble 140737488355328 then
      bif appFits ty5 (Pay.bytes ([UInt8.ofNat (Int.toNat 1)] ++ encT a0_2)) then
        .ret (AV.own 1) [AObj.var 26 [AV.int IntKind.u8 a0_0, AV.int IntKind.i64 a0_1, AV.str a0_2], AObj.arr 5 (Pay.bytes ([UInt8.ofNat (Int.toNat 1)] ++ encT a0_2)), AObj.arr 5 (Pay.bytes (encT a0_2))]
      else
        .stuck
    else
      .stuck := by kernel_rfl


theorem f57n_eq (F : Nat) (a1_0 : Int) (a1_1 : Int) (a1_2 : List UInt8) : afun (c57 F) Try.f57 [AV.nil, AV.agg [AV.int IntKind.u8 a1_0, AV.int IntKind.i64 a1_1, AV.str a1_2]] [] =
  bif eqI a1_0 0 then
    bif appFits ty5 (Pay.bytes (List.replicate 0 0 ++ [] ++ ([UInt8.ofNat (Int.toNat 0)] ++ enc (zig a1_1)))) then
      .ret (AV.own 1) [AObj.var 26 [AV.int IntKind.u8 a1_0, AV.int IntKind.i64 a1_1, AV.str a1_2], AObj.arr 5 (Pay.bytes (List.replicate 0 0 ++ [] ++ ([UInt8.ofNat (Int.toNat 0)] ++ enc (zig a1_1)))), AObj.arr 5 (Pay.bytes [UInt8.ofNat (Int.toNat 0)]), AObj.arr 5 (Pay.bytes ([UInt8.ofNat (Int.toNat 0)] ++ enc (zig a1_1)))]
    else
      .stuck
  else
    bif ([UInt8.ofNat (Int.toNat 1)].length + a1_2.length + 9).ble 140737488355328 then
      bif appFits ty5 (Pay.bytes (List.replicate 0 0 ++ [] ++ ([UInt8.ofNat (Int.toNat 1)] ++ encT a1_2))) then
        .ret (AV.own 1) [AObj.var 26 [AV.int IntKind.u8 a1_0, AV.int IntKind.i64 a1_1, AV.str a1_2], AObj.arr 5 (Pay.bytes (List.replicate 0 0 ++ [] ++ ([UInt8.ofNat (Int.toNat 1)] ++ encT a1_2))), AObj.arr 5 (Pay.bytes [UInt8.ofNat (Int.toNat 1)]), AObj.arr 5 (Pay.bytes ([UInt8.ofNat (Int.toNat 1)] ++ encT a1_2))]
      else
        .stuck
    else
      .stuck := by kernel_rfl


theorem ok57 : PureOk Try.prog 57 go57 := by
  refine pureOk_of (c57 rounds) tt57_ok (.cons ok56 (.cons ok79 .nil)) follows rfl Try.func57 (by kernel_rfl) (by kernel_rfl) ?_ ?_
  · intro R stk args ret
    unfold go57
    split
    · exact go_cps _ _ _ _ _
    · exact go_cps _ _ _ _ _
    · rfl
  · intro args r objs h hr
    unfold go57 at h
    split at h
    · rename_i l k n s
      obtain ⟨hf, h⟩ := go_some h
      cases h
      rw [ble_iff] at hf
      have hn := has64 hr.tail.agg.tail.int
      have h1 := be_len (zig n)
      have h2 := be_len (s.length : Int)
      refine ⟨_, ?_, .same⟩
      unfold apure
      rw [f57_eq, bif_eqI]
      by_cases hk : k = 0
      · have e : encVal (k, n, s) = 0 :: enc (zig n) := by unfold encVal; rw [if_pos hk]
        rw [if_pos hk]
        repeat rw [bif_pos (by first | (rw [fits5]; simp; omega) | (rw [ble_iff]; simp; omega) | (rw [inB_iff]; omega))]
        rw [e]
        rfl
      · have e : encVal (k, n, s) = 1 :: encT s := by unfold encVal; rw [if_neg hk]
        have h3 : (encT s).length = (enc s.length).length + s.length := by unfold encT; simp
        rw [if_neg hk]
        repeat rw [bif_pos (by first | (rw [fits5]; simp; omega) | (rw [ble_iff]; simp; omega) | (rw [inB_iff]; omega))]
        rw [e]
        rfl
    · rename_i k n s
      obtain ⟨hf, h⟩ := go_some h
      cases h
      rw [ble_iff] at hf
      have hn := has64 hr.tail.agg.tail.int
      have h1 := be_len (zig n)
      have h2 := be_len (s.length : Int)
      refine ⟨_, ?_, .same⟩
      unfold apure
      rw [f57n_eq, bif_eqI]
      by_cases hk : k = 0
      · have e : encVal (k, n, s) = 0 :: enc (zig n) := by unfold encVal; rw [if_pos hk]
        rw [if_pos hk]
        repeat rw [bif_pos (by first | (rw [fits5]; simp; omega) | (rw [ble_iff]; simp; omega) | (rw [inB_iff]; omega))]
        rw [e]
        rfl
      · have e : encVal (k, n, s) = 1 :: encT s := by unfold encVal; rw [if_neg hk]
        have h3 : (encT s).length = (enc s.length).length + s.length := by unfold encT; simp
        rw [if_neg hk]
        repeat rw [bif_pos (by first | (rw [fits5]; simp; omega) | (rw [ble_iff]; simp; omega) | (rw [inB_iff]; omega))]
        rw [e]
        rfl
    · cases h

theorem f58_run (F : Nat) (l : List UInt8) (i : Int) (hi : -9223372036854775808 ≤ i ∧ i ≤ 9223372036854775807) (hl : l.length ≤ 9223372036854775807) : ∃ objs, afun (c58 F) Try.f58 [.ro (.bytes l), .int .i64 i] [] = .ret (.tup [.agg [.int .u8 (getVal l i).1.1, .int .i64 (getVal l i).1.2.1, .str (getVal l i).1.2.2], .int .i64 (getVal l i).2.1, .int .i64 (getVal l i).2.2]) objs := by
  rw [f58_eq, bif_ltI]
  unfold getVal
  by_cases h1 : i < 0
  · rw [if_pos h1, if_pos (.inl h1)]; exact ⟨_, rfl⟩
  rw [if_neg h1, bif_ltI]
  by_cases h2 : (l.length : Int) < i
  · rw [if_pos h2, if_pos (.inr h2)]; exact ⟨_, rfl⟩
  rw [if_neg h2, if_neg (by omega), bif_eqI]
  by_cases h3 : i = l.length
  · rw [if_pos h3, if_pos h3]; exact ⟨_, rfl⟩
  rw [if_neg h3, if_neg h3, bif_pos (by rw [inB_iff]; omega), wrap64 (by omega) (by omega), bif_eqI]
  by_cases h4 : ((l.getD i.toNat 0).toNat : Int) = 0
  · rw [if_pos h4, if_pos h4]; exact ⟨_, rfl⟩
  rw [if_neg h4, if_neg h4, bif_eqI]
  by_cases h5 : ((l.getD i.toNat 0).toNat : Int) = 1
  · rw [if_pos h5, if_pos h5, bif_eqI]
    by_cases h6 : (getT l (i + 1) 65536).2.2 = 0
    · rw [if_pos h6, if_pos h6, h6]; exact ⟨_, rfl⟩
    · rw [if_neg h6, if_neg h6, (getT_bad l (i + 1) 65536 h6).1, (getT_bad l (i + 1) 65536 h6).2]; exact ⟨_, rfl⟩
  · rw [if_neg h5, if_neg h5]; exact ⟨_, rfl⟩

theorem f60_run (F : Nat) (l : List UInt8) (i : Int) (hi : -9223372036854775808 ≤ i ∧ i ≤ 9223372036854775807) (hl : l.length ≤ 9223372036854775807) : ∃ objs, afun (c60 F) Try.f60 [.ro (.bytes l), .int .i64 i] [] = .ret (.tup [.agg [.int .u8 (getVal l i).1.1, .int .i64 (getVal l i).1.2.1, .str (getVal l i).1.2.2], .int .i64 (getVal l i).2.1, .int .i64 (getVal l i).2.2]) objs := by
  rw [f60_eq, bif_ltI]
  unfold getVal
  by_cases h1 : i < 0
  · rw [if_pos h1, if_pos (.inl h1)]; exact ⟨_, rfl⟩
  rw [if_neg h1, bif_ltI]
  by_cases h2 : (l.length : Int) < i
  · rw [if_pos h2, if_pos (.inr h2)]; exact ⟨_, rfl⟩
  rw [if_neg h2, if_neg (by omega), bif_eqI]
  by_cases h3 : i = l.length
  · rw [if_pos h3, if_pos h3]; exact ⟨_, rfl⟩
  rw [if_neg h3, if_neg h3, bif_pos (by rw [inB_iff]; omega), wrap64 (by omega) (by omega), bif_ltI]
  have hb := UInt8.toNat_lt (l.getD i.toNat 0)
  by_cases h4 : ((l.getD i.toNat 0).toNat : Int) = 0
  · rw [if_neg (by omega), bif_pos (by rw [inB_iff]; omega), bif_eqI, if_pos h4, if_pos h4]; exact ⟨_, rfl⟩
  rw [if_neg h4]
  by_cases h5 : ((l.getD i.toNat 0).toNat : Int) = 1
  · rw [if_neg (by omega), bif_pos (by rw [inB_iff]; omega), bif_eqI, if_neg h4, if_pos h5, bif_neI]
    by_cases h6 : (getT l (i + 1) 65536).2.2 = 0
    · rw [if_pos h6, if_pos h6]; exact ⟨_, rfl⟩
    · rw [if_neg h6, if_neg h6]; exact ⟨_, rfl⟩
  · rw [if_pos (by omega), if_neg h5]; exact ⟨_, rfl⟩

theorem ok58 : PureOk Try.prog 58 go58 := by
  refine pureOk_of (c58 rounds) tt58_ok (.cons ok59 (.cons ok80 .nil)) follows rfl Try.func58 (by kernel_rfl) (by kernel_rfl) ?_ ?_
  · intro R stk args ret
    unfold go58
    split
    · rfl
    · rfl
  · intro args r objs h hr
    unfold go58 at h
    split at h
    · rename_i l i
      cases h
      have hl := hr.bytes
      have hi := has64 hr.tail.int
      unfold maxLen at hl
      obtain ⟨objs, e⟩ := f58_run rounds _ _ ⟨hi.1, hi.2⟩ (Nat.le_trans hl (by decide))
      refine ⟨_, ?_, .same⟩
      unfold apure
      rw [e]
      rfl
    · cases h

theorem ok60 : PureOk Try.prog 60 go58 := by
  refine pureOk_of (c60 rounds) tt60_ok (.cons ok61 (.cons ok81 .nil)) follows rfl Try.func60 (by kernel_rfl) (by kernel_rfl) ?_ ?_
  · intro R stk args ret
    unfold go58
    split
    · rfl
    · rfl
  · intro args r objs h hr
    unfold go58 at h
    split at h
    · rename_i l i
      cases h
      have hl := hr.bytes
      have hi := has64 hr.tail.int
      unfold maxLen at hl
      obtain ⟨objs, e⟩ := f60_run rounds _ _ ⟨hi.1, hi.2⟩ (Nat.le_trans hl (by decide))
      refine ⟨_, ?_, .same⟩
      unfold apure
      rw [e]
      rfl
    · cases h

theorem ok62 : PureOk Try.prog 62 go62 := by
  refine pureOk_of (c62 rounds) tt62_ok (.cons ok63 (.cons ok52 (.cons ok82 .nil))) follows rfl Try.func62 (by kernel_rfl) (by kernel_rfl) ?_ ?_
  · intro R stk args ret
    unfold go62
    split
    · exact go_cps _ _ _ _ _
    · rfl
  · intro args r objs h hr
    unfold go62 at h
    split at h
    · rename_i k n s
      obtain ⟨hf, h⟩ := go_some h
      cases h
      rw [ble_iff] at hf
      have hn := has64 hr.agg.tail.int
      have h1 := be_len (zig n)
      have h2 := be_len (s.length : Int)
      refine ⟨_, ?_, .same⟩
      unfold apure
      rw [f62_eq, bif_eqI]
      by_cases hk : k = 0
      · have e : encVal (k, n, s) = 0 :: enc (zig n) := by unfold encVal; rw [if_pos hk]
        rw [if_pos hk, bif_pos (by rw [fits5]; simp; omega), e]
        rfl
      · have e : encVal (k, n, s) = 1 :: encT s := by unfold encVal; rw [if_neg hk]
        have h3 : (encT s).length = (enc s.length).length + s.length := by unfold encT; simp
        rw [if_neg hk, bif_pos (by rw [ble_iff]; omega), bif_pos (by rw [fits5]; simp; omega), e]
        rfl
    · cases h

def go33 (R : Type) (stk : R) (args : List AV) (ret : AV → List AObj → R) : R :=
  match args with
  | [.ro (.bytes l), .agg [.int .u8 k, .int .i64 n, .str s, .int .i64 m]] => bif Nat.ble (l.length + s.length + 19) 140737488355328 then ret (.ro (.bytes (l ++ encPart ((k, n, s), m)))) [] else stk
  | [.nil, .agg [.int .u8 k, .int .i64 n, .str s, .int .i64 m]] => bif Nat.ble (s.length + 19) 140737488355328 then ret (.ro (.bytes (encPart ((k, n, s), m)))) [] else stk
  | _ => stk

def go34 (R : Type) (stk : R) (args : List AV) (ret : AV → List AObj → R) : R :=
  match args with
  | [.ro (.bytes l), .int .i64 i] => ret (.tup [.agg [.int .u8 (getPart l i).1.1.1, .int .i64 (getPart l i).1.1.2.1, .str (getPart l i).1.1.2.2, .int .i64 (getPart l i).1.2], .int .i64 (getPart l i).2.1, .int .i64 (getPart l i).2.2]) []
  | _ => stk

def go36 (R : Type) (stk : R) (args : List AV) (ret : AV → List AObj → R) : R :=
  match args with
  | [.agg [.int .u8 k, .int .i64 n, .str s, .int .i64 m]] => bif Nat.ble (s.length + 19) 140737488355328 then ret (.own 0) [.arr 5 (.bytes (encPart ((k, n, s), m)))] else stk
  | _ => stk

def tt33 : Tab := [(0, ty0), (1, ty1), (3, ty3), (5, ty5), (9, ty9), (26, ty26), (28, ty28), (43, ty43)]
theorem tt33_ok : TabOk Try.prog tt33 := tabOk_of_all ⟨ty0_ok, ty1_ok, ty3_ok, ty5_ok, ty9_ok, ty26_ok, ty28_ok, ty43_ok, trivial⟩
def c33 (F : Nat) : Cfg := ⟨tt33, [(57, .pure go57), (56, .pure go56)], F, [], [], 0⟩
theorem f33_eq (F : Nat) (a0 : List UInt8) (a1_0_0 : Int) (a1_0_1 : Int) (a1_0_2 : List UInt8) (a1_1 : Int) : afun (c33 F) Try.f33 [AV.ro (Pay.bytes a0), AV.agg [AV.int IntKind.u8 a1_0_0, AV.int IntKind.i64 a1_0_1, AV.str a1_0_2, AV.int IntKind.i64 a1_1]] [] =
  bif (a0.length + a1_0_2.length + 10).ble 140737488355328 then
    bif ((a0 ++ encVal (a1_0_0, a1_0_1, a1_0_2)).length + 9).ble 140737488355328 then
      .ret (AV.ro (Pay.bytes (a0 ++ encVal (a1_0_0, a1_0_1, a1_0_2) ++ enc (zig a1_1)))) [AObj.var 28 [AV.int IntKind.u8 a1_0_0, AV.int IntKind.i64 a1_0_1, AV.str a1_0_2, AV.int IntKind.i64 a1_1]]
    else
      .stuck
  else
    .stuck := by kernel_rfl


theorem f33n_eq (F : Nat) (a1_0 : Int) (a1_1 : Int) (a1_2 : List UInt8) (a1_3 : Int) : afun (c33 F) Try.f33 [AV.nil, AV.agg [AV.int IntKind.u8 a1_0, AV.int IntKind.i64 a1_1, AV.str a1_2, AV.int IntKind.i64 a1_3]] [] =
  bif (a1_2.length + 10).ble 140737488355328 then
    bif ((encVal (a1_0, a1_1, a1_2)).length + 9).ble 140737488355328 then
      .ret (AV.ro (Pay.bytes (encVal (a1_0, a1_1, a1_2) ++ enc (zig a1_3)))) [AObj.var 28 [AV.int IntKind.u8 a1_0, AV.int IntKind.i64 a1_1, AV.str a1_2, AV.int IntKind.i64 a1_3]]
    else
      .stuck
  else
    .stuck := by kernel_rfl


def tt34 : Tab := [(0, ty0), (3, ty3), (4, ty4), (5, ty5), (9, ty9), (26, ty26), (28, ty28), (29, ty29), (43, ty43), (93, ty93), (95, ty95)]
theorem tt34_ok : TabOk Try.prog tt34 := tabOk_of_all ⟨ty0_ok, ty3_ok, ty4_ok, ty5_ok, ty9_ok, ty26_ok, ty28_ok, ty29_ok, ty43_ok, ty93_ok, ty95_ok, trivial⟩
def c34 (F : Nat) : Cfg := ⟨tt34, [(58, .pure go58), (59, .pure go59)], F, [], [], 0⟩
theorem f34_eq (F : Nat) (a0 : List UInt8) (a1 : Int) : afun (c34 F) Try.f34 [AV.ro (Pay.bytes a0), AV.int IntKind.i64 a1] [] =
  bif !eqI (getVal a0 a1).snd.snd 0 then
    .ret (AV.tup [AV.agg [AV.int IntKind.u8 0, AV.int IntKind.i64 0, AV.str ByteArray.empty.data.toList, AV.int IntKind.i64 0], AV.int IntKind.i64 0, AV.int IntKind.i64 (getVal a0 a1).snd.snd]) [AObj.var 28 [AV.int IntKind.u8 0, AV.int IntKind.i64 0, AV.str ByteArray.empty.data.toList, AV.int IntKind.i64 0], AObj.var 26 [AV.int IntKind.u8 (getVal a0 a1).fst.fst, AV.int IntKind.i64 (getVal a0 a1).fst.snd.fst, AV.str (getVal a0 a1).fst.snd.snd]]
  else
    bif !eqI (getI a0 (getVal a0 a1).snd.fst).snd.snd 0 then
      .ret (AV.tup [AV.agg [AV.int IntKind.u8 0, AV.int IntKind.i64 0, AV.str ByteArray.empty.data.toList, AV.int IntKind.i64 0], AV.int IntKind.i64 0, AV.int IntKind.i64 (getI a0 (getVal a0 a1).snd.fst).snd.snd]) [AObj.var 28 [AV.int IntKind.u8 0, AV.int IntKind.i64 0, AV.str ByteArray.empty.data.toList, AV.int IntKind.i64 0], AObj.var 26 [AV.int IntKind.u8 (getVal a0 a1).fst.fst, AV.int IntKind.i64 (getVal a0 a1).fst.snd.fst, AV.str (getVal a0 a1).fst.snd.snd]]
    else
      .ret (AV.tup [AV.agg [AV.int IntKind.u8 (getVal a0 a1).fst.fst, AV.int IntKind.i64 (getVal a0 a1).fst.snd.fst, AV.str (getVal a0 a1).fst.snd.snd, AV.int IntKind.i64 (getI a0 (getVal a0 a1).snd.fst).fst], AV.int IntKind.i64 (getI a0 (getVal a0 a1).snd.fst).snd.fst, AV.int IntKind.i64 0]) [AObj.var 28 [AV.int IntKind.u8 (getVal a0 a1).fst.fst, AV.int IntKind.i64 (getVal a0 a1).fst.snd.fst, AV.str (getVal a0 a1).fst.snd.snd, AV.int IntKind.i64 (getI a0 (getVal a0 a1).snd.fst).fst], AObj.var 26 [AV.int IntKind.u8 (getVal a0 a1).fst.fst, AV.int IntKind.i64 (getVal a0 a1).fst.snd.fst, AV.str (getVal a0 a1).fst.snd.snd]] := by kernel_rfl


def tt35 : Tab := [(0, ty0), (3, ty3), (4, ty4), (5, ty5), (9, ty9), (26, ty26), (28, ty28), (43, ty43), (97, ty97), (99, ty99)]
theorem tt35_ok : TabOk Try.prog tt35 := tabOk_of_all ⟨ty0_ok, ty3_ok, ty4_ok, ty5_ok, ty9_ok, ty26_ok, ty28_ok, ty43_ok, ty97_ok, ty99_ok, trivial⟩
def c35 (F : Nat) : Cfg := ⟨tt35, [(60, .pure go58), (61, .pure go59)], F, [], [], 0⟩
theorem f35_eq (F : Nat) (a0 : List UInt8) (a1 : Int) : afun (c35 F) Try.f35 [AV.ro (Pay.bytes a0), AV.int IntKind.i64 a1] [] =
  bif !eqI (getVal a0 a1).snd.snd 0 then
    .ret (AV.tup [AV.agg [AV.int IntKind.u8 0, AV.int IntKind.i64 0, AV.str ByteArray.empty.data.toList, AV.int IntKind.i64 0], AV.int IntKind.i64 0, AV.int IntKind.i64 (getVal a0 a1).snd.snd]) [AObj.var 28 [AV.int IntKind.u8 0, AV.int IntKind.i64 0, AV.str ByteArray.empty.data.toList, AV.int IntKind.i64 0], AObj.var 26 [AV.int IntKind.u8 (getVal a0 a1).fst.fst, AV.int IntKind.i64 (getVal a0 a1).fst.snd.fst, AV.str (getVal a0 a1).fst.snd.snd]]
  else
    bif !eqI (getI a0 (getVal a0 a1).snd.fst).snd.snd 0 then
      .ret (AV.tup [AV.agg [AV.int IntKind.u8 0, AV.int IntKind.i64 0, AV.str ByteArray.empty.data.toList, AV.int IntKind.i64 0], AV.int IntKind.i64 0, AV.int IntKind.i64 (getI a0 (getVal a0 a1).snd.fst).snd.snd]) [AObj.var 28 [AV.int IntKind.u8 0, AV.int IntKind.i64 0, AV.str ByteArray.empty.data.toList, AV.int IntKind.i64 0], AObj.var 26 [AV.int IntKind.u8 (getVal a0 a1).fst.fst, AV.int IntKind.i64 (getVal a0 a1).fst.snd.fst, AV.str (getVal a0 a1).fst.snd.snd]]
    else
      .ret (AV.tup [AV.agg [AV.int IntKind.u8 (getVal a0 a1).fst.fst, AV.int IntKind.i64 (getVal a0 a1).fst.snd.fst, AV.str (getVal a0 a1).fst.snd.snd, AV.int IntKind.i64 (getI a0 (getVal a0 a1).snd.fst).fst], AV.int IntKind.i64 (getI a0 (getVal a0 a1).snd.fst).snd.fst, AV.int IntKind.i64 0]) [AObj.var 28 [AV.int IntKind.u8 (getVal a0 a1).fst.fst, AV.int IntKind.i64 (getVal a0 a1).fst.snd.fst, AV.str (getVal a0 a1).fst.snd.snd, AV.int IntKind.i64 (getI a0 (getVal a0 a1).snd.fst).fst], AObj.var 26 [AV.int IntKind.u8 (getVal a0 a1).fst.fst, AV.int IntKind.i64 (getVal a0 a1).fst.snd.fst, AV.str (getVal a0 a1).fst.snd.snd]] := by kernel_rfl


def tt36 : Tab := [(0, ty0), (1, ty1), (3, ty3), (5, ty5), (9, ty9), (26, ty26), (28, ty28), (43, ty43), (74, ty74)]
theorem tt36_ok : TabOk Try.prog tt36 := tabOk_of_all ⟨ty0_ok, ty1_ok, ty3_ok, ty5_ok, ty9_ok, ty26_ok, ty28_ok, ty43_ok, ty74_ok, trivial⟩
def c36 (F : Nat) : Cfg := ⟨tt36, [(62, .pure go62), (52, .pure go52), (63, .pure go63)], F, [], [], 0⟩
theorem f36_eq (F : Nat) (a0_0_0 : Int) (a0_0_1 : Int) (a0_0_2 : List UInt8) (a0_1 : Int) : afun (c36 F) Try.f36 [AV.agg [AV.int IntKind.u8 a0_0_0, AV.int IntKind.i64 a0_0_1, AV.str a0_0_2, AV.int IntKind.i64 a0_1]] [] =
  bif (a0_0_2.length + 10).ble 140737488355328 then
    bif appFits ty5 (Pay.bytes (encVal (a0_0_0, a0_0_1, a0_0_2) ++ enc (zig a0_1))) then
      .ret (AV.own 1) [AObj.var 28 [AV.int IntKind.u8 a0_0_0, AV.int IntKind.i64 a0_0_1, AV.str a0_0_2, AV.int IntKind.i64 a0_1], AObj.arr 5 (Pay.bytes (encVal (a0_0_0, a0_0_1, a0_0_2) ++ enc (zig a0_1))), AObj.arr 5 (Pay.bytes (enc (zig a0_1)))]
    else
      .stuck
  else
    .stuck := by kernel_rfl


theorem ok33 : PureOk Try.prog 33 go33 := by
  refine pureOk_of (c33 rounds) tt33_ok (.cons ok57 (.cons ok56 .nil)) follows rfl Try.func33 (by kernel_rfl) (by kernel_rfl) ?_ ?_
  · intro R stk args ret
    unfold go33
    split
    · exact go_cps _ _ _ _ _
    · exact go_cps _ _ _ _ _
    · rfl
  · intro args r objs h hr
    unfold go33 at h
    split at h
    · rename_i l k n s m
      obtain ⟨hf, h⟩ := go_some h
      cases h
      rw [ble_iff] at hf
      have h1 := encVal_len (k, n, s)
      have h2 := be_len (zig m)
      dsimp only at h1
      refine ⟨_, ?_, .same⟩
      unfold apure
      rw [f33_eq]
      repeat rw [bif_pos (by first | (rw [fits5]; simp; omega) | (rw [ble_iff]; simp; omega) | (rw [inB_iff]; omega))]
      rw [List.append_assoc]
      rfl
    · rename_i k n s m
      obtain ⟨hf, h⟩ := go_some h
      cases h
      rw [ble_iff] at hf
      have h1 := encVal_len (k, n, s)
      have h2 := be_len (zig m)
      dsimp only at h1
      refine ⟨_, ?_, .same⟩
      unfold apure
      rw [f33n_eq]
      repeat rw [bif_pos (by first | (rw [fits5]; simp; omega) | (rw [ble_iff]; simp; omega) | (rw [inB_iff]; omega))]
      rfl
    · cases h

theorem ok34 : PureOk Try.prog 34 go34 := by
  refine pureOk_of (c34 rounds) tt34_ok (.cons ok58 (.cons ok59 .nil)) follows rfl Try.func34 (by kernel_rfl) (by kernel_rfl) ?_ ?_
  · intro R stk args ret
    unfold go34
    split
    · rfl
    · rfl
  · intro args r objs h hr
    unfold go34 at h
    split at h
    · rename_i l i
      cases h
      refine ⟨_, ?_, .same⟩
      unfold apure
      rw [f34_eq, bif_neI, bif_neI]
      by_cases e1 : (getVal l i).2.2 = 0
      · rw [if_pos e1]
        by_cases e2 : (getI l (getVal l i).2.1).2.2 = 0
        · rw [if_pos e2, getPart_c e1 e2]; rfl
        · rw [if_neg e2, getPart_b e1 e2]; rfl
      · rw [if_neg e1, getPart_a e1]; rfl
    · cases h

theorem ok35 : PureOk Try.prog 35 go34 := by
  refine pureOk_of (c35 rounds) tt35_ok (.cons ok60 (.cons ok61 .nil)) follows rfl Try.func35 (by kernel_rfl) (by kernel_rfl) ?_ ?_
  · intro R stk args ret
    unfold go34
    split
    · rfl
    · rfl
  · intro args r objs h hr
    unfold go34 at h
    split at h
    · rename_i l i
      cases h
      refine ⟨_, ?_, .same⟩
      unfold apure
      rw [f35_eq, bif_neI, bif_neI]
      by_cases e1 : (getVal l i).2.2 = 0
      · rw [if_pos e1]
        by_cases e2 : (getI l (getVal l i).2.1).2.2 = 0
        · rw [if_pos e2, getPart_c e1 e2]; rfl
        · rw [if_neg e2, getPart_b e1 e2]; rfl
      · rw [if_neg e1, getPart_a e1]; rfl
    · cases h

theorem ok36 : PureOk Try.prog 36 go36 := by
  refine pureOk_of (c36 rounds) tt36_ok (.cons ok62 (.cons ok52 (.cons ok63 .nil))) follows rfl Try.func36 (by kernel_rfl) (by kernel_rfl) ?_ ?_
  · intro R stk args ret
    unfold go36
    split
    · exact go_cps _ _ _ _ _
    · rfl
  · intro args r objs h hr
    unfold go36 at h
    split at h
    · rename_i k n s m
      obtain ⟨hf, h⟩ := go_some h
      cases h
      rw [ble_iff] at hf
      have h1 := encVal_len (k, n, s)
      have h2 := be_len (zig m)
      dsimp only at h1
      refine ⟨_, ?_, .same⟩
      unfold apure
      rw [f36_eq]
      repeat rw [bif_pos (by first | (rw [fits5]; simp; omega) | (rw [ble_iff]; simp; omega) | (rw [inB_iff]; omega))]
      rfl
    · cases h

end Go.Proofs.YthejefgpanceoaaG
