/- A part of the proof: plain laws, and what functions of the given program come to; no condition. -/
import Derived.Test.YtdkihlkcnnlkcaaGk
namespace Go.Proofs.YtdkihlkcnnlkcaaG
open Go Go.Proofs.YtdkihlkcnnlkcaaGm
set_option maxRecDepth 100000

def tt67 : Tab := [(3, ty3), (4, ty4), (5, ty5), (9, ty9), (23, ty23), (94, ty94), (25, ty25), (101, ty101)]
theorem tt67_ok : TabOk Try.prog tt67 := tabOk_of_all ⟨ty3_ok, ty4_ok, ty5_ok, ty9_ok, ty23_ok, ty94_ok, ty25_ok, ty101_ok, trivial⟩
def c67 (F : Nat) : Cfg := ⟨tt67, [(66, .pure go66)], F, [], [], 0⟩
theorem f67_eq (F : Nat) (a0 : List UInt8) (a1 : Int) (a2 : Int) : afun (c67 F) Try.f67 [AV.ro (Pay.bytes a0), AV.int IntKind.i64 a1, AV.int IntKind.i64 a2] [] =
  bif !eqI (getV a0 a1).snd.snd 0 then
    .ret (AV.tup [AV.str (ByteArray.mk #[]).data.toList, AV.int IntKind.i64 0, AV.int IntKind.i64 (getV a0 a1).snd.snd]) []
  else
    bif ltI a2 0 then
      .ret (AV.tup [AV.str (ByteArray.mk #[]).data.toList, AV.int IntKind.i64 0, AV.int IntKind.i64 5]) []
    else
      bif ltI (IntKind.u64.wrap a2) (getV a0 a1).fst then
        .ret (AV.tup [AV.str (ByteArray.mk #[]).data.toList, AV.int IntKind.i64 0, AV.int IntKind.i64 5]) []
      else
        bif ltI (IntKind.u64.wrap (IntKind.i64.wrap (↑a0.length - (getV a0 a1).snd.fst))) (getV a0 a1).fst then
          .ret (AV.tup [AV.str (ByteArray.mk #[]).data.toList, AV.int IntKind.i64 0, AV.int IntKind.i64 2]) []
        else
          bif leI 0 (getV a0 a1).snd.fst && leI (getV a0 a1).snd.fst (IntKind.i64.wrap ((getV a0 a1).snd.fst + IntKind.i64.wrap (getV a0 a1).fst)) && leI (IntKind.i64.wrap ((getV a0 a1).snd.fst + IntKind.i64.wrap (getV a0 a1).fst)) ↑a0.length then
            .ret (AV.tup [AV.str (List.take ((IntKind.i64.wrap ((getV a0 a1).snd.fst + IntKind.i64.wrap (getV a0 a1).fst)).toNat - (getV a0 a1).snd.fst.toNat) (List.drop (getV a0 a1).snd.fst.toNat a0)), AV.int IntKind.i64 (IntKind.i64.wrap ((getV a0 a1).snd.fst + IntKind.i64.wrap (getV a0 a1).fst)), AV.int IntKind.i64 0]) []
          else
            .stuck := by kernel_rfl


def tt69 : Tab := [(3, ty3), (4, ty4), (5, ty5), (9, ty9), (23, ty23), (94, ty94), (105, ty105)]
theorem tt69_ok : TabOk Try.prog tt69 := tabOk_of_all ⟨ty3_ok, ty4_ok, ty5_ok, ty9_ok, ty23_ok, ty94_ok, ty105_ok, trivial⟩
def c69 (F : Nat) : Cfg := ⟨tt69, [(68, .pure go66)], F, [], [], 0⟩
theorem f69_eq (F : Nat) (a0 : List UInt8) (a1 : Int) (a2 : Int) : afun (c69 F) Try.f69 [AV.ro (Pay.bytes a0), AV.int IntKind.i64 a1, AV.int IntKind.i64 a2] [] =
  bif !eqI (getV a0 a1).snd.snd 0 then
    .ret (AV.tup [AV.str (ByteArray.mk #[]).data.toList, AV.int IntKind.i64 0, AV.int IntKind.i64 (getV a0 a1).snd.snd]) []
  else
    bif ltI a2 0 then
      .ret (AV.tup [AV.str (ByteArray.mk #[]).data.toList, AV.int IntKind.i64 0, AV.int IntKind.i64 5]) []
    else
      bif ltI (IntKind.u64.wrap a2) (getV a0 a1).fst then
        .ret (AV.tup [AV.str (ByteArray.mk #[]).data.toList, AV.int IntKind.i64 0, AV.int IntKind.i64 5]) []
      else
        bif ltI (IntKind.u64.wrap (IntKind.i64.wrap (↑a0.length - (getV a0 a1).snd.fst))) (getV a0 a1).fst then
          .ret (AV.tup [AV.str (ByteArray.mk #[]).data.toList, AV.int IntKind.i64 0, AV.int IntKind.i64 2]) []
        else
          bif leI 0 (getV a0 a1).snd.fst && leI (getV a0 a1).snd.fst (IntKind.i64.wrap ((getV a0 a1).snd.fst + IntKind.i64.wrap (getV a0 a1).fst)) && leI (IntKind.i64.wrap ((getV a0 a1).snd.fst + IntKind.i64.wrap (getV a0 a1).fst)) ↑a0.length then
            .ret (AV.tup [AV.str (List.take ((IntKind.i64.wrap ((getV a0 a1).snd.fst + IntKind.i64.wrap (getV a0 a1).fst)).toNat - (getV a0 a1).snd.fst.toNat) (List.drop (getV a0 a1).snd.fst.toNat a0)), AV.int IntKind.i64 (IntKind.i64.wrap ((getV a0 a1).snd.fst + IntKind.i64.wrap (getV a0 a1).fst)), AV.int IntKind.i64 0]) []
          else
            .stuck := by kernel_rfl


def tt63 : Tab := [(0, ty0), (3, ty3), (5, ty5), (9, ty9), (23, ty23), (94, ty94)]
theorem tt63_ok : TabOk Try.prog tt63 := tabOk_of_all ⟨ty0_ok, ty3_ok, ty5_ok, ty9_ok, ty23_ok, ty94_ok, trivial⟩
def c63 (F : Nat) : Cfg := ⟨tt63, [(62, .pure go62)], F, [], [], 0⟩
theorem f63_eq (F : Nat) (a0 : List UInt8) (a1 : List UInt8) : afun (c63 F) Try.f63 [AV.ro (Pay.bytes a0), AV.str a1] [] =
  bif (a0.length + 9).ble 140737488355328 then
    bif appFits ty5 (Pay.bytes (a0 ++ enc (IntKind.u64.wrap ↑a1.length) ++ a1)) then
      .ret (AV.own 0) [AObj.arr 5 (Pay.bytes (a0 ++ enc (IntKind.u64.wrap ↑a1.length) ++ a1))]
    else
      .stuck
  else
    .stuck := by kernel_rfl


def tt59 : Tab := [(0, ty0), (3, ty3), (5, ty5), (9, ty9), (23, ty23), (94, ty94)]
theorem tt59_ok : TabOk Try.prog tt59 := tabOk_of_all ⟨ty0_ok, ty3_ok, ty5_ok, ty9_ok, ty23_ok, ty94_ok, trivial⟩
def c59 (F : Nat) : Cfg := ⟨tt59, [(58, .pure go58)], F, [], [], 0⟩
theorem f59_eq (F : Nat) (a0 : List UInt8) : afun (c59 F) Try.f59 [AV.str a0] [] =
  bif appFits ty5 (Pay.bytes (enc (IntKind.u64.wrap ↑a0.length) ++ a0)) then
    .ret (AV.own 0) [AObj.arr 5 (Pay.bytes (enc (IntKind.u64.wrap ↑a0.length) ++ a0))]
  else
    .stuck := by kernel_rfl



def go67 (R : Type) (stk : R) (args : List AV) (k : AV → List AObj → R) : R :=
  match args with
  | [.ro (.bytes l), .int .i64 n, .int .i64 m] => k (.tup [.str (getT l n m).1, .int .i64 (getT l n m).2.1, .int .i64 (getT l n m).2.2]) []
  | _ => stk
def go63 (R : Type) (stk : R) (args : List AV) (k : AV → List AObj → R) : R :=
  match args with
  | [.ro (.bytes l), .str s] => bif Nat.ble (l.length + s.length + 9) 140737488355328 then k (.own 0) [.arr 5 (.bytes (l ++ encT s))] else stk
  | [.nil, .str s] => bif Nat.ble (s.length + 9) 140737488355328 then k (.own 0) [.arr 5 (.bytes (encT s))] else stk
  | _ => stk
def go59 (R : Type) (stk : R) (args : List AV) (k : AV → List AObj → R) : R :=
  match args with
  | [.str s] => bif Nat.ble (s.length + 9) 140737488355328 then k (.own 0) [.arr 5 (.bytes (encT s))] else stk
  | _ => stk

theorem zag_run (u : Int) (h0 : 0 ≤ u) (h1 : u < 18446744073709551616) : ixor .i64 (IntKind.i64.wrap (ishr .u64 u 1)) (IntKind.i64.wrap (0 - IntKind.i64.wrap (iand .u64 u 1))) = zag u := by
  rw [ishr_eq (by decide), iand_one64 h0 h1, show (2 : Int) ^ (1 : Int).toNat = 2 from rfl, wrap64 (n := u / 2) (by omega) (by omega), wrap64 (n := u % 2) (by omega) (by omega), wrap64 (n := 0 - u % 2) (by omega) (by omega)]
  unfold zag
  split
  · rename_i h; rw [h, show (0 : Int) - 1 = -1 from rfl, ixor_ones_i64 (by omega) (by omega)]; omega
  · rename_i h; rw [show u % 2 = 0 by omega, show (0 : Int) - 0 = 0 from rfl, ixor_zero_i64 (by omega) (by omega)]
theorem zig_run (n : Int) (h0 : -9223372036854775808 ≤ n) (h1 : n ≤ 9223372036854775807) : ixor .u64 (ishl .u64 (IntKind.u64.wrap n) 1) (IntKind.u64.wrap (ishr .i64 n 63)) = zig n := by
  have e1 : ishl .u64 (IntKind.u64.wrap n) 1 = if n < 0 then 2 * n + 18446744073709551616 else 2 * n := by
    unfold ishl
    rw [show (2 : Int) ^ min (1 : Int).toNat IntKind.u64.bits = 2 from rfl]
    simp only [IntKind.wrap, IntKind.signed, IntKind.bits]
    simp
    split <;> omega
  have e2 : ishr .i64 n 63 = if n < 0 then -1 else 0 := by
    unfold ishr
    rw [show (2 : Int) ^ min (63 : Int).toNat IntKind.i64.bits = 9223372036854775808 from rfl, Int.fdiv_eq_ediv_of_nonneg _ (by decide)]
    split <;> omega
  rw [e1, e2]
  unfold zig
  split
  · rw [show IntKind.u64.wrap (-1) = 18446744073709551615 by decide, ixor_ones64 (by omega) (by omega)]; omega
  · rw [show IntKind.u64.wrap 0 = 0 by decide, ixor_zero64 (by omega) (by omega)]
theorem getT_run {F : Nat} (l : List UInt8) (i m : Int) (hm : -9223372036854775808 ≤ m ∧ m ≤ 9223372036854775807) (hl : l.length ≤ 9223372036854775807) : afun (c67 F) Try.f67 [.ro (.bytes l), .int .i64 i, .int .i64 m] [] = .ret (.tup [.str (getT l i m).1, .int .i64 (getT l i m).2.1, .int .i64 (getT l i m).2.2]) [] := by
  have hf := getV_fits l i
  rw [f67_eq, bif_neI]
  by_cases h : (getV l i).2.2 = 0
  · rw [if_pos h, bif_ltI]
    by_cases h1 : m < 0
    · have e : getT l i m = ([], 0, 5) := by unfold getT; rw [if_neg (fun x => x h), if_pos (.inl h1)]
      rw [if_pos h1, e]
    · rw [if_neg h1, wrapu64 (n := m) (by omega) (by omega), bif_ltI]
      by_cases h2 : m < (getV l i).1
      · have e : getT l i m = ([], 0, 5) := by unfold getT; rw [if_neg (fun x => x h), if_pos (.inr h2)]
        rw [if_pos h2, e]
      · rw [if_neg h2, wrap64 (n := _ - _) (by omega) (by omega), wrapu64 (by omega) (by omega), bif_ltI]
        by_cases h3 : (l.length : Int) - (getV l i).2.1 < (getV l i).1
        · have e : getT l i m = ([], 0, 2) := by unfold getT; rw [if_neg (fun x => x h), if_neg (by omega), if_pos h3]
          rw [if_pos h3, e]
        · have e : getT l i m = ((l.drop (getV l i).2.1.toNat).take (getV l i).1.toNat, (getV l i).2.1 + (getV l i).1, 0) := by unfold getT; rw [if_neg (fun x => x h), if_neg (by omega), if_neg h3]
          rw [if_neg h3, wrap64 (n := (getV l i).1) (by omega) (by omega), wrap64 (by omega) (by omega), bif_pos (by simp [leI]; omega), e, show ((getV l i).2.1 + (getV l i).1).toNat - (getV l i).2.1.toNat = (getV l i).1.toNat by omega]
  · have e : getT l i m = ([], 0, (getV l i).2.2) := by unfold getT; rw [if_pos h]
    rw [if_neg h, e]
theorem getT_run' {F : Nat} (l : List UInt8) (i m : Int) (hm : -9223372036854775808 ≤ m ∧ m ≤ 9223372036854775807) (hl : l.length ≤ 9223372036854775807) : afun (c69 F) Try.f69 [.ro (.bytes l), .int .i64 i, .int .i64 m] [] = .ret (.tup [.str (getT l i m).1, .int .i64 (getT l i m).2.1, .int .i64 (getT l i m).2.2]) [] := by
  rw [f69_eq, ← f67_eq F]
  exact getT_run l i m hm hl

theorem ok67 : PureOk Try.prog 67 go67 := by
  refine pureOk_of (c67 rounds) tt67_ok (.cons ok66 .nil) follows rfl Try.func67 (by kernel_rfl) (by kernel_rfl) ?_ ?_
  · intro R stk args k; unfold go67; split <;> rfl
  · intro args r objs h hr
    unfold go67 at h
    split at h
    · rename_i l n m
      cases h
      have hm := has64 hr.tail.tail.int
      have hl := hr.bytes
      refine ⟨_, ?_, .same⟩
      unfold apure
      rw [getT_run _ _ _ hm (by unfold maxLen at hl; omega)]
      rfl
    · cases h

theorem ok69 : PureOk Try.prog 69 go67 := by
  refine pureOk_of (c69 rounds) tt69_ok (.cons ok68 .nil) follows rfl Try.func69 (by kernel_rfl) (by kernel_rfl) ?_ ?_
  · intro R stk args k; unfold go67; split <;> rfl
  · intro args r objs h hr
    unfold go67 at h
    split at h
    · rename_i l n m
      cases h
      have hm := has64 hr.tail.tail.int
      have hl := hr.bytes
      refine ⟨_, ?_, .same⟩
      unfold apure
      rw [getT_run' _ _ _ hm (by unfold maxLen at hl; omega)]
      rfl
    · cases h

theorem f63_nil (F : Nat) (s : List UInt8) : afun (c63 F) Try.f63 [.nil, .str s] [] =
  bif appFits ty5 (Pay.bytes (enc (IntKind.u64.wrap ↑s.length) ++ s)) then .ret (AV.own 0) [AObj.arr 5 (Pay.bytes (enc (IntKind.u64.wrap ↑s.length) ++ s))] else .stuck := by kernel_rfl
theorem ok63 : PureOk Try.prog 63 go63 := by
  refine pureOk_of (c63 rounds) tt63_ok (.cons ok62 .nil) follows rfl Try.func63 (by kernel_rfl) (by kernel_rfl) ?_ ?_
  · intro R stk args k
    unfold go63
    split
    · cases Nat.ble _ 140737488355328 <;> rfl
    · cases Nat.ble _ 140737488355328 <;> rfl
    · rfl
  · intro args r objs h hr
    unfold go63 at h
    split at h
    · rename_i l s
      have hs := hr.tail.str
      have he := be_len (s.length : Int)
      cases hf : Nat.ble (l.length + s.length + 9) 140737488355328 with
      | false => rw [hf] at h; cases h
      | true =>
        rw [hf] at h
        cases h
        rw [ble_iff] at hf
        refine ⟨_, ?_, .same⟩
        unfold apure
        unfold maxLen at hs
        rw [f63_eq, wrapu64 (by omega) (by omega), bif_pos (by rw [ble_iff]; omega), bif_pos (by rw [fits5]; simp; omega), List.append_assoc]
        rfl
    · rename_i s
      have hs := hr.tail.str
      have he := be_len (s.length : Int)
      cases hf : Nat.ble (s.length + 9) 140737488355328 with
      | false => rw [hf] at h; cases h
      | true =>
        rw [hf] at h
        cases h
        rw [ble_iff] at hf
        refine ⟨_, ?_, .same⟩
        unfold apure
        unfold maxLen at hs
        rw [f63_nil, wrapu64 (by omega) (by omega), bif_pos (by rw [fits5]; simp; omega)]
        rfl
    · cases h
theorem ok59 : PureOk Try.prog 59 go59 := by
  refine pureOk_of (c59 rounds) tt59_ok (.cons ok58 .nil) follows rfl Try.func59 (by kernel_rfl) (by kernel_rfl) ?_ ?_
  · intro R stk args k
    unfold go59
    split
    · cases Nat.ble _ 140737488355328 <;> rfl
    · rfl
  · intro args r objs h hr
    unfold go59 at h
    split at h
    · rename_i s
      have hs := hr.str
      have he := be_len (s.length : Int)
      cases hf : Nat.ble (s.length + 9) 140737488355328 with
      | false => rw [hf] at h; cases h
      | true =>
        rw [hf] at h
        cases h
        rw [ble_iff] at hf
        refine ⟨_, ?_, .same⟩
        unfold apure
        unfold maxLen at hs
        rw [f59_eq, wrapu64 (by omega) (by omega), bif_pos (by rw [fits5]; simp; omega)]
        rfl
    · cases h

end Go.Proofs.YtdkihlkcnnlkcaaG
