/- A part of the proof: plain laws, and what functions of the given program come to; no condition. -/
import Derived.Test.YtjdojmjkldpgnaaDoorGk
namespace Go.Proofs.YtjdojmjkldpgnaaDoorG
open Go Go.Proofs.YtjdojmjkldpgnaaDoorGm
set_option maxRecDepth 100000

def tt54 : Tab := [(0, ty0), (3, ty3), (5, ty5), (9, ty9), (33, ty33), (73, ty73)]
theorem tt54_ok : TabOk Tryd.prog tt54 := tabOk_of_all ⟨ty0_ok, ty3_ok, ty5_ok, ty9_ok, ty33_ok, ty73_ok, trivial⟩
def c54 (F : Nat) : Cfg := ⟨tt54, [(53, .pure go53)], F, [], [], 0⟩
theorem f54_eq (F : Nat) (a0 : List UInt8) (a1 : List UInt8) : afun (c54 F) Tryd.f54 [AV.ro (Pay.bytes a0), AV.str a1] [] =
  bif (a0.length + 9).ble 140737488355328 then
    bif appFits ty5 (Pay.bytes (a0 ++ enc (IntKind.u64.wrap ↑a1.length) ++ a1)) then
      .ret (AV.own 0) [AObj.arr 5 (Pay.bytes (a0 ++ enc (IntKind.u64.wrap ↑a1.length) ++ a1))]
    else
      .stuck
  else
    .stuck := by kernel_rfl


def tt61 : Tab := [(0, ty0), (3, ty3), (5, ty5), (9, ty9), (33, ty33), (73, ty73)]
theorem tt61_ok : TabOk Tryd.prog tt61 := tabOk_of_all ⟨ty0_ok, ty3_ok, ty5_ok, ty9_ok, ty33_ok, ty73_ok, trivial⟩
def c61 (F : Nat) : Cfg := ⟨tt61, [(60, .pure go60)], F, [], [], 0⟩
theorem f61_eq (F : Nat) (a0 : List UInt8) : afun (c61 F) Tryd.f61 [AV.str a0] [] =
  bif appFits ty5 (Pay.bytes (enc (IntKind.u64.wrap ↑a0.length) ++ a0)) then
    .ret (AV.own 0) [AObj.arr 5 (Pay.bytes (enc (IntKind.u64.wrap ↑a0.length) ++ a0))]
  else
    .stuck := by kernel_rfl



def go54 (R : Type) (stk : R) (args : List AV) (k : AV → List AObj → R) : R :=
  match args with
  | [.ro (.bytes l), .str s] => bif Nat.ble (l.length + s.length + 9) 140737488355328 then k (.own 0) [.arr 5 (.bytes (l ++ encT s))] else stk
  | [.nil, .str s] => bif Nat.ble (s.length + 9) 140737488355328 then k (.own 0) [.arr 5 (.bytes (encT s))] else stk
  | _ => stk
def go61 (R : Type) (stk : R) (args : List AV) (k : AV → List AObj → R) : R :=
  match args with
  | [.str s] => bif Nat.ble (s.length + 9) 140737488355328 then k (.own 0) [.arr 5 (.bytes (encT s))] else stk
  | _ => stk

theorem zag_run (u : Int) (h0 : 0 ≤ u) (h1 : u < 18446744073709551616) : ixor .i64 (IntKind.i64.wrap (ishr .u64 u 1)) (IntKind.i64.wrap (0 - IntKind.i64.wrap (iand .u64 u 1))) = zag u := by
  rw [ishr_eq (by decide), iand_one64 h0 h1, show (2 : Int) ^ (1 : Int).toNat = 2 from rfl, wrap64 (n := u / 2) (by omega) (by omega), wrap64 (n := u % 2) (by omega) (by omega), wrap64 (n := 0 - u % 2) (by omega) (by omega)]
  unfold zag
  split
  · rename_i h; rw [h, show (0 : Int) - 1 = -1 from rfl, ixor_ones_i64 (by omega) (by omega)]; omega
  · rename_i h; rw [show u % 2 = 0 by omega, show (0 : Int) - 0 = 0 from rfl, ixor_zero_i64 (by omega) (by omega)]
theorem zig_run (n : Int) (h0 : -9223372036854775808 ≤ n) (h1 : n ≤ 9223372036854775807) : ixor .u64 (ishl .u64 (IntKind.u64.wrap n) 1) (IntKind.u64.wrap (ishr .i64 n 63)) = zig n := by
  have e1 : ishl .u64 (IntKind.u64.wrap n) 1 = if n < 0 then 2 * n + 18446744073709551616 else 2 * n := by
    unfold ishl
    rw [show (2 : Int) ^ min (1 : Int).toNat IntKind.u64.bits = 2 from rfl]
    simp only [IntKind.wrap, IntKind.signed, IntKind.bits]
    simp
    split <;> omega
  have e2 : ishr .i64 n 63 = if n < 0 then -1 else 0 := by
    unfold ishr
    rw [show (2 : Int) ^ min (63 : Int).toNat IntKind.i64.bits = 9223372036854775808 from rfl, Int.fdiv_eq_ediv_of_nonneg _ (by decide)]
    split <;> omega
  rw [e1, e2]
  unfold zig
  split
  · rw [show IntKind.u64.wrap (-1) = 18446744073709551615 by decide, ixor_ones64 (by omega) (by omega)]; omega
  · rw [show IntKind.u64.wrap 0 = 0 by decide, ixor_zero64 (by omega) (by omega)]
theorem f54_nil (F : Nat) (s : List UInt8) : afun (c54 F) Tryd.f54 [.nil, .str s] [] =
  bif appFits ty5 (Pay.bytes (enc (IntKind.u64.wrap ↑s.length) ++ s)) then .ret (AV.own 0) [AObj.arr 5 (Pay.bytes (enc (IntKind.u64.wrap ↑s.length) ++ s))] else .stuck := by kernel_rfl
theorem ok54 : PureOk Tryd.prog 54 go54 := by
  refine pureOk_of (c54 rounds) tt54_ok (.cons ok53 .nil) follows rfl Tryd.func54 (by kernel_rfl) (by kernel_rfl) ?_ ?_
  · intro R stk args k
    unfold go54
    split
    · cases Nat.ble _ 140737488355328 <;> rfl
    · cases Nat.ble _ 140737488355328 <;> rfl
    · rfl
  · intro args r objs h hr
    unfold go54 at h
    split at h
    · rename_i l s
      have hs := hr.tail.str
      have he := be_len (s.length : Int)
      cases hf : Nat.ble (l.length + s.length + 9) 140737488355328 with
      | false => rw [hf] at h; cases h
      | true =>
        rw [hf] at h
        cases h
        rw [ble_iff] at hf
        refine ⟨_, ?_, .same⟩
        unfold apure
        unfold maxLen at hs
        rw [f54_eq, wrapu64 (by omega) (by omega), bif_pos (by rw [ble_iff]; omega), bif_pos (by rw [fits5]; simp; omega), List.append_assoc]
        rfl
    · rename_i s
      have hs := hr.tail.str
      have he := be_len (s.length : Int)
      cases hf : Nat.ble (s.length + 9) 140737488355328 with
      | false => rw [hf] at h; cases h
      | true =>
        rw [hf] at h
        cases h
        rw [ble_iff] at hf
        refine ⟨_, ?_, .same⟩
        unfold apure
        unfold maxLen at hs
        rw [f54_nil, wrapu64 (by omega) (by omega), bif_pos (by rw [fits5]; simp; omega)]
        rfl
    · cases h
theorem ok61 : PureOk Tryd.prog 61 go61 := by
  refine pureOk_of (c61 rounds) tt61_ok (.cons ok60 .nil) follows rfl Tryd.func61 (by kernel_rfl) (by kernel_rfl) ?_ ?_
  · intro R stk args k
    unfold go61
    split
    · cases Nat.ble _ 140737488355328 <;> rfl
    · rfl
  · intro args r objs h hr
    unfold go61 at h
    split at h
    · rename_i s
      have hs := hr.str
      have he := be_len (s.length : Int)
      cases hf : Nat.ble (s.length + 9) 140737488355328 with
      | false => rw [hf] at h; cases h
      | true =>
        rw [hf] at h
        cases h
        rw [ble_iff] at hf
        refine ⟨_, ?_, .same⟩
        unfold apure
        unfold maxLen at hs
        rw [f61_eq, wrapu64 (by omega) (by omega), bif_pos (by rw [fits5]; simp; omega)]
        rfl
    · cases h

end Go.Proofs.YtjdojmjkldpgnaaDoorG
