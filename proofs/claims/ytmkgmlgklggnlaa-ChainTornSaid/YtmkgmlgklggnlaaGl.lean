/- A part of the proof: plain laws, and what functions of the given program come to; no condition. -/
import Derived.Test.YtmkgmlgklggnlaaGk
namespace Go.Proofs.YtmkgmlgklggnlaaG
open Go Go.Proofs.YtmkgmlgklggnlaaGm
set_option maxRecDepth 100000

def tt84 : Tab := [(0, ty0), (3, ty3), (5, ty5), (9, ty9), (22, ty22), (99, ty99)]
theorem tt84_ok : TabOk Try.prog tt84 := tabOk_of_all ⟨ty0_ok, ty3_ok, ty5_ok, ty9_ok, ty22_ok, ty99_ok, trivial⟩
def c84 (F : Nat) : Cfg := ⟨tt84, [(81, .pure go81)], F, [], [], 0⟩
theorem f84_eq (F : Nat) (a0 : List UInt8) (a1 : List UInt8) : afun (c84 F) Try.f84 [AV.ro (Pay.bytes a0), AV.str a1] [] =
 bif (a0.length + 9).ble 140737488355328 then
 bif appFits ty5 (Pay.bytes (a0 ++ enc (IntKind.u64.wrap ↑a1.length) ++ a1)) then
 .ret (AV.own 0) [AObj.arr 5 (Pay.bytes (a0 ++ enc (IntKind.u64.wrap ↑a1.length) ++ a1))]
 else
 .stuck
 else
 .stuck := by kernel_rfl


def tt85 : Tab := [(0, ty0), (3, ty3), (5, ty5), (9, ty9), (22, ty22), (99, ty99)]
theorem tt85_ok : TabOk Try.prog tt85 := tabOk_of_all ⟨ty0_ok, ty3_ok, ty5_ok, ty9_ok, ty22_ok, ty99_ok, trivial⟩
def c85 (F : Nat) : Cfg := ⟨tt85, [(64, .pure go64)], F, [], [], 0⟩
theorem f85_eq (F : Nat) (a0 : List UInt8) : afun (c85 F) Try.f85 [AV.str a0] [] =
 bif appFits ty5 (Pay.bytes (enc (IntKind.u64.wrap ↑a0.length) ++ a0)) then
 .ret (AV.own 0) [AObj.arr 5 (Pay.bytes (enc (IntKind.u64.wrap ↑a0.length) ++ a0))]
 else
 .stuck := by kernel_rfl



def go84 (R : Type) (stk : R) (args : List AV) (k : AV → List AObj → R) : R :=
  match args with
  | [.ro (.bytes l), .str s] => bif Nat.ble (l.length + s.length + 9) 140737488355328 then k (.own 0) [.arr 5 (.bytes (l ++ encT s))] else stk
  | [.nil, .str s] => bif Nat.ble (s.length + 9) 140737488355328 then k (.own 0) [.arr 5 (.bytes (encT s))] else stk
  | _ => stk
def go85 (R : Type) (stk : R) (args : List AV) (k : AV → List AObj → R) : R :=
  match args with
  | [.str s] => bif Nat.ble (s.length + 9) 140737488355328 then k (.own 0) [.arr 5 (.bytes (encT s))] else stk
  | _ => stk

theorem zag_run (u : Int) (h0 : 0 ≤ u) (h1 : u < 18446744073709551616) : ixor .i64 (IntKind.i64.wrap (ishr .u64 u 1)) (IntKind.i64.wrap (0 - IntKind.i64.wrap (iand .u64 u 1))) = zag u := by
  rw [ishr_eq (by decide), iand_one64 h0 h1, show (2 : Int) ^ (1 : Int).toNat = 2 from rfl, wrap64 (n := u / 2) (by omega) (by omega), wrap64 (n := u % 2) (by omega) (by omega), wrap64 (n := 0 - u % 2) (by omega) (by omega)]
  unfold zag
  split
  · rename_i h; rw [h, show (0 : Int) - 1 = -1 from rfl, ixor_ones_i64 (by omega) (by omega)]; omega
  · rename_i h; rw [show u % 2 = 0 by omega, show (0 : Int) - 0 = 0 from rfl, ixor_zero_i64 (by omega) (by omega)]
theorem zig_run (n : Int) (h0 : -9223372036854775808 ≤ n) (h1 : n ≤ 9223372036854775807) : ixor .u64 (ishl .u64 (IntKind.u64.wrap n) 1) (IntKind.u64.wrap (ishr .i64 n 63)) = zig n := by
  have e1 : ishl .u64 (IntKind.u64.wrap n) 1 = if n < 0 then 2 * n + 18446744073709551616 else 2 * n := by
    unfold ishl
    rw [show (2 : Int) ^ min (1 : Int).toNat IntKind.u64.bits = 2 from rfl]
    simp only [IntKind.wrap, IntKind.signed, IntKind.bits]
    simp
    split <;> omega
  have e2 : ishr .i64 n 63 = if n < 0 then -1 else 0 := by
    unfold ishr
    rw [show (2 : Int) ^ min (63 : Int).toNat IntKind.i64.bits = 9223372036854775808 from rfl, Int.fdiv_eq_ediv_of_nonneg _ (by decide)]
    split <;> omega
  rw [e1, e2]
  unfold zig
  split
  · rw [show IntKind.u64.wrap (-1) = 18446744073709551615 by decide, ixor_ones64 (by omega) (by omega)]; omega
  · rw [show IntKind.u64.wrap 0 = 0 by decide, ixor_zero64 (by omega) (by omega)]
theorem f84_nil (F : Nat) (s : List UInt8) : afun (c84 F) Try.f84 [.nil, .str s] [] =
  bif appFits ty5 (Pay.bytes (enc (IntKind.u64.wrap ↑s.length) ++ s)) then .ret (AV.own 0) [AObj.arr 5 (Pay.bytes (enc (IntKind.u64.wrap ↑s.length) ++ s))] else .stuck := by kernel_rfl
theorem ok84 : PureOk Try.prog 84 go84 := by
  refine pureOk_of (c84 rounds) tt84_ok (.cons ok81 .nil) follows rfl Try.func84 (by kernel_rfl) (by kernel_rfl) ?_ ?_
  · intro R stk args k
    unfold go84
    split
    · cases Nat.ble _ 140737488355328 <;> rfl
    · cases Nat.ble _ 140737488355328 <;> rfl
    · rfl
  · intro args r objs h hr
    unfold go84 at h
    split at h
    · rename_i l s
      have hs := hr.tail.str
      have he := be_len (s.length : Int)
      cases hf : Nat.ble (l.length + s.length + 9) 140737488355328 with
      | false => rw [hf] at h; cases h
      | true =>
        rw [hf] at h
        cases h
        rw [ble_iff] at hf
        refine ⟨_, ?_, .same⟩
        unfold apure
        unfold maxLen at hs
        rw [f84_eq, wrapu64 (by omega) (by omega), bif_pos (by rw [ble_iff]; omega), bif_pos (by rw [fits5]; simp; omega), List.append_assoc]
        rfl
    · rename_i s
      have hs := hr.tail.str
      have he := be_len (s.length : Int)
      cases hf : Nat.ble (s.length + 9) 140737488355328 with
      | false => rw [hf] at h; cases h
      | true =>
        rw [hf] at h
        cases h
        rw [ble_iff] at hf
        refine ⟨_, ?_, .same⟩
        unfold apure
        unfold maxLen at hs
        rw [f84_nil, wrapu64 (by omega) (by omega), bif_pos (by rw [fits5]; simp; omega)]
        rfl
    · cases h
theorem ok85 : PureOk Try.prog 85 go85 := by
  refine pureOk_of (c85 rounds) tt85_ok (.cons ok64 .nil) follows rfl Try.func85 (by kernel_rfl) (by kernel_rfl) ?_ ?_
  · intro R stk args k
    unfold go85
    split
    · cases Nat.ble _ 140737488355328 <;> rfl
    · rfl
  · intro args r objs h hr
    unfold go85 at h
    split at h
    · rename_i s
      have hs := hr.str
      have he := be_len (s.length : Int)
      cases hf : Nat.ble (s.length + 9) 140737488355328 with
      | false => rw [hf] at h; cases h
      | true =>
        rw [hf] at h
        cases h
        rw [ble_iff] at hf
        refine ⟨_, ?_, .same⟩
        unfold apure
        unfold maxLen at hs
        rw [f85_eq, wrapu64 (by omega) (by omega), bif_pos (by rw [fits5]; simp; omega)]
        rfl
    · cases h

end Go.Proofs.YtmkgmlgklggnlaaG
