/- A part of the proof: plain laws, and what functions of the given program come to; no condition. -/
import Derived.Test.YtjdojmjkldpgnaaGk
namespace Go.Proofs.YtjdojmjkldpgnaaG
open Go Go.Proofs.YtjdojmjkldpgnaaGm
set_option maxRecDepth 100000

def tt32 : Tab := [(3, ty3), (4, ty4), (5, ty5), (9, ty9), (22, ty22), (47, ty47), (27, ty27), (60, ty60)]
theorem tt32_ok : TabOk Try.prog tt32 := tabOk_of_all ⟨ty3_ok, ty4_ok, ty5_ok, ty9_ok, ty22_ok, ty47_ok, ty27_ok, ty60_ok, trivial⟩
def c32 (F : Nat) : Cfg := ⟨tt32, [(31, .pure go31)], F, [], [], 0⟩
theorem f32_eq (F : Nat) (a0 : List UInt8) (a1 : Int) (a2 : Int) : afun (c32 F) Try.f32 [AV.ro (Pay.bytes a0), AV.int IntKind.i64 a1, AV.int IntKind.i64 a2] [] =
  bif !eqI (getV a0 a1).snd.snd 0 then
    .ret (AV.tup [AV.str (ByteArray.mk #[]).data.toList, AV.int IntKind.i64 0, AV.int IntKind.i64 (getV a0 a1).snd.snd]) []
  else
    bif ltI a2 0 then
      .ret (AV.tup [AV.str (ByteArray.mk #[]).data.toList, AV.int IntKind.i64 0, AV.int IntKind.i64 5]) []
    else
      bif ltI (IntKind.u64.wrap a2) (getV a0 a1).fst then
        .ret (AV.tup [AV.str (ByteArray.mk #[]).data.toList, AV.int IntKind.i64 0, AV.int IntKind.i64 5]) []
      else
        bif ltI (IntKind.u64.wrap (IntKind.i64.wrap (↑a0.length - (getV a0 a1).snd.fst))) (getV a0 a1).fst then
          .ret (AV.tup [AV.str (ByteArray.mk #[]).data.toList, AV.int IntKind.i64 0, AV.int IntKind.i64 2]) []
        else
          bif leI 0 (getV a0 a1).snd.fst && leI (getV a0 a1).snd.fst (IntKind.i64.wrap ((getV a0 a1).snd.fst + IntKind.i64.wrap (getV a0 a1).fst)) && leI (IntKind.i64.wrap ((getV a0 a1).snd.fst + IntKind.i64.wrap (getV a0 a1).fst)) ↑a0.length then
            .ret (AV.tup [AV.str (List.take ((IntKind.i64.wrap ((getV a0 a1).snd.fst + IntKind.i64.wrap (getV a0 a1).fst)).toNat - (getV a0 a1).snd.fst.toNat) (List.drop (getV a0 a1).snd.fst.toNat a0)), AV.int IntKind.i64 (IntKind.i64.wrap ((getV a0 a1).snd.fst + IntKind.i64.wrap (getV a0 a1).fst)), AV.int IntKind.i64 0]) []
          else
            .stuck := by kernel_rfl


def tt21 : Tab := [(3, ty3), (4, ty4), (5, ty5), (9, ty9), (22, ty22), (47, ty47), (48, ty48)]
theorem tt21_ok : TabOk Try.prog tt21 := tabOk_of_all ⟨ty3_ok, ty4_ok, ty5_ok, ty9_ok, ty22_ok, ty47_ok, ty48_ok, trivial⟩
def c21 (F : Nat) : Cfg := ⟨tt21, [(20, .pure go31)], F, [], [], 0⟩
theorem f21_eq (F : Nat) (a0 : List UInt8) (a1 : Int) (a2 : Int) : afun (c21 F) Try.f21 [AV.ro (Pay.bytes a0), AV.int IntKind.i64 a1, AV.int IntKind.i64 a2] [] =
  bif !eqI (getV a0 a1).snd.snd 0 then
    .ret (AV.tup [AV.str (ByteArray.mk #[]).data.toList, AV.int IntKind.i64 0, AV.int IntKind.i64 (getV a0 a1).snd.snd]) []
  else
    bif ltI a2 0 then
      .ret (AV.tup [AV.str (ByteArray.mk #[]).data.toList, AV.int IntKind.i64 0, AV.int IntKind.i64 5]) []
    else
      bif ltI (IntKind.u64.wrap a2) (getV a0 a1).fst then
        .ret (AV.tup [AV.str (ByteArray.mk #[]).data.toList, AV.int IntKind.i64 0, AV.int IntKind.i64 5]) []
      else
        bif ltI (IntKind.u64.wrap (IntKind.i64.wrap (↑a0.length - (getV a0 a1).snd.fst))) (getV a0 a1).fst then
          .ret (AV.tup [AV.str (ByteArray.mk #[]).data.toList, AV.int IntKind.i64 0, AV.int IntKind.i64 2]) []
        else
          bif leI 0 (getV a0 a1).snd.fst && leI (getV a0 a1).snd.fst (IntKind.i64.wrap ((getV a0 a1).snd.fst + IntKind.i64.wrap (getV a0 a1).fst)) && leI (IntKind.i64.wrap ((getV a0 a1).snd.fst + IntKind.i64.wrap (getV a0 a1).fst)) ↑a0.length then
            .ret (AV.tup [AV.str (List.take ((IntKind.i64.wrap ((getV a0 a1).snd.fst + IntKind.i64.wrap (getV a0 a1).fst)).toNat - (getV a0 a1).snd.fst.toNat) (List.drop (getV a0 a1).snd.fst.toNat a0)), AV.int IntKind.i64 (IntKind.i64.wrap ((getV a0 a1).snd.fst + IntKind.i64.wrap (getV a0 a1).fst)), AV.int IntKind.i64 0]) []
          else
            .stuck := by kernel_rfl


def tt24 : Tab := [(0, ty0), (3, ty3), (5, ty5), (9, ty9), (22, ty22), (47, ty47)]
theorem tt24_ok : TabOk Try.prog tt24 := tabOk_of_all ⟨ty0_ok, ty3_ok, ty5_ok, ty9_ok, ty22_ok, ty47_ok, trivial⟩
def c24 (F : Nat) : Cfg := ⟨tt24, [(36, .pure go36)], F, [], [], 0⟩
theorem f24_eq (F : Nat) (a0 : List UInt8) (a1 : List UInt8) : afun (c24 F) Try.f24 [AV.ro (Pay.bytes a0), AV.str a1] [] =
  bif (a0.length + 9).ble 140737488355328 then
    bif appFits ty5 (Pay.bytes (a0 ++ enc (IntKind.u64.wrap ↑a1.length) ++ a1)) then
      .ret (AV.own 0) [AObj.arr 5 (Pay.bytes (a0 ++ enc (IntKind.u64.wrap ↑a1.length) ++ a1))]
    else
      .stuck
  else
    .stuck := by kernel_rfl


def tt30 : Tab := [(0, ty0), (3, ty3), (5, ty5), (9, ty9), (22, ty22), (47, ty47)]
theorem tt30_ok : TabOk Try.prog tt30 := tabOk_of_all ⟨ty0_ok, ty3_ok, ty5_ok, ty9_ok, ty22_ok, ty47_ok, trivial⟩
def c30 (F : Nat) : Cfg := ⟨tt30, [(29, .pure go29)], F, [], [], 0⟩
theorem f30_eq (F : Nat) (a0 : List UInt8) : afun (c30 F) Try.f30 [AV.str a0] [] =
  bif appFits ty5 (Pay.bytes (enc (IntKind.u64.wrap ↑a0.length) ++ a0)) then
    .ret (AV.own 0) [AObj.arr 5 (Pay.bytes (enc (IntKind.u64.wrap ↑a0.length) ++ a0))]
  else
    .stuck := by kernel_rfl



def go32 (R : Type) (stk : R) (args : List AV) (k : AV → List AObj → R) : R :=
  match args with
  | [.ro (.bytes l), .int .i64 n, .int .i64 m] => k (.tup [.str (getT l n m).1, .int .i64 (getT l n m).2.1, .int .i64 (getT l n m).2.2]) []
  | _ => stk
def go24 (R : Type) (stk : R) (args : List AV) (k : AV → List AObj → R) : R :=
  match args with
  | [.ro (.bytes l), .str s] => bif Nat.ble (l.length + s.length + 9) 140737488355328 then k (.own 0) [.arr 5 (.bytes (l ++ encT s))] else stk
  | [.nil, .str s] => bif Nat.ble (s.length + 9) 140737488355328 then k (.own 0) [.arr 5 (.bytes (encT s))] else stk
  | _ => stk
def go30 (R : Type) (stk : R) (args : List AV) (k : AV → List AObj → R) : R :=
  match args with
  | [.str s] => bif Nat.ble (s.length + 9) 140737488355328 then k (.own 0) [.arr 5 (.bytes (encT s))] else stk
  | _ => stk

theorem zag_run (u : Int) (h0 : 0 ≤ u) (h1 : u < 18446744073709551616) : ixor .i64 (IntKind.i64.wrap (ishr .u64 u 1)) (IntKind.i64.wrap (0 - IntKind.i64.wrap (iand .u64 u 1))) = zag u := by
  rw [ishr_eq (by decide), iand_one64 h0 h1, show (2 : Int) ^ (1 : Int).toNat = 2 from rfl, wrap64 (n := u / 2) (by omega) (by omega), wrap64 (n := u % 2) (by omega) (by omega), wrap64 (n := 0 - u % 2) (by omega) (by omega)]
  unfold zag
  split
  · rename_i h; rw [h, show (0 : Int) - 1 = -1 from rfl, ixor_ones_i64 (by omega) (by omega)]; omega
  · rename_i h; rw [show u % 2 = 0 by omega, show (0 : Int) - 0 = 0 from rfl, ixor_zero_i64 (by omega) (by omega)]
theorem zig_run (n : Int) (h0 : -9223372036854775808 ≤ n) (h1 : n ≤ 9223372036854775807) : ixor .u64 (ishl .u64 (IntKind.u64.wrap n) 1) (IntKind.u64.wrap (ishr .i64 n 63)) = zig n := by
  have e1 : ishl .u64 (IntKind.u64.wrap n) 1 = if n < 0 then 2 * n + 18446744073709551616 else 2 * n := by
    unfold ishl
    rw [show (2 : Int) ^ min (1 : Int).toNat IntKind.u64.bits = 2 from rfl]
    simp only [IntKind.wrap, IntKind.signed, IntKind.bits]
    simp
    split <;> omega
  have e2 : ishr .i64 n 63 = if n < 0 then -1 else 0 := by
    unfold ishr
    rw [show (2 : Int) ^ min (63 : Int).toNat IntKind.i64.bits = 9223372036854775808 from rfl, Int.fdiv_eq_ediv_of_nonneg _ (by decide)]
    split <;> omega
  rw [e1, e2]
  unfold zig
  split
  · rw [show IntKind.u64.wrap (-1) = 18446744073709551615 by decide, ixor_ones64 (by omega) (by omega)]; omega
  · rw [show IntKind.u64.wrap 0 = 0 by decide, ixor_zero64 (by omega) (by omega)]
theorem getT_run {F : Nat} (l : List UInt8) (i m : Int) (hm : -9223372036854775808 ≤ m ∧ m ≤ 9223372036854775807) (hl : l.length ≤ 9223372036854775807) : afun (c32 F) Try.f32 [.ro (.bytes l), .int .i64 i, .int .i64 m] [] = .ret (.tup [.str (getT l i m).1, .int .i64 (getT l i m).2.1, .int .i64 (getT l i m).2.2]) [] := by
  have hf := getV_fits l i
  rw [f32_eq, bif_neI]
  by_cases h : (getV l i).2.2 = 0
  · rw [if_pos h, bif_ltI]
    by_cases h1 : m < 0
    · have e : getT l i m = ([], 0, 5) := by unfold getT; rw [if_neg (fun x => x h), if_pos (.inl h1)]
      rw [if_pos h1, e]
    · rw [if_neg h1, wrapu64 (n := m) (by omega) (by omega), bif_ltI]
      by_cases h2 : m < (getV l i).1
      · have e : getT l i m = ([], 0, 5) := by unfold getT; rw [if_neg (fun x => x h), if_pos (.inr h2)]
        rw [if_pos h2, e]
      · rw [if_neg h2, wrap64 (n := _ - _) (by omega) (by omega), wrapu64 (by omega) (by omega), bif_ltI]
        by_cases h3 : (l.length : Int) - (getV l i).2.1 < (getV l i).1
        · have e : getT l i m = ([], 0, 2) := by unfold getT; rw [if_neg (fun x => x h), if_neg (by omega), if_pos h3]
          rw [if_pos h3, e]
        · have e : getT l i m = ((l.drop (getV l i).2.1.toNat).take (getV l i).1.toNat, (getV l i).2.1 + (getV l i).1, 0) := by unfold getT; rw [if_neg (fun x => x h), if_neg (by omega), if_neg h3]
          rw [if_neg h3, wrap64 (n := (getV l i).1) (by omega) (by omega), wrap64 (by omega) (by omega), bif_pos (by simp [leI]; omega), e, show ((getV l i).2.1 + (getV l i).1).toNat - (getV l i).2.1.toNat = (getV l i).1.toNat by omega]
  · have e : getT l i m = ([], 0, (getV l i).2.2) := by unfold getT; rw [if_pos h]
    rw [if_neg h, e]
theorem getT_run' {F : Nat} (l : List UInt8) (i m : Int) (hm : -9223372036854775808 ≤ m ∧ m ≤ 9223372036854775807) (hl : l.length ≤ 9223372036854775807) : afun (c21 F) Try.f21 [.ro (.bytes l), .int .i64 i, .int .i64 m] [] = .ret (.tup [.str (getT l i m).1, .int .i64 (getT l i m).2.1, .int .i64 (getT l i m).2.2]) [] := by
  rw [f21_eq, ← f32_eq F]
  exact getT_run l i m hm hl

theorem ok32 : PureOk Try.prog 32 go32 := by
  refine pureOk_of (c32 rounds) tt32_ok (.cons ok31 .nil) follows rfl Try.func32 (by kernel_rfl) (by kernel_rfl) ?_ ?_
  · intro R stk args k; unfold go32; split <;> rfl
  · intro args r objs h hr
    unfold go32 at h
    split at h
    · rename_i l n m
      cases h
      have hm := has64 hr.tail.tail.int
      have hl := hr.bytes
      refine ⟨_, ?_, .same⟩
      unfold apure
      rw [getT_run _ _ _ hm (by unfold maxLen at hl; omega)]
      rfl
    · cases h

theorem ok21 : PureOk Try.prog 21 go32 := by
  refine pureOk_of (c21 rounds) tt21_ok (.cons ok20 .nil) follows rfl Try.func21 (by kernel_rfl) (by kernel_rfl) ?_ ?_
  · intro R stk args k; unfold go32; split <;> rfl
  · intro args r objs h hr
    unfold go32 at h
    split at h
    · rename_i l n m
      cases h
      have hm := has64 hr.tail.tail.int
      have hl := hr.bytes
      refine ⟨_, ?_, .same⟩
      unfold apure
      rw [getT_run' _ _ _ hm (by unfold maxLen at hl; omega)]
      rfl
    · cases h

theorem f24_nil (F : Nat) (s : List UInt8) : afun (c24 F) Try.f24 [.nil, .str s] [] =
  bif appFits ty5 (Pay.bytes (enc (IntKind.u64.wrap ↑s.length) ++ s)) then .ret (AV.own 0) [AObj.arr 5 (Pay.bytes (enc (IntKind.u64.wrap ↑s.length) ++ s))] else .stuck := by kernel_rfl
theorem ok24 : PureOk Try.prog 24 go24 := by
  refine pureOk_of (c24 rounds) tt24_ok (.cons ok36 .nil) follows rfl Try.func24 (by kernel_rfl) (by kernel_rfl) ?_ ?_
  · intro R stk args k
    unfold go24
    split
    · cases Nat.ble _ 140737488355328 <;> rfl
    · cases Nat.ble _ 140737488355328 <;> rfl
    · rfl
  · intro args r objs h hr
    unfold go24 at h
    split at h
    · rename_i l s
      have hs := hr.tail.str
      have he := be_len (s.length : Int)
      cases hf : Nat.ble (l.length + s.length + 9) 140737488355328 with
      | false => rw [hf] at h; cases h
      | true =>
        rw [hf] at h
        cases h
        rw [ble_iff] at hf
        refine ⟨_, ?_, .same⟩
        unfold apure
        unfold maxLen at hs
        rw [f24_eq, wrapu64 (by omega) (by omega), bif_pos (by rw [ble_iff]; omega), bif_pos (by rw [fits5]; simp; omega), List.append_assoc]
        rfl
    · rename_i s
      have hs := hr.tail.str
      have he := be_len (s.length : Int)
      cases hf : Nat.ble (s.length + 9) 140737488355328 with
      | false => rw [hf] at h; cases h
      | true =>
        rw [hf] at h
        cases h
        rw [ble_iff] at hf
        refine ⟨_, ?_, .same⟩
        unfold apure
        unfold maxLen at hs
        rw [f24_nil, wrapu64 (by omega) (by omega), bif_pos (by rw [fits5]; simp; omega)]
        rfl
    · cases h
theorem ok30 : PureOk Try.prog 30 go30 := by
  refine pureOk_of (c30 rounds) tt30_ok (.cons ok29 .nil) follows rfl Try.func30 (by kernel_rfl) (by kernel_rfl) ?_ ?_
  · intro R stk args k
    unfold go30
    split
    · cases Nat.ble _ 140737488355328 <;> rfl
    · rfl
  · intro args r objs h hr
    unfold go30 at h
    split at h
    · rename_i s
      have hs := hr.str
      have he := be_len (s.length : Int)
      cases hf : Nat.ble (s.length + 9) 140737488355328 with
      | false => rw [hf] at h; cases h
      | true =>
        rw [hf] at h
        cases h
        rw [ble_iff] at hf
        refine ⟨_, ?_, .same⟩
        unfold apure
        unfold maxLen at hs
        rw [f30_eq, wrapu64 (by omega) (by omega), bif_pos (by rw [fits5]; simp; omega)]
        rfl
    · cases h

end Go.Proofs.YtjdojmjkldpgnaaG
