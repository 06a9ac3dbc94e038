/- A part of the proof: plain laws, and what functions of the given program come to; no condition. -/
import Derived.Test.YthejefgpanceoaaGk
namespace Go.Proofs.YthejefgpanceoaaG
open Go Go.Proofs.YthejefgpanceoaaGm
set_option maxRecDepth 100000

def tt59 : Tab := [(3, ty3), (5, ty5), (43, ty43), (74, ty74), (29, ty29), (110, ty110), (114, ty114)]
theorem tt59_ok : TabOk Try.prog tt59 := tabOk_of_all ⟨ty3_ok, ty5_ok, ty43_ok, ty74_ok, ty29_ok, ty110_ok, ty114_ok, trivial⟩
def c59 (F : Nat) : Cfg := ⟨tt59, [(73, .pure go73)], F, [], [], 0⟩
theorem f59_eq (F : Nat) (a0 : List UInt8) (a1 : Int) : afun (c59 F) Try.f59 [AV.ro (Pay.bytes a0), AV.int IntKind.i64 a1] [] =
  .ret (AV.tup [AV.int IntKind.i64 (ixor IntKind.i64 (IntKind.i64.wrap (ishr IntKind.u64 (getV a0 a1).fst 1)) (IntKind.i64.wrap (0 - IntKind.i64.wrap (iand IntKind.u64 (getV a0 a1).fst 1)))), AV.int IntKind.i64 (getV a0 a1).snd.fst, AV.int IntKind.i64 (getV a0 a1).snd.snd]) [] := by kernel_rfl


def tt61 : Tab := [(3, ty3), (4, ty4), (5, ty5), (43, ty43), (74, ty74), (87, ty87)]
theorem tt61_ok : TabOk Try.prog tt61 := tabOk_of_all ⟨ty3_ok, ty4_ok, ty5_ok, ty43_ok, ty74_ok, ty87_ok, trivial⟩
def c61 (F : Nat) : Cfg := ⟨tt61, [(53, .pure go73)], F, [], [], 0⟩
theorem f61_eq (F : Nat) (a0 : List UInt8) (a1 : Int) : afun (c61 F) Try.f61 [AV.ro (Pay.bytes a0), AV.int IntKind.i64 a1] [] =
  bif !eqI (getV a0 a1).snd.snd 0 then
    .ret (AV.tup [AV.int IntKind.i64 0, AV.int IntKind.i64 0, AV.int IntKind.i64 (getV a0 a1).snd.snd]) []
  else
    bif eqI (irem (getV a0 a1).fst 2) 1 then
      .ret (AV.tup [AV.int IntKind.i64 (IntKind.i64.wrap (IntKind.i64.wrap (0 - IntKind.i64.wrap (iquo IntKind.u64 (getV a0 a1).fst 2)) - 1)), AV.int IntKind.i64 (getV a0 a1).snd.fst, AV.int IntKind.i64 0]) []
    else
      .ret (AV.tup [AV.int IntKind.i64 (IntKind.i64.wrap (iquo IntKind.u64 (getV a0 a1).fst 2)), AV.int IntKind.i64 (getV a0 a1).snd.fst, AV.int IntKind.i64 0]) [] := by kernel_rfl


def tt56 : Tab := [(0, ty0), (3, ty3), (5, ty5), (43, ty43), (74, ty74), (114, ty114)]
theorem tt56_ok : TabOk Try.prog tt56 := tabOk_of_all ⟨ty0_ok, ty3_ok, ty5_ok, ty43_ok, ty74_ok, ty114_ok, trivial⟩
def c56 (F : Nat) : Cfg := ⟨tt56, [(46, .pure go46)], F, [], [], 0⟩
theorem f56_eq (F : Nat) (a0 : List UInt8) (a1 : Int) : afun (c56 F) Try.f56 [AV.ro (Pay.bytes a0), AV.int IntKind.i64 a1] [] =
  bif (a0.length + 9).ble 140737488355328 then
    .ret (AV.own 0) [AObj.arr 5 (Pay.bytes (a0 ++ enc (ixor IntKind.u64 (ishl IntKind.u64 (IntKind.u64.wrap a1) 1) (IntKind.u64.wrap (ishr IntKind.i64 a1 63)))))]
  else
    .stuck := by kernel_rfl


def tt63 : Tab := [(3, ty3), (4, ty4), (74, ty74)]
theorem tt63_ok : TabOk Try.prog tt63 := tabOk_of_all ⟨ty3_ok, ty4_ok, ty74_ok, trivial⟩
def c63 (F : Nat) : Cfg := ⟨tt63, [], F, [], [], 0⟩
theorem f63_eq (F : Nat) (a0 : Int) : afun (c63 F) Try.f63 [AV.int IntKind.i64 a0] [] =
  bif ltI a0 0 then
    .ret (AV.int IntKind.u64 (IntKind.u64.wrap (IntKind.u64.wrap (2 * IntKind.u64.wrap (IntKind.i64.wrap (0 - IntKind.i64.wrap (a0 + 1)))) + 1))) []
  else
    .ret (AV.int IntKind.u64 (IntKind.u64.wrap (2 * IntKind.u64.wrap a0))) [] := by kernel_rfl


def tt80 : Tab := [(3, ty3), (4, ty4), (5, ty5), (9, ty9), (43, ty43), (74, ty74), (29, ty29), (110, ty110)]
theorem tt80_ok : TabOk Try.prog tt80 := tabOk_of_all ⟨ty3_ok, ty4_ok, ty5_ok, ty9_ok, ty43_ok, ty74_ok, ty29_ok, ty110_ok, trivial⟩
def c80 (F : Nat) : Cfg := ⟨tt80, [(73, .pure go73)], F, [], [], 0⟩
theorem f80_eq (F : Nat) (a0 : List UInt8) (a1 : Int) (a2 : Int) : afun (c80 F) Try.f80 [AV.ro (Pay.bytes a0), AV.int IntKind.i64 a1, AV.int IntKind.i64 a2] [] =
  bif !eqI (getV a0 a1).snd.snd 0 then
    .ret (AV.tup [AV.str (ByteArray.mk #[]).data.toList, AV.int IntKind.i64 0, AV.int IntKind.i64 (getV a0 a1).snd.snd]) []
  else
    bif ltI a2 0 then
      .ret (AV.tup [AV.str (ByteArray.mk #[]).data.toList, AV.int IntKind.i64 0, AV.int IntKind.i64 5]) []
    else
      bif ltI (IntKind.u64.wrap a2) (getV a0 a1).fst then
        .ret (AV.tup [AV.str (ByteArray.mk #[]).data.toList, AV.int IntKind.i64 0, AV.int IntKind.i64 5]) []
      else
        bif ltI (IntKind.u64.wrap (IntKind.i64.wrap (↑a0.length - (getV a0 a1).snd.fst))) (getV a0 a1).fst then
          .ret (AV.tup [AV.str (ByteArray.mk #[]).data.toList, AV.int IntKind.i64 0, AV.int IntKind.i64 2]) []
        else
          bif leI 0 (getV a0 a1).snd.fst && leI (getV a0 a1).snd.fst (IntKind.i64.wrap ((getV a0 a1).snd.fst + IntKind.i64.wrap (getV a0 a1).fst)) && leI (IntKind.i64.wrap ((getV a0 a1).snd.fst + IntKind.i64.wrap (getV a0 a1).fst)) ↑a0.length then
            .ret (AV.tup [AV.str (List.take ((IntKind.i64.wrap ((getV a0 a1).snd.fst + IntKind.i64.wrap (getV a0 a1).fst)).toNat - (getV a0 a1).snd.fst.toNat) (List.drop (getV a0 a1).snd.fst.toNat a0)), AV.int IntKind.i64 (IntKind.i64.wrap ((getV a0 a1).snd.fst + IntKind.i64.wrap (getV a0 a1).fst)), AV.int IntKind.i64 0]) []
          else
            .stuck := by kernel_rfl


def tt81 : Tab := [(3, ty3), (4, ty4), (5, ty5), (9, ty9), (43, ty43), (74, ty74), (87, ty87)]
theorem tt81_ok : TabOk Try.prog tt81 := tabOk_of_all ⟨ty3_ok, ty4_ok, ty5_ok, ty9_ok, ty43_ok, ty74_ok, ty87_ok, trivial⟩
def c81 (F : Nat) : Cfg := ⟨tt81, [(53, .pure go73)], F, [], [], 0⟩
theorem f81_eq (F : Nat) (a0 : List UInt8) (a1 : Int) (a2 : Int) : afun (c81 F) Try.f81 [AV.ro (Pay.bytes a0), AV.int IntKind.i64 a1, AV.int IntKind.i64 a2] [] =
  bif !eqI (getV a0 a1).snd.snd 0 then
    .ret (AV.tup [AV.str (ByteArray.mk #[]).data.toList, AV.int IntKind.i64 0, AV.int IntKind.i64 (getV a0 a1).snd.snd]) []
  else
    bif ltI a2 0 then
      .ret (AV.tup [AV.str (ByteArray.mk #[]).data.toList, AV.int IntKind.i64 0, AV.int IntKind.i64 5]) []
    else
      bif ltI (IntKind.u64.wrap a2) (getV a0 a1).fst then
        .ret (AV.tup [AV.str (ByteArray.mk #[]).data.toList, AV.int IntKind.i64 0, AV.int IntKind.i64 5]) []
      else
        bif ltI (IntKind.u64.wrap (IntKind.i64.wrap (↑a0.length - (getV a0 a1).snd.fst))) (getV a0 a1).fst then
          .ret (AV.tup [AV.str (ByteArray.mk #[]).data.toList, AV.int IntKind.i64 0, AV.int IntKind.i64 2]) []
        else
          bif leI 0 (getV a0 a1).snd.fst && leI (getV a0 a1).snd.fst (IntKind.i64.wrap ((getV a0 a1).snd.fst + IntKind.i64.wrap (getV a0 a1).fst)) && leI (IntKind.i64.wrap ((getV a0 a1).snd.fst + IntKind.i64.wrap (getV a0 a1).fst)) ↑a0.length then
            .ret (AV.tup [AV.str (List.take ((IntKind.i64.wrap ((getV a0 a1).snd.fst + IntKind.i64.wrap (getV a0 a1).fst)).toNat - (getV a0 a1).snd.fst.toNat) (List.drop (getV a0 a1).snd.fst.toNat a0)), AV.int IntKind.i64 (IntKind.i64.wrap ((getV a0 a1).snd.fst + IntKind.i64.wrap (getV a0 a1).fst)), AV.int IntKind.i64 0]) []
          else
            .stuck := by kernel_rfl


def tt79 : Tab := [(0, ty0), (3, ty3), (5, ty5), (9, ty9), (43, ty43), (74, ty74)]
theorem tt79_ok : TabOk Try.prog tt79 := tabOk_of_all ⟨ty0_ok, ty3_ok, ty5_ok, ty9_ok, ty43_ok, ty74_ok, trivial⟩
def c79 (F : Nat) : Cfg := ⟨tt79, [(46, .pure go46)], F, [], [], 0⟩
theorem f79_eq (F : Nat) (a0 : List UInt8) (a1 : List UInt8) : afun (c79 F) Try.f79 [AV.ro (Pay.bytes a0), AV.str a1] [] =
  bif (a0.length + 9).ble 140737488355328 then
    bif appFits ty5 (Pay.bytes (a0 ++ enc (IntKind.u64.wrap ↑a1.length) ++ a1)) then
      .ret (AV.own 0) [AObj.arr 5 (Pay.bytes (a0 ++ enc (IntKind.u64.wrap ↑a1.length) ++ a1))]
    else
      .stuck
  else
    .stuck := by kernel_rfl


def tt82 : Tab := [(0, ty0), (3, ty3), (5, ty5), (9, ty9), (43, ty43), (74, ty74)]
theorem tt82_ok : TabOk Try.prog tt82 := tabOk_of_all ⟨ty0_ok, ty3_ok, ty5_ok, ty9_ok, ty43_ok, ty74_ok, trivial⟩
def c82 (F : Nat) : Cfg := ⟨tt82, [(52, .pure go52)], F, [], [], 0⟩
theorem f82_eq (F : Nat) (a0 : List UInt8) : afun (c82 F) Try.f82 [AV.str a0] [] =
  bif appFits ty5 (Pay.bytes (enc (IntKind.u64.wrap ↑a0.length) ++ a0)) then
    .ret (AV.own 0) [AObj.arr 5 (Pay.bytes (enc (IntKind.u64.wrap ↑a0.length) ++ a0))]
  else
    .stuck := by kernel_rfl



def go59 (R : Type) (stk : R) (args : List AV) (k : AV → List AObj → R) : R :=
  match args with
  | [.ro (.bytes l), .int .i64 n] => k (.tup [.int .i64 (getI l n).1, .int .i64 (getI l n).2.1, .int .i64 (getI l n).2.2]) []
  | _ => stk
def go56 (R : Type) (stk : R) (args : List AV) (k : AV → List AObj → R) : R :=
  match args with
  | [.ro (.bytes l), .int .i64 n] => bif Nat.ble (l.length + 9) 140737488355328 then k (.own 0) [.arr 5 (.bytes (l ++ enc (zig n)))] else stk
  | [.nil, .int .i64 n] => k (.own 0) [.arr 5 (.bytes (enc (zig n)))]
  | _ => stk
def go63 (R : Type) (stk : R) (args : List AV) (k : AV → List AObj → R) : R :=
  match args with
  | [.int .i64 n] => k (.int .u64 (zig n)) []
  | _ => stk
def go80 (R : Type) (stk : R) (args : List AV) (k : AV → List AObj → R) : R :=
  match args with
  | [.ro (.bytes l), .int .i64 n, .int .i64 m] => k (.tup [.str (getT l n m).1, .int .i64 (getT l n m).2.1, .int .i64 (getT l n m).2.2]) []
  | _ => stk
def go79 (R : Type) (stk : R) (args : List AV) (k : AV → List AObj → R) : R :=
  match args with
  | [.ro (.bytes l), .str s] => bif Nat.ble (l.length + s.length + 9) 140737488355328 then k (.own 0) [.arr 5 (.bytes (l ++ encT s))] else stk
  | [.nil, .str s] => bif Nat.ble (s.length + 9) 140737488355328 then k (.own 0) [.arr 5 (.bytes (encT s))] else stk
  | _ => stk
def go82 (R : Type) (stk : R) (args : List AV) (k : AV → List AObj → R) : R :=
  match args with
  | [.str s] => bif Nat.ble (s.length + 9) 140737488355328 then k (.own 0) [.arr 5 (.bytes (encT s))] else stk
  | _ => stk

theorem zag_run (u : Int) (h0 : 0 ≤ u) (h1 : u < 18446744073709551616) : ixor .i64 (IntKind.i64.wrap (ishr .u64 u 1)) (IntKind.i64.wrap (0 - IntKind.i64.wrap (iand .u64 u 1))) = zag u := by
  rw [ishr_eq (by decide), iand_one64 h0 h1, show (2 : Int) ^ (1 : Int).toNat = 2 from rfl, wrap64 (n := u / 2) (by omega) (by omega), wrap64 (n := u % 2) (by omega) (by omega), wrap64 (n := 0 - u % 2) (by omega) (by omega)]
  unfold zag
  split
  · rename_i h; rw [h, show (0 : Int) - 1 = -1 from rfl, ixor_ones_i64 (by omega) (by omega)]; omega
  · rename_i h; rw [show u % 2 = 0 by omega, show (0 : Int) - 0 = 0 from rfl, ixor_zero_i64 (by omega) (by omega)]
theorem zig_run (n : Int) (h0 : -9223372036854775808 ≤ n) (h1 : n ≤ 9223372036854775807) : ixor .u64 (ishl .u64 (IntKind.u64.wrap n) 1) (IntKind.u64.wrap (ishr .i64 n 63)) = zig n := by
  have e1 : ishl .u64 (IntKind.u64.wrap n) 1 = if n < 0 then 2 * n + 18446744073709551616 else 2 * n := by
    unfold ishl
    rw [show (2 : Int) ^ min (1 : Int).toNat IntKind.u64.bits = 2 from rfl]
    simp only [IntKind.wrap, IntKind.signed, IntKind.bits]
    simp
    split <;> omega
  have e2 : ishr .i64 n 63 = if n < 0 then -1 else 0 := by
    unfold ishr
    rw [show (2 : Int) ^ min (63 : Int).toNat IntKind.i64.bits = 9223372036854775808 from rfl, Int.fdiv_eq_ediv_of_nonneg _ (by decide)]
    split <;> omega
  rw [e1, e2]
  unfold zig
  split
  · rw [show IntKind.u64.wrap (-1) = 18446744073709551615 by decide, ixor_ones64 (by omega) (by omega)]; omega
  · rw [show IntKind.u64.wrap 0 = 0 by decide, ixor_zero64 (by omega) (by omega)]
theorem f63_run (F : Nat) (n : Int) (h0 : -9223372036854775808 ≤ n) (h1 : n ≤ 9223372036854775807) : afun (c63 F) Try.f63 [.int .i64 n] [] = .ret (.int .u64 (zig n)) [] := by
  rw [f63_eq, bif_ltI]
  unfold zig
  split
  · rw [wrap64 (n := n + 1) (by omega) (by omega), wrap64 (by omega) (by omega), wrapu64 (n := 0 - (n + 1)) (by omega) (by omega), wrapu64 (n := 2 * (0 - (n + 1))) (by omega) (by omega), wrapu64 (by omega) (by omega)]
    congr 2; omega
  · rw [wrapu64 (n := n) (by omega) (by omega), wrapu64 (by omega) (by omega)]
theorem f61_run (F : Nat) (l : List UInt8) (i : Int) : afun (c61 F) Try.f61 [.ro (.bytes l), .int .i64 i] [] = .ret (.tup [.int .i64 (getI l i).1, .int .i64 (getI l i).2.1, .int .i64 (getI l i).2.2]) [] := by
  have hf := getV_fits l i
  rw [f61_eq, bif_neI, bif_eqI]
  unfold getI
  dsimp only
  by_cases h : (getV l i).2.2 = 0
  · have hu : zag (getV l i).1 = if (getV l i).1 % 2 = 1 then -((getV l i).1 / 2) - 1 else (getV l i).1 / 2 := rfl
    rw [if_pos h, irem_eq hf.1, iquo_u64 hf.1 hf.2.1 (by decide), wrap64 (n := (getV l i).fst / 2) (by omega) (by omega), wrap64 (n := 0 - (getV l i).fst / 2) (by omega) (by omega), wrap64 (n := 0 - (getV l i).fst / 2 - 1) (by omega) (by omega), h, hu]
    split
    · rw [show 0 - (getV l i).fst / 2 - 1 = -((getV l i).fst / 2) - 1 by omega]
    · rfl
  · have := getV_bad l i h
    rw [if_neg h, this.1, this.2]
    rfl
theorem getT_run {F : Nat} (l : List UInt8) (i m : Int) (hm : -9223372036854775808 ≤ m ∧ m ≤ 9223372036854775807) (hl : l.length ≤ 9223372036854775807) : afun (c80 F) Try.f80 [.ro (.bytes l), .int .i64 i, .int .i64 m] [] = .ret (.tup [.str (getT l i m).1, .int .i64 (getT l i m).2.1, .int .i64 (getT l i m).2.2]) [] := by
  have hf := getV_fits l i
  rw [f80_eq, bif_neI]
  by_cases h : (getV l i).2.2 = 0
  · rw [if_pos h, bif_ltI]
    by_cases h1 : m < 0
    · have e : getT l i m = ([], 0, 5) := by unfold getT; rw [if_neg (fun x => x h), if_pos (.inl h1)]
      rw [if_pos h1, e]
    · rw [if_neg h1, wrapu64 (n := m) (by omega) (by omega), bif_ltI]
      by_cases h2 : m < (getV l i).1
      · have e : getT l i m = ([], 0, 5) := by unfold getT; rw [if_neg (fun x => x h), if_pos (.inr h2)]
        rw [if_pos h2, e]
      · rw [if_neg h2, wrap64 (n := _ - _) (by omega) (by omega), wrapu64 (by omega) (by omega), bif_ltI]
        by_cases h3 : (l.length : Int) - (getV l i).2.1 < (getV l i).1
        · have e : getT l i m = ([], 0, 2) := by unfold getT; rw [if_neg (fun x => x h), if_neg (by omega), if_pos h3]
          rw [if_pos h3, e]
        · have e : getT l i m = ((l.drop (getV l i).2.1.toNat).take (getV l i).1.toNat, (getV l i).2.1 + (getV l i).1, 0) := by unfold getT; rw [if_neg (fun x => x h), if_neg (by omega), if_neg h3]
          rw [if_neg h3, wrap64 (n := (getV l i).1) (by omega) (by omega), wrap64 (by omega) (by omega), bif_pos (by simp [leI]; omega), e, show ((getV l i).2.1 + (getV l i).1).toNat - (getV l i).2.1.toNat = (getV l i).1.toNat by omega]
  · have e : getT l i m = ([], 0, (getV l i).2.2) := by unfold getT; rw [if_pos h]
    rw [if_neg h, e]
theorem getT_run' {F : Nat} (l : List UInt8) (i m : Int) (hm : -9223372036854775808 ≤ m ∧ m ≤ 9223372036854775807) (hl : l.length ≤ 9223372036854775807) : afun (c81 F) Try.f81 [.ro (.bytes l), .int .i64 i, .int .i64 m] [] = .ret (.tup [.str (getT l i m).1, .int .i64 (getT l i m).2.1, .int .i64 (getT l i m).2.2]) [] := by
  rw [f81_eq, ← f80_eq F]
  exact getT_run l i m hm hl

theorem ok59 : PureOk Try.prog 59 go59 := by
  refine pureOk_of (c59 rounds) tt59_ok (.cons ok73 .nil) follows rfl Try.func59 (by kernel_rfl) (by kernel_rfl) ?_ ?_
  · intro R stk args k; unfold go59; split <;> rfl
  · intro args r objs h hr
    unfold go59 at h
    split at h
    · rename_i l n
      cases h
      have hf := getV_fits l n
      refine ⟨_, ?_, .same⟩
      unfold apure
      rw [f59_eq, zag_run _ hf.1 hf.2.1]
      rfl
    · cases h

theorem ok61 : PureOk Try.prog 61 go59 := by
  refine pureOk_of (c61 rounds) tt61_ok (.cons ok53 .nil) follows rfl Try.func61 (by kernel_rfl) (by kernel_rfl) ?_ ?_
  · intro R stk args k; unfold go59; split <;> rfl
  · intro args r objs h hr
    unfold go59 at h
    split at h
    · rename_i l n
      cases h
      refine ⟨_, ?_, .same⟩
      unfold apure
      rw [f61_run]
      rfl
    · cases h

theorem ok63 : PureOk Try.prog 63 go63 := by
  refine pureOk_of (c63 rounds) tt63_ok .nil follows rfl Try.func63 (by kernel_rfl) (by kernel_rfl) ?_ ?_
  · intro R stk args k; unfold go63; split <;> rfl
  · intro args r objs h hr
    unfold go63 at h
    split at h
    · rename_i n
      cases h
      have hn := has64 hr.int
      refine ⟨_, ?_, .same⟩
      unfold apure
      rw [f63_run _ _ hn.1 hn.2]
      rfl
    · cases h

theorem ok80 : PureOk Try.prog 80 go80 := by
  refine pureOk_of (c80 rounds) tt80_ok (.cons ok73 .nil) follows rfl Try.func80 (by kernel_rfl) (by kernel_rfl) ?_ ?_
  · intro R stk args k; unfold go80; split <;> rfl
  · intro args r objs h hr
    unfold go80 at h
    split at h
    · rename_i l n m
      cases h
      have hm := has64 hr.tail.tail.int
      have hl := hr.bytes
      refine ⟨_, ?_, .same⟩
      unfold apure
      rw [getT_run _ _ _ hm (by unfold maxLen at hl; omega)]
      rfl
    · cases h

theorem ok81 : PureOk Try.prog 81 go80 := by
  refine pureOk_of (c81 rounds) tt81_ok (.cons ok53 .nil) follows rfl Try.func81 (by kernel_rfl) (by kernel_rfl) ?_ ?_
  · intro R stk args k; unfold go80; split <;> rfl
  · intro args r objs h hr
    unfold go80 at h
    split at h
    · rename_i l n m
      cases h
      have hm := has64 hr.tail.tail.int
      have hl := hr.bytes
      refine ⟨_, ?_, .same⟩
      unfold apure
      rw [getT_run' _ _ _ hm (by unfold maxLen at hl; omega)]
      rfl
    · cases h

theorem f56_nil (F : Nat) (n : Int) : afun (c56 F) Try.f56 [.nil, .int .i64 n] [] = .ret (.own 0) [.arr 5 (.bytes (enc (ixor .u64 (ishl .u64 (IntKind.u64.wrap n) 1) (IntKind.u64.wrap (ishr .i64 n 63)))))] := by kernel_rfl
theorem ok56 : PureOk Try.prog 56 go56 := by
  refine pureOk_of (c56 rounds) tt56_ok (.cons ok46 .nil) follows rfl Try.func56 (by kernel_rfl) (by kernel_rfl) ?_ ?_
  · intro R stk args k
    unfold go56
    split
    · cases Nat.ble _ 140737488355328 <;> rfl
    · rfl
    · rfl
  · intro args r objs h hr
    unfold go56 at h
    split at h
    · rename_i l n
      have hn := has64 hr.tail.int
      cases hf : Nat.ble (l.length + 9) 140737488355328 with
      | false => rw [hf] at h; cases h
      | true =>
        rw [hf] at h
        cases h
        refine ⟨_, ?_, .same⟩
        unfold apure
        rw [f56_eq, hf, zig_run n hn.1 hn.2]
        rfl
    · rename_i n
      have hn := has64 hr.tail.int
      cases h
      refine ⟨_, ?_, .same⟩
      unfold apure
      rw [f56_nil, zig_run n hn.1 hn.2]
      rfl
    · cases h

theorem f79_nil (F : Nat) (s : List UInt8) : afun (c79 F) Try.f79 [.nil, .str s] [] =
  bif appFits ty5 (Pay.bytes (enc (IntKind.u64.wrap ↑s.length) ++ s)) then .ret (AV.own 0) [AObj.arr 5 (Pay.bytes (enc (IntKind.u64.wrap ↑s.length) ++ s))] else .stuck := by kernel_rfl
theorem ok79 : PureOk Try.prog 79 go79 := by
  refine pureOk_of (c79 rounds) tt79_ok (.cons ok46 .nil) follows rfl Try.func79 (by kernel_rfl) (by kernel_rfl) ?_ ?_
  · intro R stk args k
    unfold go79
    split
    · cases Nat.ble _ 140737488355328 <;> rfl
    · cases Nat.ble _ 140737488355328 <;> rfl
    · rfl
  · intro args r objs h hr
    unfold go79 at h
    split at h
    · rename_i l s
      have hs := hr.tail.str
      have he := be_len (s.length : Int)
      cases hf : Nat.ble (l.length + s.length + 9) 140737488355328 with
      | false => rw [hf] at h; cases h
      | true =>
        rw [hf] at h
        cases h
        rw [ble_iff] at hf
        refine ⟨_, ?_, .same⟩
        unfold apure
        unfold maxLen at hs
        rw [f79_eq, wrapu64 (by omega) (by omega), bif_pos (by rw [ble_iff]; omega), bif_pos (by rw [fits5]; simp; omega), List.append_assoc]
        rfl
    · rename_i s
      have hs := hr.tail.str
      have he := be_len (s.length : Int)
      cases hf : Nat.ble (s.length + 9) 140737488355328 with
      | false => rw [hf] at h; cases h
      | true =>
        rw [hf] at h
        cases h
        rw [ble_iff] at hf
        refine ⟨_, ?_, .same⟩
        unfold apure
        unfold maxLen at hs
        rw [f79_nil, wrapu64 (by omega) (by omega), bif_pos (by rw [fits5]; simp; omega)]
        rfl
    · cases h
theorem ok82 : PureOk Try.prog 82 go82 := by
  refine pureOk_of (c82 rounds) tt82_ok (.cons ok52 .nil) follows rfl Try.func82 (by kernel_rfl) (by kernel_rfl) ?_ ?_
  · intro R stk args k
    unfold go82
    split
    · cases Nat.ble _ 140737488355328 <;> rfl
    · rfl
  · intro args r objs h hr
    unfold go82 at h
    split at h
    · rename_i s
      have hs := hr.str
      have he := be_len (s.length : Int)
      cases hf : Nat.ble (s.length + 9) 140737488355328 with
      | false => rw [hf] at h; cases h
      | true =>
        rw [hf] at h
        cases h
        rw [ble_iff] at hf
        refine ⟨_, ?_, .same⟩
        unfold apure
        unfold maxLen at hs
        rw [f82_eq, wrapu64 (by omega) (by omega), bif_pos (by rw [fits5]; simp; omega)]
        rfl
    · cases h

end Go.Proofs.YthejefgpanceoaaG
