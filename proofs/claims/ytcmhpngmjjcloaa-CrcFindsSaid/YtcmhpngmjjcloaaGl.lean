/- A part of the proof: plain laws, and what functions of the given program come to; no condition. -/
import Derived.Test.YtcmhpngmjjcloaaGk
namespace Go.Proofs.YtcmhpngmjjcloaaG
open Go Go.Proofs.YtcmhpngmjjcloaaGm
set_option maxRecDepth 100000

def tt31 : Tab := [(3, ty3), (5, ty5), (22, ty22), (29, ty29), (34, ty34), (44, ty44), (66, ty66)]
theorem tt31_ok : TabOk Try.prog tt31 := tabOk_of_all ⟨ty3_ok, ty5_ok, ty22_ok, ty29_ok, ty34_ok, ty44_ok, ty66_ok, trivial⟩
def c31 (F : Nat) : Cfg := ⟨tt31, [(28, .pure go28)], F, [], [], 0⟩
theorem f31_eq (F : Nat) (a0 : List UInt8) (a1 : Int) : afun (c31 F) Try.f31 [AV.ro (Pay.bytes a0), AV.int IntKind.i64 a1] [] =
  .ret (AV.tup [AV.int IntKind.i64 (ixor IntKind.i64 (IntKind.i64.wrap (ishr IntKind.u64 (getV a0 a1).fst 1)) (IntKind.i64.wrap (0 - IntKind.i64.wrap (iand IntKind.u64 (getV a0 a1).fst 1)))), AV.int IntKind.i64 (getV a0 a1).snd.fst, AV.int IntKind.i64 (getV a0 a1).snd.snd]) [] := by kernel_rfl


def tt32 : Tab := [(3, ty3), (4, ty4), (5, ty5), (22, ty22), (29, ty29), (46, ty46)]
theorem tt32_ok : TabOk Try.prog tt32 := tabOk_of_all ⟨ty3_ok, ty4_ok, ty5_ok, ty22_ok, ty29_ok, ty46_ok, trivial⟩
def c32 (F : Nat) : Cfg := ⟨tt32, [(29, .pure go28)], F, [], [], 0⟩
theorem f32_eq (F : Nat) (a0 : List UInt8) (a1 : Int) : afun (c32 F) Try.f32 [AV.ro (Pay.bytes a0), AV.int IntKind.i64 a1] [] =
  bif !eqI (getV a0 a1).snd.snd 0 then
    .ret (AV.tup [AV.int IntKind.i64 0, AV.int IntKind.i64 0, AV.int IntKind.i64 (getV a0 a1).snd.snd]) []
  else
    bif eqI (irem (getV a0 a1).fst 2) 1 then
      .ret (AV.tup [AV.int IntKind.i64 (IntKind.i64.wrap (IntKind.i64.wrap (0 - IntKind.i64.wrap (iquo IntKind.u64 (getV a0 a1).fst 2)) - 1)), AV.int IntKind.i64 (getV a0 a1).snd.fst, AV.int IntKind.i64 0]) []
    else
      .ret (AV.tup [AV.int IntKind.i64 (IntKind.i64.wrap (iquo IntKind.u64 (getV a0 a1).fst 2)), AV.int IntKind.i64 (getV a0 a1).snd.fst, AV.int IntKind.i64 0]) [] := by kernel_rfl


def tt33 : Tab := [(0, ty0), (3, ty3), (5, ty5), (22, ty22), (29, ty29), (66, ty66)]
theorem tt33_ok : TabOk Try.prog tt33 := tabOk_of_all ⟨ty0_ok, ty3_ok, ty5_ok, ty22_ok, ty29_ok, ty66_ok, trivial⟩
def c33 (F : Nat) : Cfg := ⟨tt33, [(19, .pure go19)], F, [], [], 0⟩
theorem f33_eq (F : Nat) (a0 : List UInt8) (a1 : Int) : afun (c33 F) Try.f33 [AV.ro (Pay.bytes a0), AV.int IntKind.i64 a1] [] =
  bif (a0.length + 9).ble 140737488355328 then
    .ret (AV.own 0) [AObj.arr 5 (Pay.bytes (a0 ++ enc (ixor IntKind.u64 (ishl IntKind.u64 (IntKind.u64.wrap a1) 1) (IntKind.u64.wrap (ishr IntKind.i64 a1 63)))))]
  else
    .stuck := by kernel_rfl


def tt34 : Tab := [(3, ty3), (4, ty4), (29, ty29)]
theorem tt34_ok : TabOk Try.prog tt34 := tabOk_of_all ⟨ty3_ok, ty4_ok, ty29_ok, trivial⟩
def c34 (F : Nat) : Cfg := ⟨tt34, [], F, [], [], 0⟩
theorem f34_eq (F : Nat) (a0 : Int) : afun (c34 F) Try.f34 [AV.int IntKind.i64 a0] [] =
  bif ltI a0 0 then
    .ret (AV.int IntKind.u64 (IntKind.u64.wrap (IntKind.u64.wrap (2 * IntKind.u64.wrap (IntKind.i64.wrap (0 - IntKind.i64.wrap (a0 + 1)))) + 1))) []
  else
    .ret (AV.int IntKind.u64 (IntKind.u64.wrap (2 * IntKind.u64.wrap a0))) [] := by kernel_rfl


def tt35 : Tab := [(3, ty3), (4, ty4), (5, ty5), (9, ty9), (22, ty22), (29, ty29), (34, ty34), (44, ty44)]
theorem tt35_ok : TabOk Try.prog tt35 := tabOk_of_all ⟨ty3_ok, ty4_ok, ty5_ok, ty9_ok, ty22_ok, ty29_ok, ty34_ok, ty44_ok, trivial⟩
def c35 (F : Nat) : Cfg := ⟨tt35, [(28, .pure go28)], F, [], [], 0⟩
theorem f35_eq (F : Nat) (a0 : List UInt8) (a1 : Int) (a2 : Int) : afun (c35 F) Try.f35 [AV.ro (Pay.bytes a0), AV.int IntKind.i64 a1, AV.int IntKind.i64 a2] [] =
  bif !eqI (getV a0 a1).snd.snd 0 then
    .ret (AV.tup [AV.str (ByteArray.mk #[]).data.toList, AV.int IntKind.i64 0, AV.int IntKind.i64 (getV a0 a1).snd.snd]) []
  else
    bif ltI a2 0 then
      .ret (AV.tup [AV.str (ByteArray.mk #[]).data.toList, AV.int IntKind.i64 0, AV.int IntKind.i64 5]) []
    else
      bif ltI (IntKind.u64.wrap a2) (getV a0 a1).fst then
        .ret (AV.tup [AV.str (ByteArray.mk #[]).data.toList, AV.int IntKind.i64 0, AV.int IntKind.i64 5]) []
      else
        bif ltI (IntKind.u64.wrap (IntKind.i64.wrap (↑a0.length - (getV a0 a1).snd.fst))) (getV a0 a1).fst then
          .ret (AV.tup [AV.str (ByteArray.mk #[]).data.toList, AV.int IntKind.i64 0, AV.int IntKind.i64 2]) []
        else
          bif leI 0 (getV a0 a1).snd.fst && leI (getV a0 a1).snd.fst (IntKind.i64.wrap ((getV a0 a1).snd.fst + IntKind.i64.wrap (getV a0 a1).fst)) && leI (IntKind.i64.wrap ((getV a0 a1).snd.fst + IntKind.i64.wrap (getV a0 a1).fst)) ↑a0.length then
            .ret (AV.tup [AV.str (List.take ((IntKind.i64.wrap ((getV a0 a1).snd.fst + IntKind.i64.wrap (getV a0 a1).fst)).toNat - (getV a0 a1).snd.fst.toNat) (List.drop (getV a0 a1).snd.fst.toNat a0)), AV.int IntKind.i64 (IntKind.i64.wrap ((getV a0 a1).snd.fst + IntKind.i64.wrap (getV a0 a1).fst)), AV.int IntKind.i64 0]) []
          else
            .stuck := by kernel_rfl


def tt36 : Tab := [(3, ty3), (4, ty4), (5, ty5), (9, ty9), (22, ty22), (29, ty29), (46, ty46)]
theorem tt36_ok : TabOk Try.prog tt36 := tabOk_of_all ⟨ty3_ok, ty4_ok, ty5_ok, ty9_ok, ty22_ok, ty29_ok, ty46_ok, trivial⟩
def c36 (F : Nat) : Cfg := ⟨tt36, [(29, .pure go28)], F, [], [], 0⟩
theorem f36_eq (F : Nat) (a0 : List UInt8) (a1 : Int) (a2 : Int) : afun (c36 F) Try.f36 [AV.ro (Pay.bytes a0), AV.int IntKind.i64 a1, AV.int IntKind.i64 a2] [] =
  bif !eqI (getV a0 a1).snd.snd 0 then
    .ret (AV.tup [AV.str (ByteArray.mk #[]).data.toList, AV.int IntKind.i64 0, AV.int IntKind.i64 (getV a0 a1).snd.snd]) []
  else
    bif ltI a2 0 then
      .ret (AV.tup [AV.str (ByteArray.mk #[]).data.toList, AV.int IntKind.i64 0, AV.int IntKind.i64 5]) []
    else
      bif ltI (IntKind.u64.wrap a2) (getV a0 a1).fst then
        .ret (AV.tup [AV.str (ByteArray.mk #[]).data.toList, AV.int IntKind.i64 0, AV.int IntKind.i64 5]) []
      else
        bif ltI (IntKind.u64.wrap (IntKind.i64.wrap (↑a0.length - (getV a0 a1).snd.fst))) (getV a0 a1).fst then
          .ret (AV.tup [AV.str (ByteArray.mk #[]).data.toList, AV.int IntKind.i64 0, AV.int IntKind.i64 2]) []
        else
          bif leI 0 (getV a0 a1).snd.fst && leI (getV a0 a1).snd.fst (IntKind.i64.wrap ((getV a0 a1).snd.fst + IntKind.i64.wrap (getV a0 a1).fst)) && leI (IntKind.i64.wrap ((getV a0 a1).snd.fst + IntKind.i64.wrap (getV a0 a1).fst)) ↑a0.length then
            .ret (AV.tup [AV.str (List.take ((IntKind.i64.wrap ((getV a0 a1).snd.fst + IntKind.i64.wrap (getV a0 a1).fst)).toNat - (getV a0 a1).snd.fst.toNat) (List.drop (getV a0 a1).snd.fst.toNat a0)), AV.int IntKind.i64 (IntKind.i64.wrap ((getV a0 a1).snd.fst + IntKind.i64.wrap (getV a0 a1).fst)), AV.int IntKind.i64 0]) []
          else
            .stuck := by kernel_rfl


def tt37 : Tab := [(0, ty0), (3, ty3), (5, ty5), (9, ty9), (22, ty22), (29, ty29)]
theorem tt37_ok : TabOk Try.prog tt37 := tabOk_of_all ⟨ty0_ok, ty3_ok, ty5_ok, ty9_ok, ty22_ok, ty29_ok, trivial⟩
def c37 (F : Nat) : Cfg := ⟨tt37, [(19, .pure go19)], F, [], [], 0⟩
theorem f37_eq (F : Nat) (a0 : List UInt8) (a1 : List UInt8) : afun (c37 F) Try.f37 [AV.ro (Pay.bytes a0), AV.str a1] [] =
  bif (a0.length + 9).ble 140737488355328 then
    bif appFits ty5 (Pay.bytes (a0 ++ enc (IntKind.u64.wrap ↑a1.length) ++ a1)) then
      .ret (AV.own 0) [AObj.arr 5 (Pay.bytes (a0 ++ enc (IntKind.u64.wrap ↑a1.length) ++ a1))]
    else
      .stuck
  else
    .stuck := by kernel_rfl


def tt38 : Tab := [(0, ty0), (3, ty3), (5, ty5), (9, ty9), (22, ty22), (29, ty29)]
theorem tt38_ok : TabOk Try.prog tt38 := tabOk_of_all ⟨ty0_ok, ty3_ok, ty5_ok, ty9_ok, ty22_ok, ty29_ok, trivial⟩
def c38 (F : Nat) : Cfg := ⟨tt38, [(20, .pure go20)], F, [], [], 0⟩
theorem f38_eq (F : Nat) (a0 : List UInt8) : afun (c38 F) Try.f38 [AV.str a0] [] =
  bif appFits ty5 (Pay.bytes (enc (IntKind.u64.wrap ↑a0.length) ++ a0)) then
    .ret (AV.own 0) [AObj.arr 5 (Pay.bytes (enc (IntKind.u64.wrap ↑a0.length) ++ a0))]
  else
    .stuck := by kernel_rfl



def go31 (R : Type) (stk : R) (args : List AV) (k : AV → List AObj → R) : R :=
  match args with
  | [.ro (.bytes l), .int .i64 n] => k (.tup [.int .i64 (getI l n).1, .int .i64 (getI l n).2.1, .int .i64 (getI l n).2.2]) []
  | _ => stk
def go33 (R : Type) (stk : R) (args : List AV) (k : AV → List AObj → R) : R :=
  match args with
  | [.ro (.bytes l), .int .i64 n] => bif Nat.ble (l.length + 9) 140737488355328 then k (.own 0) [.arr 5 (.bytes (l ++ enc (zig n)))] else stk
  | [.nil, .int .i64 n] => k (.own 0) [.arr 5 (.bytes (enc (zig n)))]
  | _ => stk
def go34 (R : Type) (stk : R) (args : List AV) (k : AV → List AObj → R) : R :=
  match args with
  | [.int .i64 n] => k (.int .u64 (zig n)) []
  | _ => stk
def go35 (R : Type) (stk : R) (args : List AV) (k : AV → List AObj → R) : R :=
  match args with
  | [.ro (.bytes l), .int .i64 n, .int .i64 m] => k (.tup [.str (getT l n m).1, .int .i64 (getT l n m).2.1, .int .i64 (getT l n m).2.2]) []
  | _ => stk
def go37 (R : Type) (stk : R) (args : List AV) (k : AV → List AObj → R) : R :=
  match args with
  | [.ro (.bytes l), .str s] => bif Nat.ble (l.length + s.length + 9) 140737488355328 then k (.own 0) [.arr 5 (.bytes (l ++ encT s))] else stk
  | [.nil, .str s] => bif Nat.ble (s.length + 9) 140737488355328 then k (.own 0) [.arr 5 (.bytes (encT s))] else stk
  | _ => stk
def go38 (R : Type) (stk : R) (args : List AV) (k : AV → List AObj → R) : R :=
  match args with
  | [.str s] => bif Nat.ble (s.length + 9) 140737488355328 then k (.own 0) [.arr 5 (.bytes (encT s))] else stk
  | _ => stk

theorem zag_run (u : Int) (h0 : 0 ≤ u) (h1 : u < 18446744073709551616) : ixor .i64 (IntKind.i64.wrap (ishr .u64 u 1)) (IntKind.i64.wrap (0 - IntKind.i64.wrap (iand .u64 u 1))) = zag u := by
  rw [ishr_eq (by decide), iand_one64 h0 h1, show (2 : Int) ^ (1 : Int).toNat = 2 from rfl, wrap64 (n := u / 2) (by omega) (by omega), wrap64 (n := u % 2) (by omega) (by omega), wrap64 (n := 0 - u % 2) (by omega) (by omega)]
  unfold zag
  split
  · rename_i h; rw [h, show (0 : Int) - 1 = -1 from rfl, ixor_ones_i64 (by omega) (by omega)]; omega
  · rename_i h; rw [show u % 2 = 0 by omega, show (0 : Int) - 0 = 0 from rfl, ixor_zero_i64 (by omega) (by omega)]
theorem zig_run (n : Int) (h0 : -9223372036854775808 ≤ n) (h1 : n ≤ 9223372036854775807) : ixor .u64 (ishl .u64 (IntKind.u64.wrap n) 1) (IntKind.u64.wrap (ishr .i64 n 63)) = zig n := by
  have e1 : ishl .u64 (IntKind.u64.wrap n) 1 = if n < 0 then 2 * n + 18446744073709551616 else 2 * n := by
    unfold ishl
    rw [show (2 : Int) ^ min (1 : Int).toNat IntKind.u64.bits = 2 from rfl]
    simp only [IntKind.wrap, IntKind.signed, IntKind.bits]
    simp
    split <;> omega
  have e2 : ishr .i64 n 63 = if n < 0 then -1 else 0 := by
    unfold ishr
    rw [show (2 : Int) ^ min (63 : Int).toNat IntKind.i64.bits = 9223372036854775808 from rfl, Int.fdiv_eq_ediv_of_nonneg _ (by decide)]
    split <;> omega
  rw [e1, e2]
  unfold zig
  split
  · rw [show IntKind.u64.wrap (-1) = 18446744073709551615 by decide, ixor_ones64 (by omega) (by omega)]; omega
  · rw [show IntKind.u64.wrap 0 = 0 by decide, ixor_zero64 (by omega) (by omega)]
theorem f34_run (F : Nat) (n : Int) (h0 : -9223372036854775808 ≤ n) (h1 : n ≤ 9223372036854775807) : afun (c34 F) Try.f34 [.int .i64 n] [] = .ret (.int .u64 (zig n)) [] := by
  rw [f34_eq, bif_ltI]
  unfold zig
  split
  · rw [wrap64 (n := n + 1) (by omega) (by omega), wrap64 (by omega) (by omega), wrapu64 (n := 0 - (n + 1)) (by omega) (by omega), wrapu64 (n := 2 * (0 - (n + 1))) (by omega) (by omega), wrapu64 (by omega) (by omega)]
    congr 2; omega
  · rw [wrapu64 (n := n) (by omega) (by omega), wrapu64 (by omega) (by omega)]
theorem f32_run (F : Nat) (l : List UInt8) (i : Int) : afun (c32 F) Try.f32 [.ro (.bytes l), .int .i64 i] [] = .ret (.tup [.int .i64 (getI l i).1, .int .i64 (getI l i).2.1, .int .i64 (getI l i).2.2]) [] := by
  have hf := getV_fits l i
  rw [f32_eq, bif_neI, bif_eqI]
  unfold getI
  dsimp only
  by_cases h : (getV l i).2.2 = 0
  · have hu : zag (getV l i).1 = if (getV l i).1 % 2 = 1 then -((getV l i).1 / 2) - 1 else (getV l i).1 / 2 := rfl
    rw [if_pos h, irem_eq hf.1, iquo_u64 hf.1 hf.2.1 (by decide), wrap64 (n := (getV l i).fst / 2) (by omega) (by omega), wrap64 (n := 0 - (getV l i).fst / 2) (by omega) (by omega), wrap64 (n := 0 - (getV l i).fst / 2 - 1) (by omega) (by omega), h, hu]
    split
    · rw [show 0 - (getV l i).fst / 2 - 1 = -((getV l i).fst / 2) - 1 by omega]
    · rfl
  · have := getV_bad l i h
    rw [if_neg h, this.1, this.2]
    rfl
theorem getT_run {F : Nat} (l : List UInt8) (i m : Int) (hm : -9223372036854775808 ≤ m ∧ m ≤ 9223372036854775807) (hl : l.length ≤ 9223372036854775807) : afun (c35 F) Try.f35 [.ro (.bytes l), .int .i64 i, .int .i64 m] [] = .ret (.tup [.str (getT l i m).1, .int .i64 (getT l i m).2.1, .int .i64 (getT l i m).2.2]) [] := by
  have hf := getV_fits l i
  rw [f35_eq, bif_neI]
  by_cases h : (getV l i).2.2 = 0
  · rw [if_pos h, bif_ltI]
    by_cases h1 : m < 0
    · have e : getT l i m = ([], 0, 5) := by unfold getT; rw [if_neg (fun x => x h), if_pos (.inl h1)]
      rw [if_pos h1, e]
    · rw [if_neg h1, wrapu64 (n := m) (by omega) (by omega), bif_ltI]
      by_cases h2 : m < (getV l i).1
      · have e : getT l i m = ([], 0, 5) := by unfold getT; rw [if_neg (fun x => x h), if_pos (.inr h2)]
        rw [if_pos h2, e]
      · rw [if_neg h2, wrap64 (n := _ - _) (by omega) (by omega), wrapu64 (by omega) (by omega), bif_ltI]
        by_cases h3 : (l.length : Int) - (getV l i).2.1 < (getV l i).1
        · have e : getT l i m = ([], 0, 2) := by unfold getT; rw [if_neg (fun x => x h), if_neg (by omega), if_pos h3]
          rw [if_pos h3, e]
        · have e : getT l i m = ((l.drop (getV l i).2.1.toNat).take (getV l i).1.toNat, (getV l i).2.1 + (getV l i).1, 0) := by unfold getT; rw [if_neg (fun x => x h), if_neg (by omega), if_neg h3]
          rw [if_neg h3, wrap64 (n := (getV l i).1) (by omega) (by omega), wrap64 (by omega) (by omega), bif_pos (by simp [leI]; omega), e, show ((getV l i).2.1 + (getV l i).1).toNat - (getV l i).2.1.toNat = (getV l i).1.toNat by omega]
  · have e : getT l i m = ([], 0, (getV l i).2.2) := by unfold getT; rw [if_pos h]
    rw [if_neg h, e]
theorem getT_run' {F : Nat} (l : List UInt8) (i m : Int) (hm : -9223372036854775808 ≤ m ∧ m ≤ 9223372036854775807) (hl : l.length ≤ 9223372036854775807) : afun (c36 F) Try.f36 [.ro (.bytes l), .int .i64 i, .int .i64 m] [] = .ret (.tup [.str (getT l i m).1, .int .i64 (getT l i m).2.1, .int .i64 (getT l i m).2.2]) [] := by
  rw [f36_eq, ← f35_eq F]
  exact getT_run l i m hm hl

theorem ok31 : PureOk Try.prog 31 go31 := by
  refine pureOk_of (c31 rounds) tt31_ok (.cons ok28 .nil) follows rfl Try.func31 (by kernel_rfl) (by kernel_rfl) ?_ ?_
  · intro R stk args k; unfold go31; split <;> rfl
  · intro args r objs h hr
    unfold go31 at h
    split at h
    · rename_i l n
      cases h
      have hf := getV_fits l n
      refine ⟨_, ?_, .same⟩
      unfold apure
      rw [f31_eq, zag_run _ hf.1 hf.2.1]
      rfl
    · cases h

theorem ok32 : PureOk Try.prog 32 go31 := by
  refine pureOk_of (c32 rounds) tt32_ok (.cons ok29 .nil) follows rfl Try.func32 (by kernel_rfl) (by kernel_rfl) ?_ ?_
  · intro R stk args k; unfold go31; split <;> rfl
  · intro args r objs h hr
    unfold go31 at h
    split at h
    · rename_i l n
      cases h
      refine ⟨_, ?_, .same⟩
      unfold apure
      rw [f32_run]
      rfl
    · cases h

theorem ok34 : PureOk Try.prog 34 go34 := by
  refine pureOk_of (c34 rounds) tt34_ok .nil follows rfl Try.func34 (by kernel_rfl) (by kernel_rfl) ?_ ?_
  · intro R stk args k; unfold go34; split <;> rfl
  · intro args r objs h hr
    unfold go34 at h
    split at h
    · rename_i n
      cases h
      have hn := has64 hr.int
      refine ⟨_, ?_, .same⟩
      unfold apure
      rw [f34_run _ _ hn.1 hn.2]
      rfl
    · cases h

theorem ok35 : PureOk Try.prog 35 go35 := by
  refine pureOk_of (c35 rounds) tt35_ok (.cons ok28 .nil) follows rfl Try.func35 (by kernel_rfl) (by kernel_rfl) ?_ ?_
  · intro R stk args k; unfold go35; split <;> rfl
  · intro args r objs h hr
    unfold go35 at h
    split at h
    · rename_i l n m
      cases h
      have hm := has64 hr.tail.tail.int
      have hl := hr.bytes
      refine ⟨_, ?_, .same⟩
      unfold apure
      rw [getT_run _ _ _ hm (by unfold maxLen at hl; omega)]
      rfl
    · cases h

theorem ok36 : PureOk Try.prog 36 go35 := by
  refine pureOk_of (c36 rounds) tt36_ok (.cons ok29 .nil) follows rfl Try.func36 (by kernel_rfl) (by kernel_rfl) ?_ ?_
  · intro R stk args k; unfold go35; split <;> rfl
  · intro args r objs h hr
    unfold go35 at h
    split at h
    · rename_i l n m
      cases h
      have hm := has64 hr.tail.tail.int
      have hl := hr.bytes
      refine ⟨_, ?_, .same⟩
      unfold apure
      rw [getT_run' _ _ _ hm (by unfold maxLen at hl; omega)]
      rfl
    · cases h

theorem f33_nil (F : Nat) (n : Int) : afun (c33 F) Try.f33 [.nil, .int .i64 n] [] = .ret (.own 0) [.arr 5 (.bytes (enc (ixor .u64 (ishl .u64 (IntKind.u64.wrap n) 1) (IntKind.u64.wrap (ishr .i64 n 63)))))] := by kernel_rfl
theorem ok33 : PureOk Try.prog 33 go33 := by
  refine pureOk_of (c33 rounds) tt33_ok (.cons ok19 .nil) follows rfl Try.func33 (by kernel_rfl) (by kernel_rfl) ?_ ?_
  · intro R stk args k
    unfold go33
    split
    · cases Nat.ble _ 140737488355328 <;> rfl
    · rfl
    · rfl
  · intro args r objs h hr
    unfold go33 at h
    split at h
    · rename_i l n
      have hn := has64 hr.tail.int
      cases hf : Nat.ble (l.length + 9) 140737488355328 with
      | false => rw [hf] at h; cases h
      | true =>
        rw [hf] at h
        cases h
        refine ⟨_, ?_, .same⟩
        unfold apure
        rw [f33_eq, hf, zig_run n hn.1 hn.2]
        rfl
    · rename_i n
      have hn := has64 hr.tail.int
      cases h
      refine ⟨_, ?_, .same⟩
      unfold apure
      rw [f33_nil, zig_run n hn.1 hn.2]
      rfl
    · cases h

theorem f37_nil (F : Nat) (s : List UInt8) : afun (c37 F) Try.f37 [.nil, .str s] [] =
  bif appFits ty5 (Pay.bytes (enc (IntKind.u64.wrap ↑s.length) ++ s)) then .ret (AV.own 0) [AObj.arr 5 (Pay.bytes (enc (IntKind.u64.wrap ↑s.length) ++ s))] else .stuck := by kernel_rfl
theorem ok37 : PureOk Try.prog 37 go37 := by
  refine pureOk_of (c37 rounds) tt37_ok (.cons ok19 .nil) follows rfl Try.func37 (by kernel_rfl) (by kernel_rfl) ?_ ?_
  · intro R stk args k
    unfold go37
    split
    · cases Nat.ble _ 140737488355328 <;> rfl
    · cases Nat.ble _ 140737488355328 <;> rfl
    · rfl
  · intro args r objs h hr
    unfold go37 at h
    split at h
    · rename_i l s
      have hs := hr.tail.str
      have he := be_len (s.length : Int)
      cases hf : Nat.ble (l.length + s.length + 9) 140737488355328 with
      | false => rw [hf] at h; cases h
      | true =>
        rw [hf] at h
        cases h
        rw [ble_iff] at hf
        refine ⟨_, ?_, .same⟩
        unfold apure
        unfold maxLen at hs
        rw [f37_eq, wrapu64 (by omega) (by omega), bif_pos (by rw [ble_iff]; omega), bif_pos (by rw [fits5]; simp; omega), List.append_assoc]
        rfl
    · rename_i s
      have hs := hr.tail.str
      have he := be_len (s.length : Int)
      cases hf : Nat.ble (s.length + 9) 140737488355328 with
      | false => rw [hf] at h; cases h
      | true =>
        rw [hf] at h
        cases h
        rw [ble_iff] at hf
        refine ⟨_, ?_, .same⟩
        unfold apure
        unfold maxLen at hs
        rw [f37_nil, wrapu64 (by omega) (by omega), bif_pos (by rw [fits5]; simp; omega)]
        rfl
    · cases h
theorem ok38 : PureOk Try.prog 38 go38 := by
  refine pureOk_of (c38 rounds) tt38_ok (.cons ok20 .nil) follows rfl Try.func38 (by kernel_rfl) (by kernel_rfl) ?_ ?_
  · intro R stk args k
    unfold go38
    split
    · cases Nat.ble _ 140737488355328 <;> rfl
    · rfl
  · intro args r objs h hr
    unfold go38 at h
    split at h
    · rename_i s
      have hs := hr.str
      have he := be_len (s.length : Int)
      cases hf : Nat.ble (s.length + 9) 140737488355328 with
      | false => rw [hf] at h; cases h
      | true =>
        rw [hf] at h
        cases h
        rw [ble_iff] at hf
        refine ⟨_, ?_, .same⟩
        unfold apure
        unfold maxLen at hs
        rw [f38_eq, wrapu64 (by omega) (by omega), bif_pos (by rw [fits5]; simp; omega)]
        rfl
    · cases h

end Go.Proofs.YtcmhpngmjjcloaaG
