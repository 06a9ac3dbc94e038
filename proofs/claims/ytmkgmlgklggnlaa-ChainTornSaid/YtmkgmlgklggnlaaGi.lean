/- A part of the proof: plain laws, and what functions of the given program come to; no condition. -/
import Derived.Test.YtmkgmlgklggnlaaGh
namespace Go.Proofs.YtmkgmlgklggnlaaG
open Go Go.Proofs.YtmkgmlgklggnlaaGm
set_option maxRecDepth 100000
def tt88 : Tab := [(3, ty3), (5, ty5)]
theorem tt88_ok : TabOk Try.prog tt88 := tabOk_of_all ⟨ty3_ok, ty5_ok, trivial⟩
def c88 (F : Nat) : Cfg := ⟨tt88, [(99, .pure go99)], F, [], [], 0⟩
theorem f88_eq (F : Nat) (a0 : Int) : afun (c88 F) Try.f88 [AV.int .u8 a0] [] =
 .ret (AV.int .i64 (IntKind.i64.wrap (8 - bits8 a0))) [] := by kernel_rfl

def tt59 : Tab := [(0, ty0), (3, ty3), (4, ty4), (5, ty5), (22, ty22), (99, ty99), (27, ty27), (117, ty117)]
theorem tt59_ok : TabOk Try.prog tt59 := tabOk_of_all ⟨ty0_ok, ty3_ok, ty4_ok, ty5_ok, ty22_ok, ty99_ok, ty27_ok, ty117_ok, trivial⟩
def c59 (F : Nat) : Cfg := ⟨tt59, [(88, .pure go88), (83, .pure go83)], F, [(0, ⟨[1, 4, 7, 51, 52, 53], []⟩)], [], 0⟩
noncomputable def f59_0 (F k : Nat) (x1 : Int) (x4 : Int) (x7 : Int) (x51 : List UInt8) (x52 : Int) (x53 : Int) : Res := aloop (c59 F) Try.f59 0 [] k (St.mk [.top, AV.int .i64 x1, .top, .top, AV.int .u64 x4, .top, .top, AV.int .i64 x7, .top, .top, .top, .top, .top, .top, .top, .top, .top, .top, .top, .top, .top, .top, .top, .top, .top, .top, .top, .top, .top, .top, .top, .top, .top, .top, .top, .top, .top, .top, .top, .top, .top, .top, .top, .top, .top, .top, .top, .top, .top, .top, .top, AV.ro (Pay.bytes x51), AV.int .i64 x52, AV.int .i64 x53, .top, .top, .top, .top, .top, .top, .top, .top, .top, .top, .top, .top, .top, .top, .top, .top, .top] [])
theorem f59_eq (F : Nat) (a0 : List UInt8) (a1 : Int) : afun (c59 F) Try.f59 [AV.ro (Pay.bytes a0), AV.int .i64 a1] [] =
 bif ltI a1 0 then
 .ret (AV.tup [AV.int .u64 0, AV.int .i64 0, AV.int .i64 8]) []
 else
 bif ltI (↑(Pay.bytes a0).len) a1 then
 .ret (AV.tup [AV.int .u64 0, AV.int .i64 0, AV.int .i64 8]) []
 else
 bif eqI a1 ↑(Pay.bytes a0).len then
 .ret (AV.tup [AV.int .u64 0, AV.int .i64 0, AV.int .i64 2]) []
 else
 bif inB a1 (Pay.bytes a0).len then
 bif ltI (IntKind.i64.wrap (↑(Pay.bytes a0).len - a1)) (IntKind.i64.wrap (1 + (8 - bits8 (ixor IntKind.u8 (Int.ofNat (2 ^ IntKind.u8.bits - Nat.succ 0)) ↑(a0.getD a1.toNat 0).toNat)))) then
 .ret (AV.tup [AV.int .u64 0, AV.int .i64 0, AV.int .i64 2]) []
 else
 bif ltI (IntKind.i64.wrap (1 + (8 - bits8 (ixor IntKind.u8 (Int.ofNat (2 ^ IntKind.u8.bits - Nat.succ 0)) ↑(a0.getD a1.toNat 0).toNat)))) 9 then
 bif inB a1 (Pay.bytes a0).len then
 bif ltI (IntKind.i64.wrap (1 + (8 - bits8 (ixor IntKind.u8 (Int.ofNat (2 ^ IntKind.u8.bits - Nat.succ 0)) ↑(a0.getD a1.toNat 0).toNat)))) 0 then
 .stuck
 else
 bif leI 0 (IntKind.i64.wrap (a1 + 1)) && leI (IntKind.i64.wrap (a1 + 1)) (IntKind.i64.wrap (a1 + IntKind.i64.wrap (1 + (8 - bits8 (ixor IntKind.u8 (Int.ofNat (2 ^ IntKind.u8.bits - Nat.succ 0)) ↑(a0.getD a1.toNat 0).toNat))))) && leI (IntKind.i64.wrap (a1 + IntKind.i64.wrap (1 + (8 - bits8 (ixor IntKind.u8 (Int.ofNat (2 ^ IntKind.u8.bits - Nat.succ 0)) ↑(a0.getD a1.toNat 0).toNat))))) ↑(Pay.bytes a0).len then
 f59_0 F F a1 (iand IntKind.u64 (IntKind.u64.wrap ↑(a0.getD a1.toNat 0).toNat) (ishr IntKind.u64 255 (IntKind.i64.wrap (1 + (8 - bits8 (ixor IntKind.u8 (Int.ofNat (2 ^ IntKind.u8.bits - Nat.succ 0)) ↑(a0.getD a1.toNat 0).toNat)))))) (IntKind.i64.wrap (1 + (8 - bits8 (ixor IntKind.u8 (Int.ofNat (2 ^ IntKind.u8.bits - Nat.succ 0)) ↑(a0.getD a1.toNat 0).toNat)))) (List.take ((IntKind.i64.wrap (a1 + IntKind.i64.wrap (1 + (8 - bits8 (ixor IntKind.u8 (Int.ofNat (2 ^ IntKind.u8.bits - Nat.succ 0)) ↑(a0.getD a1.toNat 0).toNat))))).toNat - (IntKind.i64.wrap (a1 + 1)).toNat) (List.drop (IntKind.i64.wrap (a1 + 1)).toNat a0)) (↑(bif true then Pay.bytes (List.take ((IntKind.i64.wrap (a1 + IntKind.i64.wrap (1 + (8 - bits8 (ixor IntKind.u8 (Int.ofNat (2 ^ IntKind.u8.bits - Nat.succ 0)) ↑(a0.getD a1.toNat 0).toNat))))).toNat - (IntKind.i64.wrap (a1 + 1)).toNat) (List.drop (IntKind.i64.wrap (a1 + 1)).toNat a0)) else Pay.bytes (List.drop (IntKind.i64.wrap (a1 + 1)).toNat a0)).len) 0
 else
 .stuck
 else
 .stuck
 else
 bif leI 0 (IntKind.i64.wrap (a1 + 1)) && leI (IntKind.i64.wrap (a1 + 1)) (IntKind.i64.wrap (a1 + IntKind.i64.wrap (1 + (8 - bits8 (ixor IntKind.u8 (Int.ofNat (2 ^ IntKind.u8.bits - Nat.succ 0)) ↑(a0.getD a1.toNat 0).toNat))))) && leI (IntKind.i64.wrap (a1 + IntKind.i64.wrap (1 + (8 - bits8 (ixor IntKind.u8 (Int.ofNat (2 ^ IntKind.u8.bits - Nat.succ 0)) ↑(a0.getD a1.toNat 0).toNat))))) ↑(Pay.bytes a0).len then
 f59_0 F F a1 0 (IntKind.i64.wrap (1 + (8 - bits8 (ixor IntKind.u8 (Int.ofNat (2 ^ IntKind.u8.bits - Nat.succ 0)) ↑(a0.getD a1.toNat 0).toNat)))) (List.take ((IntKind.i64.wrap (a1 + IntKind.i64.wrap (1 + (8 - bits8 (ixor IntKind.u8 (Int.ofNat (2 ^ IntKind.u8.bits - Nat.succ 0)) ↑(a0.getD a1.toNat 0).toNat))))).toNat - (IntKind.i64.wrap (a1 + 1)).toNat) (List.drop (IntKind.i64.wrap (a1 + 1)).toNat a0)) (↑(bif true then Pay.bytes (List.take ((IntKind.i64.wrap (a1 + IntKind.i64.wrap (1 + (8 - bits8 (ixor IntKind.u8 (Int.ofNat (2 ^ IntKind.u8.bits - Nat.succ 0)) ↑(a0.getD a1.toNat 0).toNat))))).toNat - (IntKind.i64.wrap (a1 + 1)).toNat) (List.drop (IntKind.i64.wrap (a1 + 1)).toNat a0)) else Pay.bytes (List.drop (IntKind.i64.wrap (a1 + 1)).toNat a0)).len) 0
 else
 .stuck
 else
 .stuck := by kernel_rfl
theorem f59_0_eq (F k : Nat) (x1 : Int) (x4 : Int) (x7 : Int) (x51 : List UInt8) (x52 : Int) (x53 : Int) : f59_0 F (k + 1) x1 x4 x7 x51 x52 x53 =
 bif ltI x53 x52 then
 bif inB x53 (Pay.bytes x51).len then
 f59_0 F k x1 (ior IntKind.u64 (ishl IntKind.u64 x4 8) (IntKind.u64.wrap ↑(x51.getD x53.toNat 0).toNat)) x7 x51 x52 (IntKind.i64.wrap (x53 + 1))
 else
 .stuck
 else
 bif !eqI (len9 x4) x7 then
 .ret (AV.tup [AV.int .u64 0, AV.int .i64 0, AV.int .i64 3]) []
 else
 .ret (AV.tup [AV.int .u64 x4, AV.int .i64 (IntKind.i64.wrap (x1 + x7)), AV.int .i64 0]) [] := by kernel_rfl


theorem ok88 : PureOk Try.prog 88 go88 := by
  refine pureOk_of (c88 rounds) tt88_ok (.cons ok99 .nil) follows rfl Try.func88 (by kernel_rfl) (by kernel_rfl) ?_ ?_
  · intro R stk args k; unfold go88; split <;> rfl
  · intro args r objs h hr
    unfold go88 at h
    split at h
    · rename_i n
      cases h
      have hb := bits8_le n
      refine ⟨_, ?_, .same⟩
      unfold apure
      rw [f88_eq, wrap64 (by omega) (by omega)]
      rfl
    · cases h

def go59 (R : Type) (stk : R) (args : List AV) (k : AV → List AObj → R) : R :=
  match args with
  | [.ro (.bytes l), .int .i64 n] => k (.tup [.int .u64 (getV l n).1, .int .i64 (getV l n).2.1, .int .i64 (getV l n).2.2]) []
  | _ => stk

end Go.Proofs.YtmkgmlgklggnlaaG
