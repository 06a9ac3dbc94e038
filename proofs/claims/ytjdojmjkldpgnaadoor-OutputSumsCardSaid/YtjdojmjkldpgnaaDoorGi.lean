/- A part of the proof: plain laws, and what functions of the given program come to; no condition. -/
import Derived.Test.YtjdojmjkldpgnaaDoorGh
namespace Go.Proofs.YtjdojmjkldpgnaaDoorG
open Go Go.Proofs.YtjdojmjkldpgnaaDoorGm
set_option maxRecDepth 100000
def tt122 : Tab := [(3, ty3), (5, ty5)]
theorem tt122_ok : TabOk Tryd.prog tt122 := tabOk_of_all ⟨ty3_ok, ty5_ok, trivial⟩
def c122 (F : Nat) : Cfg := ⟨tt122, [(151, .pure go151)], F, [], [], 0⟩
theorem f122_eq (F : Nat) (a0 : Int) : afun (c122 F) Tryd.f122 [AV.int IntKind.u8 a0] [] =
  .ret (AV.int IntKind.i64 (IntKind.i64.wrap (8 - bits8 a0))) [] := by kernel_rfl

def tt83 : Tab := [(0, ty0), (3, ty3), (4, ty4), (5, ty5), (33, ty33), (73, ty73), (42, ty42), (180, ty180)]
theorem tt83_ok : TabOk Tryd.prog tt83 := tabOk_of_all ⟨ty0_ok, ty3_ok, ty4_ok, ty5_ok, ty33_ok, ty73_ok, ty42_ok, ty180_ok, trivial⟩
def c83 (F : Nat) : Cfg := ⟨tt83, [(122, .pure go122), (101, .pure go101)], F, [(0, ⟨[1, 4, 7, 51, 52, 53], []⟩)], [], 0⟩
noncomputable def f83_0 (F k : Nat) (x1 : Int) (x4 : Int) (x7 : Int) (x51 : List UInt8) (x52 : Int) (x53 : Int) : Res := aloop (c83 F) Tryd.f83 0 [] k (St.mk [AV.top, AV.int IntKind.i64 x1, AV.top, AV.top, AV.int IntKind.u64 x4, AV.top, AV.top, AV.int IntKind.i64 x7, AV.top, AV.top, AV.top, AV.top, AV.top, AV.top, AV.top, AV.top, AV.top, AV.top, AV.top, AV.top, AV.top, AV.top, AV.top, AV.top, AV.top, AV.top, AV.top, AV.top, AV.top, AV.top, AV.top, AV.top, AV.top, AV.top, AV.top, AV.top, AV.top, AV.top, AV.top, AV.top, AV.top, AV.top, AV.top, AV.top, AV.top, AV.top, AV.top, AV.top, AV.top, AV.top, AV.top, AV.ro (Pay.bytes x51), AV.int IntKind.i64 x52, AV.int IntKind.i64 x53, AV.top, AV.top, AV.top, AV.top, AV.top, AV.top, AV.top, AV.top, AV.top, AV.top, AV.top, AV.top, AV.top, AV.top, AV.top, AV.top, AV.top] [])
theorem f83_eq (F : Nat) (a0 : List UInt8) (a1 : Int) : afun (c83 F) Tryd.f83 [AV.ro (Pay.bytes a0), AV.int IntKind.i64 a1] [] =
  bif ltI a1 0 then
    .ret (AV.tup [AV.int IntKind.u64 0, AV.int IntKind.i64 0, AV.int IntKind.i64 8]) []
  else
    bif ltI (↑(Pay.bytes a0).len) a1 then
      .ret (AV.tup [AV.int IntKind.u64 0, AV.int IntKind.i64 0, AV.int IntKind.i64 8]) []
    else
      bif eqI a1 ↑(Pay.bytes a0).len then
        .ret (AV.tup [AV.int IntKind.u64 0, AV.int IntKind.i64 0, AV.int IntKind.i64 2]) []
      else
        bif inB a1 (Pay.bytes a0).len then
          bif ltI (IntKind.i64.wrap (↑(Pay.bytes a0).len - a1)) (IntKind.i64.wrap (1 + (8 - bits8 (ixor IntKind.u8 (Int.ofNat (2 ^ IntKind.u8.bits - Nat.succ 0)) ↑(a0.getD a1.toNat 0).toNat)))) then
            .ret (AV.tup [AV.int IntKind.u64 0, AV.int IntKind.i64 0, AV.int IntKind.i64 2]) []
          else
            bif ltI (IntKind.i64.wrap (1 + (8 - bits8 (ixor IntKind.u8 (Int.ofNat (2 ^ IntKind.u8.bits - Nat.succ 0)) ↑(a0.getD a1.toNat 0).toNat)))) 9 then
              bif inB a1 (Pay.bytes a0).len then
                bif ltI (IntKind.i64.wrap (1 + (8 - bits8 (ixor IntKind.u8 (Int.ofNat (2 ^ IntKind.u8.bits - Nat.succ 0)) ↑(a0.getD a1.toNat 0).toNat)))) 0 then
                  .stuck
                else
                  bif leI 0 (IntKind.i64.wrap (a1 + 1)) && leI (IntKind.i64.wrap (a1 + 1)) (IntKind.i64.wrap (a1 + IntKind.i64.wrap (1 + (8 - bits8 (ixor IntKind.u8 (Int.ofNat (2 ^ IntKind.u8.bits - Nat.succ 0)) ↑(a0.getD a1.toNat 0).toNat))))) && leI (IntKind.i64.wrap (a1 + IntKind.i64.wrap (1 + (8 - bits8 (ixor IntKind.u8 (Int.ofNat (2 ^ IntKind.u8.bits - Nat.succ 0)) ↑(a0.getD a1.toNat 0).toNat))))) ↑(Pay.bytes a0).len then
                    f83_0 F F a1 (iand IntKind.u64 (IntKind.u64.wrap ↑(a0.getD a1.toNat 0).toNat) (ishr IntKind.u64 255 (IntKind.i64.wrap (1 + (8 - bits8 (ixor IntKind.u8 (Int.ofNat (2 ^ IntKind.u8.bits - Nat.succ 0)) ↑(a0.getD a1.toNat 0).toNat)))))) (IntKind.i64.wrap (1 + (8 - bits8 (ixor IntKind.u8 (Int.ofNat (2 ^ IntKind.u8.bits - Nat.succ 0)) ↑(a0.getD a1.toNat 0).toNat)))) (List.take ((IntKind.i64.wrap (a1 + IntKind.i64.wrap (1 + (8 - bits8 (ixor IntKind.u8 (Int.ofNat (2 ^ IntKind.u8.bits - Nat.succ 0)) ↑(a0.getD a1.toNat 0).toNat))))).toNat - (IntKind.i64.wrap (a1 + 1)).toNat) (List.drop (IntKind.i64.wrap (a1 + 1)).toNat a0)) (↑(bif true then Pay.bytes (List.take ((IntKind.i64.wrap (a1 + IntKind.i64.wrap (1 + (8 - bits8 (ixor IntKind.u8 (Int.ofNat (2 ^ IntKind.u8.bits - Nat.succ 0)) ↑(a0.getD a1.toNat 0).toNat))))).toNat - (IntKind.i64.wrap (a1 + 1)).toNat) (List.drop (IntKind.i64.wrap (a1 + 1)).toNat a0)) else Pay.bytes (List.drop (IntKind.i64.wrap (a1 + 1)).toNat a0)).len) 0
                  else
                    .stuck
              else
                .stuck
            else
              bif leI 0 (IntKind.i64.wrap (a1 + 1)) && leI (IntKind.i64.wrap (a1 + 1)) (IntKind.i64.wrap (a1 + IntKind.i64.wrap (1 + (8 - bits8 (ixor IntKind.u8 (Int.ofNat (2 ^ IntKind.u8.bits - Nat.succ 0)) ↑(a0.getD a1.toNat 0).toNat))))) && leI (IntKind.i64.wrap (a1 + IntKind.i64.wrap (1 + (8 - bits8 (ixor IntKind.u8 (Int.ofNat (2 ^ IntKind.u8.bits - Nat.succ 0)) ↑(a0.getD a1.toNat 0).toNat))))) ↑(Pay.bytes a0).len then
                f83_0 F F a1 0 (IntKind.i64.wrap (1 + (8 - bits8 (ixor IntKind.u8 (Int.ofNat (2 ^ IntKind.u8.bits - Nat.succ 0)) ↑(a0.getD a1.toNat 0).toNat)))) (List.take ((IntKind.i64.wrap (a1 + IntKind.i64.wrap (1 + (8 - bits8 (ixor IntKind.u8 (Int.ofNat (2 ^ IntKind.u8.bits - Nat.succ 0)) ↑(a0.getD a1.toNat 0).toNat))))).toNat - (IntKind.i64.wrap (a1 + 1)).toNat) (List.drop (IntKind.i64.wrap (a1 + 1)).toNat a0)) (↑(bif true then Pay.bytes (List.take ((IntKind.i64.wrap (a1 + IntKind.i64.wrap (1 + (8 - bits8 (ixor IntKind.u8 (Int.ofNat (2 ^ IntKind.u8.bits - Nat.succ 0)) ↑(a0.getD a1.toNat 0).toNat))))).toNat - (IntKind.i64.wrap (a1 + 1)).toNat) (List.drop (IntKind.i64.wrap (a1 + 1)).toNat a0)) else Pay.bytes (List.drop (IntKind.i64.wrap (a1 + 1)).toNat a0)).len) 0
              else
                .stuck
        else
          .stuck := by kernel_rfl
theorem f83_0_eq (F k : Nat) (x1 : Int) (x4 : Int) (x7 : Int) (x51 : List UInt8) (x52 : Int) (x53 : Int) : f83_0 F (k + 1) x1 x4 x7 x51 x52 x53 =
  bif ltI x53 x52 then
    bif inB x53 (Pay.bytes x51).len then
      f83_0 F k x1 (ior IntKind.u64 (ishl IntKind.u64 x4 8) (IntKind.u64.wrap ↑(x51.getD x53.toNat 0).toNat)) x7 x51 x52 (IntKind.i64.wrap (x53 + 1))
    else
      .stuck
  else
    bif !eqI (len9 x4) x7 then
      .ret (AV.tup [AV.int IntKind.u64 0, AV.int IntKind.i64 0, AV.int IntKind.i64 3]) []
    else
      .ret (AV.tup [AV.int IntKind.u64 x4, AV.int IntKind.i64 (IntKind.i64.wrap (x1 + x7)), AV.int IntKind.i64 0]) [] := by kernel_rfl


theorem ok122 : PureOk Tryd.prog 122 go122 := by
  refine pureOk_of (c122 rounds) tt122_ok (.cons ok151 .nil) follows rfl Tryd.func122 (by kernel_rfl) (by kernel_rfl) ?_ ?_
  · intro R stk args k; unfold go122; split <;> rfl
  · intro args r objs h hr
    unfold go122 at h
    split at h
    · rename_i n
      cases h
      have hb := bits8_le n
      refine ⟨_, ?_, .same⟩
      unfold apure
      rw [f122_eq, wrap64 (by omega) (by omega)]
      rfl
    · cases h

def go83 (R : Type) (stk : R) (args : List AV) (k : AV → List AObj → R) : R :=
  match args with
  | [.ro (.bytes l), .int .i64 n] => k (.tup [.int .u64 (getV l n).1, .int .i64 (getV l n).2.1, .int .i64 (getV l n).2.2]) []
  | _ => stk

end Go.Proofs.YtjdojmjkldpgnaaDoorG
