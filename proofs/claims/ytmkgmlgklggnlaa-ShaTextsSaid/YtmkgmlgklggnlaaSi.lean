/- A part of the proof: plain laws, and what functions of the given program come to; no condition. -/
import Derived.Test.YtmkgmlgklggnlaaSh
import Derived.Test.YtmkgmlgklggnlaaGmYshc
namespace Go.Proofs.YtmkgmlgklggnlaaG
open Go Go.Proofs.YtmkgmlgklggnlaaGm
set_option maxRecDepth 100000
set_option maxHeartbeats 0

def go75 (R : Type) (stk : R) (args : List AV) (ret : AV → List AObj → R) : R :=
  match args with
  | [.int .u8 c] => ret (.int .u8 (halfB c)) []
  | _ => stk

def go76 (R : Type) (stk : R) (args : List AV) (ret : AV → List AObj → R) : R :=
  match args with
  | [.int .u8 c] => ret (.int .i64 (digB c)) []
  | _ => stk

def go35 (R : Type) (stk : R) (args : List AV) (ret : AV → List AObj → R) : R :=
  match args with
  | [.str t] => ret (.tup [.arr (intsA .u8 (parseT t).1), .int .i64 (parseT t).2]) []
  | _ => stk

def go36 (R : Type) (stk : R) (args : List AV) (ret : AV → List AObj → R) : R :=
  match args with
  | [.str t] => ret (.tup [.arr (intsA .u8 (parseT t).1), .int .i64 (parseT t).2]) []
  | _ => stk

def go37 (R : Type) (stk : R) (args : List AV) (ret : AV → List AObj → R) : R :=
  match args with
  | [.arr r] => bif Nat.beq r.length 32 && r.all (isInt .u8) then ret (.str (hexT (r.map intOf))) [] else stk
  | _ => stk

def go38 (R : Type) (stk : R) (args : List AV) (ret : AV → List AObj → R) : R :=
  match args with
  | [.arr r] => bif Nat.beq r.length 32 && r.all (isInt .u8) then ret (.str (hexT (r.map intOf))) [] else stk
  | _ => stk

def tt75 : Tab := [(4, ty4), (5, ty5)]
theorem tt75_ok : TabOk Try.prog tt75 := tabOk_of_all ⟨ty4_ok, ty5_ok, trivial⟩
def c75 (F : Nat) : Cfg := ⟨tt75, [], F, [], [], 0⟩
theorem f75_eq (F : Nat) (c : Int) : afun (c75 F) Try.f75 [AV.int IntKind.u8 c] [] =
  bif leI 48 c then
    bif leI c 57 then
      .ret (AV.int IntKind.u8 (IntKind.u8.wrap (c - 48))) []
    else
      bif leI 97 c then
        bif leI c 102 then
          .ret (AV.int IntKind.u8 (IntKind.u8.wrap (IntKind.u8.wrap (c - 97) + 10))) []
        else
          .ret (AV.int IntKind.u8 16) []
      else
        .ret (AV.int IntKind.u8 16) []
  else
    bif leI 97 c then
      bif leI c 102 then
        .ret (AV.int IntKind.u8 (IntKind.u8.wrap (IntKind.u8.wrap (c - 97) + 10))) []
      else
        .ret (AV.int IntKind.u8 16) []
    else
      .ret (AV.int IntKind.u8 16) [] := by kernel_rfl


def tt76 : Tab := [(3, ty3), (4, ty4), (5, ty5), (9, ty9)]
theorem tt76_ok : TabOk Try.prog tt76 := tabOk_of_all ⟨ty3_ok, ty4_ok, ty5_ok, ty9_ok, trivial⟩
def c76 (F : Nat) : Cfg := ⟨tt76, [], F, [(0, ⟨[0, 3], []⟩)], [], 0⟩
noncomputable def f76_0 (F k : Nat) (x0 : Int) (x3 : Int) : Res := aloop (c76 F) Try.f76 0 [] k (St.mk [AV.int IntKind.u8 x0, AV.top, AV.top, AV.int IntKind.i64 x3, AV.top, AV.top, AV.top, AV.top, AV.top, AV.top, AV.top, AV.top, AV.top] [])
theorem f76_eq (F : Nat) (c : Int) : afun (c76 F) Try.f76 [AV.int IntKind.u8 c] [] =
  f76_0 F F c 0 := by kernel_rfl
theorem f76_0_eq (F k : Nat) (x0 : Int) (x3 : Int) : f76_0 F (k + 1) x0 x3 =
  bif ltI x3 16 then
    bif inB x3 (ByteArray.mk #[48, 49, 50, 51, 52, 53, 54, 55, 56, 57, 97, 98, 99, 100, 101, 102]).data.toList.length then
      bif eqI (↑((ByteArray.mk #[48, 49, 50, 51, 52, 53, 54, 55, 56, 57, 97, 98, 99, 100, 101, 102]).data.toList.getD x3.toNat 0).toNat) x0 then
        .ret (AV.int IntKind.i64 x3) []
      else
        f76_0 F k x0 (IntKind.i64.wrap (x3 + 1))
    else
      .stuck
  else
    .ret (AV.int IntKind.i64 (-1)) [] := by kernel_rfl


def tt35 : Tab := [(0, ty0), (3, ty3), (4, ty4), (5, ty5), (9, ty9), (27, ty27), (52, ty52), (117, ty117), (52, ty52)]
theorem tt35_ok : TabOk Try.prog tt35 := tabOk_of_all ⟨ty0_ok, ty3_ok, ty4_ok, ty5_ok, ty9_ok, ty27_ok, ty52_ok, ty117_ok, ty52_ok, trivial⟩
def c35 (F : Nat) : Cfg := ⟨tt35, [(75, .pure go75)], F, [(0, ⟨[0, 2, 4, 12], []⟩)], [], 0⟩
noncomputable def f35_0 (F k : Nat) (x0 : List UInt8) (x12 : Int) (xh0 : List Int) (xh1 : List Int) : Res := aloop (c35 F) Try.f35 0 [] k (St.mk [AV.str x0, AV.top, AV.ptr 0 0, AV.top, AV.ptr 1 0, AV.top, AV.top, AV.top, AV.top, AV.top, AV.top, AV.top, AV.int IntKind.i64 x12, AV.top, AV.top, AV.top, AV.top, AV.top, AV.top, AV.top, AV.top, AV.top, AV.top, AV.top, AV.top, AV.top, AV.top, AV.top, AV.top, AV.top, AV.top, AV.top, AV.top, AV.top, AV.top, AV.top, AV.top, AV.top, AV.top, AV.top, AV.top] [AObj.vara 52 IntKind.u8 xh0, AObj.vara 52 IntKind.u8 xh1])
theorem f35_eq (F : Nat) (t : List UInt8) : afun (c35 F) Try.f35 [AV.str t] [] =
  bif !eqI (↑t.length) 64 then
    .ret (AV.tup [AV.arr zs32, AV.int IntKind.i64 3]) [AObj.vara 52 IntKind.u8 z32, AObj.vara 52 IntKind.u8 z32]
  else
    f35_0 F F t 0 z32 z32 := by kernel_rfl
theorem f35_0_eq (F k : Nat) (x0 : List UInt8) (x12 : Int) (xh0 : List Int) (xh1 : List Int) : f35_0 F (k + 1) x0 x12 xh0 xh1 =
  bif ltI x12 32 then
    bif inB (IntKind.i64.wrap (2 * x12)) x0.length then
      bif inB (IntKind.i64.wrap (IntKind.i64.wrap (2 * x12) + 1)) x0.length then
        bif ltI 15 (halfB ↑(x0.getD (IntKind.i64.wrap (2 * x12)).toNat 0).toNat) then
          bif zs32.length.beq xh0.length && zs32.all (isInt IntKind.u8) then
            .ret (AV.tup [AV.arr zs32, AV.int IntKind.i64 3]) [AObj.vara 52 IntKind.u8 z32, AObj.vara 52 IntKind.u8 xh1]
          else
            .stuck
        else
          bif ltI 15 (halfB ↑(x0.getD (IntKind.i64.wrap (IntKind.i64.wrap (2 * x12) + 1)).toNat 0).toNat) then
            bif zs32.length.beq xh0.length && zs32.all (isInt IntKind.u8) then
              .ret (AV.tup [AV.arr zs32, AV.int IntKind.i64 3]) [AObj.vara 52 IntKind.u8 z32, AObj.vara 52 IntKind.u8 xh1]
            else
              .stuck
          else
            bif inB x12 32 then
              bif (0 + x12.toNat * 1).blt xh1.length then
                f35_0 F k x0 (IntKind.i64.wrap (x12 + 1)) xh0 (xh1.set (0 + x12.toNat * 1) (ior IntKind.u8 (ishl IntKind.u8 (halfB ↑(x0.getD (IntKind.i64.wrap (2 * x12)).toNat 0).toNat) 4) (halfB ↑(x0.getD (IntKind.i64.wrap (IntKind.i64.wrap (2 * x12) + 1)).toNat 0).toNat)))
              else
                .stuck
            else
              .stuck
      else
        .stuck
    else
      .stuck
  else
    bif Nat.beq 32 xh1.length then
      bif (List.map (AV.int IntKind.u8) xh1).length.beq 32 then
        bif (List.map (AV.int IntKind.u8) xh1).length.beq xh0.length && (List.map (AV.int IntKind.u8) xh1).all (isInt IntKind.u8) then
          resEndT (bif Nat.beq 32 (List.map intOf (List.map (AV.int IntKind.u8) xh1)).length then some (AV.arr (List.map (AV.int IntKind.u8) (List.map intOf (List.map (AV.int IntKind.u8) xh1)))) else none) [AV.int IntKind.i64 0] [AObj.vara 52 IntKind.u8 (List.map intOf (List.map (AV.int IntKind.u8) xh1)), AObj.vara 52 IntKind.u8 xh1]
        else
          .stuck
      else
        .stuck
    else
      .stuck := by kernel_rfl


def tt36 : Tab := [(0, ty0), (3, ty3), (4, ty4), (5, ty5), (9, ty9), (51, ty51), (51, ty51)]
theorem tt36_ok : TabOk Try.prog tt36 := tabOk_of_all ⟨ty0_ok, ty3_ok, ty4_ok, ty5_ok, ty9_ok, ty51_ok, ty51_ok, trivial⟩
def c36 (F : Nat) : Cfg := ⟨tt36, [(76, .pure go76)], F, [(0, ⟨[0, 2, 4, 5], []⟩)], [], 0⟩
noncomputable def f36_0 (F k : Nat) (x0 : List UInt8) (x5 : Int) (xh0 : List Int) (xh1 : List Int) : Res := aloop (c36 F) Try.f36 0 [] k (St.mk [AV.str x0, AV.top, AV.ptr 0 0, AV.top, AV.ptr 1 0, AV.int IntKind.i64 x5, AV.top, AV.top, AV.top, AV.top, AV.top, AV.top, AV.top, AV.top, AV.top, AV.top, AV.top, AV.top, AV.top, AV.top, AV.top, AV.top, AV.top, AV.top, AV.top, AV.top, AV.top, AV.top, AV.top, AV.top, AV.top, AV.top, AV.top, AV.top, AV.top, AV.top, AV.top, AV.top, AV.top, AV.top, AV.top, AV.top] [AObj.vara 51 IntKind.u8 xh0, AObj.vara 51 IntKind.u8 xh1])
theorem f36_eq (F : Nat) (t : List UInt8) : afun (c36 F) Try.f36 [AV.str t] [] =
  bif !eqI (↑t.length) 64 then
    .ret (AV.tup [AV.arr zs32, AV.int IntKind.i64 3]) [AObj.vara 51 IntKind.u8 z32, AObj.vara 51 IntKind.u8 z32]
  else
    f36_0 F F t 0 z32 z32 := by kernel_rfl
theorem f36_0_eq (F k : Nat) (x0 : List UInt8) (x5 : Int) (xh0 : List Int) (xh1 : List Int) : f36_0 F (k + 1) x0 x5 xh0 xh1 =
  bif ltI x5 32 then
    bif inB (IntKind.i64.wrap (2 * x5)) x0.length then
      bif inB (IntKind.i64.wrap (IntKind.i64.wrap (2 * x5) + 1)) x0.length then
        bif ltI (digB ↑(x0.getD (IntKind.i64.wrap (2 * x5)).toNat 0).toNat) 0 then
          bif zs32.length.beq xh0.length && zs32.all (isInt IntKind.u8) then
            .ret (AV.tup [AV.arr zs32, AV.int IntKind.i64 3]) [AObj.vara 51 IntKind.u8 z32, AObj.vara 51 IntKind.u8 xh1]
          else
            .stuck
        else
          bif ltI (digB ↑(x0.getD (IntKind.i64.wrap (IntKind.i64.wrap (2 * x5) + 1)).toNat 0).toNat) 0 then
            bif zs32.length.beq xh0.length && zs32.all (isInt IntKind.u8) then
              .ret (AV.tup [AV.arr zs32, AV.int IntKind.i64 3]) [AObj.vara 51 IntKind.u8 z32, AObj.vara 51 IntKind.u8 xh1]
            else
              .stuck
          else
            bif inB x5 32 then
              bif (0 + x5.toNat * 1).blt xh1.length then
                f36_0 F k x0 (IntKind.i64.wrap (x5 + 1)) xh0 (xh1.set (0 + x5.toNat * 1) (IntKind.u8.wrap (IntKind.i64.wrap (IntKind.i64.wrap (16 * digB ↑(x0.getD (IntKind.i64.wrap (2 * x5)).toNat 0).toNat) + digB ↑(x0.getD (IntKind.i64.wrap (IntKind.i64.wrap (2 * x5) + 1)).toNat 0).toNat))))
              else
                .stuck
            else
              .stuck
      else
        .stuck
    else
      .stuck
  else
    bif Nat.beq 32 xh1.length then
      bif (List.map (AV.int IntKind.u8) xh1).length.beq 32 then
        bif (List.map (AV.int IntKind.u8) xh1).length.beq xh0.length && (List.map (AV.int IntKind.u8) xh1).all (isInt IntKind.u8) then
          resEndT (bif Nat.beq 32 (List.map intOf (List.map (AV.int IntKind.u8) xh1)).length then some (AV.arr (List.map (AV.int IntKind.u8) (List.map intOf (List.map (AV.int IntKind.u8) xh1)))) else none) [AV.int IntKind.i64 0] [AObj.vara 51 IntKind.u8 (List.map intOf (List.map (AV.int IntKind.u8) xh1)), AObj.vara 51 IntKind.u8 xh1]
        else
          .stuck
      else
        .stuck
    else
      .stuck := by kernel_rfl


def tt37 : Tab := [(0, ty0), (2, ty2), (3, ty3), (5, ty5), (9, ty9), (22, ty22), (52, ty52), (117, ty117), (52, ty52)]
theorem tt37_ok : TabOk Try.prog tt37 := tabOk_of_all ⟨ty0_ok, ty2_ok, ty3_ok, ty5_ok, ty9_ok, ty22_ok, ty52_ok, ty117_ok, ty52_ok, trivial⟩
def c37 (F : Nat) : Cfg := ⟨tt37, [], F, [(0, ⟨[3, 6, 7], [(3, 5)]⟩)], [], 0⟩
noncomputable def f37_0 (F k : Nat) (x6 : List AV) (x7 : Int) (xh0 : List UInt8) : Res := aloop (c37 F) Try.f37 0 [] k (St.mk [AV.top, AV.top, AV.top, AV.own 0, AV.top, AV.top, AV.arr x6, AV.int IntKind.i64 x7, AV.top, AV.top, AV.top, AV.top, AV.top, AV.top, AV.top, AV.top, AV.top, AV.top, AV.top, AV.top, AV.top, AV.top] [AObj.arr 5 (Pay.bytes xh0)])
theorem f37_eq (F : Nat) (r : List AV) : afun (c37 F) Try.f37 [AV.arr r] [] =
  bif r.length.beq 32 then
    bif r.all (isInt IntKind.u8) then
      bif Nat.beq 32 (List.map intOf r).length then
        f37_0 F F (List.map (AV.int IntKind.u8) (List.map intOf r)) 0 []
      else
        .stuck
    else
      .stuck
  else
    .stuck := by kernel_rfl
theorem f37_0_eq (F k : Nat) (x6 : List AV) (x7 : Int) (xh0 : List UInt8) : f37_0 F (k + 1) x6 x7 xh0 =
  bif ltI x7 32 then
    bif inB x7 32 then
      bif isInt IntKind.u8 (nth x6 x7.toNat) then
        bif inB (ishr IntKind.u8 (intOf (nth x6 x7.toNat)) 4) (ByteArray.mk #[48, 49, 50, 51, 52, 53, 54, 55, 56, 57, 97, 98, 99, 100, 101, 102]).data.toList.length then
          bif inB (iand IntKind.u8 (intOf (nth x6 x7.toNat)) 15) (ByteArray.mk #[48, 49, 50, 51, 52, 53, 54, 55, 56, 57, 97, 98, 99, 100, 101, 102]).data.toList.length then
            bif appFits ty5 (Pay.bytes (xh0 ++ [UInt8.ofNat (Int.ofNat ((ByteArray.mk #[48, 49, 50, 51, 52, 53, 54, 55, 56, 57, 97, 98, 99, 100, 101, 102]).data.toList.getD (ishr IntKind.u8 (intOf (nth x6 x7.toNat)) 4).toNat 0).toNat).toNat, 0].set (1, Operand.tmp 16).fst (UInt8.ofNat (Int.ofNat ((ByteArray.mk #[48, 49, 50, 51, 52, 53, 54, 55, 56, 57, 97, 98, 99, 100, 101, 102]).data.toList.getD (iand IntKind.u8 (intOf (nth x6 x7.toNat)) 15).toNat 0).toNat).toNat))) then
              f37_0 F k x6 (IntKind.i64.wrap (x7 + 1)) (xh0 ++ [UInt8.ofNat (Int.ofNat ((ByteArray.mk #[48, 49, 50, 51, 52, 53, 54, 55, 56, 57, 97, 98, 99, 100, 101, 102]).data.toList.getD (ishr IntKind.u8 (intOf (nth x6 x7.toNat)) 4).toNat 0).toNat).toNat, 0].set (1, Operand.tmp 16).fst (UInt8.ofNat (Int.ofNat ((ByteArray.mk #[48, 49, 50, 51, 52, 53, 54, 55, 56, 57, 97, 98, 99, 100, 101, 102]).data.toList.getD (iand IntKind.u8 (intOf (nth x6 x7.toNat)) 15).toNat 0).toNat).toNat))
            else
              .stuck
          else
            .stuck
        else
          .stuck
      else
        .stuck
    else
      .stuck
  else
    .ret (AV.str xh0) [AObj.arr 5 (Pay.bytes xh0)] := by kernel_rfl


def tt38 : Tab := [(0, ty0), (3, ty3), (4, ty4), (5, ty5), (9, ty9), (51, ty51), (51, ty51)]
theorem tt38_ok : TabOk Try.prog tt38 := tabOk_of_all ⟨ty0_ok, ty3_ok, ty4_ok, ty5_ok, ty9_ok, ty51_ok, ty51_ok, trivial⟩
def c38 (F : Nat) : Cfg := ⟨tt38, [], F, [(0, ⟨[1, 3, 4], []⟩)], [], 0⟩
noncomputable def f38_0 (F k : Nat) (x3 : List UInt8) (x4 : Int) (xh0 : List Int) : Res := aloop (c38 F) Try.f38 0 [] k (St.mk [AV.top, AV.ptr 0 0, AV.top, AV.str x3, AV.int IntKind.i64 x4, AV.top, AV.top, AV.top, AV.top, AV.top, AV.top, AV.top, AV.top, AV.top, AV.top, AV.top, AV.top, AV.top, AV.top, AV.top, AV.top, AV.top, AV.top, AV.top, AV.top, AV.top, AV.top, AV.top, AV.top, AV.top, AV.top, AV.top, AV.top] [AObj.vara 51 IntKind.u8 xh0])
theorem f38_eq (F : Nat) (r : List AV) : afun (c38 F) Try.f38 [AV.arr r] [] =
  bif r.length.beq 32 then
    bif r.all (isInt IntKind.u8) then
      f38_0 F F ((ByteArray.mk #[]).data.toList) 0 (List.map intOf r)
    else
      .stuck
  else
    .stuck := by kernel_rfl
theorem f38_0_eq (F k : Nat) (x3 : List UInt8) (x4 : Int) (xh0 : List Int) : f38_0 F (k + 1) x3 x4 xh0 =
  bif ltI x4 32 then
    bif inB x4 32 then
      bif (0 + x4.toNat * 1).blt xh0.length then
        bif inB x4 32 then
          bif (0 + x4.toNat * 1).blt xh0.length then
            bif leI 0 (iquo IntKind.i64 (IntKind.i64.wrap (xh0.getD (0 + x4.toNat * 1) 0)) 16) && leI (iquo IntKind.i64 (IntKind.i64.wrap (xh0.getD (0 + x4.toNat * 1) 0)) 16) (IntKind.i64.wrap (iquo IntKind.i64 (IntKind.i64.wrap (xh0.getD (0 + x4.toNat * 1) 0)) 16 + 1)) && leI (IntKind.i64.wrap (iquo IntKind.i64 (IntKind.i64.wrap (xh0.getD (0 + x4.toNat * 1) 0)) 16 + 1)) ↑(ByteArray.mk #[48, 49, 50, 51, 52, 53, 54, 55, 56, 57, 97, 98, 99, 100, 101, 102]).data.toList.length then
              bif (x3.length + (bif true then List.take ((IntKind.i64.wrap (iquo IntKind.i64 (IntKind.i64.wrap (xh0.getD (0 + x4.toNat * 1) 0)) 16 + 1)).toNat - (iquo IntKind.i64 (IntKind.i64.wrap (xh0.getD (0 + x4.toNat * 1) 0)) 16).toNat) (List.drop (iquo IntKind.i64 (IntKind.i64.wrap (xh0.getD (0 + x4.toNat * 1) 0)) 16).toNat (ByteArray.mk #[48, 49, 50, 51, 52, 53, 54, 55, 56, 57, 97, 98, 99, 100, 101, 102]).data.toList) else List.drop (iquo IntKind.i64 (IntKind.i64.wrap (xh0.getD (0 + x4.toNat * 1) 0)) 16).toNat (ByteArray.mk #[48, 49, 50, 51, 52, 53, 54, 55, 56, 57, 97, 98, 99, 100, 101, 102]).data.toList).length).ble maxLen then
                bif leI 0 (irem (IntKind.i64.wrap (xh0.getD (0 + x4.toNat * 1) 0)) 16) && leI (irem (IntKind.i64.wrap (xh0.getD (0 + x4.toNat * 1) 0)) 16) (IntKind.i64.wrap (irem (IntKind.i64.wrap (xh0.getD (0 + x4.toNat * 1) 0)) 16 + 1)) && leI (IntKind.i64.wrap (irem (IntKind.i64.wrap (xh0.getD (0 + x4.toNat * 1) 0)) 16 + 1)) ↑(ByteArray.mk #[48, 49, 50, 51, 52, 53, 54, 55, 56, 57, 97, 98, 99, 100, 101, 102]).data.toList.length then
                  bif ((x3 ++ bif true then List.take ((IntKind.i64.wrap (iquo IntKind.i64 (IntKind.i64.wrap (xh0.getD (0 + x4.toNat * 1) 0)) 16 + 1)).toNat - (iquo IntKind.i64 (IntKind.i64.wrap (xh0.getD (0 + x4.toNat * 1) 0)) 16).toNat) (List.drop (iquo IntKind.i64 (IntKind.i64.wrap (xh0.getD (0 + x4.toNat * 1) 0)) 16).toNat (ByteArray.mk #[48, 49, 50, 51, 52, 53, 54, 55, 56, 57, 97, 98, 99, 100, 101, 102]).data.toList) else List.drop (iquo IntKind.i64 (IntKind.i64.wrap (xh0.getD (0 + x4.toNat * 1) 0)) 16).toNat (ByteArray.mk #[48, 49, 50, 51, 52, 53, 54, 55, 56, 57, 97, 98, 99, 100, 101, 102]).data.toList).length + (bif true then List.take ((IntKind.i64.wrap (irem (IntKind.i64.wrap (xh0.getD (0 + x4.toNat * 1) 0)) 16 + 1)).toNat - (irem (IntKind.i64.wrap (xh0.getD (0 + x4.toNat * 1) 0)) 16).toNat) (List.drop (irem (IntKind.i64.wrap (xh0.getD (0 + x4.toNat * 1) 0)) 16).toNat (ByteArray.mk #[48, 49, 50, 51, 52, 53, 54, 55, 56, 57, 97, 98, 99, 100, 101, 102]).data.toList) else List.drop (irem (IntKind.i64.wrap (xh0.getD (0 + x4.toNat * 1) 0)) 16).toNat (ByteArray.mk #[48, 49, 50, 51, 52, 53, 54, 55, 56, 57, 97, 98, 99, 100, 101, 102]).data.toList).length).ble maxLen then
                    f38_0 F k ((x3 ++ bif true then List.take ((IntKind.i64.wrap (iquo IntKind.i64 (IntKind.i64.wrap (xh0.getD (0 + x4.toNat * 1) 0)) 16 + 1)).toNat - (iquo IntKind.i64 (IntKind.i64.wrap (xh0.getD (0 + x4.toNat * 1) 0)) 16).toNat) (List.drop (iquo IntKind.i64 (IntKind.i64.wrap (xh0.getD (0 + x4.toNat * 1) 0)) 16).toNat (ByteArray.mk #[48, 49, 50, 51, 52, 53, 54, 55, 56, 57, 97, 98, 99, 100, 101, 102]).data.toList) else List.drop (iquo IntKind.i64 (IntKind.i64.wrap (xh0.getD (0 + x4.toNat * 1) 0)) 16).toNat (ByteArray.mk #[48, 49, 50, 51, 52, 53, 54, 55, 56, 57, 97, 98, 99, 100, 101, 102]).data.toList) ++ bif true then List.take ((IntKind.i64.wrap (irem (IntKind.i64.wrap (xh0.getD (0 + x4.toNat * 1) 0)) 16 + 1)).toNat - (irem (IntKind.i64.wrap (xh0.getD (0 + x4.toNat * 1) 0)) 16).toNat) (List.drop (irem (IntKind.i64.wrap (xh0.getD (0 + x4.toNat * 1) 0)) 16).toNat (ByteArray.mk #[48, 49, 50, 51, 52, 53, 54, 55, 56, 57, 97, 98, 99, 100, 101, 102]).data.toList) else List.drop (irem (IntKind.i64.wrap (xh0.getD (0 + x4.toNat * 1) 0)) 16).toNat (ByteArray.mk #[48, 49, 50, 51, 52, 53, 54, 55, 56, 57, 97, 98, 99, 100, 101, 102]).data.toList) (IntKind.i64.wrap (x4 + 1)) xh0
                  else
                    .stuck
                else
                  .stuck
              else
                .stuck
            else
              .stuck
          else
            .stuck
        else
          .stuck
      else
        .stuck
    else
      .stuck
  else
    .ret (AV.str x3) [AObj.vara 51 IntKind.u8 xh0] := by kernel_rfl


theorem f75_all (F : Nat) (c : Int) (h0 : 0 ≤ c) (h1 : c < 256) : outR (afun (c75 F) Try.f75 [.int .u8 c] []) = some (.int .u8 (halfB c), []) := by
  rw [f75_eq]; unfold halfB
  have w1 : 48 ≤ c → IntKind.u8.wrap (c - 48) = c - 48 := fun h => by rw [wrapu8]; omega
  have w2 : 97 ≤ c → IntKind.u8.wrap (IntKind.u8.wrap (c - 97) + 10) = c - 87 := fun h => by rw [wrapu8, wrapu8]; omega
  cases k1 : leI 48 c <;> cases k2 : leI c 57 <;> cases k3 : leI 97 c <;> cases k4 : leI c 102 <;> simp only [cond_true, cond_false, Bool.and_true, Bool.and_false, Bool.and_self] <;>
    first
    | rfl
    | (rw [w1 (leI_iff.1 k1)]; rfl)
    | (rw [w2 (leI_iff.1 k3)]; rfl)
theorem f76_run (F : Nat) (c : Int) : ∀ (d i K : Nat), i + d = 16 → d < K → f76_0 F K c i = .ret (.int .i64 (dF c d i)) []
  | 0, i, K + 1, h, _ => by
    rw [f76_0_eq, bif_neg (by rw [ltI_iff]; omega)]; rfl
  | d + 1, i, K + 1, h, hk => by
    have e1 : IntKind.i64.wrap ((i : Int) + 1) = ((i + 1 : Nat) : Int) := by rw [wrap64 (by omega) (by omega)]; omega
    rw [f76_0_eq, bif_pos (by rw [ltI_iff]; omega), bif_pos (by rw [inB_iff, digs_len]; omega), e1, Int.toNat_natCast, f76_run F c d (i + 1) K (by omega) (by omega)]
    show (bif eqI ((hexD i).toNat : Int) c then _ else _) = Res.ret (.int .i64 (bif eqI ((hexD i).toNat : Int) c then (i : Int) else dF c d (i + 1))) []
    cases eqI ((hexD i).toNat : Int) c <;> rfl
theorem f76_all (F : Nat) (hF : 100 ≤ F) (c : Int) (h0 : 0 ≤ c) (h1 : c < 256) : outR (afun (c76 F) Try.f76 [.int .u8 c] []) = some (.int .i64 (digB c), []) := by
  obtain ⟨m, rfl⟩ := Int.eq_ofNat_of_zero_le h0
  rw [f76_eq, show (0 : Int) = ((0 : Nat) : Int) from rfl, f76_run F m 16 0 F rfl (by omega), dF_dig m (by omega)]; rfl
theorem zs_ok {z : List Int} (hz : z.length = 32) : (zs32.length.beq z.length && zs32.all (isInt .u8)) = true := by rw [hz]; rfl

theorem f35_run (F : Nat) (t : List UInt8) (ht : t.length = 64) (z : List Int) (hz : z.length = 32) : ∀ (d i K : Nat) (l : List Int), i + d = 32 → d < K → l.length = 32 →
    outR (f35_0 F K t i z l) = some (match pGo t d i l with
      | some m => (.tup [.arr (intsA .u8 m), .int .i64 0], [])
      | none => (.tup [.arr (intsA .u8 z32), .int .i64 3], []))
  | 0, i, K + 1, l, h, _, hl => by
    obtain rfl : i = 32 := by omega
    rw [f35_0_eq, bif_neg (by rw [ltI_iff]; omega), bif_pos (by rw [hl]; rfl), bif_pos (by rw [List.length_map, hl]; rfl),
      bif_pos (by rw [Bool.and_eq_true]; exact ⟨by rw [List.length_map, hl, hz]; rfl, intsA_is .u8 l⟩)]
    show outR (resEndT (bif Nat.beq 32 (List.map intOf (intsA .u8 l)).length then some (AV.arr (List.map (AV.int IntKind.u8) (List.map intOf (intsA .u8 l)))) else none) _ _) = _
    rw [intsA_int, hl]; rfl
  | d + 1, i, K + 1, l, h, hk, hl => by
    have e1 : IntKind.i64.wrap ((i : Int) + 1) = ((i + 1 : Nat) : Int) := by rw [wrap64 (by omega) (by omega)]; omega
    have e2 : IntKind.i64.wrap (2 * (i : Int)) = ((2 * i : Nat) : Int) := by rw [wrap64 (by omega) (by omega)]; omega
    have e3 : IntKind.i64.wrap (((2 * i : Nat) : Int) + 1) = ((2 * i + 1 : Nat) : Int) := by rw [wrap64 (by omega) (by omega)]; omega
    have k0 := dig_half (c := ((t.getD (2 * i) 0).toNat : Int))
    have k1 := dig_half (c := ((t.getD (2 * i + 1) 0).toNat : Int))
    rw [f35_0_eq, bif_pos (ltI_iff.2 (by omega)), e2, e3, e1]
    simp only [Int.toNat_natCast, Nat.zero_add, Nat.mul_one]
    rw [bif_pos (by rw [inB_iff]; omega), bif_pos (by rw [inB_iff]; omega), pGo]
    generalize ((t.getD (2 * i) 0).toNat : Int) = a at *
    generalize ((t.getD (2 * i + 1) 0).toNat : Int) = b at *
    by_cases ha : digB a < 0
    · rw [bif_pos (by rw [ltI_iff]; omega), bif_pos (zs_ok hz), bif_pos (c := ltI (digB a) 0 || ltI (digB b) 0) (by rw [Bool.or_eq_true, ltI_iff, ltI_iff]; exact .inl ha)]; rfl
    rw [bif_neg (by rw [ltI_iff]; omega)]
    by_cases hb : digB b < 0
    · rw [bif_pos (by rw [ltI_iff]; omega), bif_pos (zs_ok hz), bif_pos (c := ltI (digB a) 0 || ltI (digB b) 0) (by rw [Bool.or_eq_true, ltI_iff, ltI_iff]; exact .inr hb)]; rfl
    rw [bif_neg (by rw [ltI_iff]; omega), bif_neg (c := ltI (digB a) 0 || ltI (digB b) 0) (by rw [Bool.or_eq_true, ltI_iff, ltI_iff]; omega), bif_pos (by rw [inB_iff]; omega), bif_pos (by rw [blt_iff]; omega)]
    have a2 := k0.2 (by omega)
    have b2 := k1.2 (by omega)
    have ev : ior IntKind.u8 (ishl IntKind.u8 (halfB a) 4) (halfB b) = 16 * digB a + digB b := by 
      rw [a2.1, b2.1]
      obtain ⟨x, hx⟩ := Int.eq_ofNat_of_zero_le (show 0 ≤ digB a by omega)
      obtain ⟨y, hy⟩ := Int.eq_ofNat_of_zero_le (show 0 ≤ digB b by omega)
      rw [hx, hy, ior_hex x (by omega) y (by omega)]; omega
    rw [ev]
    exact f35_run F t ht z hz d (i + 1) K _ (by omega) (by omega) (by rw [List.length_set]; exact hl)
theorem f35_all (F : Nat) (hF : 100 ≤ F) (t : List UInt8) : outR (afun (c35 F) Try.f35 [.str t] []) = some (.tup [.arr (intsA .u8 (parseT t).1), .int .i64 (parseT t).2], []) := by
  rw [f35_eq]
  unfold parseT
  by_cases h : (t.length : Int) = 64
  · rw [bif_neg (by rw [not_eqI_iff]; omega), bif_pos (eqI_iff.2 h)]
    have e := f35_run F t (by omega) z32 rfl 32 0 F z32 rfl (by omega) rfl
    refine Eq.trans e ?_
    cases pGo t 32 0 z32 <;> rfl
  · rw [bif_pos (by rw [not_eqI_iff]; omega), bif_neg (by rw [eqI_iff]; omega)]; rfl

theorem f36_run (F : Nat) (t : List UInt8) (ht : t.length = 64) (z : List Int) (hz : z.length = 32) : ∀ (d i K : Nat) (l : List Int), i + d = 32 → d < K → l.length = 32 →
    outR (f36_0 F K t i z l) = some (match pGo t d i l with
      | some m => (.tup [.arr (intsA .u8 m), .int .i64 0], [])
      | none => (.tup [.arr (intsA .u8 z32), .int .i64 3], []))
  | 0, i, K + 1, l, h, _, hl => by
    obtain rfl : i = 32 := by omega
    rw [f36_0_eq, bif_neg (by rw [ltI_iff]; omega), bif_pos (by rw [hl]; rfl), bif_pos (by rw [List.length_map, hl]; rfl),
      bif_pos (by rw [Bool.and_eq_true]; exact ⟨by rw [List.length_map, hl, hz]; rfl, intsA_is .u8 l⟩)]
    show outR (resEndT (bif Nat.beq 32 (List.map intOf (intsA .u8 l)).length then some (AV.arr (List.map (AV.int IntKind.u8) (List.map intOf (intsA .u8 l)))) else none) _ _) = _
    rw [intsA_int, hl]; rfl
  | d + 1, i, K + 1, l, h, hk, hl => by
    have e1 : IntKind.i64.wrap ((i : Int) + 1) = ((i + 1 : Nat) : Int) := by rw [wrap64 (by omega) (by omega)]; omega
    have e2 : IntKind.i64.wrap (2 * (i : Int)) = ((2 * i : Nat) : Int) := by rw [wrap64 (by omega) (by omega)]; omega
    have e3 : IntKind.i64.wrap (((2 * i : Nat) : Int) + 1) = ((2 * i + 1 : Nat) : Int) := by rw [wrap64 (by omega) (by omega)]; omega
    have k0 := dig_half (c := ((t.getD (2 * i) 0).toNat : Int))
    have k1 := dig_half (c := ((t.getD (2 * i + 1) 0).toNat : Int))
    rw [f36_0_eq, bif_pos (ltI_iff.2 (by omega)), e2, e3, e1]
    simp only [Int.toNat_natCast, Nat.zero_add, Nat.mul_one]
    rw [bif_pos (by rw [inB_iff]; omega), bif_pos (by rw [inB_iff]; omega), pGo]
    generalize ((t.getD (2 * i) 0).toNat : Int) = a at *
    generalize ((t.getD (2 * i + 1) 0).toNat : Int) = b at *
    by_cases ha : digB a < 0
    · rw [bif_pos (by rw [ltI_iff]; omega), bif_pos (zs_ok hz), bif_pos (c := ltI (digB a) 0 || ltI (digB b) 0) (by rw [Bool.or_eq_true, ltI_iff, ltI_iff]; exact .inl ha)]; rfl
    rw [bif_neg (by rw [ltI_iff]; omega)]
    by_cases hb : digB b < 0
    · rw [bif_pos (by rw [ltI_iff]; omega), bif_pos (zs_ok hz), bif_pos (c := ltI (digB a) 0 || ltI (digB b) 0) (by rw [Bool.or_eq_true, ltI_iff, ltI_iff]; exact .inr hb)]; rfl
    rw [bif_neg (by rw [ltI_iff]; omega), bif_neg (c := ltI (digB a) 0 || ltI (digB b) 0) (by rw [Bool.or_eq_true, ltI_iff, ltI_iff]; omega), bif_pos (by rw [inB_iff]; omega), bif_pos (by rw [blt_iff]; omega)]
    have a2 := k0.2 (by omega)
    have b2 := k1.2 (by omega)
    have ev : IntKind.u8.wrap (IntKind.i64.wrap (IntKind.i64.wrap (16 * digB a) + digB b)) = 16 * digB a + digB b := by 
      rw [wrap64 (n := 16 * digB a) (by omega) (by omega), wrap64 (by omega) (by omega), wrapu8]; omega
    rw [ev]
    exact f36_run F t ht z hz d (i + 1) K _ (by omega) (by omega) (by rw [List.length_set]; exact hl)
theorem f36_all (F : Nat) (hF : 100 ≤ F) (t : List UInt8) : outR (afun (c36 F) Try.f36 [.str t] []) = some (.tup [.arr (intsA .u8 (parseT t).1), .int .i64 (parseT t).2], []) := by
  rw [f36_eq]
  unfold parseT
  by_cases h : (t.length : Int) = 64
  · rw [bif_neg (by rw [not_eqI_iff]; omega), bif_pos (eqI_iff.2 h)]
    have e := f36_run F t (by omega) z32 rfl 32 0 F z32 rfl (by omega) rfl
    refine Eq.trans e ?_
    cases pGo t 32 0 z32 <;> rfl
  · rw [bif_pos (by rw [not_eqI_iff]; omega), bif_neg (by rw [eqI_iff]; omega)]; rfl

theorem f37_run (F : Nat) (l : List AV) (hl : l.length = 32) (hr : ∀ x ∈ l.map intOf, 0 ≤ x ∧ x < 256) : ∀ (d i K : Nat) (p : List UInt8), i + d = 32 → d < K → p.length + 2 * d ≤ 1000 →
    outR (f37_0 F K (intsA .u8 (l.map intOf)) i p) = some (.str (p ++ hexT ((l.map intOf).drop i)), [])
  | 0, i, K + 1, p, h, _, _ => by
    rw [f37_0_eq, bif_neg (by rw [ltI_iff]; omega), List.drop_eq_nil_of_le (by rw [List.length_map]; omega)]
    show some (AV.str p, ([] : List AObj)) = some (.str (p ++ []), [])
    rw [List.append_nil]
  | d + 1, i, K + 1, p, h, hk, hp => by
    have e1 : IntKind.i64.wrap ((i : Int) + 1) = ((i + 1 : Nat) : Int) := by rw [wrap64 (by omega) (by omega)]; omega
    obtain ⟨m, hm, hm2⟩ := all_byte hr hl i (by omega)
    have hb := byte_hex m hm2
    rw [f37_0_eq, bif_pos (ltI_iff.2 (by omega)), bif_pos (by rw [inB_iff]; omega), Int.toNat_natCast, nth_ints .u8 _ i (by rw [List.length_map]; omega), hm,
      show isInt IntKind.u8 (AV.int .u8 (m : Int)) = true from rfl, cond_true, show intOf (AV.int IntKind.u8 (m : Int)) = (m : Int) from rfl, hb.1, hb.2, e1, Int.toNat_natCast, Int.toNat_natCast,
      bif_pos (by rw [inB_iff, digs_len]; omega), bif_pos (by rw [inB_iff, digs_len]; omega)]
    have eb : ∀ x y : UInt8, ([UInt8.ofNat (Int.ofNat x.toNat).toNat, 0].set (1, Operand.tmp 16).fst (UInt8.ofNat (Int.ofNat y.toNat).toNat)) = [x, y] := fun x y => by
      show [UInt8.ofNat x.toNat, UInt8.ofNat y.toNat] = _
      rw [UInt8.ofNat_toNat, UInt8.ofNat_toNat]
    rw [eb, bif_pos (fits5.2 (by rw [List.length_append]; show p.length + 2 ≤ _; omega))]
    refine (f37_run F l hl hr d (i + 1) K _ (by omega) (by omega) (by rw [List.length_append]; show p.length + 2 + 2 * d ≤ _; omega)).trans ?_
    rw [hexT_drop _ i (by rw [List.length_map]; omega), hm, show ((m : Int) / 16).toNat = m / 16 by omega, show ((m : Int) % 16).toNat = m % 16 by omega, List.append_assoc]; rfl
theorem f37_all (F : Nat) (hF : 100 ≤ F) (r : List AV) (hl : r.length = 32) (ha : r.all (isInt .u8) = true) (hr : ∀ x ∈ r.map intOf, 0 ≤ x ∧ x < 256) :
    outR (afun (c37 F) Try.f37 [.arr r] []) = some (.str (hexT (r.map intOf)), []) := by
  rw [f37_eq, bif_pos (by rw [hl]; rfl), bif_pos ha, bif_pos (by rw [List.length_map, hl]; rfl)]
  have e := f37_run F r hl hr 32 0 F [] rfl (by omega) (by decide)
  exact e
theorem f38_run (F : Nat) (l : List AV) (hl : l.length = 32) (hr : ∀ x ∈ l.map intOf, 0 ≤ x ∧ x < 256) : ∀ (d i K : Nat) (p : List UInt8), i + d = 32 → d < K → p.length + 2 * d ≤ 1000 →
    outR (f38_0 F K p i (l.map intOf)) = some (.str (p ++ hexT ((l.map intOf).drop i)), [])
  | 0, i, K + 1, p, h, _, _ => by
    rw [f38_0_eq, bif_neg (by rw [ltI_iff]; omega), List.drop_eq_nil_of_le (by rw [List.length_map]; omega)]
    show some (AV.str p, ([] : List AObj)) = some (.str (p ++ []), [])
    rw [List.append_nil]
  | d + 1, i, K + 1, p, h, hk, hp => by
    have e1 : IntKind.i64.wrap ((i : Int) + 1) = ((i + 1 : Nat) : Int) := by rw [wrap64 (by omega) (by omega)]; omega
    obtain ⟨m, hm, hm2⟩ := all_byte hr hl i (by omega)
    have hL : (l.map intOf).length = 32 := by rw [List.length_map, hl]
    have q1 : iquo IntKind.i64 (IntKind.i64.wrap (m : Int)) 16 = ((m / 16 : Nat) : Int) := by rw [wrap64 (by omega) (by omega), iquo_i64 (by omega) (by omega) (by decide)]; omega
    have q2 : irem (IntKind.i64.wrap (m : Int)) 16 = ((m % 16 : Nat) : Int) := by rw [wrap64 (by omega) (by omega), irem_eq (by omega)]; omega
    have w1 : IntKind.i64.wrap (((m / 16 : Nat) : Int) + 1) = ((m / 16 + 1 : Nat) : Int) := by rw [wrap64 (by omega) (by omega)]; omega
    have w2 : IntKind.i64.wrap (((m % 16 : Nat) : Int) + 1) = ((m % 16 + 1 : Nat) : Int) := by rw [wrap64 (by omega) (by omega)]; omega
    rw [f38_0_eq, bif_pos (ltI_iff.2 (by omega)), bif_pos (by rw [inB_iff]; omega), e1]
    simp only [Int.toNat_natCast, Nat.zero_add, Nat.mul_one]
    rw [hm, q1, q2, w1, w2]
    simp only [Int.toNat_natCast, cond_true, show m / 16 + 1 - m / 16 = 1 by omega, show m % 16 + 1 - m % 16 = 1 by omega, digs_cut (m / 16) (by omega), digs_cut (m % 16) (by omega)]
    have hM : 1000 ≤ maxLen := by decide
    rw [bif_pos (by rw [blt_iff]; omega), bif_pos (by rw [inB_iff]; omega), bif_pos (by rw [blt_iff]; omega), bif_pos (by simp only [Bool.and_eq_true, leI_iff, List.length_cons, List.length_nil]; omega), bif_pos (by simp only [ble_iff, List.length_cons, List.length_nil]; omega),
      bif_pos (by simp only [Bool.and_eq_true, leI_iff, List.length_cons, List.length_nil]; omega), bif_pos (by simp only [ble_iff, List.length_append, List.length_cons, List.length_nil]; omega)]
    refine (f38_run F l hl hr d (i + 1) K _ (by omega) (by omega) (by simp only [List.length_append, List.length_singleton]; omega)).trans ?_
    rw [hexT_drop _ i (by omega), hm, show ((m : Int) / 16).toNat = m / 16 by omega, show ((m : Int) % 16).toNat = m % 16 by omega, List.append_assoc, List.append_assoc]; rfl
theorem f38_all (F : Nat) (hF : 100 ≤ F) (r : List AV) (hl : r.length = 32) (ha : r.all (isInt .u8) = true) (hr : ∀ x ∈ r.map intOf, 0 ≤ x ∧ x < 256) :
    outR (afun (c38 F) Try.f38 [.arr r] []) = some (.str (hexT (r.map intOf)), []) := by
  rw [f38_eq, bif_pos (by rw [hl]; rfl), bif_pos ha]
  have e := f38_run F r hl hr 32 0 F [] rfl (by omega) (by decide)
  exact e

theorem ok75 : PureOk Try.prog 75 go75 := by
  refine pureOk_of (c75 rounds) tt75_ok .nil follows rfl Try.func75 (by kernel_rfl) (by kernel_rfl) ?_ ?_
  · intro R stk args ret
    unfold go75
    split
    · rfl
    · rfl
  · intro args r objs h hr
    unfold go75 at h
    split at h
    · rename_i c
      cases h
      have hc := hasu8 hr.int
      refine ⟨_, ?_, .same⟩
      rw [apure_out]
      exact f75_all rounds c hc.1 hc.2
    · cases h

theorem ok76 : PureOk Try.prog 76 go76 := by
  refine pureOk_of (c76 rounds) tt76_ok .nil follows rfl Try.func76 (by kernel_rfl) (by kernel_rfl) ?_ ?_
  · intro R stk args ret
    unfold go76
    split
    · rfl
    · rfl
  · intro args r objs h hr
    unfold go76 at h
    split at h
    · rename_i c
      cases h
      have hc := hasu8 hr.int
      refine ⟨_, ?_, .same⟩
      rw [apure_out]
      exact f76_all rounds (by decide) c hc.1 hc.2
    · cases h

theorem ok35 : PureOk Try.prog 35 go35 := by
  refine pureOk_of (c35 rounds) tt35_ok (.cons ok75 .nil) follows rfl Try.func35 (by kernel_rfl) (by kernel_rfl) ?_ ?_
  · intro R stk args ret
    unfold go35
    split
    · rfl
    · rfl
  · intro args r objs h hr
    unfold go35 at h
    split at h
    · rename_i t
      cases h
      refine ⟨_, ?_, .same⟩
      rw [apure_out]
      exact f35_all rounds (by decide) t
    · cases h

theorem ok36 : PureOk Try.prog 36 go36 := by
  refine pureOk_of (c36 rounds) tt36_ok (.cons ok76 .nil) follows rfl Try.func36 (by kernel_rfl) (by kernel_rfl) ?_ ?_
  · intro R stk args ret
    unfold go36
    split
    · rfl
    · rfl
  · intro args r objs h hr
    unfold go36 at h
    split at h
    · rename_i t
      cases h
      refine ⟨_, ?_, .same⟩
      rw [apure_out]
      exact f36_all rounds (by decide) t
    · cases h

theorem ok37 : PureOk Try.prog 37 go37 := by
  refine pureOk_of (c37 rounds) tt37_ok .nil follows rfl Try.func37 (by kernel_rfl) (by kernel_rfl) ?_ ?_
  · intro R stk args ret
    unfold go37
    split
    · simp only [elim_cond]; rfl
    · rfl
  · intro args r objs h hr
    unfold go37 at h
    split at h
    · rename_i r
      rcases bif_alt h with ⟨hf0, h⟩ | ⟨hf0, h⟩
      · cases h
        rw [Bool.and_eq_true] at hf0
        refine ⟨_, ?_, .same⟩
        rw [apure_out]
        exact f37_all rounds (by decide) r (Nat.eq_of_beq_eq_true hf0.1) hf0.2 (hr.arrT.bytesA hf0.2)
      ·
        cases h
    · cases h

theorem ok38 : PureOk Try.prog 38 go38 := by
  refine pureOk_of (c38 rounds) tt38_ok .nil follows rfl Try.func38 (by kernel_rfl) (by kernel_rfl) ?_ ?_
  · intro R stk args ret
    unfold go38
    split
    · simp only [elim_cond]; rfl
    · rfl
  · intro args r objs h hr
    unfold go38 at h
    split at h
    · rename_i r
      rcases bif_alt h with ⟨hf0, h⟩ | ⟨hf0, h⟩
      · cases h
        rw [Bool.and_eq_true] at hf0
        refine ⟨_, ?_, .same⟩
        rw [apure_out]
        exact f38_all rounds (by decide) r (Nat.eq_of_beq_eq_true hf0.1) hf0.2 (hr.arrT.bytesA hf0.2)
      ·
        cases h
    · cases h

end Go.Proofs.YtmkgmlgklggnlaaG
