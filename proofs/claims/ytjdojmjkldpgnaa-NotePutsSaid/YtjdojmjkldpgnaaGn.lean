/- A part of the proof: plain laws, and what functions of the given program come to; no condition. -/
import Derived.Test.YtjdojmjkldpgnaaGl
import Derived.Test.YtjdojmjkldpgnaaGmYnote
namespace Go.Proofs.YtjdojmjkldpgnaaG
open Go Go.Proofs.YtjdojmjkldpgnaaGm
set_option maxRecDepth 100000
set_option maxHeartbeats 0

def go22 (R : Type) (stk : R) (args : List AV) (ret : AV → List AObj → R) : R :=
  match args with
  | [.ro (.ints .i64 x), .ro (.ints .i64 y)] => ret (.bool (decide (x = y))) []
  | _ => stk

def go28 (R : Type) (stk : R) (args : List AV) (ret : AV → List AObj → R) : R :=
  match args with
  | [.ro (.bytes x), .ro (.bytes y)] => ret (.bool (eqS x y)) []
  | _ => stk

def go25 (R : Type) (stk : R) (args : List AV) (ret : AV → List AObj → R) : R :=
  match args with
  | [.ro (.ints .i64 x)] => ret (.bool (x.all inM)) []
  | _ => stk

def go26 (R : Type) (stk : R) (args : List AV) (ret : AV → List AObj → R) : R :=
  match args with
  | [.int .i64 n] => ret (.bool (inM n)) []
  | _ => stk

def go10 (R : Type) (stk : R) (args : List AV) (ret : AV → List AObj → R) : R :=
  match args with
  | [.int .i64 n] => ret (.int .i64 n) []
  | _ => stk

def go11 (R : Type) (stk : R) (args : List AV) (ret : AV → List AObj → R) : R :=
  match args with
  | [.int .i64 n] => ret (.str (nameOf n)) []
  | _ => stk

def go8 (R : Type) (stk : R) (args : List AV) (ret : AV → List AObj → R) : R :=
  match args with
  | [] => ret (.own 0) [.arr 9 (.rows 1 (nameTs.map fun s => [.str s]))]
  | _ => stk

def go13 (R : Type) (stk : R) (args : List AV) (ret : AV → List AObj → R) : R :=
  match args with
  | [.agg [.int .i64 k, .int .i64 t, .int .i64 y, .int .i64 p, .ro (.ints .i64 w), .ro (.bytes a), .ro (.bytes b)]] => ret (.bool (longN (⟨k, t, y, p, w, a, b⟩ : NoteV))) []
  | _ => stk

def tt22 : Tab := [(0, ty0), (3, ty3), (4, ty4), (24, ty24)]
theorem tt22_ok : TabOk Try.prog tt22 := tabOk_of_all ⟨ty0_ok, ty3_ok, ty4_ok, ty24_ok, trivial⟩
def c22 (F : Nat) : Cfg := ⟨tt22, [], F, [(0, ⟨[0, 1, 5], []⟩)], [], 0⟩
noncomputable def f22_0 (F k : Nat) (x0 : List Int) (x1 : List Int) (x5 : Int) : Res := aloop (c22 F) Try.f22 0 [] k (St.mk [AV.ro (Pay.ints IntKind.i64 x0), AV.ro (Pay.ints IntKind.i64 x1), AV.top, AV.top, AV.top, AV.int IntKind.i64 x5, AV.top, AV.top, AV.top, AV.top, AV.top, AV.top, AV.top, AV.top, AV.top, AV.top, AV.top, AV.top, AV.top, AV.top, AV.top, AV.top, AV.top, AV.top, AV.top, AV.top] [])
theorem f22_eq (F : Nat) (a0 : List Int) (a1 : List Int) : afun (c22 F) Try.f22 [AV.ro (Pay.ints IntKind.i64 a0), AV.ro (Pay.ints IntKind.i64 a1)] [] =
  bif !eqI ↑a0.length ↑a1.length then
    .ret (AV.bool false) []
  else
    f22_0 F F a0 a1 0 := by kernel_rfl
theorem f22_0_eq (F k : Nat) (x0 : List Int) (x1 : List Int) (x5 : Int) : f22_0 F (k + 1) x0 x1 x5 =
  bif ltI x5 ↑x0.length then
    bif inB x5 x0.length then
      bif inB x5 x1.length then
        bif !eqI (x0.getD x5.toNat 0) (x1.getD x5.toNat 0) then
          .ret (AV.bool false) []
        else
          f22_0 F k x0 x1 (IntKind.i64.wrap (x5 + 1))
      else
        .stuck
    else
      .stuck
  else
    .ret (AV.bool true) [] := by kernel_rfl


def tt27 : Tab := [(0, ty0), (3, ty3), (4, ty4), (24, ty24)]
theorem tt27_ok : TabOk Try.prog tt27 := tabOk_of_all ⟨ty0_ok, ty3_ok, ty4_ok, ty24_ok, trivial⟩
def c27 (F : Nat) : Cfg := ⟨tt27, [], F, [(0, ⟨[0, 1, 12, 13], []⟩)], [], 0⟩
noncomputable def f27_0 (F k : Nat) (x0 : List Int) (x1 : List Int) (x12 : Int) (x13 : Int) : Res := aloop (c27 F) Try.f27 0 [] k (St.mk [AV.ro (Pay.ints IntKind.i64 x0), AV.ro (Pay.ints IntKind.i64 x1), AV.top, AV.top, AV.top, AV.top, AV.top, AV.top, AV.top, AV.top, AV.top, AV.top, AV.int IntKind.i64 x12, AV.int IntKind.i64 x13, AV.top, AV.top, AV.top, AV.top, AV.top, AV.top, AV.top, AV.top, AV.top, AV.top, AV.top, AV.top] [])
theorem f27_eq (F : Nat) (a0 : List Int) (a1 : List Int) : afun (c27 F) Try.f27 [AV.ro (Pay.ints IntKind.i64 a0), AV.ro (Pay.ints IntKind.i64 a1)] [] =
  bif !eqI ↑a0.length ↑a1.length then
    .ret (AV.bool false) []
  else
    f27_0 F F a0 a1 ↑a0.length 0 := by kernel_rfl
theorem f27_0_eq (F k : Nat) (x0 : List Int) (x1 : List Int) (x12 : Int) (x13 : Int) : f27_0 F (k + 1) x0 x1 x12 x13 =
  bif ltI x13 x12 then
    bif inB x13 x0.length then
      bif inB x13 x1.length then
        bif !eqI (x0.getD x13.toNat 0) (x1.getD x13.toNat 0) then
          .ret (AV.bool false) []
        else
          f27_0 F k x0 x1 x12 (IntKind.i64.wrap (x13 + 1))
      else
        .stuck
    else
      .stuck
  else
    .ret (AV.bool true) [] := by kernel_rfl


def tt28 : Tab := [(4, ty4), (5, ty5), (9, ty9), (22, ty22)]
theorem tt28_ok : TabOk Try.prog tt28 := tabOk_of_all ⟨ty4_ok, ty5_ok, ty9_ok, ty22_ok, trivial⟩
def c28 (F : Nat) : Cfg := ⟨tt28, [], F, [], [], 0⟩
theorem f28_eq (F : Nat) (a0 : List UInt8) (a1 : List UInt8) : afun (c28 F) Try.f28 [AV.ro (Pay.bytes a0), AV.ro (Pay.bytes a1)] [] =
  .ret (AV.bool (eqS a0 a1)) [] := by kernel_rfl


def tt25 : Tab := [(0, ty0), (3, ty3), (4, ty4), (24, ty24)]
theorem tt25_ok : TabOk Try.prog tt25 := tabOk_of_all ⟨ty0_ok, ty3_ok, ty4_ok, ty24_ok, trivial⟩
def c25 (F : Nat) : Cfg := ⟨tt25, [], F, [(0, ⟨[5, 6, 7], []⟩)], [], 0⟩
noncomputable def f25_0 (F k : Nat) (x5 : List Int) (x6 : Int) (x7 : Int) : Res := aloop (c25 F) Try.f25 0 [] k (St.mk [AV.top, AV.top, AV.top, AV.top, AV.top, AV.ro (Pay.ints IntKind.i64 x5), AV.int IntKind.i64 x6, AV.int IntKind.i64 x7, AV.top, AV.top, AV.top, AV.top, AV.top, AV.top, AV.top, AV.top, AV.top, AV.top] [])
theorem f25_eq (F : Nat) (a0 : List Int) : afun (c25 F) Try.f25 [AV.ro (Pay.ints IntKind.i64 a0)] [] =
  f25_0 F F a0 ↑a0.length 0 := by kernel_rfl
theorem f25_0_eq (F k : Nat) (x5 : List Int) (x6 : Int) (x7 : Int) : f25_0 F (k + 1) x5 x6 x7 =
  bif ltI x7 x6 then
    bif inB x7 x5.length then
      bif ltI (x5.getD x7.toNat 0) 0 then
        .ret (AV.bool false) []
      else
        bif ltI 1073741824 (x5.getD x7.toNat 0) then
          .ret (AV.bool false) []
        else
          f25_0 F k x5 x6 (IntKind.i64.wrap (x7 + 1))
    else
      .stuck
  else
    .ret (AV.bool true) [] := by kernel_rfl


def tt26 : Tab := [(3, ty3), (4, ty4)]
theorem tt26_ok : TabOk Try.prog tt26 := tabOk_of_all ⟨ty3_ok, ty4_ok, trivial⟩
def c26 (F : Nat) : Cfg := ⟨tt26, [], F, [], [], 0⟩
theorem f26_eq (F : Nat) (a0 : Int) : afun (c26 F) Try.f26 [AV.int IntKind.i64 a0] [] =
  bif leI 0 a0 then
    .ret (AV.bool (leI a0 1073741824)) []
  else
    .ret (AV.bool false) [] := by kernel_rfl


def tt10 : Tab := [(3, ty3), (27, ty27)]
theorem tt10_ok : TabOk Try.prog tt10 := tabOk_of_all ⟨ty3_ok, ty27_ok, trivial⟩
def c10 (F : Nat) : Cfg := ⟨tt10, [], F, [], [], 0⟩
theorem f10_eq (F : Nat) (a0 : Int) : afun (c10 F) Try.f10 [AV.int IntKind.i64 a0] [] =
  .ret (AV.int IntKind.i64 a0) [] := by kernel_rfl


def tt11 : Tab := [(0, ty0), (3, ty3), (4, ty4), (9, ty9), (11, ty11), (32, ty32)]
theorem tt11_ok : TabOk Try.prog tt11 := tabOk_of_all ⟨ty0_ok, ty3_ok, ty4_ok, ty9_ok, ty11_ok, ty32_ok, trivial⟩
def c11 (F : Nat) : Cfg := ⟨tt11, [], F, [], [], 0⟩
theorem f11_eq (F : Nat) (a0 : Int) : afun (c11 F) Try.f11 [AV.int IntKind.i64 a0] [] =
  bif ltI a0 0 then
    .ret (AV.str (ByteArray.mk #[63]).data.toList) []
  else
    bif leI 11 a0 then
      .ret (AV.str (ByteArray.mk #[63]).data.toList) []
    else
      bif inB a0 (((((((((([[AV.str (ByteArray.mk #[98, 101, 97, 116]).data.toList], [AV.str ByteArray.empty.data.toList], [AV.str ByteArray.empty.data.toList], [AV.str ByteArray.empty.data.toList], [AV.str ByteArray.empty.data.toList], [AV.str ByteArray.empty.data.toList], [AV.str ByteArray.empty.data.toList], [AV.str ByteArray.empty.data.toList], [AV.str ByteArray.empty.data.toList], [AV.str ByteArray.empty.data.toList], [AV.str ByteArray.empty.data.toList]].set (1, Operand.const (Value.string (ByteArray.mk #[109, 97, 112]))).fst [AV.str (ByteArray.mk #[109, 97, 112]).data.toList]).set (2, Operand.const (Value.string (ByteArray.mk #[109, 97, 112, 112, 101, 100]))).fst [AV.str (ByteArray.mk #[109, 97, 112, 112, 101, 100]).data.toList]).set (3, Operand.const (Value.string (ByteArray.mk #[114, 101, 100, 117, 99, 101]))).fst [AV.str (ByteArray.mk #[114, 101, 100, 117, 99, 101]).data.toList]).set (4, Operand.const (Value.string (ByteArray.mk #[102, 101, 116, 99, 104]))).fst [AV.str (ByteArray.mk #[102, 101, 116, 99, 104]).data.toList]).set (5, Operand.const (Value.string (ByteArray.mk #[100, 97, 116, 97]))).fst [AV.str (ByteArray.mk #[100, 97, 116, 97]).data.toList]).set (6, Operand.const (Value.string (ByteArray.mk #[108, 111, 115, 116]))).fst [AV.str (ByteArray.mk #[108, 111, 115, 116]).data.toList]).set (7, Operand.const (Value.string (ByteArray.mk #[103, 111, 110, 101]))).fst [AV.str (ByteArray.mk #[103, 111, 110, 101]).data.toList]).set (8, Operand.const (Value.string (ByteArray.mk #[99, 111, 109, 109, 105, 116]))).fst [AV.str (ByteArray.mk #[99, 111, 109, 109, 105, 116]).data.toList]).set (9, Operand.const (Value.string (ByteArray.mk #[116, 97, 107, 101, 110]))).fst [AV.str (ByteArray.mk #[116, 97, 107, 101, 110]).data.toList]).set (10, Operand.const (Value.string (ByteArray.mk #[102, 97, 105, 108]))).fst [AV.str (ByteArray.mk #[102, 97, 105, 108]).data.toList]).length then
        bif isStr (nth ((((((((((([[AV.str (ByteArray.mk #[98, 101, 97, 116]).data.toList], [AV.str ByteArray.empty.data.toList], [AV.str ByteArray.empty.data.toList], [AV.str ByteArray.empty.data.toList], [AV.str ByteArray.empty.data.toList], [AV.str ByteArray.empty.data.toList], [AV.str ByteArray.empty.data.toList], [AV.str ByteArray.empty.data.toList], [AV.str ByteArray.empty.data.toList], [AV.str ByteArray.empty.data.toList], [AV.str ByteArray.empty.data.toList]].set (1, Operand.const (Value.string (ByteArray.mk #[109, 97, 112]))).fst [AV.str (ByteArray.mk #[109, 97, 112]).data.toList]).set (2, Operand.const (Value.string (ByteArray.mk #[109, 97, 112, 112, 101, 100]))).fst [AV.str (ByteArray.mk #[109, 97, 112, 112, 101, 100]).data.toList]).set (3, Operand.const (Value.string (ByteArray.mk #[114, 101, 100, 117, 99, 101]))).fst [AV.str (ByteArray.mk #[114, 101, 100, 117, 99, 101]).data.toList]).set (4, Operand.const (Value.string (ByteArray.mk #[102, 101, 116, 99, 104]))).fst [AV.str (ByteArray.mk #[102, 101, 116, 99, 104]).data.toList]).set (5, Operand.const (Value.string (ByteArray.mk #[100, 97, 116, 97]))).fst [AV.str (ByteArray.mk #[100, 97, 116, 97]).data.toList]).set (6, Operand.const (Value.string (ByteArray.mk #[108, 111, 115, 116]))).fst [AV.str (ByteArray.mk #[108, 111, 115, 116]).data.toList]).set (7, Operand.const (Value.string (ByteArray.mk #[103, 111, 110, 101]))).fst [AV.str (ByteArray.mk #[103, 111, 110, 101]).data.toList]).set (8, Operand.const (Value.string (ByteArray.mk #[99, 111, 109, 109, 105, 116]))).fst [AV.str (ByteArray.mk #[99, 111, 109, 109, 105, 116]).data.toList]).set (9, Operand.const (Value.string (ByteArray.mk #[116, 97, 107, 101, 110]))).fst [AV.str (ByteArray.mk #[116, 97, 107, 101, 110]).data.toList]).set (10, Operand.const (Value.string (ByteArray.mk #[102, 97, 105, 108]))).fst [AV.str (ByteArray.mk #[102, 97, 105, 108]).data.toList]).getD a0.toNat []) 0) then
          .ret (AV.str (strOf (nth ((((((((((([[AV.str (ByteArray.mk #[98, 101, 97, 116]).data.toList], [AV.str ByteArray.empty.data.toList], [AV.str ByteArray.empty.data.toList], [AV.str ByteArray.empty.data.toList], [AV.str ByteArray.empty.data.toList], [AV.str ByteArray.empty.data.toList], [AV.str ByteArray.empty.data.toList], [AV.str ByteArray.empty.data.toList], [AV.str ByteArray.empty.data.toList], [AV.str ByteArray.empty.data.toList], [AV.str ByteArray.empty.data.toList]].set (1, Operand.const (Value.string (ByteArray.mk #[109, 97, 112]))).fst [AV.str (ByteArray.mk #[109, 97, 112]).data.toList]).set (2, Operand.const (Value.string (ByteArray.mk #[109, 97, 112, 112, 101, 100]))).fst [AV.str (ByteArray.mk #[109, 97, 112, 112, 101, 100]).data.toList]).set (3, Operand.const (Value.string (ByteArray.mk #[114, 101, 100, 117, 99, 101]))).fst [AV.str (ByteArray.mk #[114, 101, 100, 117, 99, 101]).data.toList]).set (4, Operand.const (Value.string (ByteArray.mk #[102, 101, 116, 99, 104]))).fst [AV.str (ByteArray.mk #[102, 101, 116, 99, 104]).data.toList]).set (5, Operand.const (Value.string (ByteArray.mk #[100, 97, 116, 97]))).fst [AV.str (ByteArray.mk #[100, 97, 116, 97]).data.toList]).set (6, Operand.const (Value.string (ByteArray.mk #[108, 111, 115, 116]))).fst [AV.str (ByteArray.mk #[108, 111, 115, 116]).data.toList]).set (7, Operand.const (Value.string (ByteArray.mk #[103, 111, 110, 101]))).fst [AV.str (ByteArray.mk #[103, 111, 110, 101]).data.toList]).set (8, Operand.const (Value.string (ByteArray.mk #[99, 111, 109, 109, 105, 116]))).fst [AV.str (ByteArray.mk #[99, 111, 109, 109, 105, 116]).data.toList]).set (9, Operand.const (Value.string (ByteArray.mk #[116, 97, 107, 101, 110]))).fst [AV.str (ByteArray.mk #[116, 97, 107, 101, 110]).data.toList]).set (10, Operand.const (Value.string (ByteArray.mk #[102, 97, 105, 108]))).fst [AV.str (ByteArray.mk #[102, 97, 105, 108]).data.toList]).getD a0.toNat []) 0))) [AObj.arr 9 (Pay.rows 1 (((((((((([[AV.str (ByteArray.mk #[98, 101, 97, 116]).data.toList], [AV.str ByteArray.empty.data.toList], [AV.str ByteArray.empty.data.toList], [AV.str ByteArray.empty.data.toList], [AV.str ByteArray.empty.data.toList], [AV.str ByteArray.empty.data.toList], [AV.str ByteArray.empty.data.toList], [AV.str ByteArray.empty.data.toList], [AV.str ByteArray.empty.data.toList], [AV.str ByteArray.empty.data.toList], [AV.str ByteArray.empty.data.toList]].set (1, Operand.const (Value.string (ByteArray.mk #[109, 97, 112]))).fst [AV.str (ByteArray.mk #[109, 97, 112]).data.toList]).set (2, Operand.const (Value.string (ByteArray.mk #[109, 97, 112, 112, 101, 100]))).fst [AV.str (ByteArray.mk #[109, 97, 112, 112, 101, 100]).data.toList]).set (3, Operand.const (Value.string (ByteArray.mk #[114, 101, 100, 117, 99, 101]))).fst [AV.str (ByteArray.mk #[114, 101, 100, 117, 99, 101]).data.toList]).set (4, Operand.const (Value.string (ByteArray.mk #[102, 101, 116, 99, 104]))).fst [AV.str (ByteArray.mk #[102, 101, 116, 99, 104]).data.toList]).set (5, Operand.const (Value.string (ByteArray.mk #[100, 97, 116, 97]))).fst [AV.str (ByteArray.mk #[100, 97, 116, 97]).data.toList]).set (6, Operand.const (Value.string (ByteArray.mk #[108, 111, 115, 116]))).fst [AV.str (ByteArray.mk #[108, 111, 115, 116]).data.toList]).set (7, Operand.const (Value.string (ByteArray.mk #[103, 111, 110, 101]))).fst [AV.str (ByteArray.mk #[103, 111, 110, 101]).data.toList]).set (8, Operand.const (Value.string (ByteArray.mk #[99, 111, 109, 109, 105, 116]))).fst [AV.str (ByteArray.mk #[99, 111, 109, 109, 105, 116]).data.toList]).set (9, Operand.const (Value.string (ByteArray.mk #[116, 97, 107, 101, 110]))).fst [AV.str (ByteArray.mk #[116, 97, 107, 101, 110]).data.toList]).set (10, Operand.const (Value.string (ByteArray.mk #[102, 97, 105, 108]))).fst [AV.str (ByteArray.mk #[102, 97, 105, 108]).data.toList]))]
        else
          .stuck
      else
        .stuck := by kernel_rfl


def tt8 : Tab := [(0, ty0), (9, ty9), (11, ty11), (32, ty32)]
theorem tt8_ok : TabOk Try.prog tt8 := tabOk_of_all ⟨ty0_ok, ty9_ok, ty11_ok, ty32_ok, trivial⟩
def c8 (F : Nat) : Cfg := ⟨tt8, [], F, [], [], 0⟩
theorem f8_eq (F : Nat) : afun (c8 F) Try.f8 [] [] =
  .ret (AV.own 0) [AObj.arr 9 (Pay.rows 1 (((((((((([[AV.str (ByteArray.mk #[98, 101, 97, 116]).data.toList], [AV.str ByteArray.empty.data.toList], [AV.str ByteArray.empty.data.toList], [AV.str ByteArray.empty.data.toList], [AV.str ByteArray.empty.data.toList], [AV.str ByteArray.empty.data.toList], [AV.str ByteArray.empty.data.toList], [AV.str ByteArray.empty.data.toList], [AV.str ByteArray.empty.data.toList], [AV.str ByteArray.empty.data.toList], [AV.str ByteArray.empty.data.toList]].set (1, Operand.const (Value.string (ByteArray.mk #[109, 97, 112]))).fst [AV.str (ByteArray.mk #[109, 97, 112]).data.toList]).set (2, Operand.const (Value.string (ByteArray.mk #[109, 97, 112, 112, 101, 100]))).fst [AV.str (ByteArray.mk #[109, 97, 112, 112, 101, 100]).data.toList]).set (3, Operand.const (Value.string (ByteArray.mk #[114, 101, 100, 117, 99, 101]))).fst [AV.str (ByteArray.mk #[114, 101, 100, 117, 99, 101]).data.toList]).set (4, Operand.const (Value.string (ByteArray.mk #[102, 101, 116, 99, 104]))).fst [AV.str (ByteArray.mk #[102, 101, 116, 99, 104]).data.toList]).set (5, Operand.const (Value.string (ByteArray.mk #[100, 97, 116, 97]))).fst [AV.str (ByteArray.mk #[100, 97, 116, 97]).data.toList]).set (6, Operand.const (Value.string (ByteArray.mk #[108, 111, 115, 116]))).fst [AV.str (ByteArray.mk #[108, 111, 115, 116]).data.toList]).set (7, Operand.const (Value.string (ByteArray.mk #[103, 111, 110, 101]))).fst [AV.str (ByteArray.mk #[103, 111, 110, 101]).data.toList]).set (8, Operand.const (Value.string (ByteArray.mk #[99, 111, 109, 109, 105, 116]))).fst [AV.str (ByteArray.mk #[99, 111, 109, 109, 105, 116]).data.toList]).set (9, Operand.const (Value.string (ByteArray.mk #[116, 97, 107, 101, 110]))).fst [AV.str (ByteArray.mk #[116, 97, 107, 101, 110]).data.toList]).set (10, Operand.const (Value.string (ByteArray.mk #[102, 97, 105, 108]))).fst [AV.str (ByteArray.mk #[102, 97, 105, 108]).data.toList]))] := by kernel_rfl


def tt13 : Tab := [(0, ty0), (3, ty3), (4, ty4), (5, ty5), (6, ty6), (22, ty22), (24, ty24), (26, ty26)]
theorem tt13_ok : TabOk Try.prog tt13 := tabOk_of_all ⟨ty0_ok, ty3_ok, ty4_ok, ty5_ok, ty6_ok, ty22_ok, ty24_ok, ty26_ok, trivial⟩
def c13 (F : Nat) : Cfg := ⟨tt13, [], F, [], [], 0⟩
theorem f13_eq (F : Nat) (a0_0 : Int) (a0_1 : Int) (a0_2 : Int) (a0_3 : Int) (a0_4 : List Int) (a0_5 : List UInt8) (a0_6 : List UInt8) : afun (c13 F) Try.f13 [AV.agg [AV.int IntKind.i64 a0_0, AV.int IntKind.i64 a0_1, AV.int IntKind.i64 a0_2, AV.int IntKind.i64 a0_3, AV.ro (Pay.ints IntKind.i64 a0_4), AV.ro (Pay.bytes a0_5), AV.ro (Pay.bytes a0_6)]] [] =
  bif ltI 200 ↑a0_4.length then
    .ret (AV.bool true) [AObj.var 26 [AV.int IntKind.i64 a0_0, AV.int IntKind.i64 a0_1, AV.int IntKind.i64 a0_2, AV.int IntKind.i64 a0_3, AV.ro (Pay.ints IntKind.i64 a0_4), AV.ro (Pay.bytes a0_5), AV.ro (Pay.bytes a0_6)]]
  else
    bif ltI 1000 ↑a0_5.length then
      .ret (AV.bool true) [AObj.var 26 [AV.int IntKind.i64 a0_0, AV.int IntKind.i64 a0_1, AV.int IntKind.i64 a0_2, AV.int IntKind.i64 a0_3, AV.ro (Pay.ints IntKind.i64 a0_4), AV.ro (Pay.bytes a0_5), AV.ro (Pay.bytes a0_6)]]
    else
      .ret (AV.bool (ltI 1000 ↑a0_6.length)) [AObj.var 26 [AV.int IntKind.i64 a0_0, AV.int IntKind.i64 a0_1, AV.int IntKind.i64 a0_2, AV.int IntKind.i64 a0_3, AV.ro (Pay.ints IntKind.i64 a0_4), AV.ro (Pay.bytes a0_5), AV.ro (Pay.bytes a0_6)]] := by kernel_rfl


theorem ints_cmp {x y : List Int} {j : Nat} (h : x.length = y.length) (h0 : j < x.length) : (x.drop j = y.drop j) ↔ (x.getD j 0 = y.getD j 0 ∧ x.drop (j + 1) = y.drop (j + 1)) := by
  rw [drop_getD' x j 0 h0, drop_getD' y j 0 (by omega)]
  simp
theorem f22_run (F : Nat) (x y : List Int) (h : x.length = y.length) (hm : x.length ≤ 9223372036854775807) : ∀ (d k j : Nat), j + d = x.length → d < k → f22_0 F k x y j = .ret (.bool (decide (x.drop j = y.drop j))) []
  | 0, k + 1, j, h1, h2 => by
    rw [f22_0_eq, bif_neg (by rw [ltI_iff]; omega), List.drop_eq_nil_of_le (by omega), List.drop_eq_nil_of_le (by omega)]; rfl
  | d + 1, k + 1, j, h1, h2 => by
    rw [f22_0_eq, bif_pos (by rw [ltI_iff]; omega), bif_pos (by rw [inB_iff]; omega), bif_pos (by rw [inB_iff]; omega), wrap64 (n := (j : Int) + 1) (by omega) (by omega), show (j : Int) + 1 = ((j + 1 : Nat) : Int) by omega,
      f22_run F x y h hm d k (j + 1) (by omega) (by omega)]
    have := ints_cmp h (j := j) (by omega)
    rw [Int.toNat_natCast]
    by_cases hh : x.getD j 0 = y.getD j 0
    · rw [eqI_iff.2 hh, Bool.not_true, cond_false]
      congr 2
      rw [decide_eq_decide, this]; exact ⟨fun e => ⟨hh, e⟩, fun e => e.2⟩
    · rw [show eqI (x.getD j 0) (y.getD j 0) = false from Bool.eq_false_iff.2 fun e => hh (eqI_iff.1 e), Bool.not_false, cond_true]
      congr 2
      rw [eq_comm, decide_eq_false_iff_not, this]; exact fun e => hh e.1
theorem f27_run (F : Nat) (x y : List Int) (h : x.length = y.length) (hm : x.length ≤ 9223372036854775807) : ∀ (d k j : Nat), j + d = x.length → d < k → f27_0 F k x y x.length j = .ret (.bool (decide (x.drop j = y.drop j))) []
  | 0, k + 1, j, h1, h2 => by
    rw [f27_0_eq, bif_neg (by rw [ltI_iff]; omega), List.drop_eq_nil_of_le (by omega), List.drop_eq_nil_of_le (by omega)]; rfl
  | d + 1, k + 1, j, h1, h2 => by
    rw [f27_0_eq, bif_pos (by rw [ltI_iff]; omega), bif_pos (by rw [inB_iff]; omega), bif_pos (by rw [inB_iff]; omega), wrap64 (n := (j : Int) + 1) (by omega) (by omega), show (j : Int) + 1 = ((j + 1 : Nat) : Int) by omega,
      f27_run F x y h hm d k (j + 1) (by omega) (by omega)]
    have := ints_cmp h (j := j) (by omega)
    rw [Int.toNat_natCast]
    by_cases hh : x.getD j 0 = y.getD j 0
    · rw [eqI_iff.2 hh, Bool.not_true, cond_false]
      congr 2
      rw [decide_eq_decide, this]; exact ⟨fun e => ⟨hh, e⟩, fun e => e.2⟩
    · rw [show eqI (x.getD j 0) (y.getD j 0) = false from Bool.eq_false_iff.2 fun e => hh (eqI_iff.1 e), Bool.not_false, cond_true]
      congr 2
      rw [eq_comm, decide_eq_false_iff_not, this]; exact fun e => hh e.1
theorem f25_run (F : Nat) (x : List Int) (hm : x.length ≤ 9223372036854775807) : ∀ (d k j : Nat), j + d = x.length → d < k → f25_0 F k x x.length j = .ret (.bool ((x.drop j).all inM)) []
  | 0, k + 1, j, h1, h2 => by
    rw [f25_0_eq, bif_neg (by rw [ltI_iff]; omega), List.drop_eq_nil_of_le (by omega)]; rfl
  | d + 1, k + 1, j, h1, h2 => by
    rw [f25_0_eq, bif_pos (by rw [ltI_iff]; omega), bif_pos (by rw [inB_iff]; omega), wrap64 (n := (j : Int) + 1) (by omega) (by omega), show (j : Int) + 1 = ((j + 1 : Nat) : Int) by omega,
      f25_run F x hm d k (j + 1) (by omega) (by omega), drop_getD' x j 0 (by omega), List.all_cons, Int.toNat_natCast]
    generalize x.getD j 0 = n
    rw [bif_ltI, bif_ltI]
    by_cases h3 : n < 0
    · rw [if_pos h3, show inM n = false from Bool.eq_false_iff.2 fun e => by have := inM_iff.1 e; omega]; rfl
    rw [if_neg h3]
    by_cases h4 : 1073741824 < n
    · rw [if_pos h4, show inM n = false from Bool.eq_false_iff.2 fun e => by have := inM_iff.1 e; omega]; rfl
    rw [if_neg h4, show inM n = true from inM_iff.2 (by omega), Bool.true_and]
theorem int_rows {k : IntKind} {p : List Int} {l : List AV} (h : Real (.ro (.ints k p) :: l)) : p.length ≤ maxLen := by
  obtain ⟨w, M, vs, h⟩ := h
  cases h with | cons h _ =>
  cases h with
  | roN h0 => have : p.length = 0 := h0; rw [this]; exact Nat.zero_le _
  | ro _ _ _ _ _ _ _ hcap hm => exact Nat.le_trans hcap hm

theorem n11_0 : outR (afun (c11 rounds) Try.f11 [.int .i64 0] []) = some (.str (nameOf 0), []) := by kernel_rfl
theorem n11_1 : outR (afun (c11 rounds) Try.f11 [.int .i64 1] []) = some (.str (nameOf 1), []) := by kernel_rfl
theorem n11_2 : outR (afun (c11 rounds) Try.f11 [.int .i64 2] []) = some (.str (nameOf 2), []) := by kernel_rfl
theorem n11_3 : outR (afun (c11 rounds) Try.f11 [.int .i64 3] []) = some (.str (nameOf 3), []) := by kernel_rfl
theorem n11_4 : outR (afun (c11 rounds) Try.f11 [.int .i64 4] []) = some (.str (nameOf 4), []) := by kernel_rfl
theorem n11_5 : outR (afun (c11 rounds) Try.f11 [.int .i64 5] []) = some (.str (nameOf 5), []) := by kernel_rfl
theorem n11_6 : outR (afun (c11 rounds) Try.f11 [.int .i64 6] []) = some (.str (nameOf 6), []) := by kernel_rfl
theorem n11_7 : outR (afun (c11 rounds) Try.f11 [.int .i64 7] []) = some (.str (nameOf 7), []) := by kernel_rfl
theorem n11_8 : outR (afun (c11 rounds) Try.f11 [.int .i64 8] []) = some (.str (nameOf 8), []) := by kernel_rfl
theorem n11_9 : outR (afun (c11 rounds) Try.f11 [.int .i64 9] []) = some (.str (nameOf 9), []) := by kernel_rfl
theorem n11_10 : outR (afun (c11 rounds) Try.f11 [.int .i64 10] []) = some (.str (nameOf 10), []) := by kernel_rfl
theorem ok22 : PureOk Try.prog 22 go22 := by
  refine pureOk_of (c22 rounds) tt22_ok .nil follows rfl Try.func22 (by kernel_rfl) (by kernel_rfl) ?_ ?_
  · intro R stk args ret
    unfold go22
    split
    · rfl
    · rfl
  · intro args r objs h hr
    unfold go22 at h
    split at h
    · rename_i x y
      cases h
      have hl := int_rows hr
      unfold maxLen at hl
      refine ⟨_, ?_, .same⟩
      rw [apure_out]
      by_cases he : x.length = y.length
      · rw [f22_eq, eqI_iff.2 (by rw [he]), Bool.not_true, cond_false, show (0 : Int) = ((0 : Nat) : Int) from rfl, f22_run _ _ _ he (by omega) x.length _ 0 (by omega) (by unfold rounds; omega)]; rfl
      · rw [f22_eq, show eqI (x.length : Int) y.length = false from Bool.eq_false_iff.2 fun e => he (by have := eqI_iff.1 e; omega), show decide (x = y) = false from decide_eq_false fun e => he (by rw [e])]; rfl
    · cases h

theorem ok27 : PureOk Try.prog 27 go22 := by
  refine pureOk_of (c27 rounds) tt27_ok .nil follows rfl Try.func27 (by kernel_rfl) (by kernel_rfl) ?_ ?_
  · intro R stk args ret
    unfold go22
    split
    · rfl
    · rfl
  · intro args r objs h hr
    unfold go22 at h
    split at h
    · rename_i x y
      cases h
      have hl := int_rows hr
      unfold maxLen at hl
      refine ⟨_, ?_, .same⟩
      rw [apure_out]
      by_cases he : x.length = y.length
      · rw [f27_eq, eqI_iff.2 (by rw [he]), Bool.not_true, cond_false, show (0 : Int) = ((0 : Nat) : Int) from rfl, f27_run _ _ _ he (by omega) x.length _ 0 (by omega) (by unfold rounds; omega)]; rfl
      · rw [f27_eq, show eqI (x.length : Int) y.length = false from Bool.eq_false_iff.2 fun e => he (by have := eqI_iff.1 e; omega), show decide (x = y) = false from decide_eq_false fun e => he (by rw [e])]; rfl
    · cases h

theorem ok28 : PureOk Try.prog 28 go28 := by
  refine pureOk_of (c28 rounds) tt28_ok .nil follows rfl Try.func28 (by kernel_rfl) (by kernel_rfl) ?_ ?_
  · intro R stk args ret
    unfold go28
    split
    · rfl
    · rfl
  · intro args r objs h hr
    unfold go28 at h
    split at h
    · rename_i x y
      cases h
      refine ⟨_, ?_, .same⟩
      rw [apure_out]
      rw [f28_eq]
      rfl
    · cases h

theorem ok25 : PureOk Try.prog 25 go25 := by
  refine pureOk_of (c25 rounds) tt25_ok .nil follows rfl Try.func25 (by kernel_rfl) (by kernel_rfl) ?_ ?_
  · intro R stk args ret
    unfold go25
    split
    · rfl
    · rfl
  · intro args r objs h hr
    unfold go25 at h
    split at h
    · rename_i x
      cases h
      have hl := int_rows hr
      unfold maxLen at hl
      refine ⟨_, ?_, .same⟩
      rw [apure_out]
      rw [f25_eq, show (0 : Int) = ((0 : Nat) : Int) from rfl, f25_run _ _ (by omega) x.length _ 0 (by omega) (by unfold rounds; omega)]
      rfl
    · cases h

theorem ok26 : PureOk Try.prog 26 go26 := by
  refine pureOk_of (c26 rounds) tt26_ok .nil follows rfl Try.func26 (by kernel_rfl) (by kernel_rfl) ?_ ?_
  · intro R stk args ret
    unfold go26
    split
    · rfl
    · rfl
  · intro args r objs h hr
    unfold go26 at h
    split at h
    · rename_i n
      cases h
      refine ⟨_, ?_, .same⟩
      rw [apure_out]
      rw [f26_eq]
      unfold inM
      cases leI 0 n <;> rfl
    · cases h

theorem ok10 : PureOk Try.prog 10 go10 := by
  refine pureOk_of (c10 rounds) tt10_ok .nil follows rfl Try.func10 (by kernel_rfl) (by kernel_rfl) ?_ ?_
  · intro R stk args ret
    unfold go10
    split
    · rfl
    · rfl
  · intro args r objs h hr
    unfold go10 at h
    split at h
    · rename_i n
      cases h
      refine ⟨_, ?_, .same⟩
      rw [apure_out]
      rw [f10_eq]
      rfl
    · cases h

theorem ok8 : PureOk Try.prog 8 go8 := by
  refine pureOk_of (c8 rounds) tt8_ok .nil follows rfl Try.func8 (by kernel_rfl) (by kernel_rfl) ?_ ?_
  · intro R stk args ret
    unfold go8
    split
    · rfl
    · rfl
  · intro args r objs h hr
    unfold go8 at h
    split at h
    · skip
      cases h
      refine ⟨_, ?_, .same⟩
      rw [apure_out]
      kernel_rfl
    · cases h

theorem ok11 : PureOk Try.prog 11 go11 := by
  refine pureOk_of (c11 rounds) tt11_ok .nil follows rfl Try.func11 (by kernel_rfl) (by kernel_rfl) ?_ ?_
  · intro R stk args ret
    unfold go11
    split
    · rfl
    · rfl
  · intro args r objs h hr
    unfold go11 at h
    split at h
    · rename_i n
      cases h
      refine ⟨_, ?_, .same⟩
      rw [apure_out]
      by_cases h : 0 ≤ n ∧ n < 11
      · have : n = 0 ∨ n = 1 ∨ n = 2 ∨ n = 3 ∨ n = 4 ∨ n = 5 ∨ n = 6 ∨ n = 7 ∨ n = 8 ∨ n = 9 ∨ n = 10 := by omega
        rcases this with rfl | rfl | rfl | rfl | rfl | rfl | rfl | rfl | rfl | rfl | rfl
        · exact n11_0
        · exact n11_1
        · exact n11_2
        · exact n11_3
        · exact n11_4
        · exact n11_5
        · exact n11_6
        · exact n11_7
        · exact n11_8
        · exact n11_9
        · exact n11_10
      · rw [f11_eq, bif_ltI, bif_leI]
        unfold nameOf
        rw [if_neg h]
        by_cases h0 : n < 0
        · rw [if_pos h0]; rfl
        · rw [if_neg h0, if_pos (by omega)]; rfl
    · cases h

theorem ok13 : PureOk Try.prog 13 go13 := by
  refine pureOk_of (c13 rounds) tt13_ok .nil follows rfl Try.func13 (by kernel_rfl) (by kernel_rfl) ?_ ?_
  · intro R stk args ret
    unfold go13
    split
    · rfl
    · rfl
  · intro args r objs h hr
    unfold go13 at h
    split at h
    · rename_i k t y p w a b
      cases h
      refine ⟨_, ?_, .same⟩
      rw [apure_out]
      rw [f13_eq]
      unfold longN
      cases ltI 200 (w.length : Int) <;> cases ltI 1000 (a.length : Int) <;> rfl
    · cases h

end Go.Proofs.YtjdojmjkldpgnaaG
