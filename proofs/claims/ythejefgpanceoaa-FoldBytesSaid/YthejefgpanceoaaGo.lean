/- A part of the proof: plain laws, and what functions of the given program come to; no condition. -/
import Derived.Test.YthejefgpanceoaaGn
namespace Go.Proofs.YthejefgpanceoaaG
open Go Go.Proofs.YthejefgpanceoaaGm
set_option maxRecDepth 100000

def tt100 : Tab := [(3, ty3), (4, ty4)]
theorem tt100_ok : TabOk Try.prog tt100 := tabOk_of_all ⟨ty3_ok, ty4_ok, trivial⟩
def c100 (F : Nat) : Cfg := ⟨tt100, [], F, [], [], 0⟩
theorem f100_eq (F : Nat) (a0 : Int) : afun (c100 F) Try.f100 [AV.int IntKind.i64 a0] [] =
  .ret (AV.bool !eqI a0 a0) [] := by kernel_rfl


def tt86 : Tab := [(3, ty3), (4, ty4)]
theorem tt86_ok : TabOk Try.prog tt86 := tabOk_of_all ⟨ty3_ok, ty4_ok, trivial⟩
def c86 (F : Nat) : Cfg := ⟨tt86, [(100, .pure go100)], F, [], [], 0⟩
theorem f86_eq (F : Nat) (a0 : Int) (a1 : Int) : afun (c86 F) Try.f86 [AV.int IntKind.i64 a0, AV.int IntKind.i64 a1] [] =
  bif ltI a0 a1 then
    .ret (AV.int IntKind.i64 (-1)) []
  else
    bif ltI a1 a0 then
      .ret (AV.int IntKind.i64 1) []
    else
      .ret (AV.int IntKind.i64 0) [] := by kernel_rfl


def tt101 : Tab := [(3, ty3), (9, ty9)]
theorem tt101_ok : TabOk Try.prog tt101 := tabOk_of_all ⟨ty3_ok, ty9_ok, trivial⟩
def c101 (F : Nat) : Cfg := ⟨tt101, [(108, .pure go108)], F, [], [], 0⟩
theorem f101_eq (F : Nat) (a0 : List UInt8) (a1 : List UInt8) : afun (c101 F) Try.f101 [AV.str a0, AV.str a1] [] =
  .ret (AV.int IntKind.i64 (cmpB a0 a1)) [] := by kernel_rfl


def tt87 : Tab := [(3, ty3), (9, ty9)]
theorem tt87_ok : TabOk Try.prog tt87 := tabOk_of_all ⟨ty3_ok, ty9_ok, trivial⟩
def c87 (F : Nat) : Cfg := ⟨tt87, [(101, .pure go108)], F, [], [], 0⟩
theorem f87_eq (F : Nat) (a0 : List UInt8) (a1 : List UInt8) : afun (c87 F) Try.f87 [AV.str a0, AV.str a1] [] =
  .ret (AV.int IntKind.i64 (cmpB a0 a1)) [] := by kernel_rfl


def tt67 : Tab := [(0, ty0), (1, ty1), (2, ty2), (3, ty3), (4, ty4), (5, ty5), (9, ty9), (26, ty26)]
theorem tt67_ok : TabOk Try.prog tt67 := tabOk_of_all ⟨ty0_ok, ty1_ok, ty2_ok, ty3_ok, ty4_ok, ty5_ok, ty9_ok, ty26_ok, trivial⟩
def c67 (F : Nat) : Cfg := ⟨tt67, [(86, .pure go86), (87, .pure go108)], F, [], [], 0⟩
theorem f67_eq (F : Nat) (a0_0 : Int) (a0_1 : Int) (a0_2 : List UInt8) (a1_0 : Int) (a1_1 : Int) (a1_2 : List UInt8) : afun (c67 F) Try.f67 [AV.agg [AV.int IntKind.u8 a0_0, AV.int IntKind.i64 a0_1, AV.str a0_2], AV.agg [AV.int IntKind.u8 a1_0, AV.int IntKind.i64 a1_1, AV.str a1_2]] [] =
  bif eqI a0_0 0 then
    bif eqI a1_0 0 then
      .ret (AV.int IntKind.i64 (cmpI a0_1 a1_1)) [AObj.var 26 [AV.int IntKind.u8 a0_0, AV.int IntKind.i64 a0_1, AV.str a0_2], AObj.var 26 [AV.int IntKind.u8 a1_0, AV.int IntKind.i64 a1_1, AV.str a1_2]]
    else
      bif eqI a0_0 0 then
        .ret (AV.int IntKind.i64 (-1)) [AObj.var 26 [AV.int IntKind.u8 a0_0, AV.int IntKind.i64 a0_1, AV.str a0_2], AObj.var 26 [AV.int IntKind.u8 a1_0, AV.int IntKind.i64 a1_1, AV.str a1_2]]
      else
        bif eqI a1_0 0 then
          .ret (AV.int IntKind.i64 1) [AObj.var 26 [AV.int IntKind.u8 a0_0, AV.int IntKind.i64 a0_1, AV.str a0_2], AObj.var 26 [AV.int IntKind.u8 a1_0, AV.int IntKind.i64 a1_1, AV.str a1_2]]
        else
          .ret (AV.int IntKind.i64 (cmpB a0_2 a1_2)) [AObj.var 26 [AV.int IntKind.u8 a0_0, AV.int IntKind.i64 a0_1, AV.str a0_2], AObj.var 26 [AV.int IntKind.u8 a1_0, AV.int IntKind.i64 a1_1, AV.str a1_2]]
  else
    bif eqI a0_0 0 then
      .ret (AV.int IntKind.i64 (-1)) [AObj.var 26 [AV.int IntKind.u8 a0_0, AV.int IntKind.i64 a0_1, AV.str a0_2], AObj.var 26 [AV.int IntKind.u8 a1_0, AV.int IntKind.i64 a1_1, AV.str a1_2]]
    else
      bif eqI a1_0 0 then
        .ret (AV.int IntKind.i64 1) [AObj.var 26 [AV.int IntKind.u8 a0_0, AV.int IntKind.i64 a0_1, AV.str a0_2], AObj.var 26 [AV.int IntKind.u8 a1_0, AV.int IntKind.i64 a1_1, AV.str a1_2]]
      else
        .ret (AV.int IntKind.i64 (cmpB a0_2 a1_2)) [AObj.var 26 [AV.int IntKind.u8 a0_0, AV.int IntKind.i64 a0_1, AV.str a0_2], AObj.var 26 [AV.int IntKind.u8 a1_0, AV.int IntKind.i64 a1_1, AV.str a1_2]] := by kernel_rfl


def tt68 : Tab := [(3, ty3), (4, ty4), (5, ty5), (9, ty9)]
theorem tt68_ok : TabOk Try.prog tt68 := tabOk_of_all ⟨ty3_ok, ty4_ok, ty5_ok, ty9_ok, trivial⟩
def c68 (F : Nat) : Cfg := ⟨tt68, [], F, [(0, ⟨[0, 1, 5], []⟩)], [], 0⟩
noncomputable def f68_0 (F k : Nat) (x0 : List UInt8) (x1 : List UInt8) (x5 : Int) : Res := aloop (c68 F) Try.f68 0 [] k (St.mk [AV.str x0, AV.str x1, AV.top, AV.top, AV.top, AV.int IntKind.i64 x5, AV.top, AV.top, AV.top, AV.top, AV.top, AV.top, AV.top, AV.top, AV.top, AV.top, AV.top, AV.top, AV.top, AV.top, AV.top, AV.top, AV.top, AV.top, AV.top, AV.top, AV.top, AV.top, AV.top, AV.top, AV.top, AV.top, AV.top, AV.top, AV.top, AV.top, AV.top] [])
theorem f68_eq (F : Nat) (a0 : List UInt8) (a1 : List UInt8) : afun (c68 F) Try.f68 [AV.str a0, AV.str a1] [] =
  f68_0 F F a0 a1 0 := by kernel_rfl
theorem f68_0_eq (F k : Nat) (x0 : List UInt8) (x1 : List UInt8) (x5 : Int) : f68_0 F (k + 1) x0 x1 x5 =
  bif ltI x5 ↑x0.length then
    bif ltI x5 ↑x1.length then
      bif inB x5 x0.length then
        bif inB x5 x1.length then
          bif !eqI ↑(x0.getD x5.toNat 0).toNat ↑(x1.getD x5.toNat 0).toNat then
            bif inB x5 x0.length then
              bif inB x5 x1.length then
                .ret (AV.bool (ltI ↑(x0.getD x5.toNat 0).toNat ↑(x1.getD x5.toNat 0).toNat)) []
              else
                .stuck
            else
              .stuck
          else
            f68_0 F k x0 x1 (IntKind.i64.wrap (x5 + 1))
        else
          .stuck
      else
        .stuck
    else
      .ret (AV.bool (ltI ↑x0.length ↑x1.length)) []
  else
    .ret (AV.bool (ltI ↑x0.length ↑x1.length)) [] := by kernel_rfl


def tt42 : Tab := [(0, ty0), (1, ty1), (2, ty2), (3, ty3), (4, ty4), (5, ty5), (9, ty9), (26, ty26)]
theorem tt42_ok : TabOk Try.prog tt42 := tabOk_of_all ⟨ty0_ok, ty1_ok, ty2_ok, ty3_ok, ty4_ok, ty5_ok, ty9_ok, ty26_ok, trivial⟩
def c42 (F : Nat) : Cfg := ⟨tt42, [(68, .pure go68)], F, [], [], 0⟩
theorem f42_eq (F : Nat) (a0_0 : Int) (a0_1 : Int) (a0_2 : List UInt8) (a1_0 : Int) (a1_1 : Int) (a1_2 : List UInt8) : afun (c42 F) Try.f42 [AV.agg [AV.int IntKind.u8 a0_0, AV.int IntKind.i64 a0_1, AV.str a0_2], AV.agg [AV.int IntKind.u8 a1_0, AV.int IntKind.i64 a1_1, AV.str a1_2]] [] =
  bif eqI a0_0 0 then
    bif eqI a1_0 0 then
      bif ltI a0_1 a1_1 then
        .ret (AV.int IntKind.i64 (-1)) [AObj.var 26 [AV.int IntKind.u8 a0_0, AV.int IntKind.i64 a0_1, AV.str a0_2], AObj.var 26 [AV.int IntKind.u8 a1_0, AV.int IntKind.i64 a1_1, AV.str a1_2]]
      else
        bif ltI a1_1 a0_1 then
          .ret (AV.int IntKind.i64 1) [AObj.var 26 [AV.int IntKind.u8 a0_0, AV.int IntKind.i64 a0_1, AV.str a0_2], AObj.var 26 [AV.int IntKind.u8 a1_0, AV.int IntKind.i64 a1_1, AV.str a1_2]]
        else
          .ret (AV.int IntKind.i64 0) [AObj.var 26 [AV.int IntKind.u8 a0_0, AV.int IntKind.i64 a0_1, AV.str a0_2], AObj.var 26 [AV.int IntKind.u8 a1_0, AV.int IntKind.i64 a1_1, AV.str a1_2]]
    else
      bif eqI a0_0 0 then
        .ret (AV.int IntKind.i64 (-1)) [AObj.var 26 [AV.int IntKind.u8 a0_0, AV.int IntKind.i64 a0_1, AV.str a0_2], AObj.var 26 [AV.int IntKind.u8 a1_0, AV.int IntKind.i64 a1_1, AV.str a1_2]]
      else
        bif eqI a1_0 0 then
          .ret (AV.int IntKind.i64 1) [AObj.var 26 [AV.int IntKind.u8 a0_0, AV.int IntKind.i64 a0_1, AV.str a0_2], AObj.var 26 [AV.int IntKind.u8 a1_0, AV.int IntKind.i64 a1_1, AV.str a1_2]]
        else
          bif lessB a0_2 a1_2 then
            .ret (AV.int IntKind.i64 (-1)) [AObj.var 26 [AV.int IntKind.u8 a0_0, AV.int IntKind.i64 a0_1, AV.str a0_2], AObj.var 26 [AV.int IntKind.u8 a1_0, AV.int IntKind.i64 a1_1, AV.str a1_2]]
          else
            bif eqS a0_2 a1_2 then
              .ret (AV.int IntKind.i64 0) [AObj.var 26 [AV.int IntKind.u8 a0_0, AV.int IntKind.i64 a0_1, AV.str a0_2], AObj.var 26 [AV.int IntKind.u8 a1_0, AV.int IntKind.i64 a1_1, AV.str a1_2]]
            else
              .ret (AV.int IntKind.i64 1) [AObj.var 26 [AV.int IntKind.u8 a0_0, AV.int IntKind.i64 a0_1, AV.str a0_2], AObj.var 26 [AV.int IntKind.u8 a1_0, AV.int IntKind.i64 a1_1, AV.str a1_2]]
  else
    bif eqI a0_0 0 then
      .ret (AV.int IntKind.i64 (-1)) [AObj.var 26 [AV.int IntKind.u8 a0_0, AV.int IntKind.i64 a0_1, AV.str a0_2], AObj.var 26 [AV.int IntKind.u8 a1_0, AV.int IntKind.i64 a1_1, AV.str a1_2]]
    else
      bif eqI a1_0 0 then
        .ret (AV.int IntKind.i64 1) [AObj.var 26 [AV.int IntKind.u8 a0_0, AV.int IntKind.i64 a0_1, AV.str a0_2], AObj.var 26 [AV.int IntKind.u8 a1_0, AV.int IntKind.i64 a1_1, AV.str a1_2]]
      else
        bif lessB a0_2 a1_2 then
          .ret (AV.int IntKind.i64 (-1)) [AObj.var 26 [AV.int IntKind.u8 a0_0, AV.int IntKind.i64 a0_1, AV.str a0_2], AObj.var 26 [AV.int IntKind.u8 a1_0, AV.int IntKind.i64 a1_1, AV.str a1_2]]
        else
          bif eqS a0_2 a1_2 then
            .ret (AV.int IntKind.i64 0) [AObj.var 26 [AV.int IntKind.u8 a0_0, AV.int IntKind.i64 a0_1, AV.str a0_2], AObj.var 26 [AV.int IntKind.u8 a1_0, AV.int IntKind.i64 a1_1, AV.str a1_2]]
          else
            .ret (AV.int IntKind.i64 1) [AObj.var 26 [AV.int IntKind.u8 a0_0, AV.int IntKind.i64 a0_1, AV.str a0_2], AObj.var 26 [AV.int IntKind.u8 a1_0, AV.int IntKind.i64 a1_1, AV.str a1_2]] := by kernel_rfl


def tt40 : Tab := [(0, ty0), (3, ty3), (4, ty4), (5, ty5), (9, ty9), (26, ty26)]
theorem tt40_ok : TabOk Try.prog tt40 := tabOk_of_all ⟨ty0_ok, ty3_ok, ty4_ok, ty5_ok, ty9_ok, ty26_ok, trivial⟩
def c40 (F : Nat) : Cfg := ⟨tt40, [(42, .pure go67)], F, [], [], 0⟩
theorem f40_eq (F : Nat) (a0_0 : Int) (a0_1 : Int) (a0_2 : List UInt8) (a1_0 : Int) (a1_1 : Int) (a1_2 : List UInt8) : afun (c40 F) Try.f40 [AV.agg [AV.int IntKind.u8 a0_0, AV.int IntKind.i64 a0_1, AV.str a0_2], AV.agg [AV.int IntKind.u8 a1_0, AV.int IntKind.i64 a1_1, AV.str a1_2]] [] =
  .ret (AV.bool (eqI (vOrd a0_0 a0_1 a0_2 a1_0 a1_1 a1_2) 0)) [AObj.var 26 [AV.int IntKind.u8 a0_0, AV.int IntKind.i64 a0_1, AV.str a0_2], AObj.var 26 [AV.int IntKind.u8 a1_0, AV.int IntKind.i64 a1_1, AV.str a1_2]] := by kernel_rfl


def tt43 : Tab := [(0, ty0), (3, ty3), (5, ty5), (9, ty9), (26, ty26)]
theorem tt43_ok : TabOk Try.prog tt43 := tabOk_of_all ⟨ty0_ok, ty3_ok, ty5_ok, ty9_ok, ty26_ok, trivial⟩
def c43 (F : Nat) : Cfg := ⟨tt43, [], F, [], [], 0⟩
theorem f43_eq (F : Nat) (a0 : Int) : afun (c43 F) Try.f43 [AV.int IntKind.i64 a0] [] =
  .ret (AV.agg [AV.int IntKind.u8 0, AV.int IntKind.i64 a0, AV.str []]) [AObj.var 26 [AV.int IntKind.u8 0, AV.int IntKind.i64 a0, AV.str []]] := by kernel_rfl


def tt44 : Tab := [(0, ty0), (3, ty3), (5, ty5), (9, ty9), (26, ty26)]
theorem tt44_ok : TabOk Try.prog tt44 := tabOk_of_all ⟨ty0_ok, ty3_ok, ty5_ok, ty9_ok, ty26_ok, trivial⟩
def c44 (F : Nat) : Cfg := ⟨tt44, [], F, [], [], 0⟩
theorem f44_eq (F : Nat) (a0 : List UInt8) : afun (c44 F) Try.f44 [AV.str a0] [] =
  .ret (AV.agg [AV.int IntKind.u8 1, AV.int IntKind.i64 0, AV.str a0]) [AObj.var 26 [AV.int IntKind.u8 1, AV.int IntKind.i64 0, AV.str a0]] := by kernel_rfl


def tt19 : Tab := [(0, ty0), (1, ty1), (2, ty2), (3, ty3), (4, ty4), (5, ty5), (9, ty9), (26, ty26), (28, ty28)]
theorem tt19_ok : TabOk Try.prog tt19 := tabOk_of_all ⟨ty0_ok, ty1_ok, ty2_ok, ty3_ok, ty4_ok, ty5_ok, ty9_ok, ty26_ok, ty28_ok, trivial⟩
def c19 (F : Nat) : Cfg := ⟨tt19, [(43, .pure go43), (44, .pure go44)], F, [], [], 0⟩
theorem f19_eq (F : Nat) (a0 : Int) (a1_0 : Int) (a1_1 : Int) (a1_2 : List UInt8) : afun (c19 F) Try.f19 [AV.int IntKind.i64 a0, AV.agg [AV.int IntKind.u8 a1_0, AV.int IntKind.i64 a1_1, AV.str a1_2]] [] =
  bif eqI a0 3 then
    .ret (AV.agg [AV.int IntKind.u8 0, AV.int IntKind.i64 1, AV.str [], AV.int IntKind.i64 1]) [AObj.var 26 [AV.int IntKind.u8 a1_0, AV.int IntKind.i64 a1_1, AV.str a1_2], AObj.var 28 [AV.int IntKind.u8 0, AV.int IntKind.i64 1, AV.str [], AV.int IntKind.i64 1]]
  else
    bif eqI a1_0 0 then
      .ret (AV.agg [AV.int IntKind.u8 0, AV.int IntKind.i64 a1_1, AV.str [], AV.int IntKind.i64 1]) [AObj.var 26 [AV.int IntKind.u8 a1_0, AV.int IntKind.i64 a1_1, AV.str a1_2], AObj.var 28 [AV.int IntKind.u8 0, AV.int IntKind.i64 a1_1, AV.str [], AV.int IntKind.i64 1]]
    else
      .ret (AV.agg [AV.int IntKind.u8 1, AV.int IntKind.i64 0, AV.str a1_2, AV.int IntKind.i64 1]) [AObj.var 26 [AV.int IntKind.u8 a1_0, AV.int IntKind.i64 a1_1, AV.str a1_2], AObj.var 28 [AV.int IntKind.u8 1, AV.int IntKind.i64 0, AV.str a1_2, AV.int IntKind.i64 1]] := by kernel_rfl


def tt20 : Tab := [(0, ty0), (1, ty1), (2, ty2), (3, ty3), (4, ty4), (5, ty5), (9, ty9), (26, ty26), (28, ty28)]
theorem tt20_ok : TabOk Try.prog tt20 := tabOk_of_all ⟨ty0_ok, ty1_ok, ty2_ok, ty3_ok, ty4_ok, ty5_ok, ty9_ok, ty26_ok, ty28_ok, trivial⟩
def c20 (F : Nat) : Cfg := ⟨tt20, [], F, [], [], 0⟩
theorem f20_eq (F : Nat) (a0 : Int) (a1_0 : Int) (a1_1 : Int) (a1_2 : List UInt8) : afun (c20 F) Try.f20 [AV.int IntKind.i64 a0, AV.agg [AV.int IntKind.u8 a1_0, AV.int IntKind.i64 a1_1, AV.str a1_2]] [] =
  bif eqI a0 3 then
    .ret (AV.agg [AV.int IntKind.u8 0, AV.int IntKind.i64 1, AV.str [], AV.int IntKind.i64 1]) [AObj.var 26 [AV.int IntKind.u8 a1_0, AV.int IntKind.i64 a1_1, AV.str a1_2], AObj.var 28 [AV.int IntKind.u8 0, AV.int IntKind.i64 1, AV.str [], AV.int IntKind.i64 1]]
  else
    bif eqI a1_0 0 then
      .ret (AV.agg [AV.int IntKind.u8 0, AV.int IntKind.i64 a1_1, AV.str [], AV.int IntKind.i64 1]) [AObj.var 26 [AV.int IntKind.u8 a1_0, AV.int IntKind.i64 a1_1, AV.str a1_2], AObj.var 28 [AV.int IntKind.u8 0, AV.int IntKind.i64 a1_1, AV.str [], AV.int IntKind.i64 1]]
    else
      .ret (AV.agg [AV.int IntKind.u8 1, AV.int IntKind.i64 0, AV.str a1_2, AV.int IntKind.i64 1]) [AObj.var 26 [AV.int IntKind.u8 a1_0, AV.int IntKind.i64 a1_1, AV.str a1_2], AObj.var 28 [AV.int IntKind.u8 1, AV.int IntKind.i64 0, AV.str a1_2, AV.int IntKind.i64 1]] := by kernel_rfl



theorem drop_getD {α : Type} (l : List α) (j : Nat) (d : α) (h : j < l.length) : l.drop j = l.getD j d :: l.drop (j + 1) := by
  rw [List.drop_eq_getElem_cons h, List.getD_eq_getElem?_getD, List.getElem?_eq_getElem h]; rfl

theorem ok100 : PureOk Try.prog 100 go100 := by
  refine pureOk_of (c100 rounds) tt100_ok .nil follows rfl Try.func100 (by kernel_rfl) (by kernel_rfl) ?_ ?_
  · intro R stk args k; unfold go100; split <;> rfl
  · intro args r objs h hr
    unfold go100 at h
    split at h
    · rename_i n
      cases h
      refine ⟨_, ?_, .same⟩
      unfold apure
      rw [f100_eq, eqI_iff.2 rfl]
      rfl
    · cases h

theorem ok86 : PureOk Try.prog 86 go86 := by
  refine pureOk_of (c86 rounds) tt86_ok (.cons ok100 .nil) follows rfl Try.func86 (by kernel_rfl) (by kernel_rfl) ?_ ?_
  · intro R stk args k; unfold go86; split <;> rfl
  · intro args r objs h hr
    unfold go86 at h
    split at h
    · rename_i a b
      cases h
      refine ⟨_, ?_, .same⟩
      unfold apure
      rw [f86_eq, bif_ltI, bif_ltI]
      unfold cmpI
      by_cases h1 : a < b <;> by_cases h2 : b < a <;> simp only [h1, h2, if_true, if_false] <;> rfl
    · cases h

theorem ok108 : PureOk Try.prog 108 go108 := by
  refine pureOk_ext Try.func108 (by kernel_rfl) (by kernel_rfl) (by kernel_rfl) (e := Extern.BytealgCompare.compare) (by kernel_rfl) ?_ ?_
  · intro R stk args k; unfold go108; split <;> rfl
  · intro args r objs h
    unfold go108 at h
    split at h
    · rename_i a b
      cases h
      refine ⟨rfl, ?_⟩
      intro w M cargs hc
      cases hc with | cons h1 h2 =>
      cases h2 with | cons h2 h3 =>
      cases h3
      cases h1
      cases h2
      refine ⟨_, Lib.run_compareString _ _ _, .int ?_⟩
      have key : ∀ a b : List UInt8, IntKind.i64.has (cmpB a b) := by
        intro a b
        rcases cmpB_range a b with h | h | h <;> (rw [h]; exact ⟨by decide, by decide⟩)
      exact key _ _
    · cases h

theorem ok101 : PureOk Try.prog 101 go108 := by
  refine pureOk_of (c101 rounds) tt101_ok (.cons ok108 .nil) follows rfl Try.func101 (by kernel_rfl) (by kernel_rfl) ?_ ?_
  · intro R stk args k; unfold go108; split <;> rfl
  · intro args r objs h hr
    unfold go108 at h
    split at h
    · rename_i a b
      cases h
      refine ⟨_, ?_, .same⟩
      unfold apure
      rw [f101_eq]
      rfl
    · cases h

theorem ok87 : PureOk Try.prog 87 go108 := by
  refine pureOk_of (c87 rounds) tt87_ok (.cons ok101 .nil) follows rfl Try.func87 (by kernel_rfl) (by kernel_rfl) ?_ ?_
  · intro R stk args k; unfold go108; split <;> rfl
  · intro args r objs h hr
    unfold go108 at h
    split at h
    · rename_i a b
      cases h
      refine ⟨_, ?_, .same⟩
      unfold apure
      rw [f87_eq]
      rfl
    · cases h

theorem ok67 : PureOk Try.prog 67 go67 := by
  refine pureOk_of (c67 rounds) tt67_ok (.cons ok86 (.cons ok87 .nil)) follows rfl Try.func67 (by kernel_rfl) (by kernel_rfl) ?_ ?_
  · intro R stk args k; unfold go67; split <;> rfl
  · intro args r objs h hr
    unfold go67 at h
    split at h
    · rename_i p n s q m t
      cases h
      refine ⟨_, ?_, .same⟩
      unfold apure
      rw [f67_eq]
      simp only [bif_eqI]
      unfold vOrd
      by_cases h1 : p = 0 <;> by_cases h2 : q = 0 <;> simp only [h1, h2, if_true, if_false, ite_self] <;> rfl
    · cases h

theorem lessB_drop {a b : List UInt8} {i : Nat} (h1 : i < a.length) (h2 : i < b.length) : lessB (a.drop i) (b.drop i) = (bif !eqI (a.getD i 0).toNat (b.getD i 0).toNat then ltI (a.getD i 0).toNat (b.getD i 0).toNat else lessB (a.drop (i + 1)) (b.drop (i + 1))) := by
  rw [drop_getD a i 0 h1, drop_getD b i 0 h2]
  generalize a.getD i 0 = x
  generalize b.getD i 0 = y
  show (decide (x < y) || (x == y && lessB _ _)) = _
  by_cases e : x = y
  · subst e
    rw [eqI_iff.2 rfl]
    simp [UInt8.lt_irrefl]
  · have e' : ¬ ((x.toNat : Int) = y.toNat) := fun h => e (UInt8.toNat_inj.1 (by omega))
    have e2 : eqI (x.toNat : Int) y.toNat = false := by
      cases h : eqI (x.toNat : Int) y.toNat with
      | false => rfl
      | true => exact absurd (eqI_iff.1 h) e'
    rw [e2]
    simp only [Bool.not_false, cond_true]
    have e3 : (x == y) = false := by simp [e]
    rw [e3]
    simp only [Bool.false_and, Bool.or_false]
    rw [Bool.eq_iff_iff, ltI_iff, decide_eq_true_eq, UInt8.lt_iff_toNat_lt]
    omega
theorem f68_run (F : Nat) (a b : List UInt8) (ha : a.length ≤ maxLen) : ∀ (d k i : Nat), i + d = a.length → d < k → i ≤ b.length → f68_0 F k a b i = .ret (.bool (lessB (a.drop i) (b.drop i))) []
  | 0, k + 1, i, h1, h2, h3 => by
    rw [f68_0_eq, bif_neg (by rw [ltI_iff]; omega)]
    rw [List.drop_eq_nil_of_le (by omega)]
    by_cases hb : i < b.length
    · rw [drop_getD b i 0 hb, ltI_iff.2 (by omega)]; rfl
    · rw [List.drop_eq_nil_of_le (by omega)]
      have : ltI (a.length : Int) b.length = false := by
        cases h : ltI (a.length : Int) b.length with
        | false => rfl
        | true => rw [ltI_iff] at h; omega
      rw [this]; rfl
  | d + 1, k + 1, i, h1, h2, h3 => by
    unfold maxLen at ha
    rw [f68_0_eq, bif_pos (by rw [ltI_iff]; omega)]
    by_cases hb : i < b.length
    · rw [bif_pos (by rw [ltI_iff]; omega), bif_pos (by rw [inB_iff]; omega), bif_pos (by rw [inB_iff]; omega), lessB_drop (by omega) hb, show (i : Int).toNat = i by omega]
      cases eqI ((a.getD i 0).toNat : Int) (b.getD i 0).toNat with
      | false =>
        rw [Bool.not_false, cond_true, bif_pos (by rw [inB_iff]; omega), bif_pos (by rw [inB_iff]; omega)]; rfl
      | true =>
        rw [Bool.not_true, cond_false, cond_false, wrap64 (by omega) (by omega), show (i : Int) + 1 = ((i + 1 : Nat) : Int) by omega, f68_run F a b (by unfold maxLen; omega) d k (i + 1) (by omega) (by omega) (by omega)]
    · rw [bif_neg (by rw [ltI_iff]; omega), drop_getD a i 0 (by omega), (List.drop_eq_nil_of_le (by omega) : b.drop i = [])]
      have : ltI (a.length : Int) b.length = false := by
        cases h : ltI (a.length : Int) b.length with
        | false => rfl
        | true => rw [ltI_iff] at h; omega
      rw [this]; rfl

theorem ok68 : PureOk Try.prog 68 go68 := by
  refine pureOk_of (c68 rounds) tt68_ok .nil follows rfl Try.func68 (by kernel_rfl) (by kernel_rfl) ?_ ?_
  · intro R stk args k; unfold go68; split <;> rfl
  · intro args r objs h hr
    unfold go68 at h
    split at h
    · rename_i a b
      cases h
      have ha := hr.str
      refine ⟨_, ?_, .same⟩
      unfold apure
      unfold maxLen at ha
      rw [f68_eq, show (0 : Int) = ((0 : Nat) : Int) from rfl, f68_run rounds a b (by unfold maxLen; omega) a.length rounds 0 (by omega) (by unfold rounds; omega) (by omega), List.drop_zero, List.drop_zero]
      rfl
    · cases h

theorem ok42 : PureOk Try.prog 42 go67 := by
  refine pureOk_of (c42 rounds) tt42_ok (.cons ok68 .nil) follows rfl Try.func42 (by kernel_rfl) (by kernel_rfl) ?_ ?_
  · intro R stk args k; unfold go67; split <;> rfl
  · intro args r objs h hr
    unfold go67 at h
    split at h
    · rename_i p n s q m t
      cases h
      refine ⟨_, ?_, .same⟩
      unfold apure
      rw [f42_eq]
      simp only [bif_eqI, bif_ltI, bif_eqS, lessB_iff]
      unfold vOrd cmpI
      have hz := @cmpB_zero s t
      have hrg := cmpB_range s t
      by_cases h1 : p = 0 <;> by_cases h2 : q = 0 <;> simp only [h1, h2, if_true, if_false]
      · by_cases h3 : n < m <;> by_cases h4 : m < n <;> simp only [h3, h4, if_true, if_false] <;> rfl
      · rfl
      · rfl
      · by_cases h3 : s = t
        · subst h3
          rw [cmpB_self, if_pos rfl]
          rfl
        · have h4 : cmpB s t ≠ 0 := fun h => h3 (hz h)
          rcases hrg with h | h | h
          · rw [h]; rfl
          · exact absurd h h4
          · rw [h, if_neg h3]; rfl
    · cases h

theorem ok40 : PureOk Try.prog 40 go40V := by
  refine pureOk_of (c40 rounds) tt40_ok (.cons ok42 .nil) follows rfl Try.func40 (by kernel_rfl) (by kernel_rfl) ?_ ?_
  · intro R stk args k; unfold go40V; split <;> rfl
  · intro args r objs h hr
    unfold go40V at h
    split at h
    · rename_i p n s q m t
      cases h
      refine ⟨_, ?_, .same⟩
      unfold apure
      rw [f40_eq]
      rfl
    · cases h

theorem ok43 : PureOk Try.prog 43 go43 := by
  refine pureOk_of (c43 rounds) tt43_ok .nil follows rfl Try.func43 (by kernel_rfl) (by kernel_rfl) ?_ ?_
  · intro R stk args k; unfold go43; split <;> rfl
  · intro args r objs h hr
    unfold go43 at h
    split at h
    · rename_i n
      cases h
      refine ⟨_, ?_, .same⟩
      unfold apure
      rw [f43_eq]
      rfl
    · cases h

theorem ok44 : PureOk Try.prog 44 go44 := by
  refine pureOk_of (c44 rounds) tt44_ok .nil follows rfl Try.func44 (by kernel_rfl) (by kernel_rfl) ?_ ?_
  · intro R stk args k; unfold go44; split <;> rfl
  · intro args r objs h hr
    unfold go44 at h
    split at h
    · rename_i n
      cases h
      refine ⟨_, ?_, .same⟩
      unfold apure
      rw [f44_eq]
      rfl
    · cases h

theorem ok19 : PureOk Try.prog 19 go19 := by
  refine pureOk_of (c19 rounds) tt19_ok (.cons ok43 (.cons ok44 .nil)) follows rfl Try.func19 (by kernel_rfl) (by kernel_rfl) ?_ ?_
  · intro R stk args k; unfold go19; split <;> rfl
  · intro args r objs h hr
    unfold go19 at h
    split at h
    · rename_i f p n s
      cases h
      refine ⟨_, ?_, .same⟩
      unfold apure
      rw [f19_eq]
      simp only [bif_eqI]
      unfold oneP
      by_cases h1 : f = 3
      · simp only [h1, if_true]; rfl
      · by_cases h2 : p = 0 <;> simp only [h1, h2, if_true, if_false] <;> rfl
    · cases h

theorem ok20 : PureOk Try.prog 20 go19 := by
  refine pureOk_of (c20 rounds) tt20_ok .nil follows rfl Try.func20 (by kernel_rfl) (by kernel_rfl) ?_ ?_
  · intro R stk args k; unfold go19; split <;> rfl
  · intro args r objs h hr
    unfold go19 at h
    split at h
    · rename_i f p n s
      cases h
      refine ⟨_, ?_, .same⟩
      unfold apure
      rw [f20_eq]
      simp only [bif_eqI]
      unfold oneP
      by_cases h1 : f = 3
      · simp only [h1, if_true]; rfl
      · by_cases h2 : p = 0 <;> simp only [h1, h2, if_true, if_false] <;> rfl
    · cases h

end Go.Proofs.YthejefgpanceoaaG
