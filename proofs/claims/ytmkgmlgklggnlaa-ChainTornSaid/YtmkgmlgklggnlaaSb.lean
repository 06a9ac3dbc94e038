/- A part of the proof: plain laws, and what functions of the given program come to; no condition. -/
import Derived.Test.YtmkgmlgklggnlaaSa
namespace Go.Proofs.YtmkgmlgklggnlaaG
open Go Go.Proofs.YtmkgmlgklggnlaaGm
set_option maxRecDepth 100000
set_option maxHeartbeats 0

def go25 (R : Type) (stk : R) (args : List AV) (ret : AV → List AObj → R) : R :=
  match args with
  | [.arr [.int .u32 h0, .int .u32 h1, .int .u32 h2, .int .u32 h3, .int .u32 h4, .int .u32 h5, .int .u32 h6, .int .u32 h7], .arr r] => bif Nat.beq r.length 64 && r.all (isInt .u8) then ret (Hs.av (roundH keysW ⟨h0, h1, h2, h3, h4, h5, h6, h7⟩ (r.map intOf))) [] else stk
  | _ => stk

def go26 (R : Type) (stk : R) (args : List AV) (ret : AV → List AObj → R) : R :=
  match args with
  | [.arr [.int .u32 h0, .int .u32 h1, .int .u32 h2, .int .u32 h3, .int .u32 h4, .int .u32 h5, .int .u32 h6, .int .u32 h7], .ro (.bytes p), .arr kk] => bif Nat.beq kk.length 64 && kk.all (isInt .u32) && Nat.ble 64 p.length then ret (Hs.av (roundH (kk.map intOf) ⟨h0, h1, h2, h3, h4, h5, h6, h7⟩ (bI p))) [] else stk
  | _ => stk

def tt25 : Tab := [(0, ty0), (3, ty3), (4, ty4), (5, ty5), (39, ty39), (40, ty40), (41, ty41), (44, ty44)]
theorem tt25_ok : TabOk Try.prog tt25 := tabOk_of_all ⟨ty0_ok, ty3_ok, ty4_ok, ty5_ok, ty39_ok, ty40_ok, ty41_ok, ty44_ok, trivial⟩
def c25 (F : Nat) : Cfg := ⟨tt25, [(65, .pure go65), (66, .pure go66), (67, .pure go67)], F, [(0, ⟨[2, 4, 5, 6, 7, 17], []⟩), (2, ⟨[2, 4, 7, 88], []⟩)], [], 0⟩
noncomputable def f25_0 (F k : Nat) (x17 : Int) (xh0 : Int) (xh0_1 : Int) (xh0_2 : Int) (xh0_3 : Int) (xh0_4 : Int) (xh0_5 : Int) (xh0_6 : Int) (xh0_7 : Int) (xh1 : Int) (xh1_1 : Int) (xh1_2 : Int) (xh1_3 : Int) (xh1_4 : Int) (xh1_5 : Int) (xh1_6 : Int) (xh1_7 : Int) (xh2 : List Int) (xh3 : List Int) (xh4 : Int) (xh4_1 : Int) (xh4_2 : Int) (xh4_3 : Int) (xh4_4 : Int) (xh4_5 : Int) (xh4_6 : Int) (xh4_7 : Int) : Res := aloop (c25 F) Try.f25 0 [] k (St.mk [.top, .top, AV.ptr 0 0, .top, AV.ptr 1 0, AV.ptr 2 0, AV.ptr 3 0, AV.ptr 4 0, .top, .top, .top, .top, .top, .top, .top, .top, .top, AV.int .i64 x17, .top, .top, .top, .top, .top, .top, .top, .top, .top, .top, .top, .top, .top, .top, .top, .top, .top, .top, .top, .top, .top, .top, .top, .top, .top, .top, .top, .top, .top, .top, .top, .top, .top, .top, .top, .top, .top, .top, .top, .top, .top, .top, .top, .top, .top, .top, .top, .top, .top, .top, .top, .top, .top, .top, .top, .top, .top, .top, .top, .top, .top, .top, .top, .top, .top, .top, .top, .top, .top, .top, .top, .top, .top, .top, .top, .top, .top, .top, .top, .top, .top, .top, .top] [AObj.var 40 [AV.int .u32 xh0, AV.int .u32 xh0_1, AV.int .u32 xh0_2, AV.int .u32 xh0_3, AV.int .u32 xh0_4, AV.int .u32 xh0_5, AV.int .u32 xh0_6, AV.int .u32 xh0_7], AObj.var 40 [AV.int .u32 xh1, AV.int .u32 xh1_1, AV.int .u32 xh1_2, AV.int .u32 xh1_3, AV.int .u32 xh1_4, AV.int .u32 xh1_5, AV.int .u32 xh1_6, AV.int .u32 xh1_7], AObj.vara 44 .u32 xh2, AObj.vara 44 .u32 xh3, AObj.var 40 [AV.int .u32 xh4, AV.int .u32 xh4_1, AV.int .u32 xh4_2, AV.int .u32 xh4_3, AV.int .u32 xh4_4, AV.int .u32 xh4_5, AV.int .u32 xh4_6, AV.int .u32 xh4_7]])
noncomputable def f25_2 (F k : Nat) (xh0 : Int) (xh0_1 : Int) (xh0_2 : Int) (xh0_3 : Int) (xh0_4 : Int) (xh0_5 : Int) (xh0_6 : Int) (xh0_7 : Int) (xh1 : Int) (xh1_1 : Int) (xh1_2 : Int) (xh1_3 : Int) (xh1_4 : Int) (xh1_5 : Int) (xh1_6 : Int) (xh1_7 : Int) (xh2 : Int) (xh2_1 : Int) (xh2_2 : Int) (xh2_3 : Int) (xh2_4 : Int) (xh2_5 : Int) (xh2_6 : Int) (xh2_7 : Int) : Res := aloop (c25 F) Try.f25 2 [] k (St.mk [.top, .top, AV.ptr 0 0, .top, AV.ptr 1 0, .top, .top, AV.ptr 2 0, .top, .top, .top, .top, .top, .top, .top, .top, .top, .top, .top, .top, .top, .top, .top, .top, .top, .top, .top, .top, .top, .top, .top, .top, .top, .top, .top, .top, .top, .top, .top, .top, .top, .top, .top, .top, .top, .top, .top, .top, .top, .top, .top, .top, .top, .top, .top, .top, .top, .top, .top, .top, .top, .top, .top, .top, .top, .top, .top, .top, .top, .top, .top, .top, .top, .top, .top, .top, .top, .top, .top, .top, .top, .top, .top, .top, .top, .top, .top, .top, AV.int .i64 0, .top, .top, .top, .top, .top, .top, .top, .top, .top, .top, .top, .top] [AObj.var 40 [AV.int .u32 xh0, AV.int .u32 xh0_1, AV.int .u32 xh0_2, AV.int .u32 xh0_3, AV.int .u32 xh0_4, AV.int .u32 xh0_5, AV.int .u32 xh0_6, AV.int .u32 xh0_7], AObj.var 40 [AV.int .u32 xh1, AV.int .u32 xh1_1, AV.int .u32 xh1_2, AV.int .u32 xh1_3, AV.int .u32 xh1_4, AV.int .u32 xh1_5, AV.int .u32 xh1_6, AV.int .u32 xh1_7], AObj.var 40 [AV.int .u32 xh2, AV.int .u32 xh2_1, AV.int .u32 xh2_2, AV.int .u32 xh2_3, AV.int .u32 xh2_4, AV.int .u32 xh2_5, AV.int .u32 xh2_6, AV.int .u32 xh2_7]])
noncomputable def f25_2_1 (F k : Nat) (xh0 : Int) (xh0_1 : Int) (xh0_2 : Int) (xh0_3 : Int) (xh0_4 : Int) (xh0_5 : Int) (xh0_6 : Int) (xh0_7 : Int) (xh1 : Int) (xh1_1 : Int) (xh1_2 : Int) (xh1_3 : Int) (xh1_4 : Int) (xh1_5 : Int) (xh1_6 : Int) (xh1_7 : Int) (xh2 : Int) (xh2_1 : Int) (xh2_2 : Int) (xh2_3 : Int) (xh2_4 : Int) (xh2_5 : Int) (xh2_6 : Int) (xh2_7 : Int) : Res := aloop (c25 F) Try.f25 2 [] k (St.mk [.top, .top, AV.ptr 0 0, .top, AV.ptr 1 0, .top, .top, AV.ptr 2 0, .top, .top, .top, .top, .top, .top, .top, .top, .top, .top, .top, .top, .top, .top, .top, .top, .top, .top, .top, .top, .top, .top, .top, .top, .top, .top, .top, .top, .top, .top, .top, .top, .top, .top, .top, .top, .top, .top, .top, .top, .top, .top, .top, .top, .top, .top, .top, .top, .top, .top, .top, .top, .top, .top, .top, .top, .top, .top, .top, .top, .top, .top, .top, .top, .top, .top, .top, .top, .top, .top, .top, .top, .top, .top, .top, .top, .top, .top, .top, .top, AV.int .i64 1, .top, .top, .top, .top, .top, .top, .top, .top, .top, .top, .top, .top] [AObj.var 40 [AV.int .u32 xh0, AV.int .u32 xh0_1, AV.int .u32 xh0_2, AV.int .u32 xh0_3, AV.int .u32 xh0_4, AV.int .u32 xh0_5, AV.int .u32 xh0_6, AV.int .u32 xh0_7], AObj.var 40 [AV.int .u32 xh1, AV.int .u32 xh1_1, AV.int .u32 xh1_2, AV.int .u32 xh1_3, AV.int .u32 xh1_4, AV.int .u32 xh1_5, AV.int .u32 xh1_6, AV.int .u32 xh1_7], AObj.var 40 [AV.int .u32 xh2, AV.int .u32 xh2_1, AV.int .u32 xh2_2, AV.int .u32 xh2_3, AV.int .u32 xh2_4, AV.int .u32 xh2_5, AV.int .u32 xh2_6, AV.int .u32 xh2_7]])
noncomputable def f25_2_2 (F k : Nat) (xh0 : Int) (xh0_1 : Int) (xh0_2 : Int) (xh0_3 : Int) (xh0_4 : Int) (xh0_5 : Int) (xh0_6 : Int) (xh0_7 : Int) (xh1 : Int) (xh1_1 : Int) (xh1_2 : Int) (xh1_3 : Int) (xh1_4 : Int) (xh1_5 : Int) (xh1_6 : Int) (xh1_7 : Int) (xh2 : Int) (xh2_1 : Int) (xh2_2 : Int) (xh2_3 : Int) (xh2_4 : Int) (xh2_5 : Int) (xh2_6 : Int) (xh2_7 : Int) : Res := aloop (c25 F) Try.f25 2 [] k (St.mk [.top, .top, AV.ptr 0 0, .top, AV.ptr 1 0, .top, .top, AV.ptr 2 0, .top, .top, .top, .top, .top, .top, .top, .top, .top, .top, .top, .top, .top, .top, .top, .top, .top, .top, .top, .top, .top, .top, .top, .top, .top, .top, .top, .top, .top, .top, .top, .top, .top, .top, .top, .top, .top, .top, .top, .top, .top, .top, .top, .top, .top, .top, .top, .top, .top, .top, .top, .top, .top, .top, .top, .top, .top, .top, .top, .top, .top, .top, .top, .top, .top, .top, .top, .top, .top, .top, .top, .top, .top, .top, .top, .top, .top, .top, .top, .top, AV.int .i64 2, .top, .top, .top, .top, .top, .top, .top, .top, .top, .top, .top, .top] [AObj.var 40 [AV.int .u32 xh0, AV.int .u32 xh0_1, AV.int .u32 xh0_2, AV.int .u32 xh0_3, AV.int .u32 xh0_4, AV.int .u32 xh0_5, AV.int .u32 xh0_6, AV.int .u32 xh0_7], AObj.var 40 [AV.int .u32 xh1, AV.int .u32 xh1_1, AV.int .u32 xh1_2, AV.int .u32 xh1_3, AV.int .u32 xh1_4, AV.int .u32 xh1_5, AV.int .u32 xh1_6, AV.int .u32 xh1_7], AObj.var 40 [AV.int .u32 xh2, AV.int .u32 xh2_1, AV.int .u32 xh2_2, AV.int .u32 xh2_3, AV.int .u32 xh2_4, AV.int .u32 xh2_5, AV.int .u32 xh2_6, AV.int .u32 xh2_7]])
noncomputable def f25_2_3 (F k : Nat) (xh0 : Int) (xh0_1 : Int) (xh0_2 : Int) (xh0_3 : Int) (xh0_4 : Int) (xh0_5 : Int) (xh0_6 : Int) (xh0_7 : Int) (xh1 : Int) (xh1_1 : Int) (xh1_2 : Int) (xh1_3 : Int) (xh1_4 : Int) (xh1_5 : Int) (xh1_6 : Int) (xh1_7 : Int) (xh2 : Int) (xh2_1 : Int) (xh2_2 : Int) (xh2_3 : Int) (xh2_4 : Int) (xh2_5 : Int) (xh2_6 : Int) (xh2_7 : Int) : Res := aloop (c25 F) Try.f25 2 [] k (St.mk [.top, .top, AV.ptr 0 0, .top, AV.ptr 1 0, .top, .top, AV.ptr 2 0, .top, .top, .top, .top, .top, .top, .top, .top, .top, .top, .top, .top, .top, .top, .top, .top, .top, .top, .top, .top, .top, .top, .top, .top, .top, .top, .top, .top, .top, .top, .top, .top, .top, .top, .top, .top, .top, .top, .top, .top, .top, .top, .top, .top, .top, .top, .top, .top, .top, .top, .top, .top, .top, .top, .top, .top, .top, .top, .top, .top, .top, .top, .top, .top, .top, .top, .top, .top, .top, .top, .top, .top, .top, .top, .top, .top, .top, .top, .top, .top, AV.int .i64 3, .top, .top, .top, .top, .top, .top, .top, .top, .top, .top, .top, .top] [AObj.var 40 [AV.int .u32 xh0, AV.int .u32 xh0_1, AV.int .u32 xh0_2, AV.int .u32 xh0_3, AV.int .u32 xh0_4, AV.int .u32 xh0_5, AV.int .u32 xh0_6, AV.int .u32 xh0_7], AObj.var 40 [AV.int .u32 xh1, AV.int .u32 xh1_1, AV.int .u32 xh1_2, AV.int .u32 xh1_3, AV.int .u32 xh1_4, AV.int .u32 xh1_5, AV.int .u32 xh1_6, AV.int .u32 xh1_7], AObj.var 40 [AV.int .u32 xh2, AV.int .u32 xh2_1, AV.int .u32 xh2_2, AV.int .u32 xh2_3, AV.int .u32 xh2_4, AV.int .u32 xh2_5, AV.int .u32 xh2_6, AV.int .u32 xh2_7]])
noncomputable def f25_2_4 (F k : Nat) (xh0 : Int) (xh0_1 : Int) (xh0_2 : Int) (xh0_3 : Int) (xh0_4 : Int) (xh0_5 : Int) (xh0_6 : Int) (xh0_7 : Int) (xh1 : Int) (xh1_1 : Int) (xh1_2 : Int) (xh1_3 : Int) (xh1_4 : Int) (xh1_5 : Int) (xh1_6 : Int) (xh1_7 : Int) (xh2 : Int) (xh2_1 : Int) (xh2_2 : Int) (xh2_3 : Int) (xh2_4 : Int) (xh2_5 : Int) (xh2_6 : Int) (xh2_7 : Int) : Res := aloop (c25 F) Try.f25 2 [] k (St.mk [.top, .top, AV.ptr 0 0, .top, AV.ptr 1 0, .top, .top, AV.ptr 2 0, .top, .top, .top, .top, .top, .top, .top, .top, .top, .top, .top, .top, .top, .top, .top, .top, .top, .top, .top, .top, .top, .top, .top, .top, .top, .top, .top, .top, .top, .top, .top, .top, .top, .top, .top, .top, .top, .top, .top, .top, .top, .top, .top, .top, .top, .top, .top, .top, .top, .top, .top, .top, .top, .top, .top, .top, .top, .top, .top, .top, .top, .top, .top, .top, .top, .top, .top, .top, .top, .top, .top, .top, .top, .top, .top, .top, .top, .top, .top, .top, AV.int .i64 4, .top, .top, .top, .top, .top, .top, .top, .top, .top, .top, .top, .top] [AObj.var 40 [AV.int .u32 xh0, AV.int .u32 xh0_1, AV.int .u32 xh0_2, AV.int .u32 xh0_3, AV.int .u32 xh0_4, AV.int .u32 xh0_5, AV.int .u32 xh0_6, AV.int .u32 xh0_7], AObj.var 40 [AV.int .u32 xh1, AV.int .u32 xh1_1, AV.int .u32 xh1_2, AV.int .u32 xh1_3, AV.int .u32 xh1_4, AV.int .u32 xh1_5, AV.int .u32 xh1_6, AV.int .u32 xh1_7], AObj.var 40 [AV.int .u32 xh2, AV.int .u32 xh2_1, AV.int .u32 xh2_2, AV.int .u32 xh2_3, AV.int .u32 xh2_4, AV.int .u32 xh2_5, AV.int .u32 xh2_6, AV.int .u32 xh2_7]])
noncomputable def f25_2_5 (F k : Nat) (xh0 : Int) (xh0_1 : Int) (xh0_2 : Int) (xh0_3 : Int) (xh0_4 : Int) (xh0_5 : Int) (xh0_6 : Int) (xh0_7 : Int) (xh1 : Int) (xh1_1 : Int) (xh1_2 : Int) (xh1_3 : Int) (xh1_4 : Int) (xh1_5 : Int) (xh1_6 : Int) (xh1_7 : Int) (xh2 : Int) (xh2_1 : Int) (xh2_2 : Int) (xh2_3 : Int) (xh2_4 : Int) (xh2_5 : Int) (xh2_6 : Int) (xh2_7 : Int) : Res := aloop (c25 F) Try.f25 2 [] k (St.mk [.top, .top, AV.ptr 0 0, .top, AV.ptr 1 0, .top, .top, AV.ptr 2 0, .top, .top, .top, .top, .top, .top, .top, .top, .top, .top, .top, .top, .top, .top, .top, .top, .top, .top, .top, .top, .top, .top, .top, .top, .top, .top, .top, .top, .top, .top, .top, .top, .top, .top, .top, .top, .top, .top, .top, .top, .top, .top, .top, .top, .top, .top, .top, .top, .top, .top, .top, .top, .top, .top, .top, .top, .top, .top, .top, .top, .top, .top, .top, .top, .top, .top, .top, .top, .top, .top, .top, .top, .top, .top, .top, .top, .top, .top, .top, .top, AV.int .i64 5, .top, .top, .top, .top, .top, .top, .top, .top, .top, .top, .top, .top] [AObj.var 40 [AV.int .u32 xh0, AV.int .u32 xh0_1, AV.int .u32 xh0_2, AV.int .u32 xh0_3, AV.int .u32 xh0_4, AV.int .u32 xh0_5, AV.int .u32 xh0_6, AV.int .u32 xh0_7], AObj.var 40 [AV.int .u32 xh1, AV.int .u32 xh1_1, AV.int .u32 xh1_2, AV.int .u32 xh1_3, AV.int .u32 xh1_4, AV.int .u32 xh1_5, AV.int .u32 xh1_6, AV.int .u32 xh1_7], AObj.var 40 [AV.int .u32 xh2, AV.int .u32 xh2_1, AV.int .u32 xh2_2, AV.int .u32 xh2_3, AV.int .u32 xh2_4, AV.int .u32 xh2_5, AV.int .u32 xh2_6, AV.int .u32 xh2_7]])
noncomputable def f25_2_6 (F k : Nat) (xh0 : Int) (xh0_1 : Int) (xh0_2 : Int) (xh0_3 : Int) (xh0_4 : Int) (xh0_5 : Int) (xh0_6 : Int) (xh0_7 : Int) (xh1 : Int) (xh1_1 : Int) (xh1_2 : Int) (xh1_3 : Int) (xh1_4 : Int) (xh1_5 : Int) (xh1_6 : Int) (xh1_7 : Int) (xh2 : Int) (xh2_1 : Int) (xh2_2 : Int) (xh2_3 : Int) (xh2_4 : Int) (xh2_5 : Int) (xh2_6 : Int) (xh2_7 : Int) : Res := aloop (c25 F) Try.f25 2 [] k (St.mk [.top, .top, AV.ptr 0 0, .top, AV.ptr 1 0, .top, .top, AV.ptr 2 0, .top, .top, .top, .top, .top, .top, .top, .top, .top, .top, .top, .top, .top, .top, .top, .top, .top, .top, .top, .top, .top, .top, .top, .top, .top, .top, .top, .top, .top, .top, .top, .top, .top, .top, .top, .top, .top, .top, .top, .top, .top, .top, .top, .top, .top, .top, .top, .top, .top, .top, .top, .top, .top, .top, .top, .top, .top, .top, .top, .top, .top, .top, .top, .top, .top, .top, .top, .top, .top, .top, .top, .top, .top, .top, .top, .top, .top, .top, .top, .top, AV.int .i64 6, .top, .top, .top, .top, .top, .top, .top, .top, .top, .top, .top, .top] [AObj.var 40 [AV.int .u32 xh0, AV.int .u32 xh0_1, AV.int .u32 xh0_2, AV.int .u32 xh0_3, AV.int .u32 xh0_4, AV.int .u32 xh0_5, AV.int .u32 xh0_6, AV.int .u32 xh0_7], AObj.var 40 [AV.int .u32 xh1, AV.int .u32 xh1_1, AV.int .u32 xh1_2, AV.int .u32 xh1_3, AV.int .u32 xh1_4, AV.int .u32 xh1_5, AV.int .u32 xh1_6, AV.int .u32 xh1_7], AObj.var 40 [AV.int .u32 xh2, AV.int .u32 xh2_1, AV.int .u32 xh2_2, AV.int .u32 xh2_3, AV.int .u32 xh2_4, AV.int .u32 xh2_5, AV.int .u32 xh2_6, AV.int .u32 xh2_7]])
noncomputable def f25_2_7 (F k : Nat) (xh0 : Int) (xh0_1 : Int) (xh0_2 : Int) (xh0_3 : Int) (xh0_4 : Int) (xh0_5 : Int) (xh0_6 : Int) (xh0_7 : Int) (xh1 : Int) (xh1_1 : Int) (xh1_2 : Int) (xh1_3 : Int) (xh1_4 : Int) (xh1_5 : Int) (xh1_6 : Int) (xh1_7 : Int) (xh2 : Int) (xh2_1 : Int) (xh2_2 : Int) (xh2_3 : Int) (xh2_4 : Int) (xh2_5 : Int) (xh2_6 : Int) (xh2_7 : Int) : Res := aloop (c25 F) Try.f25 2 [] k (St.mk [.top, .top, AV.ptr 0 0, .top, AV.ptr 1 0, .top, .top, AV.ptr 2 0, .top, .top, .top, .top, .top, .top, .top, .top, .top, .top, .top, .top, .top, .top, .top, .top, .top, .top, .top, .top, .top, .top, .top, .top, .top, .top, .top, .top, .top, .top, .top, .top, .top, .top, .top, .top, .top, .top, .top, .top, .top, .top, .top, .top, .top, .top, .top, .top, .top, .top, .top, .top, .top, .top, .top, .top, .top, .top, .top, .top, .top, .top, .top, .top, .top, .top, .top, .top, .top, .top, .top, .top, .top, .top, .top, .top, .top, .top, .top, .top, AV.int .i64 7, .top, .top, .top, .top, .top, .top, .top, .top, .top, .top, .top, .top] [AObj.var 40 [AV.int .u32 xh0, AV.int .u32 xh0_1, AV.int .u32 xh0_2, AV.int .u32 xh0_3, AV.int .u32 xh0_4, AV.int .u32 xh0_5, AV.int .u32 xh0_6, AV.int .u32 xh0_7], AObj.var 40 [AV.int .u32 xh1, AV.int .u32 xh1_1, AV.int .u32 xh1_2, AV.int .u32 xh1_3, AV.int .u32 xh1_4, AV.int .u32 xh1_5, AV.int .u32 xh1_6, AV.int .u32 xh1_7], AObj.var 40 [AV.int .u32 xh2, AV.int .u32 xh2_1, AV.int .u32 xh2_2, AV.int .u32 xh2_3, AV.int .u32 xh2_4, AV.int .u32 xh2_5, AV.int .u32 xh2_6, AV.int .u32 xh2_7]])
noncomputable def f25_2_8 (F k : Nat) (xh0 : Int) (xh0_1 : Int) (xh0_2 : Int) (xh0_3 : Int) (xh0_4 : Int) (xh0_5 : Int) (xh0_6 : Int) (xh0_7 : Int) (xh1 : Int) (xh1_1 : Int) (xh1_2 : Int) (xh1_3 : Int) (xh1_4 : Int) (xh1_5 : Int) (xh1_6 : Int) (xh1_7 : Int) (xh2 : Int) (xh2_1 : Int) (xh2_2 : Int) (xh2_3 : Int) (xh2_4 : Int) (xh2_5 : Int) (xh2_6 : Int) (xh2_7 : Int) : Res := aloop (c25 F) Try.f25 2 [] k (St.mk [.top, .top, AV.ptr 0 0, .top, AV.ptr 1 0, .top, .top, AV.ptr 2 0, .top, .top, .top, .top, .top, .top, .top, .top, .top, .top, .top, .top, .top, .top, .top, .top, .top, .top, .top, .top, .top, .top, .top, .top, .top, .top, .top, .top, .top, .top, .top, .top, .top, .top, .top, .top, .top, .top, .top, .top, .top, .top, .top, .top, .top, .top, .top, .top, .top, .top, .top, .top, .top, .top, .top, .top, .top, .top, .top, .top, .top, .top, .top, .top, .top, .top, .top, .top, .top, .top, .top, .top, .top, .top, .top, .top, .top, .top, .top, .top, AV.int .i64 8, .top, .top, .top, .top, .top, .top, .top, .top, .top, .top, .top, .top] [AObj.var 40 [AV.int .u32 xh0, AV.int .u32 xh0_1, AV.int .u32 xh0_2, AV.int .u32 xh0_3, AV.int .u32 xh0_4, AV.int .u32 xh0_5, AV.int .u32 xh0_6, AV.int .u32 xh0_7], AObj.var 40 [AV.int .u32 xh1, AV.int .u32 xh1_1, AV.int .u32 xh1_2, AV.int .u32 xh1_3, AV.int .u32 xh1_4, AV.int .u32 xh1_5, AV.int .u32 xh1_6, AV.int .u32 xh1_7], AObj.var 40 [AV.int .u32 xh2, AV.int .u32 xh2_1, AV.int .u32 xh2_2, AV.int .u32 xh2_3, AV.int .u32 xh2_4, AV.int .u32 xh2_5, AV.int .u32 xh2_6, AV.int .u32 xh2_7]])
theorem f25_eq (F : Nat) (h0 : Int) (h1 : Int) (h2 : Int) (h3 : Int) (h4 : Int) (h5 : Int) (h6 : Int) (h7 : Int) (r : List AV) : afun (c25 F) Try.f25 [AV.arr [AV.int .u32 h0, AV.int .u32 h1, AV.int .u32 h2, AV.int .u32 h3, AV.int .u32 h4, AV.int .u32 h5, AV.int .u32 h6, AV.int .u32 h7], AV.arr r] [] =
 bif r.length.beq 64 then
 bif r.all (isInt .u8) then
 bif Nat.beq 64 (List.map intOf r).length then
 bif (List.map (AV.int .u8) (List.map intOf r)).length.beq 64 && (List.map (AV.int .u8) (List.map intOf r)).all (isInt .u8) then
 f25_0 F F 0 h0 h1 h2 h3 h4 h5 h6 h7 0 0 0 0 0 0 0 0 (List.map intOf (setRange [AV.int .u32 0, AV.int .u32 0, AV.int .u32 0, AV.int .u32 0, AV.int .u32 0, AV.int .u32 0, AV.int .u32 0, AV.int .u32 0, AV.int .u32 0, AV.int .u32 0, AV.int .u32 0, AV.int .u32 0, AV.int .u32 0, AV.int .u32 0, AV.int .u32 0, AV.int .u32 0, AV.int .u32 0, AV.int .u32 0, AV.int .u32 0, AV.int .u32 0, AV.int .u32 0, AV.int .u32 0, AV.int .u32 0, AV.int .u32 0, AV.int .u32 0, AV.int .u32 0, AV.int .u32 0, AV.int .u32 0, AV.int .u32 0, AV.int .u32 0, AV.int .u32 0, AV.int .u32 0, AV.int .u32 0, AV.int .u32 0, AV.int .u32 0, AV.int .u32 0, AV.int .u32 0, AV.int .u32 0, AV.int .u32 0, AV.int .u32 0, AV.int .u32 0, AV.int .u32 0, AV.int .u32 0, AV.int .u32 0, AV.int .u32 0, AV.int .u32 0, AV.int .u32 0, AV.int .u32 0, AV.int .u32 0, AV.int .u32 0, AV.int .u32 0, AV.int .u32 0, AV.int .u32 0, AV.int .u32 0, AV.int .u32 0, AV.int .u32 0, AV.int .u32 0, AV.int .u32 0, AV.int .u32 0, AV.int .u32 0, AV.int .u32 0, AV.int .u32 0, AV.int .u32 0, AV.int .u32 0] 0 (intsA IntKind.u32 (sched (List.map intOf (List.map (AV.int .u8) (List.map intOf r))))))) [Int.ofNat 1116352408, Int.ofNat 1899447441, Int.ofNat 3049323471, Int.ofNat 3921009573, Int.ofNat 961987163, Int.ofNat 1508970993, Int.ofNat 2453635748, Int.ofNat 2870763221, Int.ofNat 3624381080, Int.ofNat 310598401, Int.ofNat 607225278, Int.ofNat 1426881987, Int.ofNat 1925078388, Int.ofNat 2162078206, Int.ofNat 2614888103, Int.ofNat 3248222580, Int.ofNat 3835390401, Int.ofNat 4022224774, Int.ofNat 264347078, Int.ofNat 604807628, Int.ofNat 770255983, Int.ofNat 1249150122, Int.ofNat 1555081692, Int.ofNat 1996064986, Int.ofNat 2554220882, Int.ofNat 2821834349, Int.ofNat 2952996808, Int.ofNat 3210313671, Int.ofNat 3336571891, Int.ofNat 3584528711, Int.ofNat 113926993, Int.ofNat 338241895, Int.ofNat 666307205, Int.ofNat 773529912, Int.ofNat 1294757372, Int.ofNat 1396182291, Int.ofNat 1695183700, Int.ofNat 1986661051, Int.ofNat 2177026350, Int.ofNat 2456956037, Int.ofNat 2730485921, Int.ofNat 2820302411, Int.ofNat 3259730800, Int.ofNat 3345764771, Int.ofNat 3516065817, Int.ofNat 3600352804, Int.ofNat 4094571909, Int.ofNat 275423344, Int.ofNat 430227734, Int.ofNat 506948616, Int.ofNat 659060556, Int.ofNat 883997877, Int.ofNat 958139571, Int.ofNat 1322822218, Int.ofNat 1537002063, Int.ofNat 1747873779, Int.ofNat 1955562222, Int.ofNat 2024104815, Int.ofNat 2227730452, Int.ofNat 2361852424, Int.ofNat 2428436474, Int.ofNat 2756734187, Int.ofNat 3204031479, Int.ofNat 3329325298] h0 h1 h2 h3 h4 h5 h6 h7
 else
 .stuck
 else
 .stuck
 else
 .stuck
 else
 .stuck := by kernel_rfl
theorem f25_0_eq (F k : Nat) (x17 : Int) (xh0 : Int) (xh0_1 : Int) (xh0_2 : Int) (xh0_3 : Int) (xh0_4 : Int) (xh0_5 : Int) (xh0_6 : Int) (xh0_7 : Int) (xh1 : Int) (xh1_1 : Int) (xh1_2 : Int) (xh1_3 : Int) (xh1_4 : Int) (xh1_5 : Int) (xh1_6 : Int) (xh1_7 : Int) (xh2 : List Int) (xh3 : List Int) (xh4 : Int) (xh4_1 : Int) (xh4_2 : Int) (xh4_3 : Int) (xh4_4 : Int) (xh4_5 : Int) (xh4_6 : Int) (xh4_7 : Int) : f25_0 F (k + 1) x17 xh0 xh0_1 xh0_2 xh0_3 xh0_4 xh0_5 xh0_6 xh0_7 xh1 xh1_1 xh1_2 xh1_3 xh1_4 xh1_5 xh1_6 xh1_7 xh2 xh3 xh4 xh4_1 xh4_2 xh4_3 xh4_4 xh4_5 xh4_6 xh4_7 =
 bif ltI x17 64 then
 bif inB x17 64 then
 bif (0 + x17.toNat * 1).blt xh3.length then
 bif inB x17 64 then
 bif (0 + x17.toNat * 1).blt xh2.length then
 f25_0 F k (IntKind.i64.wrap (x17 + 1)) xh0 xh0_1 xh0_2 xh0_3 xh0_4 xh0_5 xh0_6 xh0_7 xh1 xh1_1 xh1_2 xh1_3 xh1_4 xh1_5 xh1_6 xh1_7 xh2 xh3 (IntKind.u32.wrap (IntKind.u32.wrap (IntKind.u32.wrap (IntKind.u32.wrap (IntKind.u32.wrap (xh4_7 + ixor IntKind.u32 (ixor IntKind.u32 (rightW xh4_4 6) (rightW xh4_4 11)) (rightW xh4_4 25)) + ixor IntKind.u32 (iand IntKind.u32 xh4_4 xh4_5) (iand IntKind.u32 (ixor IntKind.u32 (Int.ofNat (2 ^ IntKind.u32.bits - Nat.succ 0)) xh4_4) xh4_6)) + xh3.getD (0 + x17.toNat * 1) 0) + xh2.getD (0 + x17.toNat * 1) 0) + IntKind.u32.wrap (ixor IntKind.u32 (ixor IntKind.u32 (rightW xh4 2) (rightW xh4 13)) (rightW xh4 22) + ixor IntKind.u32 (ixor IntKind.u32 (iand IntKind.u32 xh4 xh4_1) (iand IntKind.u32 xh4 xh4_2)) (iand IntKind.u32 xh4_1 xh4_2)))) xh4 xh4_1 xh4_2 (IntKind.u32.wrap (xh4_3 + IntKind.u32.wrap (IntKind.u32.wrap (IntKind.u32.wrap (IntKind.u32.wrap (xh4_7 + ixor IntKind.u32 (ixor IntKind.u32 (rightW xh4_4 6) (rightW xh4_4 11)) (rightW xh4_4 25)) + ixor IntKind.u32 (iand IntKind.u32 xh4_4 xh4_5) (iand IntKind.u32 (ixor IntKind.u32 (Int.ofNat (2 ^ IntKind.u32.bits - Nat.succ 0)) xh4_4) xh4_6)) + xh3.getD (0 + x17.toNat * 1) 0) + xh2.getD (0 + x17.toNat * 1) 0))) xh4_4 xh4_5 xh4_6
 else
 .stuck
 else
 .stuck
 else
 .stuck
 else
 .stuck
 else
 f25_2 F F xh0 xh0_1 xh0_2 xh0_3 xh0_4 xh0_5 xh0_6 xh0_7 xh1 xh1_1 xh1_2 xh1_3 xh1_4 xh1_5 xh1_6 xh1_7 xh4 xh4_1 xh4_2 xh4_3 xh4_4 xh4_5 xh4_6 xh4_7 := by kernel_rfl
theorem f25_2_eq (F k : Nat) (xh0 : Int) (xh0_1 : Int) (xh0_2 : Int) (xh0_3 : Int) (xh0_4 : Int) (xh0_5 : Int) (xh0_6 : Int) (xh0_7 : Int) (xh1 : Int) (xh1_1 : Int) (xh1_2 : Int) (xh1_3 : Int) (xh1_4 : Int) (xh1_5 : Int) (xh1_6 : Int) (xh1_7 : Int) (xh2 : Int) (xh2_1 : Int) (xh2_2 : Int) (xh2_3 : Int) (xh2_4 : Int) (xh2_5 : Int) (xh2_6 : Int) (xh2_7 : Int) : f25_2 F (k + 1) xh0 xh0_1 xh0_2 xh0_3 xh0_4 xh0_5 xh0_6 xh0_7 xh1 xh1_1 xh1_2 xh1_3 xh1_4 xh1_5 xh1_6 xh1_7 xh2 xh2_1 xh2_2 xh2_3 xh2_4 xh2_5 xh2_6 xh2_7 =
 f25_2_1 F k (IntKind.u32.wrap (xh0 + xh2)) xh0_1 xh0_2 xh0_3 xh0_4 xh0_5 xh0_6 xh0_7 xh1 xh1_1 xh1_2 xh1_3 xh1_4 xh1_5 xh1_6 xh1_7 xh2 xh2_1 xh2_2 xh2_3 xh2_4 xh2_5 xh2_6 xh2_7 := by kernel_rfl
theorem f25_2_1_eq (F k : Nat) (xh0 : Int) (xh0_1 : Int) (xh0_2 : Int) (xh0_3 : Int) (xh0_4 : Int) (xh0_5 : Int) (xh0_6 : Int) (xh0_7 : Int) (xh1 : Int) (xh1_1 : Int) (xh1_2 : Int) (xh1_3 : Int) (xh1_4 : Int) (xh1_5 : Int) (xh1_6 : Int) (xh1_7 : Int) (xh2 : Int) (xh2_1 : Int) (xh2_2 : Int) (xh2_3 : Int) (xh2_4 : Int) (xh2_5 : Int) (xh2_6 : Int) (xh2_7 : Int) : f25_2_1 F (k + 1) xh0 xh0_1 xh0_2 xh0_3 xh0_4 xh0_5 xh0_6 xh0_7 xh1 xh1_1 xh1_2 xh1_3 xh1_4 xh1_5 xh1_6 xh1_7 xh2 xh2_1 xh2_2 xh2_3 xh2_4 xh2_5 xh2_6 xh2_7 =
 f25_2_2 F k xh0 (IntKind.u32.wrap (xh0_1 + xh2_1)) xh0_2 xh0_3 xh0_4 xh0_5 xh0_6 xh0_7 xh1 xh1_1 xh1_2 xh1_3 xh1_4 xh1_5 xh1_6 xh1_7 xh2 xh2_1 xh2_2 xh2_3 xh2_4 xh2_5 xh2_6 xh2_7 := by kernel_rfl
theorem f25_2_2_eq (F k : Nat) (xh0 : Int) (xh0_1 : Int) (xh0_2 : Int) (xh0_3 : Int) (xh0_4 : Int) (xh0_5 : Int) (xh0_6 : Int) (xh0_7 : Int) (xh1 : Int) (xh1_1 : Int) (xh1_2 : Int) (xh1_3 : Int) (xh1_4 : Int) (xh1_5 : Int) (xh1_6 : Int) (xh1_7 : Int) (xh2 : Int) (xh2_1 : Int) (xh2_2 : Int) (xh2_3 : Int) (xh2_4 : Int) (xh2_5 : Int) (xh2_6 : Int) (xh2_7 : Int) : f25_2_2 F (k + 1) xh0 xh0_1 xh0_2 xh0_3 xh0_4 xh0_5 xh0_6 xh0_7 xh1 xh1_1 xh1_2 xh1_3 xh1_4 xh1_5 xh1_6 xh1_7 xh2 xh2_1 xh2_2 xh2_3 xh2_4 xh2_5 xh2_6 xh2_7 =
 f25_2_3 F k xh0 xh0_1 (IntKind.u32.wrap (xh0_2 + xh2_2)) xh0_3 xh0_4 xh0_5 xh0_6 xh0_7 xh1 xh1_1 xh1_2 xh1_3 xh1_4 xh1_5 xh1_6 xh1_7 xh2 xh2_1 xh2_2 xh2_3 xh2_4 xh2_5 xh2_6 xh2_7 := by kernel_rfl
theorem f25_2_3_eq (F k : Nat) (xh0 : Int) (xh0_1 : Int) (xh0_2 : Int) (xh0_3 : Int) (xh0_4 : Int) (xh0_5 : Int) (xh0_6 : Int) (xh0_7 : Int) (xh1 : Int) (xh1_1 : Int) (xh1_2 : Int) (xh1_3 : Int) (xh1_4 : Int) (xh1_5 : Int) (xh1_6 : Int) (xh1_7 : Int) (xh2 : Int) (xh2_1 : Int) (xh2_2 : Int) (xh2_3 : Int) (xh2_4 : Int) (xh2_5 : Int) (xh2_6 : Int) (xh2_7 : Int) : f25_2_3 F (k + 1) xh0 xh0_1 xh0_2 xh0_3 xh0_4 xh0_5 xh0_6 xh0_7 xh1 xh1_1 xh1_2 xh1_3 xh1_4 xh1_5 xh1_6 xh1_7 xh2 xh2_1 xh2_2 xh2_3 xh2_4 xh2_5 xh2_6 xh2_7 =
 f25_2_4 F k xh0 xh0_1 xh0_2 (IntKind.u32.wrap (xh0_3 + xh2_3)) xh0_4 xh0_5 xh0_6 xh0_7 xh1 xh1_1 xh1_2 xh1_3 xh1_4 xh1_5 xh1_6 xh1_7 xh2 xh2_1 xh2_2 xh2_3 xh2_4 xh2_5 xh2_6 xh2_7 := by kernel_rfl
theorem f25_2_4_eq (F k : Nat) (xh0 : Int) (xh0_1 : Int) (xh0_2 : Int) (xh0_3 : Int) (xh0_4 : Int) (xh0_5 : Int) (xh0_6 : Int) (xh0_7 : Int) (xh1 : Int) (xh1_1 : Int) (xh1_2 : Int) (xh1_3 : Int) (xh1_4 : Int) (xh1_5 : Int) (xh1_6 : Int) (xh1_7 : Int) (xh2 : Int) (xh2_1 : Int) (xh2_2 : Int) (xh2_3 : Int) (xh2_4 : Int) (xh2_5 : Int) (xh2_6 : Int) (xh2_7 : Int) : f25_2_4 F (k + 1) xh0 xh0_1 xh0_2 xh0_3 xh0_4 xh0_5 xh0_6 xh0_7 xh1 xh1_1 xh1_2 xh1_3 xh1_4 xh1_5 xh1_6 xh1_7 xh2 xh2_1 xh2_2 xh2_3 xh2_4 xh2_5 xh2_6 xh2_7 =
 f25_2_5 F k xh0 xh0_1 xh0_2 xh0_3 (IntKind.u32.wrap (xh0_4 + xh2_4)) xh0_5 xh0_6 xh0_7 xh1 xh1_1 xh1_2 xh1_3 xh1_4 xh1_5 xh1_6 xh1_7 xh2 xh2_1 xh2_2 xh2_3 xh2_4 xh2_5 xh2_6 xh2_7 := by kernel_rfl
theorem f25_2_5_eq (F k : Nat) (xh0 : Int) (xh0_1 : Int) (xh0_2 : Int) (xh0_3 : Int) (xh0_4 : Int) (xh0_5 : Int) (xh0_6 : Int) (xh0_7 : Int) (xh1 : Int) (xh1_1 : Int) (xh1_2 : Int) (xh1_3 : Int) (xh1_4 : Int) (xh1_5 : Int) (xh1_6 : Int) (xh1_7 : Int) (xh2 : Int) (xh2_1 : Int) (xh2_2 : Int) (xh2_3 : Int) (xh2_4 : Int) (xh2_5 : Int) (xh2_6 : Int) (xh2_7 : Int) : f25_2_5 F (k + 1) xh0 xh0_1 xh0_2 xh0_3 xh0_4 xh0_5 xh0_6 xh0_7 xh1 xh1_1 xh1_2 xh1_3 xh1_4 xh1_5 xh1_6 xh1_7 xh2 xh2_1 xh2_2 xh2_3 xh2_4 xh2_5 xh2_6 xh2_7 =
 f25_2_6 F k xh0 xh0_1 xh0_2 xh0_3 xh0_4 (IntKind.u32.wrap (xh0_5 + xh2_5)) xh0_6 xh0_7 xh1 xh1_1 xh1_2 xh1_3 xh1_4 xh1_5 xh1_6 xh1_7 xh2 xh2_1 xh2_2 xh2_3 xh2_4 xh2_5 xh2_6 xh2_7 := by kernel_rfl
theorem f25_2_6_eq (F k : Nat) (xh0 : Int) (xh0_1 : Int) (xh0_2 : Int) (xh0_3 : Int) (xh0_4 : Int) (xh0_5 : Int) (xh0_6 : Int) (xh0_7 : Int) (xh1 : Int) (xh1_1 : Int) (xh1_2 : Int) (xh1_3 : Int) (xh1_4 : Int) (xh1_5 : Int) (xh1_6 : Int) (xh1_7 : Int) (xh2 : Int) (xh2_1 : Int) (xh2_2 : Int) (xh2_3 : Int) (xh2_4 : Int) (xh2_5 : Int) (xh2_6 : Int) (xh2_7 : Int) : f25_2_6 F (k + 1) xh0 xh0_1 xh0_2 xh0_3 xh0_4 xh0_5 xh0_6 xh0_7 xh1 xh1_1 xh1_2 xh1_3 xh1_4 xh1_5 xh1_6 xh1_7 xh2 xh2_1 xh2_2 xh2_3 xh2_4 xh2_5 xh2_6 xh2_7 =
 f25_2_7 F k xh0 xh0_1 xh0_2 xh0_3 xh0_4 xh0_5 (IntKind.u32.wrap (xh0_6 + xh2_6)) xh0_7 xh1 xh1_1 xh1_2 xh1_3 xh1_4 xh1_5 xh1_6 xh1_7 xh2 xh2_1 xh2_2 xh2_3 xh2_4 xh2_5 xh2_6 xh2_7 := by kernel_rfl
theorem f25_2_7_eq (F k : Nat) (xh0 : Int) (xh0_1 : Int) (xh0_2 : Int) (xh0_3 : Int) (xh0_4 : Int) (xh0_5 : Int) (xh0_6 : Int) (xh0_7 : Int) (xh1 : Int) (xh1_1 : Int) (xh1_2 : Int) (xh1_3 : Int) (xh1_4 : Int) (xh1_5 : Int) (xh1_6 : Int) (xh1_7 : Int) (xh2 : Int) (xh2_1 : Int) (xh2_2 : Int) (xh2_3 : Int) (xh2_4 : Int) (xh2_5 : Int) (xh2_6 : Int) (xh2_7 : Int) : f25_2_7 F (k + 1) xh0 xh0_1 xh0_2 xh0_3 xh0_4 xh0_5 xh0_6 xh0_7 xh1 xh1_1 xh1_2 xh1_3 xh1_4 xh1_5 xh1_6 xh1_7 xh2 xh2_1 xh2_2 xh2_3 xh2_4 xh2_5 xh2_6 xh2_7 =
 f25_2_8 F k xh0 xh0_1 xh0_2 xh0_3 xh0_4 xh0_5 xh0_6 (IntKind.u32.wrap (xh0_7 + xh2_7)) xh1 xh1_1 xh1_2 xh1_3 xh1_4 xh1_5 xh1_6 xh1_7 xh2 xh2_1 xh2_2 xh2_3 xh2_4 xh2_5 xh2_6 xh2_7 := by kernel_rfl
theorem f25_2_8_eq (F k : Nat) (xh0 : Int) (xh0_1 : Int) (xh0_2 : Int) (xh0_3 : Int) (xh0_4 : Int) (xh0_5 : Int) (xh0_6 : Int) (xh0_7 : Int) (xh1 : Int) (xh1_1 : Int) (xh1_2 : Int) (xh1_3 : Int) (xh1_4 : Int) (xh1_5 : Int) (xh1_6 : Int) (xh1_7 : Int) (xh2 : Int) (xh2_1 : Int) (xh2_2 : Int) (xh2_3 : Int) (xh2_4 : Int) (xh2_5 : Int) (xh2_6 : Int) (xh2_7 : Int) : f25_2_8 F (k + 1) xh0 xh0_1 xh0_2 xh0_3 xh0_4 xh0_5 xh0_6 xh0_7 xh1 xh1_1 xh1_2 xh1_3 xh1_4 xh1_5 xh1_6 xh1_7 xh2 xh2_1 xh2_2 xh2_3 xh2_4 xh2_5 xh2_6 xh2_7 =
 .ret (AV.arr [AV.int .u32 xh0, AV.int .u32 xh0_1, AV.int .u32 xh0_2, AV.int .u32 xh0_3, AV.int .u32 xh0_4, AV.int .u32 xh0_5, AV.int .u32 xh0_6, AV.int .u32 xh0_7]) [AObj.var 40 [AV.int .u32 xh0, AV.int .u32 xh0_1, AV.int .u32 xh0_2, AV.int .u32 xh0_3, AV.int .u32 xh0_4, AV.int .u32 xh0_5, AV.int .u32 xh0_6, AV.int .u32 xh0_7], AObj.var 40 [AV.int .u32 xh0, AV.int .u32 xh0_1, AV.int .u32 xh0_2, AV.int .u32 xh0_3, AV.int .u32 xh0_4, AV.int .u32 xh0_5, AV.int .u32 xh0_6, AV.int .u32 xh0_7], AObj.var 40 [AV.int .u32 xh2, AV.int .u32 xh2_1, AV.int .u32 xh2_2, AV.int .u32 xh2_3, AV.int .u32 xh2_4, AV.int .u32 xh2_5, AV.int .u32 xh2_6, AV.int .u32 xh2_7]] := by kernel_rfl


def tt26 : Tab := [(0, ty0), (3, ty3), (4, ty4), (5, ty5), (22, ty22), (39, ty39), (40, ty40), (44, ty44)]
theorem tt26_ok : TabOk Try.prog tt26 := tabOk_of_all ⟨ty0_ok, ty3_ok, ty4_ok, ty5_ok, ty22_ok, ty39_ok, ty40_ok, ty44_ok, trivial⟩
def c26 (F : Nat) : Cfg := ⟨tt26, [(68, .pure go68)], F, [(0, ⟨[1, 3, 5, 6, 7, 8], []⟩), (2, ⟨[3, 5, 6, 7, 9], []⟩), (4, ⟨[3, 5, 6, 7, 12, 13, 14, 15, 16, 17, 18, 19, 20], []⟩)], [], 0⟩
noncomputable def f26_0 (F k : Nat) (x1 : List UInt8) (x8 : Int) (xh0 : Int) (xh0_1 : Int) (xh0_2 : Int) (xh0_3 : Int) (xh0_4 : Int) (xh0_5 : Int) (xh0_6 : Int) (xh0_7 : Int) (xh1 : List Int) (xh2 : Int) (xh2_1 : Int) (xh2_2 : Int) (xh2_3 : Int) (xh2_4 : Int) (xh2_5 : Int) (xh2_6 : Int) (xh2_7 : Int) (xh3 : List Int) : Res := aloop (c26 F) Try.f26 0 [] k (St.mk [.top, AV.ro (Pay.bytes x1), .top, AV.ptr 0 0, .top, AV.ptr 1 0, AV.ptr 2 0, AV.ptr 3 0, AV.int .i64 x8, .top, .top, .top, .top, .top, .top, .top, .top, .top, .top, .top, .top, .top, .top, .top, .top, .top, .top, .top, .top, .top, .top, .top, .top, .top, .top, .top, .top, .top, .top, .top, .top, .top, .top, .top, .top, .top, .top, .top, .top, .top, .top, .top, .top, .top, .top, .top, .top, .top, .top, .top, .top, .top, .top, .top, .top, .top, .top, .top, .top, .top, .top, .top, .top, .top, .top, .top, .top, .top, .top, .top, .top, .top, .top, .top, .top, .top, .top, .top, .top, .top, .top, .top, .top, .top, .top, .top, .top, .top, .top, .top, .top, .top, .top, .top, .top, .top, .top, .top, .top, .top, .top, .top, .top, .top, .top, .top, .top, .top, .top, .top, .top, .top, .top, .top, .top, .top, .top, .top, .top, .top, .top, .top, .top, .top, .top, .top, .top, .top, .top, .top, .top, .top, .top, .top, .top, .top, .top, .top, .top, .top, .top, .top, .top, .top, .top, .top, .top, .top, .top, .top, .top, .top, .top, .top, .top, .top, .top, .top, .top, .top, .top, .top, .top, .top, .top, .top, .top, .top, .top, .top, .top, .top, .top, .top, .top, .top, .top, .top, .top, .top, .top, .top, .top, .top, .top, .top, .top, .top, .top, .top, .top, .top, .top, .top, .top, .top, .top, .top, .top, .top, .top, .top, .top, .top, .top, .top, .top, .top, .top, .top, .top, .top, .top, .top, .top, .top, .top] [AObj.var 40 [AV.int .u32 xh0, AV.int .u32 xh0_1, AV.int .u32 xh0_2, AV.int .u32 xh0_3, AV.int .u32 xh0_4, AV.int .u32 xh0_5, AV.int .u32 xh0_6, AV.int .u32 xh0_7], AObj.vara 44 .u32 xh1, AObj.var 40 [AV.int .u32 xh2, AV.int .u32 xh2_1, AV.int .u32 xh2_2, AV.int .u32 xh2_3, AV.int .u32 xh2_4, AV.int .u32 xh2_5, AV.int .u32 xh2_6, AV.int .u32 xh2_7], AObj.vara 44 .u32 xh3])
noncomputable def f26_2 (F k : Nat) (x9 : Int) (xh0 : Int) (xh0_1 : Int) (xh0_2 : Int) (xh0_3 : Int) (xh0_4 : Int) (xh0_5 : Int) (xh0_6 : Int) (xh0_7 : Int) (xh1 : List Int) (xh2 : Int) (xh2_1 : Int) (xh2_2 : Int) (xh2_3 : Int) (xh2_4 : Int) (xh2_5 : Int) (xh2_6 : Int) (xh2_7 : Int) (xh3 : List Int) : Res := aloop (c26 F) Try.f26 2 [] k (St.mk [.top, .top, .top, AV.ptr 0 0, .top, AV.ptr 1 0, AV.ptr 2 0, AV.ptr 3 0, .top, AV.int .i64 x9, .top, .top, .top, .top, .top, .top, .top, .top, .top, .top, .top, .top, .top, .top, .top, .top, .top, .top, .top, .top, .top, .top, .top, .top, .top, .top, .top, .top, .top, .top, .top, .top, .top, .top, .top, .top, .top, .top, .top, .top, .top, .top, .top, .top, .top, .top, .top, .top, .top, .top, .top, .top, .top, .top, .top, .top, .top, .top, .top, .top, .top, .top, .top, .top, .top, .top, .top, .top, .top, .top, .top, .top, .top, .top, .top, .top, .top, .top, .top, .top, .top, .top, .top, .top, .top, .top, .top, .top, .top, .top, .top, .top, .top, .top, .top, .top, .top, .top, .top, .top, .top, .top, .top, .top, .top, .top, .top, .top, .top, .top, .top, .top, .top, .top, .top, .top, .top, .top, .top, .top, .top, .top, .top, .top, .top, .top, .top, .top, .top, .top, .top, .top, .top, .top, .top, .top, .top, .top, .top, .top, .top, .top, .top, .top, .top, .top, .top, .top, .top, .top, .top, .top, .top, .top, .top, .top, .top, .top, .top, .top, .top, .top, .top, .top, .top, .top, .top, .top, .top, .top, .top, .top, .top, .top, .top, .top, .top, .top, .top, .top, .top, .top, .top, .top, .top, .top, .top, .top, .top, .top, .top, .top, .top, .top, .top, .top, .top, .top, .top, .top, .top, .top, .top, .top, .top, .top, .top, .top, .top, .top, .top, .top, .top, .top, .top, .top, .top] [AObj.var 40 [AV.int .u32 xh0, AV.int .u32 xh0_1, AV.int .u32 xh0_2, AV.int .u32 xh0_3, AV.int .u32 xh0_4, AV.int .u32 xh0_5, AV.int .u32 xh0_6, AV.int .u32 xh0_7], AObj.vara 44 .u32 xh1, AObj.var 40 [AV.int .u32 xh2, AV.int .u32 xh2_1, AV.int .u32 xh2_2, AV.int .u32 xh2_3, AV.int .u32 xh2_4, AV.int .u32 xh2_5, AV.int .u32 xh2_6, AV.int .u32 xh2_7], AObj.vara 44 .u32 xh3])
noncomputable def f26_4 (F k : Nat) (x12 : Int) (x13 : Int) (x14 : Int) (x15 : Int) (x16 : Int) (x17 : Int) (x18 : Int) (x19 : Int) (x20 : Int) (xh0 : Int) (xh0_1 : Int) (xh0_2 : Int) (xh0_3 : Int) (xh0_4 : Int) (xh0_5 : Int) (xh0_6 : Int) (xh0_7 : Int) (xh1 : List Int) (xh2 : Int) (xh2_1 : Int) (xh2_2 : Int) (xh2_3 : Int) (xh2_4 : Int) (xh2_5 : Int) (xh2_6 : Int) (xh2_7 : Int) (xh3 : List Int) : Res := aloop (c26 F) Try.f26 4 [] k (St.mk [.top, .top, .top, AV.ptr 0 0, .top, AV.ptr 1 0, AV.ptr 2 0, AV.ptr 3 0, .top, .top, .top, .top, AV.int .u32 x12, AV.int .u32 x13, AV.int .u32 x14, AV.int .u32 x15, AV.int .u32 x16, AV.int .u32 x17, AV.int .u32 x18, AV.int .u32 x19, AV.int .i64 x20, .top, .top, .top, .top, .top, .top, .top, .top, .top, .top, .top, .top, .top, .top, .top, .top, .top, .top, .top, .top, .top, .top, .top, .top, .top, .top, .top, .top, .top, .top, .top, .top, .top, .top, .top, .top, .top, .top, .top, .top, .top, .top, .top, .top, .top, .top, .top, .top, .top, .top, .top, .top, .top, .top, .top, .top, .top, .top, .top, .top, .top, .top, .top, .top, .top, .top, .top, .top, .top, .top, .top, .top, .top, .top, .top, .top, .top, .top, .top, .top, .top, .top, .top, .top, .top, .top, .top, .top, .top, .top, .top, .top, .top, .top, .top, .top, .top, .top, .top, .top, .top, .top, .top, .top, .top, .top, .top, .top, .top, .top, .top, .top, .top, .top, .top, .top, .top, .top, .top, .top, .top, .top, .top, .top, .top, .top, .top, .top, .top, .top, .top, .top, .top, .top, .top, .top, .top, .top, .top, .top, .top, .top, .top, .top, .top, .top, .top, .top, .top, .top, .top, .top, .top, .top, .top, .top, .top, .top, .top, .top, .top, .top, .top, .top, .top, .top, .top, .top, .top, .top, .top, .top, .top, .top, .top, .top, .top, .top, .top, .top, .top, .top, .top, .top, .top, .top, .top, .top, .top, .top, .top, .top, .top, .top, .top, .top, .top, .top, .top, .top, .top, .top, .top, .top, .top, .top] [AObj.var 40 [AV.int .u32 xh0, AV.int .u32 xh0_1, AV.int .u32 xh0_2, AV.int .u32 xh0_3, AV.int .u32 xh0_4, AV.int .u32 xh0_5, AV.int .u32 xh0_6, AV.int .u32 xh0_7], AObj.vara 44 .u32 xh1, AObj.var 40 [AV.int .u32 xh2, AV.int .u32 xh2_1, AV.int .u32 xh2_2, AV.int .u32 xh2_3, AV.int .u32 xh2_4, AV.int .u32 xh2_5, AV.int .u32 xh2_6, AV.int .u32 xh2_7], AObj.vara 44 .u32 xh3])
theorem f26_eq (F : Nat) (s : Hs) (p : List UInt8) (kk : List AV) : afun (c26 F) Try.f26 [s.av, AV.ro (Pay.bytes p), AV.arr kk] [] =
 bif kk.length.beq 64 then
 bif kk.all (isInt .u32) then
 f26_0 F F p 0 s.a s.b s.c s.d s.e s.f s.g s.h (List.map intOf kk) 0 0 0 0 0 0 0 0 [Int.ofNat 0, Int.ofNat 0, Int.ofNat 0, Int.ofNat 0, Int.ofNat 0, Int.ofNat 0, Int.ofNat 0, Int.ofNat 0, Int.ofNat 0, Int.ofNat 0, Int.ofNat 0, Int.ofNat 0, Int.ofNat 0, Int.ofNat 0, Int.ofNat 0, Int.ofNat 0, Int.ofNat 0, Int.ofNat 0, Int.ofNat 0, Int.ofNat 0, Int.ofNat 0, Int.ofNat 0, Int.ofNat 0, Int.ofNat 0, Int.ofNat 0, Int.ofNat 0, Int.ofNat 0, Int.ofNat 0, Int.ofNat 0, Int.ofNat 0, Int.ofNat 0, Int.ofNat 0, Int.ofNat 0, Int.ofNat 0, Int.ofNat 0, Int.ofNat 0, Int.ofNat 0, Int.ofNat 0, Int.ofNat 0, Int.ofNat 0, Int.ofNat 0, Int.ofNat 0, Int.ofNat 0, Int.ofNat 0, Int.ofNat 0, Int.ofNat 0, Int.ofNat 0, Int.ofNat 0, Int.ofNat 0, Int.ofNat 0, Int.ofNat 0, Int.ofNat 0, Int.ofNat 0, Int.ofNat 0, Int.ofNat 0, Int.ofNat 0, Int.ofNat 0, Int.ofNat 0, Int.ofNat 0, Int.ofNat 0, Int.ofNat 0, Int.ofNat 0, Int.ofNat 0, Int.ofNat 0]
 else
 .stuck
 else
 .stuck := by kernel_rfl
theorem f26_0_eq (F k : Nat) (x1 : List UInt8) (x8 : Int) (xh0 : Int) (xh0_1 : Int) (xh0_2 : Int) (xh0_3 : Int) (xh0_4 : Int) (xh0_5 : Int) (xh0_6 : Int) (xh0_7 : Int) (xh1 : List Int) (xh2 : Int) (xh2_1 : Int) (xh2_2 : Int) (xh2_3 : Int) (xh2_4 : Int) (xh2_5 : Int) (xh2_6 : Int) (xh2_7 : Int) (xh3 : List Int) : f26_0 F (k + 1) x1 x8 xh0 xh0_1 xh0_2 xh0_3 xh0_4 xh0_5 xh0_6 xh0_7 xh1 xh2 xh2_1 xh2_2 xh2_3 xh2_4 xh2_5 xh2_6 xh2_7 xh3 =
 bif ltI x8 16 then
 bif inB (IntKind.i64.wrap (4 * x8)) x1.length then
 bif inB (IntKind.i64.wrap (IntKind.i64.wrap (4 * x8) + 1)) x1.length then
 bif inB (IntKind.i64.wrap (IntKind.i64.wrap (4 * x8) + 2)) x1.length then
 bif inB (IntKind.i64.wrap (IntKind.i64.wrap (4 * x8) + 3)) x1.length then
 bif inB x8 64 then
 bif (0 + x8.toNat * 1).blt xh3.length then
 f26_0 F k x1 (IntKind.i64.wrap (x8 + 1)) xh0 xh0_1 xh0_2 xh0_3 xh0_4 xh0_5 xh0_6 xh0_7 xh1 xh2 xh2_1 xh2_2 xh2_3 xh2_4 xh2_5 xh2_6 xh2_7 (xh3.set (0 + x8.toNat * 1) (IntKind.u32.wrap (IntKind.u32.wrap (IntKind.u32.wrap (IntKind.u32.wrap (IntKind.u32.wrap ↑(x1.getD (IntKind.i64.wrap (4 * x8)).toNat 0).toNat * 16777216) + IntKind.u32.wrap (IntKind.u32.wrap ↑(x1.getD (IntKind.i64.wrap (IntKind.i64.wrap (4 * x8) + 1)).toNat 0).toNat * 65536)) + IntKind.u32.wrap (IntKind.u32.wrap ↑(x1.getD (IntKind.i64.wrap (IntKind.i64.wrap (4 * x8) + 2)).toNat 0).toNat * 256)) + IntKind.u32.wrap ↑(x1.getD (IntKind.i64.wrap (IntKind.i64.wrap (4 * x8) + 3)).toNat 0).toNat)))
 else
 .stuck
 else
 .stuck
 else
 .stuck
 else
 .stuck
 else
 .stuck
 else
 .stuck
 else
 f26_2 F F 16 xh0 xh0_1 xh0_2 xh0_3 xh0_4 xh0_5 xh0_6 xh0_7 xh1 xh2 xh2_1 xh2_2 xh2_3 xh2_4 xh2_5 xh2_6 xh2_7 xh3 := by kernel_rfl
theorem f26_2_eq (F k : Nat) (x9 : Int) (xh0 : Int) (xh0_1 : Int) (xh0_2 : Int) (xh0_3 : Int) (xh0_4 : Int) (xh0_5 : Int) (xh0_6 : Int) (xh0_7 : Int) (xh1 : List Int) (xh2 : Int) (xh2_1 : Int) (xh2_2 : Int) (xh2_3 : Int) (xh2_4 : Int) (xh2_5 : Int) (xh2_6 : Int) (xh2_7 : Int) (xh3 : List Int) : f26_2 F (k + 1) x9 xh0 xh0_1 xh0_2 xh0_3 xh0_4 xh0_5 xh0_6 xh0_7 xh1 xh2 xh2_1 xh2_2 xh2_3 xh2_4 xh2_5 xh2_6 xh2_7 xh3 =
 bif ltI x9 64 then
 bif inB (IntKind.i64.wrap (x9 - 15)) 64 then
 bif (0 + (IntKind.i64.wrap (x9 - 15)).toNat * 1).blt xh3.length then
 bif inB (IntKind.i64.wrap (x9 - 15)) 64 then
 bif (0 + (IntKind.i64.wrap (x9 - 15)).toNat * 1).blt xh3.length then
 bif inB (IntKind.i64.wrap (x9 - 15)) 64 then
 bif (0 + (IntKind.i64.wrap (x9 - 15)).toNat * 1).blt xh3.length then
 bif inB (IntKind.i64.wrap (x9 - 2)) 64 then
 bif (0 + (IntKind.i64.wrap (x9 - 2)).toNat * 1).blt xh3.length then
 bif inB (IntKind.i64.wrap (x9 - 2)) 64 then
 bif (0 + (IntKind.i64.wrap (x9 - 2)).toNat * 1).blt xh3.length then
 bif inB (IntKind.i64.wrap (x9 - 2)) 64 then
 bif (0 + (IntKind.i64.wrap (x9 - 2)).toNat * 1).blt xh3.length then
 bif inB (IntKind.i64.wrap (x9 - 16)) 64 then
 bif (0 + (IntKind.i64.wrap (x9 - 16)).toNat * 1).blt xh3.length then
 bif inB (IntKind.i64.wrap (x9 - 7)) 64 then
 bif (0 + (IntKind.i64.wrap (x9 - 7)).toNat * 1).blt xh3.length then
 bif inB x9 64 then
 bif (0 + x9.toNat * 1).blt xh3.length then
 f26_2 F k (IntKind.i64.wrap (x9 + 1)) xh0 xh0_1 xh0_2 xh0_3 xh0_4 xh0_5 xh0_6 xh0_7 xh1 xh2 xh2_1 xh2_2 xh2_3 xh2_4 xh2_5 xh2_6 xh2_7 (xh3.set (0 + x9.toNat * 1) (IntKind.u32.wrap (IntKind.u32.wrap (IntKind.u32.wrap (xh3.getD (0 + (IntKind.i64.wrap (x9 - 16)).toNat * 1) 0 + ixor IntKind.u32 (ixor IntKind.u32 (rightW (xh3.getD (0 + (IntKind.i64.wrap (x9 - 15)).toNat * 1) 0) 7) (rightW (xh3.getD (0 + (IntKind.i64.wrap (x9 - 15)).toNat * 1) 0) 18)) (iquo IntKind.u32 (xh3.getD (0 + (IntKind.i64.wrap (x9 - 15)).toNat * 1) 0) 8)) + xh3.getD (0 + (IntKind.i64.wrap (x9 - 7)).toNat * 1) 0) + ixor IntKind.u32 (ixor IntKind.u32 (rightW (xh3.getD (0 + (IntKind.i64.wrap (x9 - 2)).toNat * 1) 0) 17) (rightW (xh3.getD (0 + (IntKind.i64.wrap (x9 - 2)).toNat * 1) 0) 19)) (iquo IntKind.u32 (xh3.getD (0 + (IntKind.i64.wrap (x9 - 2)).toNat * 1) 0) 1024))))
 else
 .stuck
 else
 .stuck
 else
 .stuck
 else
 .stuck
 else
 .stuck
 else
 .stuck
 else
 .stuck
 else
 .stuck
 else
 .stuck
 else
 .stuck
 else
 .stuck
 else
 .stuck
 else
 .stuck
 else
 .stuck
 else
 .stuck
 else
 .stuck
 else
 .stuck
 else
 .stuck
 else
 f26_4 F F xh0 xh0_1 xh0_2 xh0_3 xh0_4 xh0_5 xh0_6 xh0_7 0 xh0 xh0_1 xh0_2 xh0_3 xh0_4 xh0_5 xh0_6 xh0_7 xh1 xh2 xh2_1 xh2_2 xh2_3 xh2_4 xh2_5 xh2_6 xh2_7 xh3 := by kernel_rfl
theorem f26_4_eq (F k : Nat) (x12 : Int) (x13 : Int) (x14 : Int) (x15 : Int) (x16 : Int) (x17 : Int) (x18 : Int) (x19 : Int) (x20 : Int) (xh0 : Int) (xh0_1 : Int) (xh0_2 : Int) (xh0_3 : Int) (xh0_4 : Int) (xh0_5 : Int) (xh0_6 : Int) (xh0_7 : Int) (xh1 : List Int) (xh2 : Int) (xh2_1 : Int) (xh2_2 : Int) (xh2_3 : Int) (xh2_4 : Int) (xh2_5 : Int) (xh2_6 : Int) (xh2_7 : Int) (xh3 : List Int) : f26_4 F (k + 1) x12 x13 x14 x15 x16 x17 x18 x19 x20 xh0 xh0_1 xh0_2 xh0_3 xh0_4 xh0_5 xh0_6 xh0_7 xh1 xh2 xh2_1 xh2_2 xh2_3 xh2_4 xh2_5 xh2_6 xh2_7 xh3 =
 bif ltI x20 64 then
 bif inB x20 64 then
 bif (0 + x20.toNat * 1).blt xh1.length then
 bif inB x20 64 then
 bif (0 + x20.toNat * 1).blt xh3.length then
 f26_4 F k (IntKind.u32.wrap (IntKind.u32.wrap (IntKind.u32.wrap (IntKind.u32.wrap (IntKind.u32.wrap (x19 + ixor IntKind.u32 (ixor IntKind.u32 (rightW x16 6) (rightW x16 11)) (rightW x16 25)) + ixor IntKind.u32 (iand IntKind.u32 x16 x17) (iand IntKind.u32 (IntKind.u32.wrap (4294967295 - x16)) x18)) + xh1.getD (0 + x20.toNat * 1) 0) + xh3.getD (0 + x20.toNat * 1) 0) + IntKind.u32.wrap (ixor IntKind.u32 (ixor IntKind.u32 (rightW x12 2) (rightW x12 13)) (rightW x12 22) + ixor IntKind.u32 (ixor IntKind.u32 (iand IntKind.u32 x12 x13) (iand IntKind.u32 x12 x14)) (iand IntKind.u32 x13 x14)))) x12 x13 x14 (IntKind.u32.wrap (x15 + IntKind.u32.wrap (IntKind.u32.wrap (IntKind.u32.wrap (IntKind.u32.wrap (x19 + ixor IntKind.u32 (ixor IntKind.u32 (rightW x16 6) (rightW x16 11)) (rightW x16 25)) + ixor IntKind.u32 (iand IntKind.u32 x16 x17) (iand IntKind.u32 (IntKind.u32.wrap (4294967295 - x16)) x18)) + xh1.getD (0 + x20.toNat * 1) 0) + xh3.getD (0 + x20.toNat * 1) 0))) x16 x17 x18 (IntKind.i64.wrap (x20 + 1)) xh0 xh0_1 xh0_2 xh0_3 xh0_4 xh0_5 xh0_6 xh0_7 xh1 xh2 xh2_1 xh2_2 xh2_3 xh2_4 xh2_5 xh2_6 xh2_7 xh3
 else
 .stuck
 else
 .stuck
 else
 .stuck
 else
 .stuck
 else
 .ret (AV.arr [AV.int .u32 (IntKind.u32.wrap (xh0 + x12)), AV.int .u32 (IntKind.u32.wrap (xh0_1 + x13)), AV.int .u32 (IntKind.u32.wrap (xh0_2 + x14)), AV.int .u32 (IntKind.u32.wrap (xh0_3 + x15)), AV.int .u32 (IntKind.u32.wrap (xh0_4 + x16)), AV.int .u32 (IntKind.u32.wrap (xh0_5 + x17)), AV.int .u32 (IntKind.u32.wrap (xh0_6 + x18)), AV.int .u32 (IntKind.u32.wrap (xh0_7 + x19))]) [AObj.var 40 [AV.int .u32 xh0, AV.int .u32 xh0_1, AV.int .u32 xh0_2, AV.int .u32 xh0_3, AV.int .u32 xh0_4, AV.int .u32 xh0_5, AV.int .u32 xh0_6, AV.int .u32 xh0_7], AObj.vara 44 .u32 xh1, AObj.var 40 [AV.int .u32 (IntKind.u32.wrap (xh0 + x12)), AV.int .u32 (IntKind.u32.wrap (xh0_1 + x13)), AV.int .u32 (IntKind.u32.wrap (xh0_2 + x14)), AV.int .u32 (IntKind.u32.wrap (xh0_3 + x15)), AV.int .u32 (IntKind.u32.wrap (xh0_4 + x16)), AV.int .u32 (IntKind.u32.wrap (xh0_5 + x17)), AV.int .u32 (IntKind.u32.wrap (xh0_6 + x18)), AV.int .u32 (IntKind.u32.wrap (xh0_7 + x19))], AObj.vara 44 .u32 xh3] := by kernel_rfl


theorem f25_0_all (F : Nat) (s t : Hs) (ws ks : List Int) (hw : ws.length = 64) (hk : ks.length = 64) : ∀ (n i k : Nat) (v : Hs), i + n = 64 →
    f25_0 F (k + 1 + n) i s.a s.b s.c s.d s.e s.f s.g s.h t.a t.b t.c t.d t.e t.f t.g t.h ws ks v.a v.b v.c v.d v.e v.f v.g v.h = f25_2 F F s.a s.b s.c s.d s.e s.f s.g s.h t.a t.b t.c t.d t.e t.f t.g t.h (stepN ks ws n i v).a (stepN ks ws n i v).b (stepN ks ws n i v).c (stepN ks ws n i v).d (stepN ks ws n i v).e (stepN ks ws n i v).f (stepN ks ws n i v).g (stepN ks ws n i v).h
  | 0, i, k, v, h => by
    obtain rfl : i = 64 := by omega
    rw [Nat.add_zero, f25_0_eq, bif_neg (by rw [ltI_iff]; omega)]; rfl
  | n + 1, i, k, v, h => by
    have e2 : IntKind.i64.wrap ((i : Int) + 1) = ((i + 1 : Nat) : Int) := by rw [wrap64 (by omega) (by omega)]; omega
    rw [show k + 1 + (n + 1) = k + 1 + n + 1 from rfl, f25_0_eq, bif_pos (ltI_iff.2 (by omega)), e2]
    simp only [Int.toNat_natCast, Nat.zero_add, Nat.mul_one]
    repeat rw [bif_pos (by first | (rw [inB_iff]; omega) | (rw [blt_iff]; omega))]
    rw [ixor_ones]
    exact f25_0_all F s t ws ks hw hk n (i + 1) k (step1 v (ks.getD i 0) (ws.getD i 0)) (by omega)
theorem f25_end (F k : Nat) (s t v : Hs) : outR (f25_2 F (k + 9) s.a s.b s.c s.d s.e s.f s.g s.h t.a t.b t.c t.d t.e t.f t.g t.h v.a v.b v.c v.d v.e v.f v.g v.h) = some (Hs.av (addH s v), []) := by
  rw [f25_2_eq, f25_2_1_eq, f25_2_2_eq, f25_2_3_eq, f25_2_4_eq, f25_2_5_eq, f25_2_6_eq, f25_2_7_eq, f25_2_8_eq]; rfl
theorem f25_all (F : Nat) (hF : 100 ≤ F) (h0 h1 h2 h3 h4 h5 h6 h7 : Int) (r : List AV) (hl : r.length = 64) (ha : r.all (isInt .u8) = true) :
    outR (afun (c25 F) Try.f25 [.arr [.int .u32 h0, .int .u32 h1, .int .u32 h2, .int .u32 h3, .int .u32 h4, .int .u32 h5, .int .u32 h6, .int .u32 h7], .arr r] []) = some (Hs.av (roundH keysW (⟨h0, h1, h2, h3, h4, h5, h6, h7⟩ : Hs) (r.map intOf)), []) := by
  rw [f25_eq, bif_pos (by rw [hl]; rfl), bif_pos ha, bif_pos (by rw [List.length_map, hl]; rfl), ints_back ha, bif_pos (by rw [Bool.and_eq_true]; exact ⟨by rw [hl]; rfl, ha⟩),
    setZ _ _ (by rw [intsA_len, sched_len]; rfl), intsA_int]
  obtain ⟨G, rfl⟩ : ∃ G, F = G + 91 + 9 := ⟨F - 100, by omega⟩
  have e := f25_0_all (G + 91 + 9) (⟨h0, h1, h2, h3, h4, h5, h6, h7⟩ : Hs) ⟨0, 0, 0, 0, 0, 0, 0, 0⟩ (sched (r.map intOf)) keysW (sched_len _) (by decide) 64 0 (G + 35) (⟨h0, h1, h2, h3, h4, h5, h6, h7⟩ : Hs) (by decide)
  refine (congrArg outR e).trans ?_
  exact f25_end (G + 91 + 9) (G + 91) (⟨h0, h1, h2, h3, h4, h5, h6, h7⟩ : Hs) ⟨0, 0, 0, 0, 0, 0, 0, 0⟩ _

theorem ok25 : PureOk Try.prog 25 go25 := by
  refine pureOk_of (c25 rounds) tt25_ok (.cons ok65 (.cons ok66 (.cons ok67 .nil))) follows rfl Try.func25 (by kernel_rfl) (by kernel_rfl) ?_ ?_
  · intro R stk args ret
    unfold go25
    split
    · simp only [elim_cond]; rfl
    · rfl
  · intro args r objs h hr
    unfold go25 at h
    split at h
    · rename_i h0 h1 h2 h3 h4 h5 h6 h7 r
      rcases bif_alt h with ⟨hf0, h⟩ | ⟨hf0, h⟩
      · cases h
        rw [Bool.and_eq_true] at hf0
        refine ⟨_, ?_, .same⟩
        rw [apure_out]
        exact f25_all rounds (by decide) _ _ _ _ _ _ _ _ r (Nat.eq_of_beq_eq_true hf0.1) hf0.2
      ·
        cases h
    · cases h

theorem f26_0_all (F : Nat) (p : List UInt8) (hp : 64 ≤ p.length) (s t : Hs) (ks : List Int) : ∀ (n i k : Nat), i + n = 16 →
    f26_0 F (k + 1 + n) p i s.a s.b s.c s.d s.e s.f s.g s.h ks t.a t.b t.c t.d t.e t.f t.g t.h (wPart (bI p) i) = f26_2 F F 16 s.a s.b s.c s.d s.e s.f s.g s.h ks t.a t.b t.c t.d t.e t.f t.g t.h (wFirst (bI p))
  | 0, i, k, h => by
    obtain rfl : i = 16 := by omega
    rw [Nat.add_zero, f26_0_eq, bif_neg (by rw [ltI_iff]; omega)]; rfl
  | n + 1, i, k, h => by
    have e2 : IntKind.i64.wrap ((i : Int) + 1) = ((i + 1 : Nat) : Int) := by rw [wrap64 (by omega) (by omega)]; omega
    have e4 : IntKind.i64.wrap (4 * (i : Int)) = ((4 * i : Nat) : Int) := by rw [wrap64 (by omega) (by omega)]; omega
    have e5 : ∀ j : Nat, j ≤ 3 → IntKind.i64.wrap (((4 * i : Nat) : Int) + (j : Int)) = ((4 * i + j : Nat) : Int) := fun j hj => by rw [wrap64 (by omega) (by omega)]; omega
    have e51 := e5 1 (by decide)
    have e52 := e5 2 (by decide)
    have e53 := e5 3 (by decide)
    have hl := wPart_len (bI p) i
    rw [show k + 1 + (n + 1) = k + 1 + n + 1 from rfl, f26_0_eq, bif_pos (ltI_iff.2 (by omega)), e2, e4,
      show (1 : Int) = ((1 : Nat) : Int) from rfl, show (2 : Int) = ((2 : Nat) : Int) from rfl, show (3 : Int) = ((3 : Nat) : Int) from rfl, e51, e52, e53]
    simp only [Int.toNat_natCast, Nat.zero_add, Nat.mul_one]
    repeat rw [bif_pos (by first | (rw [inB_iff]; omega) | (rw [blt_iff]; omega))]
    have hb : ∀ m : Nat, (((p.getD m 0).toNat : Nat) : Int) < 256 := fun m => by have := (p.getD m 0).toNat_lt; omega
    have ew : IntKind.u32.wrap (IntKind.u32.wrap (IntKind.u32.wrap (IntKind.u32.wrap (IntKind.u32.wrap ((p.getD (4 * i) 0).toNat : Int) * 16777216) + IntKind.u32.wrap (IntKind.u32.wrap ((p.getD (4 * i + 1) 0).toNat : Int) * 65536)) + IntKind.u32.wrap (IntKind.u32.wrap ((p.getD (4 * i + 2) 0).toNat : Int) * 256)) + IntKind.u32.wrap ((p.getD (4 * i + 3) 0).toNat : Int)) = wordAt (bI p) i := by
      have h0 := hb (4 * i)
      have h1 := hb (4 * i + 1)
      have h2 := hb (4 * i + 2)
      have h3 := hb (4 * i + 3)
      unfold wordAt
      rw [bI_get, bI_get, bI_get, bI_get]
      generalize (p.getD (4 * i) 0).toNat = a at h0 ⊢
      generalize (p.getD (4 * i + 1) 0).toNat = b at h1 ⊢
      generalize (p.getD (4 * i + 2) 0).toNat = c at h2 ⊢
      generalize (p.getD (4 * i + 3) 0).toNat = d at h3 ⊢
      rw [wrapu32 (n := (a : Int)) (by omega) (by omega), wrapu32 (n := (b : Int)) (by omega) (by omega), wrapu32 (n := (c : Int)) (by omega) (by omega), wrapu32 (n := (d : Int)) (by omega) (by omega),
        wrapu32 (n := (a : Int) * 16777216) (by omega) (by omega), wrapu32 (n := (b : Int) * 65536) (by omega) (by omega), wrapu32 (n := (c : Int) * 256) (by omega) (by omega),
        wrapu32 (n := (a : Int) * 16777216 + (b : Int) * 65536) (by omega) (by omega), wrapu32 (n := (a : Int) * 16777216 + (b : Int) * 65536 + (c : Int) * 256) (by omega) (by omega), wrapu32 (by omega) (by omega)]
      omega
    rw [ew, wPart_set]
    exact f26_0_all F p hp s t ks n (i + 1) k (by omega)
theorem f26_2_all (F : Nat) (s t : Hs) (ks : List Int) : ∀ (n i k : Nat) (w : List Int), i + n = 64 → 16 ≤ i → w.length = 64 → inW w →
    f26_2 F (k + 1 + n) i s.a s.b s.c s.d s.e s.f s.g s.h ks t.a t.b t.c t.d t.e t.f t.g t.h w = f26_4 F F s.a s.b s.c s.d s.e s.f s.g s.h 0 s.a s.b s.c s.d s.e s.f s.g s.h ks t.a t.b t.c t.d t.e t.f t.g t.h (wMore n i w)
  | 0, i, k, w, h, _, hw, _ => by
    obtain rfl : i = 64 := by omega
    rw [Nat.add_zero, f26_2_eq, bif_neg (by rw [ltI_iff]; omega)]; rfl
  | n + 1, i, k, w, h, h0, hw, hi => by
    have e : ∀ m : Nat, m ≤ 16 → IntKind.i64.wrap ((i : Int) - m) = ((i - m : Nat) : Int) := fun m hm => by rw [wrap64 (by omega) (by omega)]; omega
    have e2 : IntKind.i64.wrap ((i : Int) + 1) = ((i + 1 : Nat) : Int) := by rw [wrap64 (by omega) (by omega)]; omega
    have e15 : IntKind.i64.wrap ((i : Int) - 15) = ((i - 15 : Nat) : Int) := e 15 (by decide)
    have e16 : IntKind.i64.wrap ((i : Int) - 16) = ((i - 16 : Nat) : Int) := e 16 (by decide)
    have e7 : IntKind.i64.wrap ((i : Int) - 7) = ((i - 7 : Nat) : Int) := e 7 (by decide)
    have e2' : IntKind.i64.wrap ((i : Int) - 2) = ((i - 2 : Nat) : Int) := e 2 (by decide)
    rw [show k + 1 + (n + 1) = k + 1 + n + 1 from rfl, f26_2_eq, bif_pos (ltI_iff.2 (by omega)), e15, e16, e7, e2', e2]
    simp only [Int.toNat_natCast, Nat.zero_add, Nat.mul_one]
    repeat rw [bif_pos (by first | (rw [inB_iff]; omega) | (rw [blt_iff]; omega))]
    have g15 := hi.get (i - 15)
    have g2 := hi.get (i - 2)
    rw [iquo32 g15.1 g15.2 (by decide), iquo32 g2.1 g2.2 (by decide)]
    exact f26_2_all F s t ks n (i + 1) k (w.set i (wNext w i)) (by omega) (by omega) (by rw [List.length_set]; exact hw) (hi.set i (w32_lt _))
theorem f26_4_all (F : Nat) (s t : Hs) (ws ks : List Int) (hw : ws.length = 64) (hk : ks.length = 64) : ∀ (n i k : Nat) (v : Hs), i + n = 64 →
    outR (f26_4 F (k + 1 + n) v.a v.b v.c v.d v.e v.f v.g v.h i s.a s.b s.c s.d s.e s.f s.g s.h ks t.a t.b t.c t.d t.e t.f t.g t.h ws) = some (Hs.av (addH s (stepN ks ws n i v)), [])
  | 0, i, k, v, h => by
    obtain rfl : i = 64 := by omega
    rw [Nat.add_zero, f26_4_eq, bif_neg (by rw [ltI_iff]; omega)]; rfl
  | n + 1, i, k, v, h => by
    have e2 : IntKind.i64.wrap ((i : Int) + 1) = ((i + 1 : Nat) : Int) := by rw [wrap64 (by omega) (by omega)]; omega
    rw [show k + 1 + (n + 1) = k + 1 + n + 1 from rfl, f26_4_eq, bif_pos (ltI_iff.2 (by omega)), e2]
    simp only [Int.toNat_natCast, Nat.zero_add, Nat.mul_one]
    repeat rw [bif_pos (by first | (rw [inB_iff]; omega) | (rw [blt_iff]; omega))]
    exact f26_4_all F s t ws ks hw hk n (i + 1) k (step1 v (ks.getD i 0) (ws.getD i 0)) (by omega)
theorem f26_all (F : Nat) (hF : 100 ≤ F) (h0 h1 h2 h3 h4 h5 h6 h7 : Int) (p : List UInt8) (kk : List AV) (hl : kk.length = 64) (ha : kk.all (isInt .u32) = true) (hp : 64 ≤ p.length) :
    outR (afun (c26 F) Try.f26 [.arr [.int .u32 h0, .int .u32 h1, .int .u32 h2, .int .u32 h3, .int .u32 h4, .int .u32 h5, .int .u32 h6, .int .u32 h7], .ro (.bytes p), .arr kk] []) = some (Hs.av (roundH (kk.map intOf) (⟨h0, h1, h2, h3, h4, h5, h6, h7⟩ : Hs) (bI p)), []) := by
  have e0 := f26_eq F (⟨h0, h1, h2, h3, h4, h5, h6, h7⟩ : Hs) p kk
  rw [bif_pos (by rw [hl]; rfl), bif_pos ha] at e0
  refine (congrArg outR e0).trans ?_
  obtain ⟨G, rfl⟩ : ∃ G, F = G + 100 := ⟨F - 100, by omega⟩
  have hk : (kk.map intOf).length = 64 := by rw [List.length_map, hl]
  have e1 := f26_0_all (G + 100) p hp (⟨h0, h1, h2, h3, h4, h5, h6, h7⟩ : Hs) ⟨0, 0, 0, 0, 0, 0, 0, 0⟩ (kk.map intOf) 16 0 (G + 83) (by decide)
  refine (congrArg outR e1).trans ?_
  have e2 := f26_2_all (G + 100) (⟨h0, h1, h2, h3, h4, h5, h6, h7⟩ : Hs) ⟨0, 0, 0, 0, 0, 0, 0, 0⟩ (kk.map intOf) 48 16 (G + 51) (wFirst (bI p)) (by decide) (by decide) (wPart_len _ _) (wFirst_in fun _ h => bI_byte h)
  refine (congrArg outR e2).trans ?_
  exact f26_4_all (G + 100) (⟨h0, h1, h2, h3, h4, h5, h6, h7⟩ : Hs) ⟨0, 0, 0, 0, 0, 0, 0, 0⟩ (sched (bI p)) (kk.map intOf) (sched_len _) hk 64 0 (G + 35) (⟨h0, h1, h2, h3, h4, h5, h6, h7⟩ : Hs) (by decide)

theorem ok26 : PureOk Try.prog 26 go26 := by
  refine pureOk_of (c26 rounds) tt26_ok (.cons ok68 .nil) follows rfl Try.func26 (by kernel_rfl) (by kernel_rfl) ?_ ?_
  · intro R stk args ret
    unfold go26
    split
    · simp only [elim_cond]; rfl
    · rfl
  · intro args r objs h hr
    unfold go26 at h
    split at h
    · rename_i h0 h1 h2 h3 h4 h5 h6 h7 p kk
      rcases bif_alt h with ⟨hf0, h⟩ | ⟨hf0, h⟩
      · cases h
        rw [Bool.and_eq_true, Bool.and_eq_true] at hf0
        refine ⟨_, ?_, .same⟩
        rw [apure_out]
        exact f26_all rounds (by decide) _ _ _ _ _ _ _ _ p kk (Nat.eq_of_beq_eq_true hf0.1.1) hf0.1.2 (Nat.le_of_ble_eq_true hf0.2)
      ·
        cases h
    · cases h

end Go.Proofs.YtmkgmlgklggnlaaG
