/- What functions of the given program come to: the check sum; no condition. -/
import Derived.Test.YtmkgmlgklggnlaaGn
namespace Go.Proofs.YtmkgmlgklggnlaaG
open Go Go.Proofs.YtmkgmlgklggnlaaGm
set_option maxRecDepth 100000

def tt104 : Tab := [(3, ty3), (4, ty4), (5, ty5), (39, ty39), (117, ty117)]
theorem tt104_ok : TabOk Try.prog tt104 := tabOk_of_all ⟨ty3_ok, ty4_ok, ty5_ok, ty39_ok, ty117_ok, trivial⟩
def c104 (F : Nat) : Cfg := ⟨tt104, [], F, [(0, ⟨[0, 9], []⟩)], [], 0⟩
noncomputable def f104_0 (F k : Nat) (x0 : Int) (x9 : Int) : Res := aloop (c104 F) Try.f104 0 [] k (St.mk [AV.int .u32 x0, .top, .top, .top, .top, .top, .top, .top, .top, AV.int .i64 x9, .top, .top, .top, .top, .top, .top, .top, .top, .top, .top] [])
theorem f104_eq (F : Nat) (a0 : Int) (a1 : Int) : afun (c104 F) Try.f104 [AV.int .u32 a0, AV.int .u8 a1] [] =
 f104_0 F F (ixor IntKind.u32 a0 (IntKind.u32.wrap a1)) 0 := by kernel_rfl
theorem f104_0_eq (F k : Nat) (x0 : Int) (x9 : Int) : f104_0 F (k + 1) x0 x9 =
 bif ltI x9 8 then
 f104_0 F k (ixor IntKind.u32 (ishr IntKind.u32 x0 1) (iand IntKind.u32 3988292384 (IntKind.u32.wrap (0 - iand IntKind.u32 x0 1)))) (IntKind.i64.wrap (x9 + 1))
 else
 .ret (AV.int .u32 x0) [] := by kernel_rfl


def tt101 : Tab := [(3, ty3), (4, ty4), (5, ty5), (39, ty39)]
theorem tt101_ok : TabOk Try.prog tt101 := tabOk_of_all ⟨ty3_ok, ty4_ok, ty5_ok, ty39_ok, trivial⟩
def c101 (F : Nat) : Cfg := ⟨tt101, [], F, [(0, ⟨[0, 5], []⟩)], [], 0⟩
noncomputable def f101_0 (F k : Nat) (x0 : Int) (x5 : Int) : Res := aloop (c101 F) Try.f101 0 [] k (St.mk [AV.int .u32 x0, .top, .top, .top, .top, AV.int .i64 x5, .top, .top, .top, .top, .top, .top, .top, .top, .top, .top, .top, .top, .top, .top, .top, .top, .top, .top] [])
theorem f101_eq (F : Nat) (a0 : Int) (a1 : Int) : afun (c101 F) Try.f101 [AV.int .u32 a0, AV.int .u8 a1] [] =
 f101_0 F F (ixor IntKind.u32 a0 (IntKind.u32.wrap a1)) 0 := by kernel_rfl
theorem f101_0_eq (F k : Nat) (x0 : Int) (x5 : Int) : f101_0 F (k + 1) x0 x5 =
 bif ltI x5 8 then
 bif eqI (irem x0 2) 1 then
 f101_0 F k (ixor IntKind.u32 (iquo IntKind.u32 x0 2) 3988292384) (IntKind.i64.wrap (x5 + 1))
 else
 f101_0 F k (iquo IntKind.u32 x0 2) (IntKind.i64.wrap (x5 + 1))
 else
 .ret (AV.int .u32 x0) [] := by kernel_rfl


def tt103 : Tab := [(0, ty0), (5, ty5), (39, ty39)]
theorem tt103_ok : TabOk Try.prog tt103 := tabOk_of_all ⟨ty0_ok, ty5_ok, ty39_ok, trivial⟩
def c103 (F : Nat) : Cfg := ⟨tt103, [(104, .pure go104)], F, [], [], 1⟩
theorem f103_eq (F : Nat) (a0 : Int) (s : Int) : afun (c103 F) Try.f103 [AV.int .u8 a0, AV.ptr 0 0] [AObj.var 39 [AV.int .u32 s]] =
 .ret (AV.tup []) [AObj.var 39 [AV.int .u32 (crcB s a0)]] := by kernel_rfl


def tt102 : Tab := [(0, ty0), (3, ty3), (5, ty5), (22, ty22), (39, ty39), (139, ty139)]
theorem tt102_ok : TabOk Try.prog tt102 := tabOk_of_all ⟨ty0_ok, ty3_ok, ty5_ok, ty22_ok, ty39_ok, ty139_ok, trivial⟩
def c102 (F : Nat) : Cfg := ⟨tt102, [(103, .eff go103)], F, [(0, ⟨[5, 6, 12, 13, 14], []⟩)], [], 0⟩
noncomputable def f102_0 (F k : Nat) (x12 : List UInt8) (x13 : Int) (x14 : Int) (xh0 : Int) : Res := aloop (c102 F) Try.f102 0 [] k (St.mk [.top, .top, .top, .top, .top, AV.ptr 0 0, AV.fn 103 [AV.ptr 0 0], .top, .top, .top, .top, .top, AV.ro (Pay.bytes x12), AV.int .i64 x13, AV.int .i64 x14, .top, .top, .top, .top, .top, .top, .top, .top, .top] [AObj.var 39 [AV.int .u32 xh0]])
theorem f102_eq (F : Nat) (a0 : Int) (a1 : List UInt8) : afun (c102 F) Try.f102 [AV.int .u32 a0, AV.ro (Pay.bytes a1)] [] =
 f102_0 F F a1 ↑a1.length 0 (ixor IntKind.u32 (Int.ofNat (2 ^ IntKind.u32.bits - Nat.succ 0)) a0) := by kernel_rfl
theorem f102_0_eq (F k : Nat) (x12 : List UInt8) (x13 : Int) (x14 : Int) (xh0 : Int) : f102_0 F (k + 1) x12 x13 x14 xh0 =
 bif ltI x14 x13 then
 bif inB x14 x12.length then
 f102_0 F k x12 x13 (IntKind.i64.wrap (x14 + 1)) (crcB xh0 ↑(x12.getD x14.toNat 0).toNat)
 else
 .stuck
 else
 .ret (AV.int .u32 (ixor IntKind.u32 (Int.ofNat (2 ^ IntKind.u32.bits - Nat.succ 0)) xh0)) [AObj.var 39 [AV.int .u32 xh0]] := by kernel_rfl


def tt98 : Tab := [(5, ty5), (22, ty22), (39, ty39)]
theorem tt98_ok : TabOk Try.prog tt98 := tabOk_of_all ⟨ty5_ok, ty22_ok, ty39_ok, trivial⟩
def c98 (F : Nat) : Cfg := ⟨tt98, [(102, .pure go102)], F, [], [], 0⟩
theorem f98_eq (F : Nat) (a0 : List UInt8) : afun (c98 F) Try.f98 [AV.ro (Pay.bytes a0)] [] =
 .ret (AV.int .u32 (crcMore 0 a0)) [] := by kernel_rfl


def tt96 : Tab := [(0, ty0), (3, ty3), (4, ty4), (5, ty5), (22, ty22), (39, ty39)]
theorem tt96_ok : TabOk Try.prog tt96 := tabOk_of_all ⟨ty0_ok, ty3_ok, ty4_ok, ty5_ok, ty22_ok, ty39_ok, trivial⟩
def c96 (F : Nat) : Cfg := ⟨tt96, [(101, .pure go104)], F, [(0, ⟨[0, 3, 4], []⟩)], [], 0⟩
noncomputable def f96_0 (F k : Nat) (x0 : List UInt8) (x3 : Int) (x4 : Int) : Res := aloop (c96 F) Try.f96 0 [] k (St.mk [AV.ro (Pay.bytes x0), .top, .top, AV.int .u32 x3, AV.int .i64 x4, .top, .top, .top, .top, .top, .top, .top, .top, .top, .top, .top, .top, .top, .top] [])
theorem f96_eq (F : Nat) (a0 : List UInt8) : afun (c96 F) Try.f96 [AV.ro (Pay.bytes a0)] [] =
 f96_0 F F a0 4294967295 0 := by kernel_rfl
theorem f96_0_eq (F k : Nat) (x0 : List UInt8) (x3 : Int) (x4 : Int) : f96_0 F (k + 1) x0 x3 x4 =
 bif ltI x4 ↑x0.length then
 bif inB x4 x0.length then
 f96_0 F k x0 (crcB x3 ↑(x0.getD x4.toNat 0).toNat) (IntKind.i64.wrap (x4 + 1))
 else
 .stuck
 else
 .ret (AV.int .u32 (IntKind.u32.wrap (4294967295 - x3))) [] := by kernel_rfl


def tt82 : Tab := [(0, ty0), (1, ty1), (3, ty3), (4, ty4), (5, ty5), (22, ty22), (39, ty39)]
theorem tt82_ok : TabOk Try.prog tt82 := tabOk_of_all ⟨ty0_ok, ty1_ok, ty3_ok, ty4_ok, ty5_ok, ty22_ok, ty39_ok, trivial⟩
def c82 (F : Nat) : Cfg := ⟨tt82, [(98, .pure go98), (78, .pure go78)], F, [(0, ⟨[3, 4, 10], [(4, 5)]⟩)], [], 0⟩
noncomputable def f82_0 (F k : Nat) (x3 : Int) (x10 : Int) (xh0 : List UInt8) : Res := aloop (c82 F) Try.f82 0 [] k (St.mk [.top, .top, .top, AV.int .u32 x3, AV.own 0, .top, .top, .top, .top, .top, AV.int .i64 x10, .top, .top, .top, .top, .top, .top, .top, .top, .top, .top, .top, .top] [AObj.arr 5 (Pay.bytes xh0)])
theorem f82_eq (F : Nat) (a0 : List UInt8) : afun (c82 F) Try.f82 [AV.ro (Pay.bytes a0)] [] =
 bif appFits ty5 (Pay.bytes a0) then
 f82_0 F F (crcOf a0) 0 a0
 else
 .stuck := by kernel_rfl
theorem f82_0_eq (F k : Nat) (x3 : Int) (x10 : Int) (xh0 : List UInt8) : f82_0 F (k + 1) x3 x10 xh0 =
 bif ltI x10 4 then
 bif ltI (IntKind.i64.wrap (8 * x10)) 0 then
 .stuck
 else
 bif appFits ty5 (Pay.bytes (xh0 ++ [UInt8.ofNat (IntKind.u8.wrap (ishr IntKind.u32 x3 (IntKind.i64.wrap (8 * x10)))).toNat])) then
 f82_0 F k x3 (IntKind.i64.wrap (x10 + 1)) (xh0 ++ [UInt8.ofNat (IntKind.u8.wrap (ishr IntKind.u32 x3 (IntKind.i64.wrap (8 * x10)))).toNat])
 else
 .stuck
 else
 .ret (AV.own 0) [AObj.arr 5 (Pay.bytes xh0)] := by kernel_rfl


def tt95 : Tab := [(0, ty0), (3, ty3), (4, ty4), (5, ty5), (22, ty22)]
theorem tt95_ok : TabOk Try.prog tt95 := tabOk_of_all ⟨ty0_ok, ty3_ok, ty4_ok, ty5_ok, ty22_ok, trivial⟩
def c95 (F : Nat) : Cfg := ⟨tt95, [], F, [(0, ⟨[0, 1, 12, 13], []⟩)], [], 0⟩
noncomputable def f95_0 (F k : Nat) (x0 : List UInt8) (x1 : List UInt8) (x12 : Int) (x13 : Int) : Res := aloop (c95 F) Try.f95 0 [] k (St.mk [AV.ro (Pay.bytes x0), AV.ro (Pay.bytes x1), .top, .top, .top, .top, .top, .top, .top, .top, .top, .top, AV.int .i64 x12, AV.int .i64 x13, .top, .top, .top, .top, .top, .top, .top, .top, .top, .top, .top, .top] [])
theorem f95_eq (F : Nat) (a0 : List UInt8) (a1 : List UInt8) : afun (c95 F) Try.f95 [AV.ro (Pay.bytes a0), AV.ro (Pay.bytes a1)] [] =
 bif !eqI ↑a0.length ↑a1.length then
 .ret (AV.bool false) []
 else
 f95_0 F F a0 a1 ↑a0.length 0 := by kernel_rfl
theorem f95_0_eq (F k : Nat) (x0 : List UInt8) (x1 : List UInt8) (x12 : Int) (x13 : Int) : f95_0 F (k + 1) x0 x1 x12 x13 =
 bif ltI x13 x12 then
 bif inB x13 x0.length then
 bif inB x13 x1.length then
 bif !eqI ↑(x0.getD x13.toNat 0).toNat ↑(x1.getD x13.toNat 0).toNat then
 .ret (AV.bool false) []
 else
 f95_0 F k x0 x1 x12 (IntKind.i64.wrap (x13 + 1))
 else
 .stuck
 else
 .stuck
 else
 .ret (AV.bool true) [] := by kernel_rfl


def tt77 : Tab := [(0, ty0), (3, ty3), (4, ty4), (5, ty5), (22, ty22), (27, ty27)]
theorem tt77_ok : TabOk Try.prog tt77 := tabOk_of_all ⟨ty0_ok, ty3_ok, ty4_ok, ty5_ok, ty22_ok, ty27_ok, trivial⟩
def c77 (F : Nat) : Cfg := ⟨tt77, [(82, .pure go82), (78, .pure go78), (95, .pure go95)], F, [], [], 0⟩
theorem f77_eq (F : Nat) (a0 : List UInt8) : afun (c77 F) Try.f77 [AV.ro (Pay.bytes a0)] [] =
 bif ltI (↑a0.length) 4 then
 .ret (AV.tup [AV.nil, AV.int .i64 2]) []
 else
 bif leI 0 0 && leI 0 (IntKind.i64.wrap (↑a0.length - 4)) && leI (IntKind.i64.wrap (↑a0.length - 4)) ↑a0.length then
 bif appFits ty5 (Pay.bytes (List.take ((IntKind.i64.wrap (↑a0.length - 4)).toNat - Int.toNat 0) (List.drop (Int.toNat 0) a0))) then
 bif ((List.take ((IntKind.i64.wrap (↑a0.length - 4)).toNat - Int.toNat 0) (List.drop (Int.toNat 0) a0)).length + 4).ble 140737488355328 then
 bif !eqS (crcPut (List.take ((IntKind.i64.wrap (↑a0.length - 4)).toNat - Int.toNat 0) (List.drop (Int.toNat 0) a0))) a0 then
 .ret (AV.tup [AV.nil, AV.int .i64 4]) [AObj.arr 5 (Pay.bytes (List.take ((IntKind.i64.wrap (↑a0.length - 4)).toNat - Int.toNat 0) (List.drop (Int.toNat 0) a0))), AObj.arr 5 (Pay.bytes (crcPut (List.take ((IntKind.i64.wrap (↑a0.length - 4)).toNat - Int.toNat 0) (List.drop (Int.toNat 0) a0))))]
 else
 .ret (AV.tup [AV.own 0, AV.int .i64 0]) [AObj.arr 5 (Pay.bytes (List.take ((IntKind.i64.wrap (↑a0.length - 4)).toNat - Int.toNat 0) (List.drop (Int.toNat 0) a0))), AObj.arr 5 (Pay.bytes (crcPut (List.take ((IntKind.i64.wrap (↑a0.length - 4)).toNat - Int.toNat 0) (List.drop (Int.toNat 0) a0))))]
 else
 .stuck
 else
 .stuck
 else
 .stuck := by kernel_rfl


def tt79 : Tab := [(0, ty0), (1, ty1), (3, ty3), (4, ty4), (5, ty5), (22, ty22), (39, ty39)]
theorem tt79_ok : TabOk Try.prog tt79 := tabOk_of_all ⟨ty0_ok, ty1_ok, ty3_ok, ty4_ok, ty5_ok, ty22_ok, ty39_ok, trivial⟩
def c79 (F : Nat) : Cfg := ⟨tt79, [(96, .pure go98)], F, [(0, ⟨[3, 4, 5], [(4, 5)]⟩)], [], 0⟩
noncomputable def f79_0 (F k : Nat) (x3 : Int) (x5 : Int) (xh0 : List UInt8) : Res := aloop (c79 F) Try.f79 0 [] k (St.mk [.top, .top, .top, AV.int .u32 x3, AV.own 0, AV.int .i64 x5, .top, .top, .top, .top, .top, .top, .top, .top, .top, .top, .top, .top, .top, .top, .top, .top, .top, .top] [AObj.arr 5 (Pay.bytes xh0)])
theorem f79_eq (F : Nat) (a0 : List UInt8) : afun (c79 F) Try.f79 [AV.ro (Pay.bytes a0)] [] =
 bif appFits ty5 (Pay.bytes (List.replicate 0 0 ++ a0)) then
 f79_0 F F (crcOf a0) 0 (List.replicate 0 0 ++ a0)
 else
 .stuck := by kernel_rfl
theorem f79_0_eq (F k : Nat) (x3 : Int) (x5 : Int) (xh0 : List UInt8) : f79_0 F (k + 1) x3 x5 xh0 =
 bif ltI x5 4 then
 bif appFits ty5 (Pay.bytes (xh0 ++ [UInt8.ofNat (IntKind.u8.wrap (irem x3 256)).toNat])) then
 f79_0 F k (iquo IntKind.u32 x3 256) (IntKind.i64.wrap (x5 + 1)) (xh0 ++ [UInt8.ofNat (IntKind.u8.wrap (irem x3 256)).toNat])
 else
 .stuck
 else
 .ret (AV.own 0) [AObj.arr 5 (Pay.bytes xh0)] := by kernel_rfl


theorem f104_run (F r : Nat) : ∀ (d : Nat) (x : BitVec 32) (i : Int), 0 ≤ i → i + d = 8 → f104_0 F (d + 1 + r) (x.toNat : Int) i = .ret (.int .u32 ((csteps d x).toNat : Int)) []
  | 0, x, i, h0, h1 => by
    rw [show 0 + 1 + r = r + 1 by omega, f104_0_eq, bif_neg (by rw [ltI_iff]; omega)]; rfl
  | d + 1, x, i, h0, h1 => by
    rw [show d + 1 + 1 + r = (d + 1 + r) + 1 by omega, f104_0_eq, bif_pos (by rw [ltI_iff]; omega), cstep_run, wrap64 (by omega) (by omega)]
    exact f104_run F r d (cstep x) (i + 1) (by omega) (by omega)
theorem f101_run (F r : Nat) : ∀ (d : Nat) (x : BitVec 32) (i : Int), 0 ≤ i → i + d = 8 → f101_0 F (d + 1 + r) (x.toNat : Int) i = .ret (.int .u32 ((csteps d x).toNat : Int)) []
  | 0, x, i, h0, h1 => by
    rw [show 0 + 1 + r = r + 1 by omega, f101_0_eq, bif_neg (by rw [ltI_iff]; omega)]; rfl
  | d + 1, x, i, h0, h1 => by
    have e := cstep_ref x
    have ih := f101_run F r d (cstep x) (i + 1) (by omega) (by omega)
    rw [show d + 1 + 1 + r = (d + 1 + r) + 1 by omega, f101_0_eq, bif_pos (by rw [ltI_iff]; omega), wrap64 (by omega) (by omega), bif_eqI]
    rw [← e] at ih
    split
    · rename_i h; rw [if_pos h] at ih; exact ih
    · rename_i h; rw [if_neg h] at ih; exact ih
theorem start32 (s c : Int) (h0 : 0 ≤ c) (h1 : c < 256) : ixor .u32 s (IntKind.u32.wrap c) = ((BitVec.ofInt 32 s ^^^ BitVec.ofInt 32 c).toNat : Int) := by
  rw [wrapu32 (by omega) (by omega), ixor32]
theorem ok104 : PureOk Try.prog 104 go104 := by
  refine pureOk_of (c104 rounds) tt104_ok .nil follows rfl Try.func104 (by kernel_rfl) (by kernel_rfl) ?_ ?_
  · intro R stk args k; unfold go104; split <;> rfl
  · intro args r objs h hr
    unfold go104 at h
    split at h
    · rename_i s c
      cases h
      have hc := hasu8 hr.tail.int
      refine ⟨_, ?_, .same⟩
      unfold apure
      rw [f104_eq, start32 _ _ hc.1 hc.2, show rounds = 8 + 1 + (rounds - 9) from rfl, f104_run _ _ 8 _ 0 (by omega) (by omega)]
      rfl
    · cases h
theorem ok101 : PureOk Try.prog 101 go104 := by
  refine pureOk_of (c101 rounds) tt101_ok .nil follows rfl Try.func101 (by kernel_rfl) (by kernel_rfl) ?_ ?_
  · intro R stk args k; unfold go104; split <;> rfl
  · intro args r objs h hr
    unfold go104 at h
    split at h
    · rename_i s c
      cases h
      have hc := hasu8 hr.tail.int
      refine ⟨_, ?_, .same⟩
      unfold apure
      rw [f101_eq, start32 _ _ hc.1 hc.2, show rounds = 8 + 1 + (rounds - 9) from rfl, f101_run _ _ 8 _ 0 (by omega) (by omega)]
      rfl
    · cases h
theorem ok103 : EffOk Try.prog 103 go103 := by
  refine effOk_of follows Try.func103 (by kernel_rfl) (by kernel_rfl) ?_ ?_
  · intro R stk args hp k; unfold go103; split <;> rfl
  · intro args hp r hp' h hr
    unfold go103 at h
    split at h
    · rename_i c s
      cases h
      refine ⟨c103 rounds, tt103_ok, .cons ok104 .nil, ?_⟩
      unfold aeff
      rw [f103_eq]
      rfl
    · cases h
theorem f102_run (F : Nat) (l : List UInt8) (hl : l.length ≤ 9223372036854775807) : ∀ (d k j : Nat) (s : Int), j + d = l.length → d < k → 0 ≤ s → s < 4294967296 →
    f102_0 F k l l.length j s = .ret (.int .u32 (4294967295 - crcM s (l.drop j))) [.var 39 [.int .u32 (crcM s (l.drop j))]]
  | 0, k + 1, j, s, h1, h2, h3, h4 => by
    rw [f102_0_eq, bif_neg (by rw [ltI_iff]; omega), List.drop_eq_nil_of_le (by omega)]
    show Res.ret (.int .u32 (ixor .u32 4294967295 s)) _ = _
    rw [ixor_ones32 h3 h4]; rfl
  | d + 1, k + 1, j, s, h1, h2, h3, h4 => by
    have hb := crcB_has s ((l.getD (j : Int).toNat 0).toNat : Int)
    rw [f102_0_eq, bif_pos (by rw [ltI_iff]; omega), bif_pos (by rw [inB_iff]; omega), wrap64 (by omega) (by omega), show (j : Int) + 1 = ((j + 1 : Nat) : Int) by omega,
      f102_run F l hl d k (j + 1) _ (by omega) (by omega) hb.1 hb.2, getD_cons_drop l j (by omega)]
    rfl
theorem ok102 : PureOk Try.prog 102 go102 := by
  refine pureOk_of (c102 rounds) tt102_ok (.consE ok103 .nil) follows rfl Try.func102 (by kernel_rfl) (by kernel_rfl) ?_ ?_
  · intro R stk args k; unfold go102; split <;> rfl
  · intro args r objs h hr
    unfold go102 at h
    split at h
    · rename_i s l
      cases h
      have hs := hasu32 hr.int
      have hl := hr.tail.bytes
      refine ⟨_, ?_, .same⟩
      unfold apure
      unfold maxLen at hl
      rw [f102_eq, show ixor .u32 (Int.ofNat (2 ^ IntKind.u32.bits - Nat.succ 0)) s = 4294967295 - s from ixor_ones32 hs.1 hs.2, show (0 : Int) = ((0 : Nat) : Int) from rfl, f102_run rounds l (by omega) l.length rounds 0 _ (by omega) (by unfold rounds; omega) (by omega) (by omega), List.drop_zero]
      rfl
    · cases h
theorem ok98 : PureOk Try.prog 98 go98 := by
  refine pureOk_of (c98 rounds) tt98_ok (.cons ok102 .nil) follows rfl Try.func98 (by kernel_rfl) (by kernel_rfl) ?_ ?_
  · intro R stk args k; unfold go98; split <;> rfl
  · intro args r objs h hr
    unfold go98 at h
    split at h
    · rename_i l
      cases h
      refine ⟨_, ?_, .same⟩
      unfold apure
      rw [f98_eq]
      rfl
    · cases h
theorem f96_run (F : Nat) (l : List UInt8) (hl : l.length ≤ 9223372036854775807) : ∀ (d k j : Nat) (s : Int), j + d = l.length → d < k → 0 ≤ s → s < 4294967296 →
    f96_0 F k l s j = .ret (.int .u32 (4294967295 - crcM s (l.drop j))) []
  | 0, k + 1, j, s, h1, h2, h3, h4 => by
    rw [f96_0_eq, bif_neg (by rw [ltI_iff]; omega), List.drop_eq_nil_of_le (by omega), wrapu32 (by omega) (by omega)]
    rfl
  | d + 1, k + 1, j, s, h1, h2, h3, h4 => by
    have hb := crcB_has s ((l.getD (j : Int).toNat 0).toNat : Int)
    rw [f96_0_eq, bif_pos (by rw [ltI_iff]; omega), bif_pos (by rw [inB_iff]; omega), wrap64 (by omega) (by omega), show (j : Int) + 1 = ((j + 1 : Nat) : Int) by omega,
      f96_run F l hl d k (j + 1) _ (by omega) (by omega) hb.1 hb.2, getD_cons_drop l j (by omega)]
    rfl
theorem ok96 : PureOk Try.prog 96 go98 := by
  refine pureOk_of (c96 rounds) tt96_ok (.cons ok101 .nil) follows rfl Try.func96 (by kernel_rfl) (by kernel_rfl) ?_ ?_
  · intro R stk args k; unfold go98; split <;> rfl
  · intro args r objs h hr
    unfold go98 at h
    split at h
    · rename_i l
      cases h
      have hl := hr.bytes
      refine ⟨_, ?_, .same⟩
      unfold apure
      unfold maxLen at hl
      rw [f96_eq, show (0 : Int) = ((0 : Nat) : Int) from rfl, f96_run rounds l (by omega) l.length rounds 0 _ (by omega) (by unfold rounds; omega) (by omega) (by omega), List.drop_zero]
      rfl
    · cases h
theorem le4_eq (n : Int) (h0 : 0 ≤ n) (h1 : n < 4294967296) : le4 (BitVec.ofInt 32 n) = [UInt8.ofNat (n % 256).toNat, UInt8.ofNat (n / 256 % 256).toNat, UInt8.ofNat (n / 65536 % 256).toNat, UInt8.ofNat (n / 16777216 % 256).toNat] := by
  have e : (BitVec.ofInt 32 n).toNat = n.toNat := by rw [BitVec.toNat_ofInt]; omega
  unfold le4
  rw [e]
  congr 1
  · congr 1; omega
  congr 1
  · congr 1; omega
  congr 1
  · congr 1; omega
  congr 1
  · congr 1; omega
theorem crcPut_eq (l : List UInt8) : crcPut l = l ++ [UInt8.ofNat (crcOf l % 256).toNat, UInt8.ofNat (crcOf l / 256 % 256).toNat, UInt8.ofNat (crcOf l / 65536 % 256).toNat, UInt8.ofNat (crcOf l / 16777216 % 256).toNat] := by
  have h := crcOf_has l
  rw [← le4_eq _ h.1 h.2, crcOf_eq, ofInt_toNat32]
  rfl
theorem shr_u32 (n : Int) (j : Nat) (hj : j ≤ 32) : ishr .u32 n (j : Int) = n / 2 ^ j := by
  unfold ishr
  rw [show min ((j : Int)).toNat IntKind.u32.bits = j by show min ((j : Int)).toNat 32 = j; omega]
  exact Int.fdiv_eq_ediv_of_nonneg _ (Int.le_of_lt (Int.pow_pos (by decide)))
theorem put_run (F r : Nat) (l : List UInt8) (n : Int) (hl : l.length + 4 ≤ 140737488355328) : f82_0 F (r + 5) n 0 l =
    .ret (.own 0) [.arr 5 (.bytes (l ++ [UInt8.ofNat (n % 256).toNat, UInt8.ofNat (n / 256 % 256).toNat, UInt8.ofNat (n / 65536 % 256).toNat, UInt8.ofNat (n / 16777216 % 256).toNat]))] := by
  have s0 : ishr .u32 n (IntKind.i64.wrap (8 * 0)) = n := by
    rw [show IntKind.i64.wrap (8 * 0) = ((0 : Nat) : Int) by decide, shr_u32 _ _ (by decide)]; simp
  have s1 : ishr .u32 n (IntKind.i64.wrap (8 * 1)) = n / 256 := by
    rw [show IntKind.i64.wrap (8 * 1) = ((8 : Nat) : Int) by decide, shr_u32 _ _ (by decide)]; rfl
  have s2 : ishr .u32 n (IntKind.i64.wrap (8 * 2)) = n / 65536 := by
    rw [show IntKind.i64.wrap (8 * 2) = ((16 : Nat) : Int) by decide, shr_u32 _ _ (by decide)]; rfl
  have s3 : ishr .u32 n (IntKind.i64.wrap (8 * 3)) = n / 16777216 := by
    rw [show IntKind.i64.wrap (8 * 3) = ((24 : Nat) : Int) by decide, shr_u32 _ _ (by decide)]; rfl
  rw [show r + 5 = r + 4 + 1 from rfl, f82_0_eq, bif_pos (by decide), bif_neg (by decide), s0, wrapu8, bif_pos (by rw [fits5]; simp; omega), show IntKind.i64.wrap (0 + 1) = 1 by decide,
    show r + 4 = r + 3 + 1 from rfl, f82_0_eq, bif_pos (by decide), bif_neg (by decide), s1, wrapu8, bif_pos (by rw [fits5]; simp; omega), show IntKind.i64.wrap (1 + 1) = 2 by decide,
    show r + 3 = r + 2 + 1 from rfl, f82_0_eq, bif_pos (by decide), bif_neg (by decide), s2, wrapu8, bif_pos (by rw [fits5]; simp; omega), show IntKind.i64.wrap (2 + 1) = 3 by decide,
    show r + 2 = r + 1 + 1 from rfl, f82_0_eq, bif_pos (by decide), bif_neg (by decide), s3, wrapu8, bif_pos (by rw [fits5]; simp; omega), show IntKind.i64.wrap (3 + 1) = 4 by decide,
    f82_0_eq, bif_neg (by decide)]
  simp
theorem put_run' (F r : Nat) (l : List UInt8) (n : Int) (h0 : 0 ≤ n) (h1 : n < 4294967296) (hl : l.length + 4 ≤ 140737488355328) : f79_0 F (r + 5) n 0 l =
    .ret (.own 0) [.arr 5 (.bytes (l ++ [UInt8.ofNat (n % 256).toNat, UInt8.ofNat (n / 256 % 256).toNat, UInt8.ofNat (n / 65536 % 256).toNat, UInt8.ofNat (n / 16777216 % 256).toNat]))] := by
  have q1 : iquo .u32 n 256 = n / 256 := iquo_u32 h0 h1 (by decide)
  have q2 : iquo .u32 (n / 256) 256 = n / 65536 := by rw [iquo_u32 (by omega) (by omega) (by decide)]; omega
  have q3 : iquo .u32 (n / 65536) 256 = n / 16777216 := by rw [iquo_u32 (by omega) (by omega) (by decide)]; omega
  rw [show r + 5 = r + 4 + 1 from rfl, f79_0_eq, bif_pos (by decide), irem_eq (by omega), wrapu8, show n % 256 % 256 = n % 256 by omega, q1, bif_pos (by rw [fits5]; simp; omega), show IntKind.i64.wrap (0 + 1) = 1 by decide,
    show r + 4 = r + 3 + 1 from rfl, f79_0_eq, bif_pos (by decide), irem_eq (by omega), wrapu8, show n / 256 % 256 % 256 = n / 256 % 256 by omega, q2, bif_pos (by rw [fits5]; simp; omega), show IntKind.i64.wrap (1 + 1) = 2 by decide,
    show r + 3 = r + 2 + 1 from rfl, f79_0_eq, bif_pos (by decide), irem_eq (by omega), wrapu8, show n / 65536 % 256 % 256 = n / 65536 % 256 by omega, q3, bif_pos (by rw [fits5]; simp; omega), show IntKind.i64.wrap (2 + 1) = 3 by decide,
    show r + 2 = r + 1 + 1 from rfl, f79_0_eq, bif_pos (by decide), irem_eq (by omega), wrapu8, show n / 16777216 % 256 % 256 = n / 16777216 % 256 by omega, bif_pos (by rw [fits5]; simp; omega), show IntKind.i64.wrap (3 + 1) = 4 by decide,
    f79_0_eq, bif_neg (by decide)]
  simp
theorem cps82 : PureCps go82 := by
  intro R stk args k
  unfold go82
  split
  · cases Nat.ble _ 140737488355328 <;> rfl
  · rfl
theorem ok82 : PureOk Try.prog 82 go82 := by
  refine pureOk_of (c82 rounds) tt82_ok (.cons ok98 (.cons ok78 .nil)) follows rfl Try.func82 (by kernel_rfl) (by kernel_rfl) cps82 ?_
  intro args r objs h hr
  unfold go82 at h
  split at h
  · rename_i l
    cases hf : Nat.ble (l.length + 4) 140737488355328 with
    | false => rw [hf] at h; cases h
    | true =>
      rw [hf] at h
      cases h
      rw [ble_iff] at hf
      refine ⟨_, ?_, .same⟩
      unfold apure
      rw [f82_eq, bif_pos (by rw [fits5]; omega), show rounds = (rounds - 5) + 5 from rfl, put_run _ _ _ _ hf, ← crcPut_eq]
      rfl
  · cases h
theorem ok79 : PureOk Try.prog 79 go82 := by
  refine pureOk_of (c79 rounds) tt79_ok (.cons ok96 .nil) follows rfl Try.func79 (by kernel_rfl) (by kernel_rfl) cps82 ?_
  intro args r objs h hr
  unfold go82 at h
  split at h
  · rename_i l
    cases hf : Nat.ble (l.length + 4) 140737488355328 with
    | false => rw [hf] at h; cases h
    | true =>
      rw [hf] at h
      cases h
      rw [ble_iff] at hf
      have hn := crcOf_has l
      refine ⟨_, ?_, .same⟩
      unfold apure
      rw [f79_eq, List.replicate_zero, List.nil_append, bif_pos (by rw [fits5]; omega), show rounds = (rounds - 5) + 5 from rfl, put_run' _ _ _ _ hn.1 hn.2 hf, ← crcPut_eq]
      rfl
  · cases h
theorem f95_run (F : Nat) (l m : List UInt8) (hl : l.length = m.length) (hb : l.length ≤ 9223372036854775807) : ∀ (d k j : Nat), j + d = l.length → d < k → f95_0 F k l m l.length j = .ret (.bool (eqS (l.drop j) (m.drop j))) []
  | 0, k + 1, j, h1, h2 => by
    rw [f95_0_eq, bif_neg (by rw [ltI_iff]; omega), List.drop_eq_nil_of_le (by omega), List.drop_eq_nil_of_le (by omega)]; rfl
  | d + 1, k + 1, j, h1, h2 => by
    have e1 := getD_cons_drop l j (by omega)
    have e2 := getD_cons_drop m j (by omega)
    rw [f95_0_eq, bif_pos (by rw [ltI_iff]; omega), bif_pos (by rw [inB_iff]; omega), bif_pos (by rw [inB_iff]; omega), bif_neI, Int.toNat_natCast, e1, e2]
    split
    · rename_i h
      have hc : l.getD j 0 = m.getD j 0 := UInt8.toNat_inj.1 (by omega)
      rw [wrap64 (by omega) (by omega), show (j : Int) + 1 = ((j + 1 : Nat) : Int) by omega, f95_run F l m hl hb d k (j + 1) (by omega) (by omega), hc]
      congr 2
      unfold eqS
      simp
    · rename_i h
      have hc : l.getD j 0 ≠ m.getD j 0 := fun e => h (by rw [e])
      congr 2
      unfold eqS
      simp only [Bool.false_eq, beq_eq_false_iff_ne, ne_eq, List.cons.injEq, not_and]
      exact fun e => absurd e hc
theorem ok95 : PureOk Try.prog 95 go95 := by
  refine pureOk_of (c95 rounds) tt95_ok .nil follows rfl Try.func95 (by kernel_rfl) (by kernel_rfl) ?_ ?_
  · intro R stk args k; unfold go95; split <;> rfl
  · intro args r objs h hr
    unfold go95 at h
    split at h
    · rename_i l m
      cases h
      have hl := hr.bytes
      unfold maxLen at hl
      refine ⟨_, ?_, .same⟩
      unfold apure
      rw [f95_eq, bif_neI]
      by_cases e : (l.length : Int) = m.length
      · rw [if_pos e, show (0 : Int) = ((0 : Nat) : Int) from rfl, f95_run rounds l m (by omega) (by omega) l.length rounds 0 (by omega) (by unfold rounds; omega)]
        rfl
      · have : eqS l m = false := by
          unfold eqS
          simp only [beq_eq_false_iff_ne]
          rintro rfl
          exact e rfl
        rw [if_neg e, this]
        rfl
    · cases h
theorem cps77 : PureCps go77 := by
  intro R stk args k
  unfold go77
  split
  · cases Nat.ble _ 140737488355328 <;> rfl
  · rfl
theorem ok77 : PureOk Try.prog 77 go77 := by
  refine pureOk_of (c77 rounds) tt77_ok (.cons ok82 (.cons ok78 (.cons ok95 .nil))) follows rfl Try.func77 (by kernel_rfl) (by kernel_rfl) cps77 ?_
  intro args r objs h hr
  unfold go77 at h
  split at h
  · rename_i l
    cases hf : Nat.ble (l.length + 4) 140737488355328 with
    | false => rw [hf] at h; cases h
    | true =>
      rw [hf, cond_true] at h
      rw [ble_iff] at hf
      cases h
      unfold apure
      rw [f77_eq]
      by_cases h4 : l.length < 4
      · rw [(take_short h4).1, (take_short h4).2, bif_pos (by rw [ltI_iff]; omega)]
        exact ⟨_, rfl, .tup (.empty rfl (.refl _))⟩
      · have e : List.take ((IntKind.i64.wrap ((l.length : Int) - 4)).toNat - Int.toNat 0) (List.drop (Int.toNat 0) l) = l.take (l.length - 4) := by
          rw [wrap64 (by omega) (by omega), show ((l.length : Int) - 4).toNat - Int.toNat 0 = l.length - 4 by omega, show Int.toNat 0 = 0 from rfl, List.drop_zero]
        rw [bif_neg (by rw [ltI_iff]; omega), e, wrap64 (by omega) (by omega), bif_pos (by simp [leI]; omega), bif_pos (by rw [fits5]; simp; omega), bif_pos (by rw [ble_iff]; simp; omega)]
        by_cases hp : crcPut (l.take (l.length - 4)) = l
        · rw [(take_good h4 hp).1, (take_good h4 hp).2, bif_neg (by rw [hp]; simp [eqS])]
          exact ⟨_, rfl, .lend⟩
        · rw [(take_bad h4 hp).1, (take_bad h4 hp).2, bif_pos (by simp [eqS, hp])]
          exact ⟨_, rfl, .tup (.empty rfl (.refl _))⟩
  · cases h
end Go.Proofs.YtmkgmlgklggnlaaG
