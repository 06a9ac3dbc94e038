/- What functions of the given program come to: the check sum; no condition. -/
import Derived.Test.YtjdojmjkldpgnaaDoorGn
namespace Go.Proofs.YtjdojmjkldpgnaaDoorG
open Go Go.Proofs.YtjdojmjkldpgnaaDoorGm
set_option maxRecDepth 100000

def tt164 : Tab := [(3, ty3), (4, ty4), (5, ty5), (74, ty74), (180, ty180)]
theorem tt164_ok : TabOk Tryd.prog tt164 := tabOk_of_all ⟨ty3_ok, ty4_ok, ty5_ok, ty74_ok, ty180_ok, trivial⟩
def c164 (F : Nat) : Cfg := ⟨tt164, [], F, [(0, ⟨[0, 9], []⟩)], [], 0⟩
noncomputable def f164_0 (F k : Nat) (x0 : Int) (x9 : Int) : Res := aloop (c164 F) Tryd.f164 0 [] k (St.mk [AV.int IntKind.u32 x0, AV.top, AV.top, AV.top, AV.top, AV.top, AV.top, AV.top, AV.top, AV.int IntKind.i64 x9, AV.top, AV.top, AV.top, AV.top, AV.top, AV.top, AV.top, AV.top, AV.top, AV.top] [])
theorem f164_eq (F : Nat) (a0 : Int) (a1 : Int) : afun (c164 F) Tryd.f164 [AV.int IntKind.u32 a0, AV.int IntKind.u8 a1] [] =
  f164_0 F F (ixor IntKind.u32 a0 (IntKind.u32.wrap a1)) 0 := by kernel_rfl
theorem f164_0_eq (F k : Nat) (x0 : Int) (x9 : Int) : f164_0 F (k + 1) x0 x9 =
  bif ltI x9 8 then
    f164_0 F k (ixor IntKind.u32 (ishr IntKind.u32 x0 1) (iand IntKind.u32 3988292384 (IntKind.u32.wrap (0 - iand IntKind.u32 x0 1)))) (IntKind.i64.wrap (x9 + 1))
  else
    .ret (AV.int IntKind.u32 x0) [] := by kernel_rfl


def tt153 : Tab := [(3, ty3), (4, ty4), (5, ty5), (74, ty74)]
theorem tt153_ok : TabOk Tryd.prog tt153 := tabOk_of_all ⟨ty3_ok, ty4_ok, ty5_ok, ty74_ok, trivial⟩
def c153 (F : Nat) : Cfg := ⟨tt153, [], F, [(0, ⟨[0, 5], []⟩)], [], 0⟩
noncomputable def f153_0 (F k : Nat) (x0 : Int) (x5 : Int) : Res := aloop (c153 F) Tryd.f153 0 [] k (St.mk [AV.int IntKind.u32 x0, AV.top, AV.top, AV.top, AV.top, AV.int IntKind.i64 x5, AV.top, AV.top, AV.top, AV.top, AV.top, AV.top, AV.top, AV.top, AV.top, AV.top, AV.top, AV.top, AV.top, AV.top, AV.top, AV.top, AV.top, AV.top] [])
theorem f153_eq (F : Nat) (a0 : Int) (a1 : Int) : afun (c153 F) Tryd.f153 [AV.int IntKind.u32 a0, AV.int IntKind.u8 a1] [] =
  f153_0 F F (ixor IntKind.u32 a0 (IntKind.u32.wrap a1)) 0 := by kernel_rfl
theorem f153_0_eq (F k : Nat) (x0 : Int) (x5 : Int) : f153_0 F (k + 1) x0 x5 =
  bif ltI x5 8 then
    bif eqI (irem x0 2) 1 then
      f153_0 F k (ixor IntKind.u32 (iquo IntKind.u32 x0 2) 3988292384) (IntKind.i64.wrap (x5 + 1))
    else
      f153_0 F k (iquo IntKind.u32 x0 2) (IntKind.i64.wrap (x5 + 1))
  else
    .ret (AV.int IntKind.u32 x0) [] := by kernel_rfl


def tt163 : Tab := [(0, ty0), (5, ty5), (74, ty74)]
theorem tt163_ok : TabOk Tryd.prog tt163 := tabOk_of_all ⟨ty0_ok, ty5_ok, ty74_ok, trivial⟩
def c163 (F : Nat) : Cfg := ⟨tt163, [(164, .pure go164)], F, [], [], 1⟩
theorem f163_eq (F : Nat) (a0 : Int) (s : Int) : afun (c163 F) Tryd.f163 [AV.int IntKind.u8 a0, AV.ptr 0 0] [AObj.var 74 [AV.int IntKind.u32 s]] =
  .ret (AV.tup []) [AObj.var 74 [AV.int IntKind.u32 (crcB s a0)]] := by kernel_rfl


def tt154 : Tab := [(0, ty0), (3, ty3), (5, ty5), (33, ty33), (74, ty74), (224, ty224)]
theorem tt154_ok : TabOk Tryd.prog tt154 := tabOk_of_all ⟨ty0_ok, ty3_ok, ty5_ok, ty33_ok, ty74_ok, ty224_ok, trivial⟩
def c154 (F : Nat) : Cfg := ⟨tt154, [(163, .eff go163)], F, [(0, ⟨[5, 6, 12, 13, 14], []⟩)], [], 0⟩
noncomputable def f154_0 (F k : Nat) (x12 : List UInt8) (x13 : Int) (x14 : Int) (xh0 : Int) : Res := aloop (c154 F) Tryd.f154 0 [] k (St.mk [AV.top, AV.top, AV.top, AV.top, AV.top, AV.ptr 0 0, AV.fn 163 [AV.ptr 0 0], AV.top, AV.top, AV.top, AV.top, AV.top, AV.ro (Pay.bytes x12), AV.int IntKind.i64 x13, AV.int IntKind.i64 x14, AV.top, AV.top, AV.top, AV.top, AV.top, AV.top, AV.top, AV.top, AV.top] [AObj.var 74 [AV.int IntKind.u32 xh0]])
theorem f154_eq (F : Nat) (a0 : Int) (a1 : List UInt8) : afun (c154 F) Tryd.f154 [AV.int IntKind.u32 a0, AV.ro (Pay.bytes a1)] [] =
  f154_0 F F a1 ↑a1.length 0 (ixor IntKind.u32 (Int.ofNat (2 ^ IntKind.u32.bits - Nat.succ 0)) a0) := by kernel_rfl
theorem f154_0_eq (F k : Nat) (x12 : List UInt8) (x13 : Int) (x14 : Int) (xh0 : Int) : f154_0 F (k + 1) x12 x13 x14 xh0 =
  bif ltI x14 x13 then
    bif inB x14 x12.length then
      f154_0 F k x12 x13 (IntKind.i64.wrap (x14 + 1)) (crcB xh0 ↑(x12.getD x14.toNat 0).toNat)
    else
      .stuck
  else
    .ret (AV.int IntKind.u32 (ixor IntKind.u32 (Int.ofNat (2 ^ IntKind.u32.bits - Nat.succ 0)) xh0)) [AObj.var 74 [AV.int IntKind.u32 xh0]] := by kernel_rfl


def tt139 : Tab := [(5, ty5), (33, ty33), (74, ty74)]
theorem tt139_ok : TabOk Tryd.prog tt139 := tabOk_of_all ⟨ty5_ok, ty33_ok, ty74_ok, trivial⟩
def c139 (F : Nat) : Cfg := ⟨tt139, [(154, .pure go154)], F, [], [], 0⟩
theorem f139_eq (F : Nat) (a0 : List UInt8) : afun (c139 F) Tryd.f139 [AV.ro (Pay.bytes a0)] [] =
  .ret (AV.int IntKind.u32 (crcMore 0 a0)) [] := by kernel_rfl


def tt131 : Tab := [(0, ty0), (3, ty3), (4, ty4), (5, ty5), (33, ty33), (74, ty74)]
theorem tt131_ok : TabOk Tryd.prog tt131 := tabOk_of_all ⟨ty0_ok, ty3_ok, ty4_ok, ty5_ok, ty33_ok, ty74_ok, trivial⟩
def c131 (F : Nat) : Cfg := ⟨tt131, [(153, .pure go164)], F, [(0, ⟨[0, 3, 4], []⟩)], [], 0⟩
noncomputable def f131_0 (F k : Nat) (x0 : List UInt8) (x3 : Int) (x4 : Int) : Res := aloop (c131 F) Tryd.f131 0 [] k (St.mk [AV.ro (Pay.bytes x0), AV.top, AV.top, AV.int IntKind.u32 x3, AV.int IntKind.i64 x4, AV.top, AV.top, AV.top, AV.top, AV.top, AV.top, AV.top, AV.top, AV.top, AV.top, AV.top, AV.top, AV.top, AV.top] [])
theorem f131_eq (F : Nat) (a0 : List UInt8) : afun (c131 F) Tryd.f131 [AV.ro (Pay.bytes a0)] [] =
  f131_0 F F a0 4294967295 0 := by kernel_rfl
theorem f131_0_eq (F k : Nat) (x0 : List UInt8) (x3 : Int) (x4 : Int) : f131_0 F (k + 1) x0 x3 x4 =
  bif ltI x4 ↑x0.length then
    bif inB x4 x0.length then
      f131_0 F k x0 (crcB x3 ↑(x0.getD x4.toNat 0).toNat) (IntKind.i64.wrap (x4 + 1))
    else
      .stuck
  else
    .ret (AV.int IntKind.u32 (IntKind.u32.wrap (4294967295 - x3))) [] := by kernel_rfl


def tt107 : Tab := [(0, ty0), (1, ty1), (3, ty3), (4, ty4), (5, ty5), (33, ty33), (74, ty74)]
theorem tt107_ok : TabOk Tryd.prog tt107 := tabOk_of_all ⟨ty0_ok, ty1_ok, ty3_ok, ty4_ok, ty5_ok, ty33_ok, ty74_ok, trivial⟩
def c107 (F : Nat) : Cfg := ⟨tt107, [(139, .pure go139), (85, .pure go85)], F, [(0, ⟨[3, 4, 10], [(4, 5)]⟩)], [], 0⟩
noncomputable def f107_0 (F k : Nat) (x3 : Int) (x10 : Int) (xh0 : List UInt8) : Res := aloop (c107 F) Tryd.f107 0 [] k (St.mk [AV.top, AV.top, AV.top, AV.int IntKind.u32 x3, AV.own 0, AV.top, AV.top, AV.top, AV.top, AV.top, AV.int IntKind.i64 x10, AV.top, AV.top, AV.top, AV.top, AV.top, AV.top, AV.top, AV.top, AV.top, AV.top, AV.top, AV.top] [AObj.arr 5 (Pay.bytes xh0)])
theorem f107_eq (F : Nat) (a0 : List UInt8) : afun (c107 F) Tryd.f107 [AV.ro (Pay.bytes a0)] [] =
  bif appFits ty5 (Pay.bytes a0) then
    f107_0 F F (crcOf a0) 0 a0
  else
    .stuck := by kernel_rfl
theorem f107_0_eq (F k : Nat) (x3 : Int) (x10 : Int) (xh0 : List UInt8) : f107_0 F (k + 1) x3 x10 xh0 =
  bif ltI x10 4 then
    bif ltI (IntKind.i64.wrap (8 * x10)) 0 then
      .stuck
    else
      bif appFits ty5 (Pay.bytes (xh0 ++ [UInt8.ofNat (IntKind.u8.wrap (ishr IntKind.u32 x3 (IntKind.i64.wrap (8 * x10)))).toNat])) then
        f107_0 F k x3 (IntKind.i64.wrap (x10 + 1)) (xh0 ++ [UInt8.ofNat (IntKind.u8.wrap (ishr IntKind.u32 x3 (IntKind.i64.wrap (8 * x10)))).toNat])
      else
        .stuck
  else
    .ret (AV.own 0) [AObj.arr 5 (Pay.bytes xh0)] := by kernel_rfl


def tt123 : Tab := [(0, ty0), (3, ty3), (4, ty4), (5, ty5), (33, ty33)]
theorem tt123_ok : TabOk Tryd.prog tt123 := tabOk_of_all ⟨ty0_ok, ty3_ok, ty4_ok, ty5_ok, ty33_ok, trivial⟩
def c123 (F : Nat) : Cfg := ⟨tt123, [], F, [(0, ⟨[0, 1, 12, 13], []⟩)], [], 0⟩
noncomputable def f123_0 (F k : Nat) (x0 : List UInt8) (x1 : List UInt8) (x12 : Int) (x13 : Int) : Res := aloop (c123 F) Tryd.f123 0 [] k (St.mk [AV.ro (Pay.bytes x0), AV.ro (Pay.bytes x1), AV.top, AV.top, AV.top, AV.top, AV.top, AV.top, AV.top, AV.top, AV.top, AV.top, AV.int IntKind.i64 x12, AV.int IntKind.i64 x13, AV.top, AV.top, AV.top, AV.top, AV.top, AV.top, AV.top, AV.top, AV.top, AV.top, AV.top, AV.top] [])
theorem f123_eq (F : Nat) (a0 : List UInt8) (a1 : List UInt8) : afun (c123 F) Tryd.f123 [AV.ro (Pay.bytes a0), AV.ro (Pay.bytes a1)] [] =
  bif !eqI ↑a0.length ↑a1.length then
    .ret (AV.bool false) []
  else
    f123_0 F F a0 a1 ↑a0.length 0 := by kernel_rfl
theorem f123_0_eq (F k : Nat) (x0 : List UInt8) (x1 : List UInt8) (x12 : Int) (x13 : Int) : f123_0 F (k + 1) x0 x1 x12 x13 =
  bif ltI x13 x12 then
    bif inB x13 x0.length then
      bif inB x13 x1.length then
        bif !eqI ↑(x0.getD x13.toNat 0).toNat ↑(x1.getD x13.toNat 0).toNat then
          .ret (AV.bool false) []
        else
          f123_0 F k x0 x1 x12 (IntKind.i64.wrap (x13 + 1))
      else
        .stuck
    else
      .stuck
  else
    .ret (AV.bool true) [] := by kernel_rfl


def tt84 : Tab := [(0, ty0), (3, ty3), (4, ty4), (5, ty5), (33, ty33), (42, ty42)]
theorem tt84_ok : TabOk Tryd.prog tt84 := tabOk_of_all ⟨ty0_ok, ty3_ok, ty4_ok, ty5_ok, ty33_ok, ty42_ok, trivial⟩
def c84 (F : Nat) : Cfg := ⟨tt84, [(107, .pure go107), (85, .pure go85), (123, .pure go123)], F, [], [], 0⟩
theorem f84_eq (F : Nat) (a0 : List UInt8) : afun (c84 F) Tryd.f84 [AV.ro (Pay.bytes a0)] [] =
  bif ltI (↑a0.length) 4 then
    .ret (AV.tup [AV.nil, AV.int IntKind.i64 2]) []
  else
    bif leI 0 0 && leI 0 (IntKind.i64.wrap (↑a0.length - 4)) && leI (IntKind.i64.wrap (↑a0.length - 4)) ↑a0.length then
      bif appFits ty5 (Pay.bytes (List.take ((IntKind.i64.wrap (↑a0.length - 4)).toNat - Int.toNat 0) (List.drop (Int.toNat 0) a0))) then
        bif ((List.take ((IntKind.i64.wrap (↑a0.length - 4)).toNat - Int.toNat 0) (List.drop (Int.toNat 0) a0)).length + 4).ble 140737488355328 then
          bif !eqS (crcPut (List.take ((IntKind.i64.wrap (↑a0.length - 4)).toNat - Int.toNat 0) (List.drop (Int.toNat 0) a0))) a0 then
            .ret (AV.tup [AV.nil, AV.int IntKind.i64 4]) [AObj.arr 5 (Pay.bytes (List.take ((IntKind.i64.wrap (↑a0.length - 4)).toNat - Int.toNat 0) (List.drop (Int.toNat 0) a0))), AObj.arr 5 (Pay.bytes (crcPut (List.take ((IntKind.i64.wrap (↑a0.length - 4)).toNat - Int.toNat 0) (List.drop (Int.toNat 0) a0))))]
          else
            .ret (AV.tup [AV.own 0, AV.int IntKind.i64 0]) [AObj.arr 5 (Pay.bytes (List.take ((IntKind.i64.wrap (↑a0.length - 4)).toNat - Int.toNat 0) (List.drop (Int.toNat 0) a0))), AObj.arr 5 (Pay.bytes (crcPut (List.take ((IntKind.i64.wrap (↑a0.length - 4)).toNat - Int.toNat 0) (List.drop (Int.toNat 0) a0))))]
        else
          .stuck
      else
        .stuck
    else
      .stuck := by kernel_rfl


def tt93 : Tab := [(0, ty0), (1, ty1), (3, ty3), (4, ty4), (5, ty5), (33, ty33), (74, ty74)]
theorem tt93_ok : TabOk Tryd.prog tt93 := tabOk_of_all ⟨ty0_ok, ty1_ok, ty3_ok, ty4_ok, ty5_ok, ty33_ok, ty74_ok, trivial⟩
def c93 (F : Nat) : Cfg := ⟨tt93, [(131, .pure go139)], F, [(0, ⟨[3, 4, 5], [(4, 5)]⟩)], [], 0⟩
noncomputable def f93_0 (F k : Nat) (x3 : Int) (x5 : Int) (xh0 : List UInt8) : Res := aloop (c93 F) Tryd.f93 0 [] k (St.mk [AV.top, AV.top, AV.top, AV.int IntKind.u32 x3, AV.own 0, AV.int IntKind.i64 x5, AV.top, AV.top, AV.top, AV.top, AV.top, AV.top, AV.top, AV.top, AV.top, AV.top, AV.top, AV.top, AV.top, AV.top, AV.top, AV.top, AV.top, AV.top] [AObj.arr 5 (Pay.bytes xh0)])
theorem f93_eq (F : Nat) (a0 : List UInt8) : afun (c93 F) Tryd.f93 [AV.ro (Pay.bytes a0)] [] =
  bif appFits ty5 (Pay.bytes (List.replicate 0 0 ++ a0)) then
    f93_0 F F (crcOf a0) 0 (List.replicate 0 0 ++ a0)
  else
    .stuck := by kernel_rfl
theorem f93_0_eq (F k : Nat) (x3 : Int) (x5 : Int) (xh0 : List UInt8) : f93_0 F (k + 1) x3 x5 xh0 =
  bif ltI x5 4 then
    bif appFits ty5 (Pay.bytes (xh0 ++ [UInt8.ofNat (IntKind.u8.wrap (irem x3 256)).toNat])) then
      f93_0 F k (iquo IntKind.u32 x3 256) (IntKind.i64.wrap (x5 + 1)) (xh0 ++ [UInt8.ofNat (IntKind.u8.wrap (irem x3 256)).toNat])
    else
      .stuck
  else
    .ret (AV.own 0) [AObj.arr 5 (Pay.bytes xh0)] := by kernel_rfl


theorem f164_run (F r : Nat) : ∀ (d : Nat) (x : BitVec 32) (i : Int), 0 ≤ i → i + d = 8 → f164_0 F (d + 1 + r) (x.toNat : Int) i = .ret (.int .u32 ((csteps d x).toNat : Int)) []
  | 0, x, i, h0, h1 => by
    rw [show 0 + 1 + r = r + 1 by omega, f164_0_eq, bif_neg (by rw [ltI_iff]; omega)]; rfl
  | d + 1, x, i, h0, h1 => by
    rw [show d + 1 + 1 + r = (d + 1 + r) + 1 by omega, f164_0_eq, bif_pos (by rw [ltI_iff]; omega), cstep_run, wrap64 (by omega) (by omega)]
    exact f164_run F r d (cstep x) (i + 1) (by omega) (by omega)
theorem f153_run (F r : Nat) : ∀ (d : Nat) (x : BitVec 32) (i : Int), 0 ≤ i → i + d = 8 → f153_0 F (d + 1 + r) (x.toNat : Int) i = .ret (.int .u32 ((csteps d x).toNat : Int)) []
  | 0, x, i, h0, h1 => by
    rw [show 0 + 1 + r = r + 1 by omega, f153_0_eq, bif_neg (by rw [ltI_iff]; omega)]; rfl
  | d + 1, x, i, h0, h1 => by
    have e := cstep_ref x
    have ih := f153_run F r d (cstep x) (i + 1) (by omega) (by omega)
    rw [show d + 1 + 1 + r = (d + 1 + r) + 1 by omega, f153_0_eq, bif_pos (by rw [ltI_iff]; omega), wrap64 (by omega) (by omega), bif_eqI]
    rw [← e] at ih
    split
    · rename_i h; rw [if_pos h] at ih; exact ih
    · rename_i h; rw [if_neg h] at ih; exact ih
theorem start32 (s c : Int) (h0 : 0 ≤ c) (h1 : c < 256) : ixor .u32 s (IntKind.u32.wrap c) = ((BitVec.ofInt 32 s ^^^ BitVec.ofInt 32 c).toNat : Int) := by
  rw [wrapu32 (by omega) (by omega), ixor32]
theorem ok164 : PureOk Tryd.prog 164 go164 := by
  refine pureOk_of (c164 rounds) tt164_ok .nil follows rfl Tryd.func164 (by kernel_rfl) (by kernel_rfl) ?_ ?_
  · intro R stk args k; unfold go164; split <;> rfl
  · intro args r objs h hr
    unfold go164 at h
    split at h
    · rename_i s c
      cases h
      have hc := hasu8 hr.tail.int
      refine ⟨_, ?_, .same⟩
      unfold apure
      rw [f164_eq, start32 _ _ hc.1 hc.2, show rounds = 8 + 1 + (rounds - 9) from rfl, f164_run _ _ 8 _ 0 (by omega) (by omega)]
      rfl
    · cases h
theorem ok153 : PureOk Tryd.prog 153 go164 := by
  refine pureOk_of (c153 rounds) tt153_ok .nil follows rfl Tryd.func153 (by kernel_rfl) (by kernel_rfl) ?_ ?_
  · intro R stk args k; unfold go164; split <;> rfl
  · intro args r objs h hr
    unfold go164 at h
    split at h
    · rename_i s c
      cases h
      have hc := hasu8 hr.tail.int
      refine ⟨_, ?_, .same⟩
      unfold apure
      rw [f153_eq, start32 _ _ hc.1 hc.2, show rounds = 8 + 1 + (rounds - 9) from rfl, f153_run _ _ 8 _ 0 (by omega) (by omega)]
      rfl
    · cases h
theorem ok163 : EffOk Tryd.prog 163 go163 := by
  refine effOk_of follows Tryd.func163 (by kernel_rfl) (by kernel_rfl) ?_ ?_
  · intro R stk args hp k; unfold go163; split <;> rfl
  · intro args hp r hp' h hr
    unfold go163 at h
    split at h
    · rename_i c s
      cases h
      refine ⟨c163 rounds, tt163_ok, .cons ok164 .nil, ?_⟩
      unfold aeff
      rw [f163_eq]
      rfl
    · cases h
theorem f154_run (F : Nat) (l : List UInt8) (hl : l.length ≤ 9223372036854775807) : ∀ (d k j : Nat) (s : Int), j + d = l.length → d < k → 0 ≤ s → s < 4294967296 →
    f154_0 F k l l.length j s = .ret (.int .u32 (4294967295 - crcM s (l.drop j))) [.var 74 [.int .u32 (crcM s (l.drop j))]]
  | 0, k + 1, j, s, h1, h2, h3, h4 => by
    rw [f154_0_eq, bif_neg (by rw [ltI_iff]; omega), List.drop_eq_nil_of_le (by omega)]
    show Res.ret (.int .u32 (ixor .u32 4294967295 s)) _ = _
    rw [ixor_ones32 h3 h4]; rfl
  | d + 1, k + 1, j, s, h1, h2, h3, h4 => by
    have hb := crcB_has s ((l.getD (j : Int).toNat 0).toNat : Int)
    rw [f154_0_eq, bif_pos (by rw [ltI_iff]; omega), bif_pos (by rw [inB_iff]; omega), wrap64 (by omega) (by omega), show (j : Int) + 1 = ((j + 1 : Nat) : Int) by omega,
      f154_run F l hl d k (j + 1) _ (by omega) (by omega) hb.1 hb.2, getD_cons_drop l j (by omega)]
    rfl
theorem ok154 : PureOk Tryd.prog 154 go154 := by
  refine pureOk_of (c154 rounds) tt154_ok (.consE ok163 .nil) follows rfl Tryd.func154 (by kernel_rfl) (by kernel_rfl) ?_ ?_
  · intro R stk args k; unfold go154; split <;> rfl
  · intro args r objs h hr
    unfold go154 at h
    split at h
    · rename_i s l
      cases h
      have hs := hasu32 hr.int
      have hl := hr.tail.bytes
      refine ⟨_, ?_, .same⟩
      unfold apure
      unfold maxLen at hl
      rw [f154_eq, show ixor .u32 (Int.ofNat (2 ^ IntKind.u32.bits - Nat.succ 0)) s = 4294967295 - s from ixor_ones32 hs.1 hs.2, show (0 : Int) = ((0 : Nat) : Int) from rfl, f154_run rounds l (by omega) l.length rounds 0 _ (by omega) (by unfold rounds; omega) (by omega) (by omega), List.drop_zero]
      rfl
    · cases h
theorem ok139 : PureOk Tryd.prog 139 go139 := by
  refine pureOk_of (c139 rounds) tt139_ok (.cons ok154 .nil) follows rfl Tryd.func139 (by kernel_rfl) (by kernel_rfl) ?_ ?_
  · intro R stk args k; unfold go139; split <;> rfl
  · intro args r objs h hr
    unfold go139 at h
    split at h
    · rename_i l
      cases h
      refine ⟨_, ?_, .same⟩
      unfold apure
      rw [f139_eq]
      rfl
    · cases h
theorem f131_run (F : Nat) (l : List UInt8) (hl : l.length ≤ 9223372036854775807) : ∀ (d k j : Nat) (s : Int), j + d = l.length → d < k → 0 ≤ s → s < 4294967296 →
    f131_0 F k l s j = .ret (.int .u32 (4294967295 - crcM s (l.drop j))) []
  | 0, k + 1, j, s, h1, h2, h3, h4 => by
    rw [f131_0_eq, bif_neg (by rw [ltI_iff]; omega), List.drop_eq_nil_of_le (by omega), wrapu32 (by omega) (by omega)]
    rfl
  | d + 1, k + 1, j, s, h1, h2, h3, h4 => by
    have hb := crcB_has s ((l.getD (j : Int).toNat 0).toNat : Int)
    rw [f131_0_eq, bif_pos (by rw [ltI_iff]; omega), bif_pos (by rw [inB_iff]; omega), wrap64 (by omega) (by omega), show (j : Int) + 1 = ((j + 1 : Nat) : Int) by omega,
      f131_run F l hl d k (j + 1) _ (by omega) (by omega) hb.1 hb.2, getD_cons_drop l j (by omega)]
    rfl
theorem ok131 : PureOk Tryd.prog 131 go139 := by
  refine pureOk_of (c131 rounds) tt131_ok (.cons ok153 .nil) follows rfl Tryd.func131 (by kernel_rfl) (by kernel_rfl) ?_ ?_
  · intro R stk args k; unfold go139; split <;> rfl
  · intro args r objs h hr
    unfold go139 at h
    split at h
    · rename_i l
      cases h
      have hl := hr.bytes
      refine ⟨_, ?_, .same⟩
      unfold apure
      unfold maxLen at hl
      rw [f131_eq, show (0 : Int) = ((0 : Nat) : Int) from rfl, f131_run rounds l (by omega) l.length rounds 0 _ (by omega) (by unfold rounds; omega) (by omega) (by omega), List.drop_zero]
      rfl
    · cases h
theorem le4_eq (n : Int) (h0 : 0 ≤ n) (h1 : n < 4294967296) : le4 (BitVec.ofInt 32 n) = [UInt8.ofNat (n % 256).toNat, UInt8.ofNat (n / 256 % 256).toNat, UInt8.ofNat (n / 65536 % 256).toNat, UInt8.ofNat (n / 16777216 % 256).toNat] := by
  have e : (BitVec.ofInt 32 n).toNat = n.toNat := by rw [BitVec.toNat_ofInt]; omega
  unfold le4
  rw [e]
  congr 1
  · congr 1; omega
  congr 1
  · congr 1; omega
  congr 1
  · congr 1; omega
  congr 1
  · congr 1; omega
theorem crcPut_eq (l : List UInt8) : crcPut l = l ++ [UInt8.ofNat (crcOf l % 256).toNat, UInt8.ofNat (crcOf l / 256 % 256).toNat, UInt8.ofNat (crcOf l / 65536 % 256).toNat, UInt8.ofNat (crcOf l / 16777216 % 256).toNat] := by
  have h := crcOf_has l
  rw [← le4_eq _ h.1 h.2, crcOf_eq, ofInt_toNat32]
  rfl
theorem shr_u32 (n : Int) (j : Nat) (hj : j ≤ 32) : ishr .u32 n (j : Int) = n / 2 ^ j := by
  unfold ishr
  rw [show min ((j : Int)).toNat IntKind.u32.bits = j by show min ((j : Int)).toNat 32 = j; omega]
  exact Int.fdiv_eq_ediv_of_nonneg _ (Int.le_of_lt (Int.pow_pos (by decide)))
theorem put_run (F r : Nat) (l : List UInt8) (n : Int) (hl : l.length + 4 ≤ 140737488355328) : f107_0 F (r + 5) n 0 l =
    .ret (.own 0) [.arr 5 (.bytes (l ++ [UInt8.ofNat (n % 256).toNat, UInt8.ofNat (n / 256 % 256).toNat, UInt8.ofNat (n / 65536 % 256).toNat, UInt8.ofNat (n / 16777216 % 256).toNat]))] := by
  have s0 : ishr .u32 n (IntKind.i64.wrap (8 * 0)) = n := by
    rw [show IntKind.i64.wrap (8 * 0) = ((0 : Nat) : Int) by decide, shr_u32 _ _ (by decide)]; simp
  have s1 : ishr .u32 n (IntKind.i64.wrap (8 * 1)) = n / 256 := by
    rw [show IntKind.i64.wrap (8 * 1) = ((8 : Nat) : Int) by decide, shr_u32 _ _ (by decide)]; rfl
  have s2 : ishr .u32 n (IntKind.i64.wrap (8 * 2)) = n / 65536 := by
    rw [show IntKind.i64.wrap (8 * 2) = ((16 : Nat) : Int) by decide, shr_u32 _ _ (by decide)]; rfl
  have s3 : ishr .u32 n (IntKind.i64.wrap (8 * 3)) = n / 16777216 := by
    rw [show IntKind.i64.wrap (8 * 3) = ((24 : Nat) : Int) by decide, shr_u32 _ _ (by decide)]; rfl
  rw [show r + 5 = r + 4 + 1 from rfl, f107_0_eq, bif_pos (by decide), bif_neg (by decide), s0, wrapu8, bif_pos (by rw [fits5]; simp; omega), show IntKind.i64.wrap (0 + 1) = 1 by decide,
    show r + 4 = r + 3 + 1 from rfl, f107_0_eq, bif_pos (by decide), bif_neg (by decide), s1, wrapu8, bif_pos (by rw [fits5]; simp; omega), show IntKind.i64.wrap (1 + 1) = 2 by decide,
    show r + 3 = r + 2 + 1 from rfl, f107_0_eq, bif_pos (by decide), bif_neg (by decide), s2, wrapu8, bif_pos (by rw [fits5]; simp; omega), show IntKind.i64.wrap (2 + 1) = 3 by decide,
    show r + 2 = r + 1 + 1 from rfl, f107_0_eq, bif_pos (by decide), bif_neg (by decide), s3, wrapu8, bif_pos (by rw [fits5]; simp; omega), show IntKind.i64.wrap (3 + 1) = 4 by decide,
    f107_0_eq, bif_neg (by decide)]
  simp
theorem put_run' (F r : Nat) (l : List UInt8) (n : Int) (h0 : 0 ≤ n) (h1 : n < 4294967296) (hl : l.length + 4 ≤ 140737488355328) : f93_0 F (r + 5) n 0 l =
    .ret (.own 0) [.arr 5 (.bytes (l ++ [UInt8.ofNat (n % 256).toNat, UInt8.ofNat (n / 256 % 256).toNat, UInt8.ofNat (n / 65536 % 256).toNat, UInt8.ofNat (n / 16777216 % 256).toNat]))] := by
  have q1 : iquo .u32 n 256 = n / 256 := iquo_u32 h0 h1 (by decide)
  have q2 : iquo .u32 (n / 256) 256 = n / 65536 := by rw [iquo_u32 (by omega) (by omega) (by decide)]; omega
  have q3 : iquo .u32 (n / 65536) 256 = n / 16777216 := by rw [iquo_u32 (by omega) (by omega) (by decide)]; omega
  rw [show r + 5 = r + 4 + 1 from rfl, f93_0_eq, bif_pos (by decide), irem_eq (by omega), wrapu8, show n % 256 % 256 = n % 256 by omega, q1, bif_pos (by rw [fits5]; simp; omega), show IntKind.i64.wrap (0 + 1) = 1 by decide,
    show r + 4 = r + 3 + 1 from rfl, f93_0_eq, bif_pos (by decide), irem_eq (by omega), wrapu8, show n / 256 % 256 % 256 = n / 256 % 256 by omega, q2, bif_pos (by rw [fits5]; simp; omega), show IntKind.i64.wrap (1 + 1) = 2 by decide,
    show r + 3 = r + 2 + 1 from rfl, f93_0_eq, bif_pos (by decide), irem_eq (by omega), wrapu8, show n / 65536 % 256 % 256 = n / 65536 % 256 by omega, q3, bif_pos (by rw [fits5]; simp; omega), show IntKind.i64.wrap (2 + 1) = 3 by decide,
    show r + 2 = r + 1 + 1 from rfl, f93_0_eq, bif_pos (by decide), irem_eq (by omega), wrapu8, show n / 16777216 % 256 % 256 = n / 16777216 % 256 by omega, bif_pos (by rw [fits5]; simp; omega), show IntKind.i64.wrap (3 + 1) = 4 by decide,
    f93_0_eq, bif_neg (by decide)]
  simp
theorem cps107 : PureCps go107 := by
  intro R stk args k
  unfold go107
  split
  · cases Nat.ble _ 140737488355328 <;> rfl
  · rfl
theorem ok107 : PureOk Tryd.prog 107 go107 := by
  refine pureOk_of (c107 rounds) tt107_ok (.cons ok139 (.cons ok85 .nil)) follows rfl Tryd.func107 (by kernel_rfl) (by kernel_rfl) cps107 ?_
  intro args r objs h hr
  unfold go107 at h
  split at h
  · rename_i l
    cases hf : Nat.ble (l.length + 4) 140737488355328 with
    | false => rw [hf] at h; cases h
    | true =>
      rw [hf] at h
      cases h
      rw [ble_iff] at hf
      refine ⟨_, ?_, .same⟩
      unfold apure
      rw [f107_eq, bif_pos (by rw [fits5]; omega), show rounds = (rounds - 5) + 5 from rfl, put_run _ _ _ _ hf, ← crcPut_eq]
      rfl
  · cases h
theorem ok93 : PureOk Tryd.prog 93 go107 := by
  refine pureOk_of (c93 rounds) tt93_ok (.cons ok131 .nil) follows rfl Tryd.func93 (by kernel_rfl) (by kernel_rfl) cps107 ?_
  intro args r objs h hr
  unfold go107 at h
  split at h
  · rename_i l
    cases hf : Nat.ble (l.length + 4) 140737488355328 with
    | false => rw [hf] at h; cases h
    | true =>
      rw [hf] at h
      cases h
      rw [ble_iff] at hf
      have hn := crcOf_has l
      refine ⟨_, ?_, .same⟩
      unfold apure
      rw [f93_eq, List.replicate_zero, List.nil_append, bif_pos (by rw [fits5]; omega), show rounds = (rounds - 5) + 5 from rfl, put_run' _ _ _ _ hn.1 hn.2 hf, ← crcPut_eq]
      rfl
  · cases h
theorem f123_run (F : Nat) (l m : List UInt8) (hl : l.length = m.length) (hb : l.length ≤ 9223372036854775807) : ∀ (d k j : Nat), j + d = l.length → d < k → f123_0 F k l m l.length j = .ret (.bool (eqS (l.drop j) (m.drop j))) []
  | 0, k + 1, j, h1, h2 => by
    rw [f123_0_eq, bif_neg (by rw [ltI_iff]; omega), List.drop_eq_nil_of_le (by omega), List.drop_eq_nil_of_le (by omega)]; rfl
  | d + 1, k + 1, j, h1, h2 => by
    have e1 := getD_cons_drop l j (by omega)
    have e2 := getD_cons_drop m j (by omega)
    rw [f123_0_eq, bif_pos (by rw [ltI_iff]; omega), bif_pos (by rw [inB_iff]; omega), bif_pos (by rw [inB_iff]; omega), bif_neI, Int.toNat_natCast, e1, e2]
    split
    · rename_i h
      have hc : l.getD j 0 = m.getD j 0 := UInt8.toNat_inj.1 (by omega)
      rw [wrap64 (by omega) (by omega), show (j : Int) + 1 = ((j + 1 : Nat) : Int) by omega, f123_run F l m hl hb d k (j + 1) (by omega) (by omega), hc]
      congr 2
      unfold eqS
      simp
    · rename_i h
      have hc : l.getD j 0 ≠ m.getD j 0 := fun e => h (by rw [e])
      congr 2
      unfold eqS
      simp only [Bool.false_eq, beq_eq_false_iff_ne, ne_eq, List.cons.injEq, not_and]
      exact fun e => absurd e hc
theorem ok123 : PureOk Tryd.prog 123 go123 := by
  refine pureOk_of (c123 rounds) tt123_ok .nil follows rfl Tryd.func123 (by kernel_rfl) (by kernel_rfl) ?_ ?_
  · intro R stk args k; unfold go123; split <;> rfl
  · intro args r objs h hr
    unfold go123 at h
    split at h
    · rename_i l m
      cases h
      have hl := hr.bytes
      unfold maxLen at hl
      refine ⟨_, ?_, .same⟩
      unfold apure
      rw [f123_eq, bif_neI]
      by_cases e : (l.length : Int) = m.length
      · rw [if_pos e, show (0 : Int) = ((0 : Nat) : Int) from rfl, f123_run rounds l m (by omega) (by omega) l.length rounds 0 (by omega) (by unfold rounds; omega)]
        rfl
      · have : eqS l m = false := by
          unfold eqS
          simp only [beq_eq_false_iff_ne]
          rintro rfl
          exact e rfl
        rw [if_neg e, this]
        rfl
    · cases h
theorem cps84 : PureCps go84 := by
  intro R stk args k
  unfold go84
  split
  · cases Nat.ble _ 140737488355328 <;> rfl
  · rfl
theorem ok84 : PureOk Tryd.prog 84 go84 := by
  refine pureOk_of (c84 rounds) tt84_ok (.cons ok107 (.cons ok85 (.cons ok123 .nil))) follows rfl Tryd.func84 (by kernel_rfl) (by kernel_rfl) cps84 ?_
  intro args r objs h hr
  unfold go84 at h
  split at h
  · rename_i l
    cases hf : Nat.ble (l.length + 4) 140737488355328 with
    | false => rw [hf] at h; cases h
    | true =>
      rw [hf, cond_true] at h
      rw [ble_iff] at hf
      cases h
      unfold apure
      rw [f84_eq]
      by_cases h4 : l.length < 4
      · rw [(take_short h4).1, (take_short h4).2, bif_pos (by rw [ltI_iff]; omega)]
        exact ⟨_, rfl, .tup (.empty rfl (.refl _))⟩
      · have e : List.take ((IntKind.i64.wrap ((l.length : Int) - 4)).toNat - Int.toNat 0) (List.drop (Int.toNat 0) l) = l.take (l.length - 4) := by
          rw [wrap64 (by omega) (by omega), show ((l.length : Int) - 4).toNat - Int.toNat 0 = l.length - 4 by omega, show Int.toNat 0 = 0 from rfl, List.drop_zero]
        rw [bif_neg (by rw [ltI_iff]; omega), e, wrap64 (by omega) (by omega), bif_pos (by simp [leI]; omega), bif_pos (by rw [fits5]; simp; omega), bif_pos (by rw [ble_iff]; simp; omega)]
        by_cases hp : crcPut (l.take (l.length - 4)) = l
        · rw [(take_good h4 hp).1, (take_good h4 hp).2, bif_neg (by rw [hp]; simp [eqS])]
          exact ⟨_, rfl, .lend⟩
        · rw [(take_bad h4 hp).1, (take_bad h4 hp).2, bif_pos (by simp [eqS, hp])]
          exact ⟨_, rfl, .tup (.empty rfl (.refl _))⟩
  · cases h
end Go.Proofs.YtjdojmjkldpgnaaDoorG
