/- A part of the proof: plain laws, and what functions of the given program come to; no condition. -/
import Derived.Test.YtmkgmlgklggnlaaGs
import Derived.Test.YtmkgmlgklggnlaaGmYsha
namespace Go.Proofs.YtmkgmlgklggnlaaG
open Go Go.Proofs.YtmkgmlgklggnlaaGm
set_option maxRecDepth 100000
set_option maxHeartbeats 0

def go92 (R : Type) (stk : R) (args : List AV) (ret : AV → List AObj → R) : R :=
  match args with
  | [.int .u32 x, .int .i64 k] => ret (.int .u32 (rotL x k)) []
  | _ => stk

def go68 (R : Type) (stk : R) (args : List AV) (ret : AV → List AObj → R) : R :=
  match args with
  | [.int .u32 x, .int .i64 n] => bif leI 0 n && leI n 32 then ret (.int .u32 (rightW x n)) [] else stk
  | _ => stk

def go67 (R : Type) (stk : R) (args : List AV) (ret : AV → List AObj → R) : R :=
  match args with
  | [.int .u32 x, .int .i64 6, .int .i64 11, .int .i64 25] => ret (.int .u32 (ixor .u32 (ixor .u32 (rightW x 6) (rightW x 11)) (rightW x 25))) []
  | [.int .u32 x, .int .i64 2, .int .i64 13, .int .i64 22] => ret (.int .u32 (ixor .u32 (ixor .u32 (rightW x 2) (rightW x 13)) (rightW x 22))) []
  | _ => stk

def go66 (R : Type) (stk : R) (args : List AV) (ret : AV → List AObj → R) : R :=
  match args with
  | [] => ret (.arr (intsA .u32 keysW)) []
  | _ => stk

def go65 (R : Type) (stk : R) (args : List AV) (ret : AV → List AObj → R) : R :=
  match args with
  | [.arr r] => bif Nat.beq r.length 64 && r.all (isInt .u8) then ret (.arr (intsA .u32 (sched (r.map intOf)))) [] else stk
  | _ => stk

def tt92 : Tab := [(3, ty3), (39, ty39), (117, ty117)]
theorem tt92_ok : TabOk Try.prog tt92 := tabOk_of_all ⟨ty3_ok, ty39_ok, ty117_ok, trivial⟩
def c92 (F : Nat) : Cfg := ⟨tt92, [], F, [], [], 0⟩
theorem f92_eq (F : Nat) (a0 : Int) (a1 : Int) : afun (c92 F) Try.f92 [AV.int .u32 a0, AV.int .i64 a1] [] =
 bif ltI (IntKind.u64.wrap (32 - iand IntKind.u64 (IntKind.u64.wrap a1) 31)) 0 then
 .stuck
 else
 .ret (AV.int .u32 (ior IntKind.u32 (ishl IntKind.u32 a0 (iand IntKind.u64 (IntKind.u64.wrap a1) 31)) (ishr IntKind.u32 a0 (IntKind.u64.wrap (32 - iand IntKind.u64 (IntKind.u64.wrap a1) 31))))) [] := by kernel_rfl


def tt68 : Tab := [(3, ty3), (39, ty39)]
theorem tt68_ok : TabOk Try.prog tt68 := tabOk_of_all ⟨ty3_ok, ty39_ok, trivial⟩
def c68 (F : Nat) : Cfg := ⟨tt68, [], F, [], [], 0⟩
theorem f68_eq (F : Nat) (a0 : Int) (a1 : Int) : afun (c68 F) Try.f68 [AV.int .u32 a0, AV.int .i64 a1] [] =
 bif ltI a1 0 then
 .stuck
 else
 bif ltI (IntKind.i64.wrap (32 - a1)) 0 then
 .stuck
 else
 .ret (AV.int .u32 (ior IntKind.u32 (ishr IntKind.u32 a0 a1) (ishl IntKind.u32 a0 (IntKind.i64.wrap (32 - a1))))) [] := by kernel_rfl


def tt67 : Tab := [(3, ty3), (39, ty39)]
theorem tt67_ok : TabOk Try.prog tt67 := tabOk_of_all ⟨ty3_ok, ty39_ok, trivial⟩
def c67 (F : Nat) : Cfg := ⟨tt67, [(92, .pure go92)], F, [], [], 0⟩
theorem f67_eq (F : Nat) (a0 : Int) (a1 : Int) (a2 : Int) (a3 : Int) : afun (c67 F) Try.f67 [AV.int .u32 a0, AV.int .i64 a1, AV.int .i64 a2, AV.int .i64 a3] [] =
 .ret (AV.int .u32 (ixor IntKind.u32 (ixor IntKind.u32 (rotL a0 (IntKind.i64.wrap (0 - a1))) (rotL a0 (IntKind.i64.wrap (0 - a2)))) (rotL a0 (IntKind.i64.wrap (0 - a3))))) [] := by kernel_rfl


def tt66 : Tab := [(0, ty0), (39, ty39), (44, ty44)]
theorem tt66_ok : TabOk Try.prog tt66 := tabOk_of_all ⟨ty0_ok, ty39_ok, ty44_ok, trivial⟩
def c66 (F : Nat) : Cfg := ⟨tt66, [], F, [], [], 0⟩
theorem f66_eq (F : Nat) : afun (c66 F) Try.f66 [] [] =
 .ret (AV.arr [AV.int .u32 (Int.ofNat 1116352408), AV.int .u32 (Int.ofNat 1899447441), AV.int .u32 (Int.ofNat 3049323471), AV.int .u32 (Int.ofNat 3921009573), AV.int .u32 (Int.ofNat 961987163), AV.int .u32 (Int.ofNat 1508970993), AV.int .u32 (Int.ofNat 2453635748), AV.int .u32 (Int.ofNat 2870763221), AV.int .u32 (Int.ofNat 3624381080), AV.int .u32 (Int.ofNat 310598401), AV.int .u32 (Int.ofNat 607225278), AV.int .u32 (Int.ofNat 1426881987), AV.int .u32 (Int.ofNat 1925078388), AV.int .u32 (Int.ofNat 2162078206), AV.int .u32 (Int.ofNat 2614888103), AV.int .u32 (Int.ofNat 3248222580), AV.int .u32 (Int.ofNat 3835390401), AV.int .u32 (Int.ofNat 4022224774), AV.int .u32 (Int.ofNat 264347078), AV.int .u32 (Int.ofNat 604807628), AV.int .u32 (Int.ofNat 770255983), AV.int .u32 (Int.ofNat 1249150122), AV.int .u32 (Int.ofNat 1555081692), AV.int .u32 (Int.ofNat 1996064986), AV.int .u32 (Int.ofNat 2554220882), AV.int .u32 (Int.ofNat 2821834349), AV.int .u32 (Int.ofNat 2952996808), AV.int .u32 (Int.ofNat 3210313671), AV.int .u32 (Int.ofNat 3336571891), AV.int .u32 (Int.ofNat 3584528711), AV.int .u32 (Int.ofNat 113926993), AV.int .u32 (Int.ofNat 338241895), AV.int .u32 (Int.ofNat 666307205), AV.int .u32 (Int.ofNat 773529912), AV.int .u32 (Int.ofNat 1294757372), AV.int .u32 (Int.ofNat 1396182291), AV.int .u32 (Int.ofNat 1695183700), AV.int .u32 (Int.ofNat 1986661051), AV.int .u32 (Int.ofNat 2177026350), AV.int .u32 (Int.ofNat 2456956037), AV.int .u32 (Int.ofNat 2730485921), AV.int .u32 (Int.ofNat 2820302411), AV.int .u32 (Int.ofNat 3259730800), AV.int .u32 (Int.ofNat 3345764771), AV.int .u32 (Int.ofNat 3516065817), AV.int .u32 (Int.ofNat 3600352804), AV.int .u32 (Int.ofNat 4094571909), AV.int .u32 (Int.ofNat 275423344), AV.int .u32 (Int.ofNat 430227734), AV.int .u32 (Int.ofNat 506948616), AV.int .u32 (Int.ofNat 659060556), AV.int .u32 (Int.ofNat 883997877), AV.int .u32 (Int.ofNat 958139571), AV.int .u32 (Int.ofNat 1322822218), AV.int .u32 (Int.ofNat 1537002063), AV.int .u32 (Int.ofNat 1747873779), AV.int .u32 (Int.ofNat 1955562222), AV.int .u32 (Int.ofNat 2024104815), AV.int .u32 (Int.ofNat 2227730452), AV.int .u32 (Int.ofNat 2361852424), AV.int .u32 (Int.ofNat 2428436474), AV.int .u32 (Int.ofNat 2756734187), AV.int .u32 (Int.ofNat 3204031479), AV.int .u32 (Int.ofNat 3329325298)]) [AObj.vara 44 .u32 [Int.ofNat 1116352408, Int.ofNat 1899447441, Int.ofNat 3049323471, Int.ofNat 3921009573, Int.ofNat 961987163, Int.ofNat 1508970993, Int.ofNat 2453635748, Int.ofNat 2870763221, Int.ofNat 3624381080, Int.ofNat 310598401, Int.ofNat 607225278, Int.ofNat 1426881987, Int.ofNat 1925078388, Int.ofNat 2162078206, Int.ofNat 2614888103, Int.ofNat 3248222580, Int.ofNat 3835390401, Int.ofNat 4022224774, Int.ofNat 264347078, Int.ofNat 604807628, Int.ofNat 770255983, Int.ofNat 1249150122, Int.ofNat 1555081692, Int.ofNat 1996064986, Int.ofNat 2554220882, Int.ofNat 2821834349, Int.ofNat 2952996808, Int.ofNat 3210313671, Int.ofNat 3336571891, Int.ofNat 3584528711, Int.ofNat 113926993, Int.ofNat 338241895, Int.ofNat 666307205, Int.ofNat 773529912, Int.ofNat 1294757372, Int.ofNat 1396182291, Int.ofNat 1695183700, Int.ofNat 1986661051, Int.ofNat 2177026350, Int.ofNat 2456956037, Int.ofNat 2730485921, Int.ofNat 2820302411, Int.ofNat 3259730800, Int.ofNat 3345764771, Int.ofNat 3516065817, Int.ofNat 3600352804, Int.ofNat 4094571909, Int.ofNat 275423344, Int.ofNat 430227734, Int.ofNat 506948616, Int.ofNat 659060556, Int.ofNat 883997877, Int.ofNat 958139571, Int.ofNat 1322822218, Int.ofNat 1537002063, Int.ofNat 1747873779, Int.ofNat 1955562222, Int.ofNat 2024104815, Int.ofNat 2227730452, Int.ofNat 2361852424, Int.ofNat 2428436474, Int.ofNat 2756734187, Int.ofNat 3204031479, Int.ofNat 3329325298]] := by kernel_rfl


def tt65 : Tab := [(0, ty0), (3, ty3), (4, ty4), (5, ty5), (39, ty39), (41, ty41), (44, ty44), (117, ty117)]
theorem tt65_ok : TabOk Try.prog tt65 := tabOk_of_all ⟨ty0_ok, ty3_ok, ty4_ok, ty5_ok, ty39_ok, ty41_ok, ty44_ok, ty117_ok, trivial⟩
def c65 (F : Nat) : Cfg := ⟨tt65, [(92, .pure go92)], F, [(0, ⟨[1, 2, 3, 11], []⟩), (2, ⟨[1, 2, 3, 4, 11, 14], []⟩), (4, ⟨[2, 3, 6], []⟩)], [], 0⟩
noncomputable def f65_0 (F k : Nat) (x11 : Int) (xh0 : List Int) (xh1 : List Int) (xh2 : List Int) : Res := aloop (c65 F) Try.f65 0 [] k (St.mk [.top, AV.ptr 0 0, AV.ptr 1 0, AV.ptr 2 0, .top, .top, .top, .top, .top, .top, .top, AV.int .i64 x11, .top, .top, .top, .top, .top, .top, .top, .top, .top, .top, .top, .top, .top, .top, .top, .top, .top, .top, .top, .top, .top, .top, .top, .top, .top, .top, .top, .top, .top, .top, .top, .top, .top, .top, .top, .top, .top, .top, .top, .top, .top, .top, .top, .top, .top, .top, .top, .top, .top, .top, .top, .top, .top, .top, .top, .top, .top, .top, .top, .top, .top, .top, .top, .top, .top] [AObj.vara 41 IntKind.u8 xh0, AObj.vara 44 .u32 xh1, AObj.vara 44 .u32 xh2])
noncomputable def f65_2 (F k : Nat) (g0 : Nat) (x4 : Int) (x11 : Int) (x14 : Int) (xh0 : List Int) (xh1 : List Int) (xh2 : List Int) : Res := aloop (c65 F) Try.f65 2 [g0] k (St.mk [.top, AV.ptr 0 0, AV.ptr 1 0, AV.ptr 2 0, AV.int .i64 x4, .top, .top, .top, .top, .top, .top, AV.int .i64 x11, .top, .top, AV.int .i64 x14, .top, .top, .top, .top, .top, .top, .top, .top, .top, .top, .top, .top, .top, .top, .top, .top, .top, .top, .top, .top, .top, .top, .top, .top, .top, .top, .top, .top, .top, .top, .top, .top, .top, .top, .top, .top, .top, .top, .top, .top, .top, .top, .top, .top, .top, .top, .top, .top, .top, .top, .top, .top, .top, .top, .top, .top, .top, .top, .top, .top, .top, .top] [AObj.vara 41 IntKind.u8 xh0, AObj.vara 44 .u32 xh1, AObj.vara 44 .u32 xh2])
noncomputable def f65_4 (F k : Nat) (x6 : Int) (xh0 : List Int) (xh1 : List Int) : Res := aloop (c65 F) Try.f65 4 [] k (St.mk [.top, .top, AV.ptr 0 0, AV.ptr 1 0, .top, .top, AV.int .i64 x6, .top, .top, .top, .top, .top, .top, .top, .top, .top, .top, .top, .top, .top, .top, .top, .top, .top, .top, .top, .top, .top, .top, .top, .top, .top, .top, .top, .top, .top, .top, .top, .top, .top, .top, .top, .top, .top, .top, .top, .top, .top, .top, .top, .top, .top, .top, .top, .top, .top, .top, .top, .top, .top, .top, .top, .top, .top, .top, .top, .top, .top, .top, .top, .top, .top, .top, .top, .top, .top, .top] [AObj.vara 44 .u32 xh0, AObj.vara 44 .u32 xh1])
theorem f65_eq (F : Nat) (r : List AV) : afun (c65 F) Try.f65 [AV.arr r] [] =
 bif r.length.beq 64 then
 bif r.all (isInt .u8) then
 f65_0 F F 0 (List.map intOf r) [Int.ofNat 0, Int.ofNat 0, Int.ofNat 0, Int.ofNat 0, Int.ofNat 0, Int.ofNat 0, Int.ofNat 0, Int.ofNat 0, Int.ofNat 0, Int.ofNat 0, Int.ofNat 0, Int.ofNat 0, Int.ofNat 0, Int.ofNat 0, Int.ofNat 0, Int.ofNat 0, Int.ofNat 0, Int.ofNat 0, Int.ofNat 0, Int.ofNat 0, Int.ofNat 0, Int.ofNat 0, Int.ofNat 0, Int.ofNat 0, Int.ofNat 0, Int.ofNat 0, Int.ofNat 0, Int.ofNat 0, Int.ofNat 0, Int.ofNat 0, Int.ofNat 0, Int.ofNat 0, Int.ofNat 0, Int.ofNat 0, Int.ofNat 0, Int.ofNat 0, Int.ofNat 0, Int.ofNat 0, Int.ofNat 0, Int.ofNat 0, Int.ofNat 0, Int.ofNat 0, Int.ofNat 0, Int.ofNat 0, Int.ofNat 0, Int.ofNat 0, Int.ofNat 0, Int.ofNat 0, Int.ofNat 0, Int.ofNat 0, Int.ofNat 0, Int.ofNat 0, Int.ofNat 0, Int.ofNat 0, Int.ofNat 0, Int.ofNat 0, Int.ofNat 0, Int.ofNat 0, Int.ofNat 0, Int.ofNat 0, Int.ofNat 0, Int.ofNat 0, Int.ofNat 0, Int.ofNat 0] [Int.ofNat 0, Int.ofNat 0, Int.ofNat 0, Int.ofNat 0, Int.ofNat 0, Int.ofNat 0, Int.ofNat 0, Int.ofNat 0, Int.ofNat 0, Int.ofNat 0, Int.ofNat 0, Int.ofNat 0, Int.ofNat 0, Int.ofNat 0, Int.ofNat 0, Int.ofNat 0, Int.ofNat 0, Int.ofNat 0, Int.ofNat 0, Int.ofNat 0, Int.ofNat 0, Int.ofNat 0, Int.ofNat 0, Int.ofNat 0, Int.ofNat 0, Int.ofNat 0, Int.ofNat 0, Int.ofNat 0, Int.ofNat 0, Int.ofNat 0, Int.ofNat 0, Int.ofNat 0, Int.ofNat 0, Int.ofNat 0, Int.ofNat 0, Int.ofNat 0, Int.ofNat 0, Int.ofNat 0, Int.ofNat 0, Int.ofNat 0, Int.ofNat 0, Int.ofNat 0, Int.ofNat 0, Int.ofNat 0, Int.ofNat 0, Int.ofNat 0, Int.ofNat 0, Int.ofNat 0, Int.ofNat 0, Int.ofNat 0, Int.ofNat 0, Int.ofNat 0, Int.ofNat 0, Int.ofNat 0, Int.ofNat 0, Int.ofNat 0, Int.ofNat 0, Int.ofNat 0, Int.ofNat 0, Int.ofNat 0, Int.ofNat 0, Int.ofNat 0, Int.ofNat 0, Int.ofNat 0]
 else
 .stuck
 else
 .stuck := by kernel_rfl
theorem f65_0_eq (F k : Nat) (x11 : Int) (xh0 : List Int) (xh1 : List Int) (xh2 : List Int) : f65_0 F (k + 1) x11 xh0 xh1 xh2 =
 bif ltI x11 16 then
 f65_2 F F k x11 x11 0 xh0 xh1 xh2
 else
 f65_4 F F 16 xh1 xh2 := by kernel_rfl
theorem f65_2_eq (F k : Nat) (g0 : Nat) (x4 : Int) (x11 : Int) (x14 : Int) (xh0 : List Int) (xh1 : List Int) (xh2 : List Int) : f65_2 F (k + 1) g0 x4 x11 x14 xh0 xh1 xh2 =
 bif ltI x14 4 then
 bif inB x4 64 then
 bif (0 + x4.toNat * 1).blt xh2.length then
 bif inB (IntKind.i64.wrap (IntKind.i64.wrap (4 * x4) + x14)) 64 then
 bif (0 + (IntKind.i64.wrap (IntKind.i64.wrap (4 * x4) + x14)).toNat * 1).blt xh0.length then
 bif inB x4 64 then
 bif (0 + x4.toNat * 1).blt xh2.length then
 f65_2 F k g0 x4 x11 (IntKind.i64.wrap (x14 + 1)) xh0 xh1 (xh2.set (0 + x4.toNat * 1) (ior IntKind.u32 (ishl IntKind.u32 (xh2.getD (0 + x4.toNat * 1) 0) 8) (IntKind.u32.wrap (xh0.getD (0 + (IntKind.i64.wrap (IntKind.i64.wrap (4 * x4) + x14)).toNat * 1) 0))))
 else
 .stuck
 else
 .stuck
 else
 .stuck
 else
 .stuck
 else
 .stuck
 else
 .stuck
 else
 f65_0 F g0 (IntKind.i64.wrap (x11 + 1)) xh0 xh1 xh2 := by kernel_rfl
theorem f65_4_eq (F k : Nat) (x6 : Int) (xh0 : List Int) (xh1 : List Int) : f65_4 F (k + 1) x6 xh0 xh1 =
 bif ltI x6 64 then
 bif inB (IntKind.i64.wrap (x6 - 15)) 64 then
 bif (0 + (IntKind.i64.wrap (x6 - 15)).toNat * 1).blt xh1.length then
 bif inB (IntKind.i64.wrap (x6 - 2)) 64 then
 bif (0 + (IntKind.i64.wrap (x6 - 2)).toNat * 1).blt xh1.length then
 bif inB (IntKind.i64.wrap (x6 - 16)) 64 then
 bif (0 + (IntKind.i64.wrap (x6 - 16)).toNat * 1).blt xh1.length then
 bif inB (IntKind.i64.wrap (x6 - 7)) 64 then
 bif (0 + (IntKind.i64.wrap (x6 - 7)).toNat * 1).blt xh1.length then
 bif inB x6 64 then
 bif (0 + x6.toNat * 1).blt xh1.length then
 f65_4 F k (IntKind.i64.wrap (x6 + 1)) xh0 (xh1.set (0 + x6.toNat * 1) (IntKind.u32.wrap (IntKind.u32.wrap (IntKind.u32.wrap (xh1.getD (0 + (IntKind.i64.wrap (x6 - 16)).toNat * 1) 0 + ixor IntKind.u32 (ixor IntKind.u32 (rotL (xh1.getD (0 + (IntKind.i64.wrap (x6 - 15)).toNat * 1) 0) (-7)) (rotL (xh1.getD (0 + (IntKind.i64.wrap (x6 - 15)).toNat * 1) 0) (-18))) (ishr IntKind.u32 (xh1.getD (0 + (IntKind.i64.wrap (x6 - 15)).toNat * 1) 0) 3)) + xh1.getD (0 + (IntKind.i64.wrap (x6 - 7)).toNat * 1) 0) + ixor IntKind.u32 (ixor IntKind.u32 (rotL (xh1.getD (0 + (IntKind.i64.wrap (x6 - 2)).toNat * 1) 0) (-17)) (rotL (xh1.getD (0 + (IntKind.i64.wrap (x6 - 2)).toNat * 1) 0) (-19))) (ishr IntKind.u32 (xh1.getD (0 + (IntKind.i64.wrap (x6 - 2)).toNat * 1) 0) 10))))
 else
 .stuck
 else
 .stuck
 else
 .stuck
 else
 .stuck
 else
 .stuck
 else
 .stuck
 else
 .stuck
 else
 .stuck
 else
 .stuck
 else
 .stuck
 else
 bif Nat.beq 64 xh1.length then
 bif (List.map (AV.int .u32) xh1).length.beq 64 then
 bif (List.map (AV.int .u32) xh1).length.beq xh0.length && (List.map (AV.int .u32) xh1).all (isInt .u32) then
 resEnd (bif Nat.beq 64 (List.map intOf (List.map (AV.int .u32) xh1)).length then some (AV.arr (List.map (AV.int .u32) (List.map intOf (List.map (AV.int .u32) xh1)))) else none) [AObj.vara 44 .u32 (List.map intOf (List.map (AV.int .u32) xh1)), AObj.vara 44 .u32 xh1]
 else
 .stuck
 else
 .stuck
 else
 .stuck := by kernel_rfl


theorem nlt {a : Int} (h : 0 ≤ a) : ltI a 0 = false := ltI_f.2 (by omega)
theorem f92_all (F : Nat) (x k : Int) : outR (afun (c92 F) Try.f92 [.int .u32 x, .int .i64 k] []) = some (.int .u32 (rotL x k), []) := by
  rw [f92_eq, nlt (by simp [IntKind.wrap, IntKind.signed, IntKind.bits]; omega)]; rfl
theorem f68_all (F : Nat) (x n : Int) (h0 : 0 ≤ n) (h1 : n ≤ 32) : outR (afun (c68 F) Try.f68 [.int .u32 x, .int .i64 n] []) = some (.int .u32 (rightW x n), []) := by
  rw [f68_eq, nlt h0, cond_false, nlt (by rw [wrap64 (by omega) (by omega)]; omega)]; rfl

theorem ok92 : PureOk Try.prog 92 go92 := by
  refine pureOk_of (c92 rounds) tt92_ok .nil follows rfl Try.func92 (by kernel_rfl) (by kernel_rfl) ?_ ?_
  · intro R stk args ret
    unfold go92
    split
    · rfl
    · rfl
  · intro args r objs h hr
    unfold go92 at h
    split at h
    · rename_i x k
      cases h
      refine ⟨_, ?_, .same⟩
      rw [apure_out]
      exact f92_all rounds x k
    · cases h

theorem ok68 : PureOk Try.prog 68 go68 := by
  refine pureOk_of (c68 rounds) tt68_ok .nil follows rfl Try.func68 (by kernel_rfl) (by kernel_rfl) ?_ ?_
  · intro R stk args ret
    unfold go68
    split
    · simp only [elim_cond]; rfl
    · rfl
  · intro args r objs h hr
    unfold go68 at h
    split at h
    · rename_i x n
      rcases bif_alt h with ⟨hf0, h⟩ | ⟨hf0, h⟩
      · cases h
        rw [Bool.and_eq_true, leI_iff, leI_iff] at hf0
        refine ⟨_, ?_, .same⟩
        rw [apure_out]
        exact f68_all rounds x n hf0.1 hf0.2
      ·
        cases h
    · cases h

theorem ok67 : PureOk Try.prog 67 go67 := by
  refine pureOk_of (c67 rounds) tt67_ok (.cons ok92 .nil) follows rfl Try.func67 (by kernel_rfl) (by kernel_rfl) ?_ ?_
  · intro R stk args ret
    unfold go67
    split
    · rfl
    · rfl
    · rfl
  · intro args r objs h hr
    unfold go67 at h
    split at h
    · rename_i x
      cases h
      refine ⟨_, ?_, .same⟩
      rw [apure_out]
      rw [f67_eq, show IntKind.i64.wrap (0 - 6) = -6 from rfl, show IntKind.i64.wrap (0 - 11) = -11 from rfl, show IntKind.i64.wrap (0 - 25) = -25 from rfl, rot6, rot11, rot25]
      rfl
    · rename_i x
      cases h
      refine ⟨_, ?_, .same⟩
      rw [apure_out]
      rw [f67_eq, show IntKind.i64.wrap (0 - 2) = -2 from rfl, show IntKind.i64.wrap (0 - 13) = -13 from rfl, show IntKind.i64.wrap (0 - 22) = -22 from rfl, rot2, rot13, rot22]
      rfl
    · cases h

theorem ok66 : PureOk Try.prog 66 go66 := by
  refine pureOk_of (c66 rounds) tt66_ok .nil follows rfl Try.func66 (by kernel_rfl) (by kernel_rfl) ?_ ?_
  · intro R stk args ret
    unfold go66
    split
    · rfl
    · rfl
  · intro args r objs h hr
    unfold go66 at h
    split at h
    · rename_i a
      cases h
      refine ⟨_, ?_, .same⟩
      rw [apure_out]
      rw [f66_eq]
      rfl
    · cases h

theorem f65_2_step (F k g0 i j : Nat) (b z w : List Int) (hi : i < 16) (hj : j < 4) (hb : b.length = 64) (hw : w.length = 64) :
    f65_2 F (k + 1) g0 i i j b z w = f65_2 F k g0 i i ((j + 1 : Nat) : Int) b z (catW w b i j) := by
  have e1 : IntKind.i64.wrap (IntKind.i64.wrap (4 * (i : Int)) + (j : Int)) = ((4 * i + j : Nat) : Int) := by
    rw [wrap64 (n := 4 * (i : Int)) (by omega) (by omega), wrap64 (by omega) (by omega)]; omega
  have e2 : IntKind.i64.wrap ((j : Int) + 1) = ((j + 1 : Nat) : Int) := by rw [wrap64 (by omega) (by omega)]; omega
  rw [f65_2_eq, bif_pos (ltI_iff.2 (by omega)), e1, e2]
  simp only [Int.toNat_natCast, Nat.zero_add, Nat.mul_one]
  repeat rw [bif_pos (by first | (rw [inB_iff]; omega) | (rw [blt_iff]; omega))]
  rfl
theorem f65_0_step (F k i : Nat) (b z : List Int) (hi : i < 16) (hb : b.length = 64) (hx : ∀ x ∈ b, 0 ≤ x ∧ x < 256) :
    f65_0 (F + 5) (k + 1) i b z (wPart b i) = f65_0 (F + 5) k ((i + 1 : Nat) : Int) b z (wPart b (i + 1)) := by
  have e2 : IntKind.i64.wrap ((i : Int) + 1) = ((i + 1 : Nat) : Int) := by rw [wrap64 (by omega) (by omega)]; omega
  have h0 := wPart_len b i
  have l0 := (catW_len (wPart b i) b i 0).trans h0
  have l1 := (catW_len _ b i 1).trans l0
  have l2 := (catW_len _ b i 2).trans l1
  rw [f65_0_eq, bif_pos (ltI_iff.2 (by omega)), show (0 : Int) = ((0 : Nat) : Int) from rfl,
    f65_2_step (F + 5) (F + 4) k i 0 b z _ hi (by decide) hb h0, f65_2_step (F + 5) (F + 3) k i 1 b z _ hi (by decide) hb l0,
    f65_2_step (F + 5) (F + 2) k i 2 b z _ hi (by decide) hb l1, f65_2_step (F + 5) (F + 1) k i 3 b z _ hi (by decide) hb l2, word_four hx hi,
    f65_2_eq, bif_neg (by rw [ltI_iff]; omega), e2]
theorem f65_0_all (F : Nat) (b z : List Int) (hb : b.length = 64) (hx : ∀ x ∈ b, 0 ≤ x ∧ x < 256) : ∀ (n i k : Nat), i + n = 16 →
    f65_0 (F + 5) (k + 1 + n) i b z (wPart b i) = f65_4 (F + 5) (F + 5) 16 z (wFirst b)
  | 0, i, k, h => by
    obtain rfl : i = 16 := by omega
    rw [Nat.add_zero, f65_0_eq, bif_neg (by rw [ltI_iff]; omega)]; rfl
  | n + 1, i, k, h => by
    rw [show k + 1 + (n + 1) = k + 1 + n + 1 from rfl, f65_0_step F _ i b z (by omega) hb hx]
    exact f65_0_all F b z hb hx n (i + 1) k (by omega)
theorem f65_4_step (F k i : Nat) (z w : List Int) (h0 : 16 ≤ i) (hi : i < 64) (hw : w.length = 64) : f65_4 F (k + 1) i z w = f65_4 F k ((i + 1 : Nat) : Int) z (w.set i (wNext w i)) := by
  have e : ∀ m : Nat, m ≤ 16 → IntKind.i64.wrap ((i : Int) - m) = ((i - m : Nat) : Int) := fun m hm => by rw [wrap64 (by omega) (by omega)]; omega
  have e2 : IntKind.i64.wrap ((i : Int) + 1) = ((i + 1 : Nat) : Int) := by rw [wrap64 (by omega) (by omega)]; omega
  have e15 := e 15 (by decide)
  have e16 := e 16 (by decide)
  have e7 := e 7 (by decide)
  have e2' := e 2 (by decide)
  rw [f65_4_eq, bif_pos (ltI_iff.2 (by omega))]
  rw [show (15 : Int) = ((15 : Nat) : Int) from rfl, show (16 : Int) = ((16 : Nat) : Int) from rfl, show (7 : Int) = ((7 : Nat) : Int) from rfl, show (2 : Int) = ((2 : Nat) : Int) from rfl, e15, e16, e7, e2', e2]
  simp only [Int.toNat_natCast, Nat.zero_add, Nat.mul_one]
  repeat rw [bif_pos (by first | (rw [inB_iff]; omega) | (rw [blt_iff]; omega))]
  rw [show (3 : Int) = 3 from rfl, ishr32_3, ishr32_10, rot18, rot17, rot19]
  first
  | (rw [rot7]; rfl)
  | (rw [show (-((7 : Nat) : Int)) = -7 from rfl, rot7]; rfl)
theorem f65_4_all (F : Nat) (z : List Int) (hz : z.length = 64) : ∀ (n i k : Nat) (w : List Int), i + n = 64 → 16 ≤ i → w.length = 64 →
    outR (f65_4 F (k + 1 + n) i z w) = some (.arr (intsA .u32 (wMore n i w)), [])
  | 0, i, k, w, h, _, hw => by
    obtain rfl : i = 64 := by omega
    rw [Nat.add_zero, f65_4_eq, bif_neg (by rw [ltI_iff]; omega), bif_pos (by rw [hw]; rfl), bif_pos (by rw [List.length_map, hw]; rfl),
      bif_pos (by rw [Bool.and_eq_true]; exact ⟨by rw [List.length_map, hw, hz]; rfl, intsA_is .u32 w⟩)]
    show outR (resEnd (bif Nat.beq 64 (List.map intOf (intsA .u32 w)).length then some (AV.arr (List.map (AV.int .u32) (List.map intOf (intsA .u32 w)))) else none) _) = _
    rw [intsA_int, hw]; rfl
  | n + 1, i, k, w, h, h0, hw => by
    rw [show k + 1 + (n + 1) = k + 1 + n + 1 from rfl, f65_4_step F _ i z w h0 (by omega) hw]
    exact f65_4_all F z hz n (i + 1) k _ (by omega) (by omega) (by rw [List.length_set]; exact hw)
theorem f65_all (F : Nat) (hF : 100 ≤ F) (r : List AV) (hl : r.length = 64) (ha : r.all (isInt .u8) = true) (hr : ∀ x ∈ r.map intOf, 0 ≤ x ∧ x < 256) :
    outR (afun (c65 F) Try.f65 [.arr r] []) = some (.arr (intsA .u32 (sched (r.map intOf))), []) := by
  rw [f65_eq, bif_pos (by rw [hl]; rfl), bif_pos ha]
  have hb : (r.map intOf).length = 64 := by rw [List.length_map, hl]
  obtain ⟨G, rfl⟩ : ∃ G, F = G + 95 + 5 := ⟨F - 100, by omega⟩
  have e := f65_0_all (G + 95) (r.map intOf) (wPart [] 0) hb hr 16 0 (G + 83) rfl
  have e4 := f65_4_all (G + 95 + 5) (wPart [] 0) (wPart_len _ _) 48 16 (G + 51) (wFirst (r.map intOf)) rfl (by decide) (wPart_len _ 16)
  have e' : f65_0 (G + 95 + 5) (G + 95 + 5) 0 (r.map intOf) (wPart [] 0) (wPart (r.map intOf) 0) = f65_4 (G + 95 + 5) (G + 95 + 5) 16 (wPart [] 0) (wFirst (r.map intOf)) := e
  refine (congrArg outR e').trans e4

theorem ok65 : PureOk Try.prog 65 go65 := by
  refine pureOk_of (c65 rounds) tt65_ok (.cons ok92 .nil) follows rfl Try.func65 (by kernel_rfl) (by kernel_rfl) ?_ ?_
  · intro R stk args ret
    unfold go65
    split
    · simp only [elim_cond]; rfl
    · rfl
  · intro args r objs h hr
    unfold go65 at h
    split at h
    · rename_i r
      rcases bif_alt h with ⟨hf0, h⟩ | ⟨hf0, h⟩
      · cases h
        rw [Bool.and_eq_true] at hf0
        refine ⟨_, ?_, .same⟩
        rw [apure_out]
        exact f65_all rounds (by decide) r (Nat.eq_of_beq_eq_true hf0.1) hf0.2 (hr.arrT.bytesA hf0.2)
      ·
        cases h
    · cases h

end Go.Proofs.YtmkgmlgklggnlaaG
