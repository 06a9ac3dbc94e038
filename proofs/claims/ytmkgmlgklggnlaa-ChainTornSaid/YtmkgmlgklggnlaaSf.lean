/- A part of the proof: plain laws, and what functions of the given program come to; no condition. -/
import Derived.Test.YtmkgmlgklggnlaaSe
namespace Go.Proofs.YtmkgmlgklggnlaaG
open Go Go.Proofs.YtmkgmlgklggnlaaGm
set_option maxRecDepth 100000
set_option maxHeartbeats 0

def go33 (R : Type) (stk : R) (args : List AV) (ret : AV → List AObj → R) : R :=
  match args with
  | [.ro (.bytes b)] => bif Nat.ble b.length 1099511627776 then ret (.arr (intsA .u8 (shaW b))) [] else stk
  | _ => stk

def tt33 : Tab := [(0, ty0), (1, ty1), (3, ty3), (4, ty4), (5, ty5), (22, ty22), (39, ty39), (40, ty40), (44, ty44), (51, ty51), (99, ty99), (51, ty51), (40, ty40)]
theorem tt33_ok : TabOk Try.prog tt33 := tabOk_of_all ⟨ty0_ok, ty1_ok, ty3_ok, ty4_ok, ty5_ok, ty22_ok, ty39_ok, ty40_ok, ty44_ok, ty51_ok, ty99_ok, ty51_ok, ty40_ok, trivial⟩
def c33 (F : Nat) : Cfg := ⟨tt33, [(73, .pure go73), (74, .pure go74), (26, .pure go26v)], F, [(0, ⟨[0, 2, 3], [(3, 5)]⟩), (2, ⟨[2, 3, 4, 5, 6], []⟩), (4, ⟨[2, 3, 7, 8, 9], []⟩), (6, ⟨[2, 7, 10, 11], []⟩), (8, ⟨[2, 7, 10, 11, 12, 13], []⟩)], [], 0⟩
noncomputable def f33_0 (F k : Nat) (x0 : List UInt8) (xh0 : List Int) (xh1 : List UInt8) : Res := aloop (c33 F) Try.f33 0 [] k (St.mk [AV.ro (Pay.bytes x0), .top, AV.ptr 0 0, AV.own 1, .top, .top, .top, .top, .top, .top, .top, .top, .top, .top, .top, .top, .top, .top, .top, .top, .top, .top, .top, .top, .top, .top, .top, .top, .top, .top, .top, .top, .top, .top, .top, .top, .top, .top, .top, .top, .top, .top, .top, .top, .top, .top, .top, .top, .top, .top, .top, .top, .top, .top, .top, .top, .top, .top, .top, .top, .top, .top, .top, .top, .top, .top, .top, .top, .top, .top, .top, .top, .top, .top, .top, .top, .top, .top, .top, .top, .top, .top, .top, .top] [AObj.vara 51 .u8 xh0, AObj.arr 5 (Pay.bytes xh1)])
noncomputable def f33_2 (F k : Nat) (x4 : Int) (x6 : Int) (xh0 : List Int) (xh1 : List UInt8) (xh2 : List UInt8) : Res := aloop (c33 F) Try.f33 2 [] k (St.mk [.top, .top, AV.ptr 0 0, AV.own 1, AV.int .u64 x4, AV.own 2, AV.int .i64 x6, .top, .top, .top, .top, .top, .top, .top, .top, .top, .top, .top, .top, .top, .top, .top, .top, .top, .top, .top, .top, .top, .top, .top, .top, .top, .top, .top, .top, .top, .top, .top, .top, .top, .top, .top, .top, .top, .top, .top, .top, .top, .top, .top, .top, .top, .top, .top, .top, .top, .top, .top, .top, .top, .top, .top, .top, .top, .top, .top, .top, .top, .top, .top, .top, .top, .top, .top, .top, .top, .top, .top, .top, .top, .top, .top, .top, .top] [AObj.vara 51 .u8 xh0, AObj.arr 5 (Pay.bytes xh1), AObj.arr 5 (Pay.bytes xh2)])
noncomputable def f33_4 (F k : Nat) (x9 : Int) (xh0 : List Int) (xh1 : List UInt8) (xh2 : List Int) (xh3 : List Int) : Res := aloop (c33 F) Try.f33 4 [] k (St.mk [.top, .top, AV.ptr 0 0, AV.own 1, .top, .top, .top, AV.ptr 2 0, AV.ptr 3 0, AV.int .i64 x9, .top, .top, .top, .top, .top, .top, .top, .top, .top, .top, .top, .top, .top, .top, .top, .top, .top, .top, .top, .top, .top, .top, .top, .top, .top, .top, .top, .top, .top, .top, .top, .top, .top, .top, .top, .top, .top, .top, .top, .top, .top, .top, .top, .top, .top, .top, .top, .top, .top, .top, .top, .top, .top, .top, .top, .top, .top, .top, .top, .top, .top, .top, .top, .top, .top, .top, .top, .top, .top, .top, .top, .top, .top, .top] [AObj.vara 51 .u8 xh0, AObj.arr 5 (Pay.bytes xh1), AObj.vara 40 IntKind.u32 xh2, AObj.vara 44 .u32 xh3])
noncomputable def f33_6 (F k : Nat) (x11 : Int) (xh0 : List Int) (xh1 : List Int) (xh2 : List Int) : Res := aloop (c33 F) Try.f33 6 [] k (St.mk [.top, .top, AV.ptr 0 0, .top, .top, .top, .top, AV.ptr 1 0, .top, .top, AV.ptr 2 0, AV.int .i64 x11, .top, .top, .top, .top, .top, .top, .top, .top, .top, .top, .top, .top, .top, .top, .top, .top, .top, .top, .top, .top, .top, .top, .top, .top, .top, .top, .top, .top, .top, .top, .top, .top, .top, .top, .top, .top, .top, .top, .top, .top, .top, .top, .top, .top, .top, .top, .top, .top, .top, .top, .top, .top, .top, .top, .top, .top, .top, .top, .top, .top, .top, .top, .top, .top, .top, .top, .top, .top, .top, .top, .top, .top] [AObj.vara 51 .u8 xh0, AObj.vara 40 IntKind.u32 xh1, AObj.vara 51 .u8 xh2])
noncomputable def f33_8 (F k : Nat) (g6 : Nat) (x11 : Int) (x12 : Int) (x13 : Int) (xh0 : List Int) (xh1 : List Int) (xh2 : List Int) : Res := aloop (c33 F) Try.f33 8 [g6] k (St.mk [.top, .top, AV.ptr 0 0, .top, .top, .top, .top, AV.ptr 1 0, .top, .top, AV.ptr 2 0, AV.int .i64 x11, AV.int .u32 x12, AV.int .i64 x13, .top, .top, .top, .top, .top, .top, .top, .top, .top, .top, .top, .top, .top, .top, .top, .top, .top, .top, .top, .top, .top, .top, .top, .top, .top, .top, .top, .top, .top, .top, .top, .top, .top, .top, .top, .top, .top, .top, .top, .top, .top, .top, .top, .top, .top, .top, .top, .top, .top, .top, .top, .top, .top, .top, .top, .top, .top, .top, .top, .top, .top, .top, .top, .top, .top, .top, .top, .top, .top, .top] [AObj.vara 51 .u8 xh0, AObj.vara 40 IntKind.u32 xh1, AObj.vara 51 .u8 xh2])
theorem f33_eq (F : Nat) (b : List UInt8) : afun (c33 F) Try.f33 [AV.ro (Pay.bytes b)] [] =
 bif appFits ty5 (Pay.bytes (List.replicate 0 0 ++ b)) then
 bif appFits ty5 (Pay.bytes (List.replicate 0 0 ++ b ++ [UInt8.ofNat 128])) then
 f33_0 F F b [Int.ofNat 0, Int.ofNat 0, Int.ofNat 0, Int.ofNat 0, Int.ofNat 0, Int.ofNat 0, Int.ofNat 0, Int.ofNat 0, Int.ofNat 0, Int.ofNat 0, Int.ofNat 0, Int.ofNat 0, Int.ofNat 0, Int.ofNat 0, Int.ofNat 0, Int.ofNat 0, Int.ofNat 0, Int.ofNat 0, Int.ofNat 0, Int.ofNat 0, Int.ofNat 0, Int.ofNat 0, Int.ofNat 0, Int.ofNat 0, Int.ofNat 0, Int.ofNat 0, Int.ofNat 0, Int.ofNat 0, Int.ofNat 0, Int.ofNat 0, Int.ofNat 0, Int.ofNat 0] (List.replicate 0 0 ++ b ++ [UInt8.ofNat 128])
 else
 .stuck
 else
 .stuck := by kernel_rfl
theorem f33_0_eq (F k : Nat) (x0 : List UInt8) (xh0 : List Int) (xh1 : List UInt8) : f33_0 F (k + 1) x0 xh0 xh1 =
 bif !eqI (irem (↑xh1.length) 64) 56 then
 bif appFits ty5 (Pay.bytes (xh1 ++ [UInt8.ofNat 0])) then
 f33_0 F k x0 xh0 (xh1 ++ [UInt8.ofNat 0])
 else
 .stuck
 else
 f33_2 F F (IntKind.u64.wrap (IntKind.u64.wrap ↑x0.length * 8)) 7 xh0 xh1 (List.replicate 8 0) := by kernel_rfl
theorem f33_2_eq (F k : Nat) (x4 : Int) (x6 : Int) (xh0 : List Int) (xh1 : List UInt8) (xh2 : List UInt8) : f33_2 F (k + 1) x4 x6 xh0 xh1 xh2 =
 bif leI 0 x6 then
 bif inB x6 xh2.length then
 bif x6.toNat.blt xh2.length && true && true && true then
 f33_2 F k (iquo IntKind.u64 x4 256) (IntKind.i64.wrap (x6 - 1)) xh0 xh1 (xh2.set x6.toNat (UInt8.ofNat (IntKind.u8.wrap (irem x4 256)).toNat))
 else
 .stuck
 else
 .stuck
 else
 bif appFits ty5 (Pay.bytes (xh1 ++ xh2)) then
 f33_4 F F 0 xh0 (xh1 ++ xh2) [Int.ofNat 1779033703, Int.ofNat 3144134277, Int.ofNat 1013904242, Int.ofNat 2773480762, Int.ofNat 1359893119, Int.ofNat 2600822924, Int.ofNat 528734635, Int.ofNat 1541459225] [Int.ofNat 1116352408, Int.ofNat 1899447441, Int.ofNat 3049323471, Int.ofNat 3921009573, Int.ofNat 961987163, Int.ofNat 1508970993, Int.ofNat 2453635748, Int.ofNat 2870763221, Int.ofNat 3624381080, Int.ofNat 310598401, Int.ofNat 607225278, Int.ofNat 1426881987, Int.ofNat 1925078388, Int.ofNat 2162078206, Int.ofNat 2614888103, Int.ofNat 3248222580, Int.ofNat 3835390401, Int.ofNat 4022224774, Int.ofNat 264347078, Int.ofNat 604807628, Int.ofNat 770255983, Int.ofNat 1249150122, Int.ofNat 1555081692, Int.ofNat 1996064986, Int.ofNat 2554220882, Int.ofNat 2821834349, Int.ofNat 2952996808, Int.ofNat 3210313671, Int.ofNat 3336571891, Int.ofNat 3584528711, Int.ofNat 113926993, Int.ofNat 338241895, Int.ofNat 666307205, Int.ofNat 773529912, Int.ofNat 1294757372, Int.ofNat 1396182291, Int.ofNat 1695183700, Int.ofNat 1986661051, Int.ofNat 2177026350, Int.ofNat 2456956037, Int.ofNat 2730485921, Int.ofNat 2820302411, Int.ofNat 3259730800, Int.ofNat 3345764771, Int.ofNat 3516065817, Int.ofNat 3600352804, Int.ofNat 4094571909, Int.ofNat 275423344, Int.ofNat 430227734, Int.ofNat 506948616, Int.ofNat 659060556, Int.ofNat 883997877, Int.ofNat 958139571, Int.ofNat 1322822218, Int.ofNat 1537002063, Int.ofNat 1747873779, Int.ofNat 1955562222, Int.ofNat 2024104815, Int.ofNat 2227730452, Int.ofNat 2361852424, Int.ofNat 2428436474, Int.ofNat 2756734187, Int.ofNat 3204031479, Int.ofNat 3329325298]
 else
 .stuck := by kernel_rfl
theorem f33_4_eq (F k : Nat) (x9 : Int) (xh0 : List Int) (xh1 : List UInt8) (xh2 : List Int) (xh3 : List Int) : f33_4 F (k + 1) x9 xh0 xh1 xh2 xh3 =
 bif ltI x9 ↑xh1.length then
 bif Nat.beq 8 xh2.length then
 bif leI 0 x9 && leI x9 (IntKind.i64.wrap (x9 + 64)) && leI (IntKind.i64.wrap (x9 + 64)) ↑xh1.length then
 bif Nat.beq 64 xh3.length then
 bif (List.map (AV.int .u32) xh2).length.beq 8 && (List.map (AV.int .u32) xh2).all (isInt .u32) && ((List.map (AV.int .u32) xh3).length.beq 64 && (List.map (AV.int .u32) xh3).all (isInt .u32) && Nat.ble 64 (List.take ((IntKind.i64.wrap (x9 + 64)).toNat - x9.toNat) (List.drop x9.toNat xh1)).length) then
 bif (intsA IntKind.u32 (roundH (List.map intOf (List.map (AV.int .u32) xh3)) (Hs.of (List.map intOf (List.map (AV.int .u32) xh2))) (bI (List.take ((IntKind.i64.wrap (x9 + 64)).toNat - x9.toNat) (List.drop x9.toNat xh1)))).list).length.beq xh2.length && (intsA IntKind.u32 (roundH (List.map intOf (List.map (AV.int .u32) xh3)) (Hs.of (List.map intOf (List.map (AV.int .u32) xh2))) (bI (List.take ((IntKind.i64.wrap (x9 + 64)).toNat - x9.toNat) (List.drop x9.toNat xh1)))).list).all (isInt .u32) then
 f33_4 F k (IntKind.i64.wrap (x9 + 64)) xh0 xh1 (List.map intOf (intsA IntKind.u32 (roundH (List.map intOf (List.map (AV.int .u32) xh3)) (Hs.of (List.map intOf (List.map (AV.int .u32) xh2))) (bI (List.take ((IntKind.i64.wrap (x9 + 64)).toNat - x9.toNat) (List.drop x9.toNat xh1)))).list)) xh3
 else
 .stuck
 else
 .stuck
 else
 .stuck
 else
 .stuck
 else
 .stuck
 else
 f33_6 F F 0 xh0 xh2 [Int.ofNat 0, Int.ofNat 0, Int.ofNat 0, Int.ofNat 0, Int.ofNat 0, Int.ofNat 0, Int.ofNat 0, Int.ofNat 0, Int.ofNat 0, Int.ofNat 0, Int.ofNat 0, Int.ofNat 0, Int.ofNat 0, Int.ofNat 0, Int.ofNat 0, Int.ofNat 0, Int.ofNat 0, Int.ofNat 0, Int.ofNat 0, Int.ofNat 0, Int.ofNat 0, Int.ofNat 0, Int.ofNat 0, Int.ofNat 0, Int.ofNat 0, Int.ofNat 0, Int.ofNat 0, Int.ofNat 0, Int.ofNat 0, Int.ofNat 0, Int.ofNat 0, Int.ofNat 0] := by kernel_rfl
theorem f33_6_eq (F k : Nat) (x11 : Int) (xh0 : List Int) (xh1 : List Int) (xh2 : List Int) : f33_6 F (k + 1) x11 xh0 xh1 xh2 =
 bif ltI x11 32 then
 bif inB (iquo IntKind.i64 x11 4) 8 then
 bif (0 + (iquo IntKind.i64 x11 4).toNat * 1).blt xh1.length then
 f33_8 F F k x11 (xh1.getD (0 + (iquo IntKind.i64 x11 4).toNat * 1) 0) 3 xh0 xh1 xh2
 else
 .stuck
 else
 .stuck
 else
 bif Nat.beq 32 xh2.length then
 bif (List.map (AV.int .u8) xh2).length.beq 32 then
 bif (List.map (AV.int .u8) xh2).length.beq xh0.length && (List.map (AV.int .u8) xh2).all (isInt .u8) then
 resEnd (bif Nat.beq 32 (List.map intOf (List.map (AV.int .u8) xh2)).length then some (AV.arr (List.map (AV.int .u8) (List.map intOf (List.map (AV.int .u8) xh2)))) else none) [AObj.vara 51 .u8 (List.map intOf (List.map (AV.int .u8) xh2)), AObj.vara 40 IntKind.u32 xh1, AObj.vara 51 .u8 xh2]
 else
 .stuck
 else
 .stuck
 else
 .stuck := by kernel_rfl
theorem f33_8_eq (F k : Nat) (g6 : Nat) (x11 : Int) (x12 : Int) (x13 : Int) (xh0 : List Int) (xh1 : List Int) (xh2 : List Int) : f33_8 F (k + 1) g6 x11 x12 x13 xh0 xh1 xh2 =
 bif ltI (irem x11 4) x13 then
 f33_8 F k g6 x11 (iquo IntKind.u32 x12 256) (IntKind.i64.wrap (x13 - 1)) xh0 xh1 xh2
 else
 bif inB x11 32 then
 bif (0 + x11.toNat * 1).blt xh2.length then
 f33_6 F g6 (IntKind.i64.wrap (x11 + 1)) xh0 xh1 (xh2.set (0 + x11.toNat * 1) (IntKind.u8.wrap (irem x12 256)))
 else
 .stuck
 else
 .stuck := by kernel_rfl


theorem iquo_i64 {a b : Int} (h0 : 0 ≤ a) (h1 : a ≤ 9223372036854775807) (hb : 0 ≤ b) : iquo .i64 a b = a / b := by
  unfold iquo
  have h2 := Int.ediv_nonneg h0 hb
  have h3 := Int.ediv_le_self b h0
  rw [Int.tdiv_eq_ediv_of_nonneg h0, wrap64 (by omega) (by omega)]
theorem f33_0_run (F : Nat) (b : List UInt8) (hb : b.length ≤ 1099511627776) (z : List Int) : ∀ (d K : Nat) (x : List UInt8), (x.length + d) % 64 = 56 → (∀ j, j < d → (x.length + j) % 64 ≠ 56) → d < K → x.length + d ≤ 140737488355328 →
    f33_0 F K b z x = f33_2 F F ((8 * b.length / 256 ^ 0 : Nat) : Int) (((8 : Nat) : Int) - 1) z (x ++ List.replicate d 0) (List.replicate 8 0 ++ beL (8 * b.length) 0)
  | 0, K + 1, x, h, _, _, _ => by
    rw [f33_0_eq, bif_neg (by rw [not_eqI_iff, irem_eq (by omega)]; omega), List.replicate_zero, List.append_nil, twice64 (by omega), beL, List.append_nil, Nat.pow_zero, Nat.div_one]; rfl
  | d + 1, K + 1, x, h, hj, hk, hl => by
    have h0 := hj 0 (by omega)
    have e : f33_0 F K b z (x ++ [UInt8.ofNat 0]) = _ := f33_0_run F b hb z d K (x ++ [UInt8.ofNat 0]) (by rw [List.length_append, List.length_singleton]; omega)
      (fun j h => by have := hj (j + 1) (by omega); rw [List.length_append, List.length_singleton]; omega) (by omega) (by rw [List.length_append, List.length_singleton]; omega)
    rw [f33_0_eq, bif_pos (by rw [not_eqI_iff, irem_eq (by omega)]; omega), bif_pos (fits5.2 (by rw [List.length_append, List.length_singleton]; omega)), e, List.append_assoc]; rfl
theorem byte_step (q : Nat) (h : q < 18446744073709551616) : iquo IntKind.u64 (q : Int) 256 = ((q / 256 : Nat) : Int) ∧ UInt8.ofNat (IntKind.u8.wrap (irem (q : Int) 256)).toNat = UInt8.ofNat (q % 256) := by
  refine ⟨?_, ?_⟩
  · rw [iquo_u64 (by omega) (by omega) (by decide)]; omega
  · rw [irem_eq (by omega), wrapu8, show ((q : Int) % 256 % 256).toNat = q % 256 by omega]
theorem f33_2_run (F v : Nat) (hv : v < 18446744073709551616) (z : List Int) (x : List UInt8) (hx : x.length ≤ 1099511627976) : ∀ (d m K : Nat), d + m = 8 → d < K →
    f33_2 F K ((v / 256 ^ m : Nat) : Int) ((d : Int) - 1) z x (List.replicate d 0 ++ beL v m) = f33_4 F F ((64 * 0 : Nat) : Int) z (x ++ beL v 8) firstW.list keysW
  | 0, m, K + 1, h, _ => by
    obtain rfl : m = 8 := by omega
    rw [f33_2_eq, bif_neg (by rw [leI_iff]; omega), List.replicate_zero, List.nil_append, bif_pos (fits5.2 (by rw [List.length_append, beL_len]; omega))]; rfl
  | d + 1, m, K + 1, h, hk => by
    have hq : v / 256 ^ m ≤ v := Nat.div_le_self _ _
    have e1 : (((d + 1 : Nat) : Int) - 1) = (d : Int) := by omega
    have e2 : IntKind.i64.wrap ((d : Int) - 1) = (d : Int) - 1 := by rw [wrap64 (by omega) (by omega)]
    have e0 : v / 256 ^ (m + 1) = v / 256 ^ m / 256 := by rw [Nat.pow_succ, Nat.div_div_eq_div_mul]
    obtain ⟨e3, e4⟩ := byte_step (v / 256 ^ m) (Nat.lt_of_le_of_lt hq hv)
    rw [← e0] at e3
    have e5 : v / 256 ^ m % 256 = v / 2 ^ (8 * m) % 256 := by rw [Nat.pow_mul]
    rw [e5] at e4
    have hl : (List.replicate (d + 1) (0 : UInt8) ++ beL v m).length = d + 1 + m := by rw [List.length_append, List.length_replicate, beL_len]
    rw [e1, f33_2_eq, bif_pos (by rw [leI_iff]; omega), bif_pos (by rw [inB_iff, hl]; omega), bif_pos (by rw [Bool.and_eq_true, Bool.and_eq_true, Bool.and_eq_true]; exact ⟨⟨⟨by rw [blt_iff, hl, Int.toNat_natCast]; omega, rfl⟩, rfl⟩, rfl⟩), e2, e3, e4, Int.toNat_natCast, set_last]
    exact f33_2_run F v hv z x hx d (m + 1) K (by omega) (by omega)
theorem backI (l : List Int) : List.map intOf (List.map (AV.int .u32) l) = l := intsA_int .u32 l
theorem f33_4_run (F : Nat) (z : List Int) (x : List UInt8) (hx : x.length ≤ 1099511628976) : ∀ (d j K : Nat) (s : Hs), x.length = 64 * (j + d) → d < K →
    f33_4 F K ((64 * j : Nat) : Int) z x s.list keysW = f33_6 F F ((0 : Nat) : Int) z (eat d s (x.drop (64 * j))).list (outP (eat d s (x.drop (64 * j))) 0)
  | 0, j, K + 1, s, h, _ => by
    rw [f33_4_eq, bif_neg (by rw [ltI_iff]; omega)]; rfl
  | d + 1, j, K + 1, s, h, hk => by
    have e1 : IntKind.i64.wrap (((64 * j : Nat) : Int) + 64) = ((64 * (j + 1) : Nat) : Int) := by rw [wrap64 (by omega) (by omega)]; omega
    rw [f33_4_eq, e1, backI, backI, Int.toNat_natCast, Int.toNat_natCast, show 64 * (j + 1) - 64 * j = 64 by omega, Hs.of_list,
      bif_pos (by rw [ltI_iff]; omega), bif_pos (by rfl), bif_pos (by simp only [Bool.and_eq_true, leI_iff]; omega), bif_pos (by rfl),
      bif_pos (by
        rw [Bool.and_eq_true, Bool.and_eq_true, Bool.and_eq_true, Bool.and_eq_true]
        exact ⟨⟨rfl, intsA_is .u32 s.list⟩, ⟨rfl, intsA_is .u32 keysW⟩, ble_iff.2 (by rw [List.length_take, List.length_drop]; omega)⟩),
      bif_pos (by rw [Bool.and_eq_true, intsA_len]; exact ⟨rfl, intsA_is _ _⟩), intsA_int]
    have e := f33_4_run F z x hx d (j + 1) K (roundH keysW s (bI ((x.drop (64 * j)).take 64))) (by omega) (by omega)
    refine e.trans ?_
    rw [show 64 * (j + 1) = 64 * j + 64 by omega, ← List.drop_drop]; rfl
theorem shift8 (q d : Nat) : ((q : Int) / 256 / 2 ^ (8 * d)) = (q : Int) / 2 ^ (8 * (d + 1)) := by
  have e : ((q / 256 / 2 ^ (8 * d) : Nat) : Int) = ((q / 2 ^ (8 * (d + 1)) : Nat) : Int) := by
    rw [Nat.div_div_eq_div_mul, show 8 * (d + 1) = 8 + 8 * d by omega, Nat.pow_add]
  rw [Int.natCast_ediv, Int.natCast_ediv, Int.natCast_ediv, Int.natCast_pow, Int.natCast_pow] at e
  exact e
theorem f33_8_run (F g i : Nat) (hi : i < 32) (z l o : List Int) (ho : o.length = 32) : ∀ (d m K : Nat) (y : Int), m = i % 4 + d → m ≤ 3 → d < K → 0 ≤ y → y < 4294967296 →
    f33_8 F K g i y m z l o = f33_6 F g ((i + 1 : Nat) : Int) z l (o.set i (y / 2 ^ (8 * d) % 256))
  | 0, m, K + 1, y, h, h3, _, h0, h1 => by
    have e1 : IntKind.i64.wrap ((i : Int) + 1) = ((i + 1 : Nat) : Int) := by rw [wrap64 (by omega) (by omega)]; omega
    rw [f33_8_eq, bif_neg (by rw [ltI_iff, irem_eq (by omega)]; omega), bif_pos (by rw [inB_iff]; omega), bif_pos (by rw [blt_iff, Int.toNat_natCast]; omega), e1, irem_eq h0, wrapu8, Int.toNat_natCast, Nat.zero_add, Nat.mul_one,
      show y % 256 % 256 = y % 256 by omega, Nat.mul_zero, show y / 2 ^ 0 = y by simp]
  | d + 1, m, K + 1, y, h, h3, hk, h0, h1 => by
    have e2 : IntKind.i64.wrap ((m : Int) - 1) = ((m - 1 : Nat) : Int) := by rw [wrap64 (by omega) (by omega)]; omega
    rw [f33_8_eq, bif_pos (by rw [ltI_iff, irem_eq (by omega)]; omega), e2, iquo32 h0 h1 (by decide), f33_8_run F g i hi z l o ho d (m - 1) K (y / 256) (by omega) (by omega) (by omega) (by omega) (by omega)]
    obtain ⟨q, rfl⟩ := Int.eq_ofNat_of_zero_le h0
    rw [shift8]
theorem f33_6_run (F : Nat) (z : List Int) (hz : z.length = 32) (t : Hs) (ht : inW t.list) : ∀ (d i K : Nat), i + d = 32 → d < K →
    outR (f33_6 (F + 5) K i z t.list (outP t i)) = some (.arr (intsA .u8 (outW t)), [])
  | 0, i, K + 1, h, _ => by
    obtain rfl : i = 32 := by omega
    rw [outP_all, f33_6_eq, bif_neg (by rw [ltI_iff]; omega), bif_pos (by rw [outW_len]; rfl), bif_pos (by rw [List.length_map, outW_len]; rfl),
      bif_pos (by rw [Bool.and_eq_true]; exact ⟨by rw [List.length_map, outW_len, hz]; rfl, intsA_is .u8 (outW t)⟩)]
    show outR (resEnd (bif Nat.beq 32 (List.map intOf (intsA .u8 (outW t))).length then some (AV.arr (List.map (AV.int .u8) (List.map intOf (intsA .u8 (outW t))))) else none) _) = _
    rw [intsA_int, outW_len]; rfl
  | d + 1, i, K + 1, h, hk => by
    have e4 : iquo IntKind.i64 (i : Int) 4 = ((i / 4 : Nat) : Int) := by rw [iquo_i64 (by omega) (by omega) (by decide)]; omega
    have hg := ht.get (i / 4)
    rw [f33_6_eq, bif_pos (by rw [ltI_iff]; omega), e4, bif_pos (by rw [inB_iff]; omega), Int.toNat_natCast, Nat.zero_add, Nat.mul_one, bif_pos (by rw [blt_iff]; show i / 4 < 8; omega),
      show (3 : Int) = ((3 : Nat) : Int) from rfl, f33_8_run (F + 5) K i (by omega) z t.list (outP t i) (outP_len t i) (3 - i % 4) 3 (F + 5) _ (by omega) (by omega) (by omega) hg.1 hg.2]
    show outR (f33_6 (F + 5) K _ z t.list ((outP t i).set i (outF t i))) = _
    rw [outP_set]
    exact f33_6_run F z hz t ht d (i + 1) K (by omega) (by omega)
theorem f33_all (F : Nat) (hF : 9223372036854775807 < F) (b : List UInt8) (hb : b.length ≤ 1099511627776) : outR (afun (c33 F) Try.f33 [.ro (.bytes b)] []) = some (.arr (intsA .u8 (shaW b)), []) := by
  rw [f33_eq, bif_pos (fits5.2 (by simp only [List.length_append, List.length_replicate]; omega)), bif_pos (fits5.2 (by simp only [List.length_append, List.length_replicate, List.length_singleton]; omega)),
    show List.replicate 0 0 ++ b ++ [UInt8.ofNat 128] = b ++ [UInt8.ofNat 128] from rfl]
  have hz : padZ b.length < 64 := Nat.mod_lt _ (by decide)
  have hl : (b ++ [UInt8.ofNat 128]).length = b.length + 1 := by rw [List.length_append, List.length_singleton]
  rw [f33_0_run F b hb _ (padZ b.length) F _ (by rw [hl]; exact pad56 _) (fun j h => by rw [hl]; exact mod56 _ j h) (by omega) (by rw [hl]; omega),
    f33_2_run F (8 * b.length) (by omega) _ _ (by rw [List.length_append, hl, List.length_replicate]; omega) 8 0 F rfl (by omega)]
  have ee : (b ++ [UInt8.ofNat 128] ++ List.replicate (padZ b.length) 0 ++ beL (8 * b.length) 8) = padB b b.length := by
    unfold padB be8
    rw [List.append_assoc, List.append_assoc]; rfl
  rw [ee]
  have hp2 := padB_len b b.length
  rw [f33_4_run F _ (padB b b.length) (by omega) ((b.length + 72) / 64) 0 F firstW (by omega) (by omega)]
  obtain ⟨G, rfl⟩ : ∃ G, F = G + 5 := ⟨F - 5, by omega⟩
  have e := f33_6_run G (outP firstW 0) (outP_len _ _) (eat ((b.length + 72) / 64) firstW (padB b b.length)) (inW_eat _ _ _ inW_first) 32 0 (G + 5) rfl (by omega)
  refine Eq.trans ?_ (e.trans ?_)
  · rfl
  · rw [show outW (eat ((b.length + 72) / 64) firstW (padB b b.length)) = shaW b by unfold shaW; rw [hp2, Nat.mul_div_cancel_left _ (by decide)]]

theorem ok33 : PureOk Try.prog 33 go33 := by
  refine pureOk_of (c33 rounds) tt33_ok (.cons ok73 (.cons ok74 (.cons ok26v .nil))) follows rfl Try.func33 (by kernel_rfl) (by kernel_rfl) ?_ ?_
  · intro R stk args ret
    unfold go33
    split
    · simp only [elim_cond]; rfl
    · rfl
  · intro args r objs h hr
    unfold go33 at h
    split at h
    · rename_i b
      rcases bif_alt h with ⟨hf0, h⟩ | ⟨hf0, h⟩
      · cases h
        refine ⟨_, ?_, .same⟩
        rw [apure_out]
        exact f33_all rounds big b (Nat.le_of_ble_eq_true hf0)
      ·
        cases h
    · cases h

end Go.Proofs.YtmkgmlgklggnlaaG
