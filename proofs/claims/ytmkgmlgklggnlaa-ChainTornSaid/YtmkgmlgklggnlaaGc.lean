/- A part of the proof: plain laws, and what functions of the given program come to; no condition. -/
import Derived.Test.YtmkgmlgklggnlaaGb
namespace Go.Proofs.YtmkgmlgklggnlaaG
open Go Go.Proofs.YtmkgmlgklggnlaaGm
set_option maxRecDepth 100000

def tt64 : Tab := [(0, ty0), (1, ty1), (3, ty3), (4, ty4), (5, ty5), (22, ty22), (99, ty99)]
theorem tt64_ok : TabOk Try.prog tt64 := tabOk_of_all ⟨ty0_ok, ty1_ok, ty3_ok, ty4_ok, ty5_ok, ty22_ok, ty99_ok, trivial⟩
def c64 (F : Nat) : Cfg := ⟨tt64, [(91, .pure go83), (90, .pure go90)], F, [(0, ⟨[0, 3, 5, 6, 7], []⟩)], [], 0⟩
noncomputable def f64_0 (F k : Nat) (x0 : Int) (x3 : Int) (x5 : Int) (x7 : Int) (xh0 : List UInt8) : Res := aloop (c64 F) Try.f64 0 [] k { fr := [AV.int .u64 x0, .top, .top, AV.int .i64 x3, .top, AV.int .i64 x5, AV.own 0, AV.int .i64 x7, .top, .top, .top, .top, .top, .top, .top, .top, .top, .top, .top, .top, .top, .top, .top, .top, .top, .top, .top, .top, .top, .top, .top, .top, .top, .top, .top, .top, .top, .top, .top, .top, .top, .top, .top, .top, .top, .top, .top, .top, .top], hp := [AObj.arr 5 (Pay.bytes xh0)] }
theorem f64_eq (F : Nat) (a0 : Int) : afun (c64 F) Try.f64 [AV.int .u64 a0] [] =
 bif eqI (len9 a0) 9 then
 f64_0 F F a0 (len9 a0) 0 (IntKind.i64.wrap (8 - 1)) (List.replicate (Int.toNat 8) 0)
 else
 bif leI 0 (len9 a0) && leI (len9 a0) (len9 a0) && leI (len9 a0 * ↑1) 140737488355328 && true then
 f64_0 F F a0 (len9 a0) (IntKind.i64.wrap (256 - IntKind.i64.wrap (pow2 (IntKind.i64.wrap (9 - len9 a0))))) (IntKind.i64.wrap (len9 a0 - 1)) (List.replicate (len9 a0).toNat 0)
 else
 .stuck := by kernel_rfl
theorem f64_0_eq (F k : Nat) (x0 : Int) (x3 : Int) (x5 : Int) (x7 : Int) (xh0 : List UInt8) : f64_0 F (k + 1) x0 x3 x5 x7 xh0 =
 bif leI 0 x7 then
 bif inB x7 (Pay.bytes xh0).len then
 bif x7.toNat.blt (Pay.bytes xh0).len && (0 + 1).ble 1 && [AV.int .u8 (IntKind.u8.wrap (irem x0 256))].length.beq 1 && true then
 f64_0 F k (iquo IntKind.u64 x0 256) x3 x5 (IntKind.i64.wrap (x7 - 1)) (xh0.set x7.toNat (UInt8.ofNat (IntKind.u8.wrap (irem x0 256)).toNat))
 else
 .stuck
 else
 .stuck
 else
 bif eqI x3 9 then
 bif appFits ty5 (Pay.bytes ((List.replicate 1 0).set (0, Operand.const (Value.int IntKind.u8 255)).fst (UInt8.ofNat (Int.toNat 255)) ++ xh0)) then
 .ret (AV.own 1) [AObj.arr 5 (Pay.bytes xh0), AObj.arr 5 (Pay.bytes ((List.replicate 1 0).set (0, Operand.const (Value.int IntKind.u8 255)).fst (UInt8.ofNat (Int.toNat 255)) ++ xh0))]
 else
 .stuck
 else
 bif inB 0 (Pay.bytes xh0).len then
 bif inB 0 (Pay.bytes xh0).len then
 bif (Int.toNat 0).blt (Pay.bytes xh0).len && (0 + 1).ble 1 && [AV.int .u8 (IntKind.u8.wrap (IntKind.i64.wrap (x5 + IntKind.i64.wrap ↑(xh0.getD (Int.toNat 0) 0).toNat)))].length.beq 1 && true then
 .ret (AV.own 0) [AObj.arr 5 (Pay.bytes (xh0.set (Int.toNat 0) (UInt8.ofNat (IntKind.u8.wrap (IntKind.i64.wrap (x5 + IntKind.i64.wrap ↑(xh0.getD (Int.toNat 0) 0).toNat))).toNat)))]
 else
 .stuck
 else
 .stuck
 else
 .stuck := by kernel_rfl

def tt81 : Tab := [(0, ty0), (1, ty1), (3, ty3), (4, ty4), (5, ty5), (22, ty22), (99, ty99)]
theorem tt81_ok : TabOk Try.prog tt81 := tabOk_of_all ⟨ty0_ok, ty1_ok, ty3_ok, ty4_ok, ty5_ok, ty22_ok, ty99_ok, trivial⟩
def c81 (F : Nat) : Cfg := ⟨tt81, [(78, .pure go78), (83, .pure go83)], F, [(0, ⟨[1, 5, 6, 7, 22, 23], [(6, 5)]⟩)], [], 0⟩
noncomputable def f81_0 (F k : Nat) (x1 : Int) (x5 : Int) (x7 : Int) (x22 : Int) (x23 : Int) (xh0 : List UInt8) : Res := aloop (c81 F) Try.f81 0 [] k { fr := [.top, AV.int .u64 x1, .top, .top, .top, AV.int .i64 x5, AV.own 0, AV.int .u8 x7, .top, .top, .top, .top, .top, .top, .top, .top, .top, .top, .top, .top, .top, .top, AV.int .i64 x22, AV.int .i64 x23, .top, .top, .top, .top, .top, .top, .top, .top, .top, .top, .top, .top, .top, .top, .top, .top, .top, .top, .top, .top, .top], hp := [AObj.arr 5 (Pay.bytes xh0)] }
theorem f81_eq (F : Nat) (a0 : List UInt8) (a1 : Int) : afun (c81 F) Try.f81 [AV.ro (Pay.bytes a0), AV.int .u64 a1] [] =
 bif appFits ty5 (Pay.bytes a0) then
 bif ltI (IntKind.i64.wrap (9 - len9 a1)) 0 then
 .stuck
 else
 bif eqI (len9 a1) 9 then
 bif appFits ty5 (Pay.bytes (a0 ++ (List.replicate 1 0).set (0, Operand.const (Value.int IntKind.u8 255)).fst (UInt8.ofNat (Int.toNat 255)))) then
 f81_0 F F a1 8 0 8 0 (a0 ++ (List.replicate 1 0).set (0, Operand.const (Value.int IntKind.u8 255)).fst (UInt8.ofNat (Int.toNat 255)))
 else
 .stuck
 else
 f81_0 F F a1 (len9 a1) (ishl IntKind.u8 255 (IntKind.i64.wrap (9 - len9 a1))) (len9 a1) 0 a0
 else
 .stuck := by kernel_rfl
theorem f81_0_eq (F k : Nat) (x1 : Int) (x5 : Int) (x7 : Int) (x22 : Int) (x23 : Int) (xh0 : List UInt8) : f81_0 F (k + 1) x1 x5 x7 x22 x23 xh0 =
 bif ltI x23 x22 then
 bif ltI (IntKind.i64.wrap (8 * IntKind.i64.wrap (IntKind.i64.wrap (x5 - 1) - x23))) 0 then
 .stuck
 else
 bif eqI x23 0 then
 bif appFits ty5 (Pay.bytes (xh0 ++ (List.replicate 1 0).set (0, Operand.tmp 40).fst (UInt8.ofNat (ior IntKind.u8 (IntKind.u8.wrap (ishr IntKind.u64 x1 (IntKind.i64.wrap (8 * IntKind.i64.wrap (IntKind.i64.wrap (x5 - 1) - x23))))) x7).toNat))) then
 f81_0 F k x1 x5 x7 x22 (IntKind.i64.wrap (x23 + 1)) (xh0 ++ (List.replicate 1 0).set (0, Operand.tmp 40).fst (UInt8.ofNat (ior IntKind.u8 (IntKind.u8.wrap (ishr IntKind.u64 x1 (IntKind.i64.wrap (8 * IntKind.i64.wrap (IntKind.i64.wrap (x5 - 1) - x23))))) x7).toNat))
 else
 .stuck
 else
 bif appFits ty5 (Pay.bytes (xh0 ++ (List.replicate 1 0).set (0, Operand.tmp 40).fst (UInt8.ofNat (IntKind.u8.wrap (ishr IntKind.u64 x1 (IntKind.i64.wrap (8 * IntKind.i64.wrap (IntKind.i64.wrap (x5 - 1) - x23))))).toNat))) then
 f81_0 F k x1 x5 x7 x22 (IntKind.i64.wrap (x23 + 1)) (xh0 ++ (List.replicate 1 0).set (0, Operand.tmp 40).fst (UInt8.ofNat (IntKind.u8.wrap (ishr IntKind.u64 x1 (IntKind.i64.wrap (8 * IntKind.i64.wrap (IntKind.i64.wrap (x5 - 1) - x23))))).toNat))
 else
 .stuck
 else
 .ret (AV.own 0) [AObj.arr 5 (Pay.bytes xh0)] := by kernel_rfl


theorem fits5 {l : List UInt8} : appFits ty5 (.bytes l) = true ↔ l.length ≤ 140737488355328 := by
  show Nat.ble (l.length * 1) 140737488355328 = true ↔ _
  rw [Nat.mul_one]
  exact ⟨Nat.le_of_ble_eq_true, Nat.ble_eq_true_of_le⟩

theorem f81_rest (F r : Nat) (n : Int) (K mark : Int) (hK : K ≤ 8) : ∀ (d : Nat) (i : Int) (out : List UInt8), 1 ≤ i → i + d = K → out.length + d ≤ 140737488355328 →
    f81_0 F (d + 1 + r) n K mark K i out = .ret (.own 0) [.arr 5 (.bytes (out ++ be d n))]
  | 0, i, out, h1, h2, h3 => by
    rw [show 0 + 1 + r = r + 1 by omega, f81_0_eq, bif_neg (by rw [ltI_iff]; omega)]
    simp [be]
  | d + 1, i, out, h1, h2, h3 => by
    have e1 : IntKind.i64.wrap (8 * IntKind.i64.wrap (IntKind.i64.wrap (K - 1) - i)) = 8 * (d : Int) := by
      rw [wrap64 (n := K - 1) (by omega) (by omega), wrap64 (n := K - 1 - i) (by omega) (by omega), wrap64 (by omega) (by omega)]; omega
    have e2 : ishr .u64 n (8 * (d : Int)) = n / 2 ^ (8 * d) := by
      rw [ishr_eq (by omega), show (8 * (d : Int)).toNat = 8 * d by omega]
    rw [show d + 1 + 1 + r = (d + 1 + r) + 1 by omega, f81_0_eq, bif_pos (by rw [ltI_iff]; omega), e1, bif_neg (by rw [ltI_iff]; omega), bif_neg (by rw [eqI_iff]; omega), e2, wrapu8, one_set _ _ rfl,
      bif_pos (by rw [fits5]; simp; omega), wrap64 (by omega) (by omega), f81_rest F r n K mark hK d (i + 1) _ (by omega) (by omega) (by simp; omega)]
    simp [be]

theorem f81_first (F r K : Nat) (n mark : Int) (hK : K + 1 ≤ 8) (l : List UInt8) (hl : l.length + K + 1 ≤ 140737488355328) :
    f81_0 F (K + 2 + r) n (K + 1) mark (K + 1) 0 l = .ret (.own 0) [.arr 5 (.bytes (l ++ UInt8.ofNat (ior .u8 (n / 2 ^ (8 * K) % 256) mark).toNat :: be K n))] := by
  have e1 : IntKind.i64.wrap (8 * IntKind.i64.wrap (IntKind.i64.wrap ((K : Int) + 1 - 1) - 0)) = 8 * (K : Int) := by
    rw [wrap64 (n := (K : Int) + 1 - 1) (by omega) (by omega), wrap64 (n := (K : Int) + 1 - 1 - 0) (by omega) (by omega), wrap64 (by omega) (by omega)]; omega
  have e2 : ishr .u64 n (8 * (K : Int)) = n / 2 ^ (8 * K) := by
    rw [ishr_eq (by omega), show (8 * (K : Int)).toNat = 8 * K by omega]
  rw [show K + 2 + r = (K + 1 + r) + 1 by omega, f81_0_eq, bif_pos (by rw [ltI_iff]; omega), e1, bif_neg (by rw [ltI_iff]; omega), bif_pos (by rw [eqI_iff]), e2, wrapu8, one_set _ _ rfl,
    bif_pos (by rw [fits5]; simp; omega), wrap64 (by omega) (by omega), f81_rest F r n (K + 1) mark (by omega) K (0 + 1) _ (by omega) (by omega) (by simp; omega)]
  simp

end Go.Proofs.YtmkgmlgklggnlaaG
