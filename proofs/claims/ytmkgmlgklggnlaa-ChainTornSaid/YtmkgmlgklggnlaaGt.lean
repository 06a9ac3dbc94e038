/- A part of the proof: plain laws, and what functions of the given program come to; no condition. -/
import Derived.Test.YtmkgmlgklggnlaaGs
namespace Go.Proofs.YtmkgmlgklggnlaaG
open Go Go.Proofs.YtmkgmlgklggnlaaGm
set_option maxRecDepth 100000
set_option maxHeartbeats 0

def tt41 : Tab := [(0, ty0), (3, ty3), (4, ty4), (5, ty5), (22, ty22), (27, ty27), (35, ty35), (99, ty99), (100, ty100)]
theorem tt41_ok : TabOk Try.prog tt41 := tabOk_of_all ⟨ty0_ok, ty3_ok, ty4_ok, ty5_ok, ty22_ok, ty27_ok, ty35_ok, ty99_ok, ty100_ok, trivial⟩
def c41 (F : Nat) : Cfg := ⟨tt41, [(59, .pure go59), (77, .pure go77), (78, .pure (lentGo go78))], F, [], [], 0⟩
theorem f41_eq (F : Nat) (a0 : List UInt8) (a1 : Int) : afun (c41 F) Try.f41 [AV.ro (Pay.bytes a0), AV.int .i64 a1] [] =
 bif !eqI (getV a0 a1).snd.snd 0 then
 .ret (AV.tup [AV.nil, AV.int .i64 0, AV.int .i64 (getV a0 a1).snd.snd]) []
 else
 bif ltI 1048576 (getV a0 a1).fst then
 .ret (AV.tup [AV.nil, AV.int .i64 0, AV.int .i64 5]) []
 else
 bif ltI (IntKind.i64.wrap (↑a0.length - (getV a0 a1).snd.fst)) (IntKind.i64.wrap (IntKind.i64.wrap (getV a0 a1).fst + 4)) then
 .ret (AV.tup [AV.nil, AV.int .i64 0, AV.int .i64 2]) []
 else
 bif leI 0 a1 && leI a1 (IntKind.i64.wrap (IntKind.i64.wrap ((getV a0 a1).snd.fst + IntKind.i64.wrap (getV a0 a1).fst) + 4)) && leI (IntKind.i64.wrap (IntKind.i64.wrap ((getV a0 a1).snd.fst + IntKind.i64.wrap (getV a0 a1).fst) + 4)) ↑a0.length then
 bif ((List.take ((IntKind.i64.wrap (IntKind.i64.wrap ((getV a0 a1).snd.fst + IntKind.i64.wrap (getV a0 a1).fst) + 4)).toNat - a1.toNat) (List.drop a1.toNat a0)).length + 4).ble 140737488355328 then
 bif !eqI (crcTake (List.take ((IntKind.i64.wrap (IntKind.i64.wrap ((getV a0 a1).snd.fst + IntKind.i64.wrap (getV a0 a1).fst) + 4)).toNat - a1.toNat) (List.drop a1.toNat a0))) 0 then
 .ret (AV.tup [AV.nil, AV.int .i64 0, AV.int .i64 (crcTake (List.take ((IntKind.i64.wrap (IntKind.i64.wrap ((getV a0 a1).snd.fst + IntKind.i64.wrap (getV a0 a1).fst) + 4)).toNat - a1.toNat) (List.drop a1.toNat a0)))]) []
 else
 bif leI 0 (getV a0 a1).snd.fst && leI (getV a0 a1).snd.fst (IntKind.i64.wrap (IntKind.i64.wrap (IntKind.i64.wrap ((getV a0 a1).snd.fst + IntKind.i64.wrap (getV a0 a1).fst) + 4) - 4)) && leI (IntKind.i64.wrap (IntKind.i64.wrap (IntKind.i64.wrap ((getV a0 a1).snd.fst + IntKind.i64.wrap (getV a0 a1).fst) + 4) - 4)) ↑a0.length then
 bif appFits ty5 (Pay.bytes (List.take ((IntKind.i64.wrap (IntKind.i64.wrap (IntKind.i64.wrap ((getV a0 a1).snd.fst + IntKind.i64.wrap (getV a0 a1).fst) + 4) - 4)).toNat - (getV a0 a1).snd.fst.toNat) (List.drop (getV a0 a1).snd.fst.toNat a0))) then
 .ret (AV.tup [AV.ro (Pay.bytes (List.take ((IntKind.i64.wrap (IntKind.i64.wrap (IntKind.i64.wrap ((getV a0 a1).snd.fst + IntKind.i64.wrap (getV a0 a1).fst) + 4) - 4)).toNat - (getV a0 a1).snd.fst.toNat) (List.drop (getV a0 a1).snd.fst.toNat a0))), AV.int .i64 (IntKind.i64.wrap (IntKind.i64.wrap ((getV a0 a1).snd.fst + IntKind.i64.wrap (getV a0 a1).fst) + 4)), AV.int .i64 0]) []
 else
 .stuck
 else
 .stuck
 else
 .stuck
 else
 .stuck := by kernel_rfl


def tt42 : Tab := [(0, ty0), (3, ty3), (4, ty4), (5, ty5), (9, ty9), (22, ty22), (99, ty99), (102, ty102)]
theorem tt42_ok : TabOk Try.prog tt42 := tabOk_of_all ⟨ty0_ok, ty3_ok, ty4_ok, ty5_ok, ty9_ok, ty22_ok, ty99_ok, ty102_ok, trivial⟩
def c42 (F : Nat) : Cfg := ⟨tt42, [(60, .pure go59), (79, .pure go82)], F, [], [], 0⟩
theorem f42_eq (F : Nat) (a0 : List UInt8) (a1 : Int) : afun (c42 F) Try.f42 [AV.ro (Pay.bytes a0), AV.int .i64 a1] [] =
 bif !eqI (getV a0 a1).snd.snd 0 then
 .ret (AV.tup [AV.nil, AV.int .i64 0, AV.int .i64 (getV a0 a1).snd.snd]) []
 else
 bif ltI 1048576 (getV a0 a1).fst then
 .ret (AV.tup [AV.nil, AV.int .i64 0, AV.int .i64 5]) []
 else
 bif ltI (IntKind.i64.wrap (↑a0.length - (getV a0 a1).snd.fst)) (IntKind.i64.wrap (IntKind.i64.wrap (getV a0 a1).fst + 4)) then
 .ret (AV.tup [AV.nil, AV.int .i64 0, AV.int .i64 2]) []
 else
 bif leI 0 a1 && leI a1 (IntKind.i64.wrap (IntKind.i64.wrap (IntKind.i64.wrap ((getV a0 a1).snd.fst + IntKind.i64.wrap (getV a0 a1).fst) + 4) - 4)) && leI (IntKind.i64.wrap (IntKind.i64.wrap (IntKind.i64.wrap ((getV a0 a1).snd.fst + IntKind.i64.wrap (getV a0 a1).fst) + 4) - 4)) ↑a0.length then
 bif ((List.take ((IntKind.i64.wrap (IntKind.i64.wrap (IntKind.i64.wrap ((getV a0 a1).snd.fst + IntKind.i64.wrap (getV a0 a1).fst) + 4) - 4)).toNat - a1.toNat) (List.drop a1.toNat a0)).length + 4).ble 140737488355328 then
 bif leI 0 a1 && leI a1 (IntKind.i64.wrap (IntKind.i64.wrap ((getV a0 a1).snd.fst + IntKind.i64.wrap (getV a0 a1).fst) + 4)) && leI (IntKind.i64.wrap (IntKind.i64.wrap ((getV a0 a1).snd.fst + IntKind.i64.wrap (getV a0 a1).fst) + 4)) ↑a0.length then
 bif !eqS (crcPut (List.take ((IntKind.i64.wrap (IntKind.i64.wrap (IntKind.i64.wrap ((getV a0 a1).snd.fst + IntKind.i64.wrap (getV a0 a1).fst) + 4) - 4)).toNat - a1.toNat) (List.drop a1.toNat a0))) (List.take ((IntKind.i64.wrap (IntKind.i64.wrap ((getV a0 a1).snd.fst + IntKind.i64.wrap (getV a0 a1).fst) + 4)).toNat - a1.toNat) (List.drop a1.toNat a0)) then
 .ret (AV.tup [AV.nil, AV.int .i64 0, AV.int .i64 4]) []
 else
 bif leI 0 (getV a0 a1).snd.fst && leI (getV a0 a1).snd.fst (IntKind.i64.wrap (IntKind.i64.wrap (IntKind.i64.wrap ((getV a0 a1).snd.fst + IntKind.i64.wrap (getV a0 a1).fst) + 4) - 4)) && leI (IntKind.i64.wrap (IntKind.i64.wrap (IntKind.i64.wrap ((getV a0 a1).snd.fst + IntKind.i64.wrap (getV a0 a1).fst) + 4) - 4)) ↑a0.length then
 .ret (AV.tup [AV.ro (Pay.bytes (List.take ((IntKind.i64.wrap (IntKind.i64.wrap (IntKind.i64.wrap ((getV a0 a1).snd.fst + IntKind.i64.wrap (getV a0 a1).fst) + 4) - 4)).toNat - (getV a0 a1).snd.fst.toNat) (List.drop (getV a0 a1).snd.fst.toNat a0))), AV.int .i64 (IntKind.i64.wrap (IntKind.i64.wrap ((getV a0 a1).snd.fst + IntKind.i64.wrap (getV a0 a1).fst) + 4)), AV.int .i64 0]) []
 else
 .stuck
 else
 .stuck
 else
 .stuck
 else
 .stuck := by kernel_rfl


def tt47 : Tab := [(0, ty0), (2, ty2), (3, ty3), (4, ty4), (5, ty5), (22, ty22), (27, ty27), (68, ty68), (99, ty99)]
theorem tt47_ok : TabOk Try.prog tt47 := tabOk_of_all ⟨ty0_ok, ty2_ok, ty3_ok, ty4_ok, ty5_ok, ty22_ok, ty27_ok, ty68_ok, ty99_ok, trivial⟩
def c47 (F : Nat) : Cfg := ⟨tt47, [(81, .pure go81), (82, .pure go82), (72, .pure go72)], F, [], [], 0⟩
theorem f47_eq (F : Nat) (a0 : List UInt8) (a1 : List UInt8) : afun (c47 F) Try.f47 [AV.ro (Pay.bytes a0), AV.ro (Pay.bytes a1)] [] =
 bif ltI 1048576 ↑a1.length then
 .ret (AV.tup [AV.nil, AV.int .i64 5]) []
 else
 bif appFits ty5 (Pay.bytes (enc (IntKind.u64.wrap ↑a1.length) ++ a1)) then
 bif ((enc (IntKind.u64.wrap ↑a1.length) ++ a1).length + 4).ble 140737488355328 then
 bif okB ([[AV.ro (Pay.bytes a0)], [AV.ro (Pay.bytes [])]].set (1, Operand.tmp 18).fst [AV.ro (Pay.bytes (crcPut (enc (IntKind.u64.wrap ↑a1.length) ++ a1)))]) && (szB (decB ([[AV.ro (Pay.bytes a0)], [AV.ro (Pay.bytes [])]].set (1, Operand.tmp 18).fst [AV.ro (Pay.bytes (crcPut (enc (IntKind.u64.wrap ↑a1.length) ++ a1)))]))).ble 70368744177664 then
 .ret (AV.tup [AV.own 3, AV.int .i64 0]) [AObj.arr 5 (Pay.bytes (enc (IntKind.u64.wrap ↑a1.length) ++ a1)), AObj.dead, AObj.arr 22 (Pay.rows 1 ([[AV.ro (Pay.bytes a0)], [AV.ro (Pay.bytes [])]].set (1, Operand.tmp 18).fst [AV.ro (Pay.bytes (crcPut (enc (IntKind.u64.wrap ↑a1.length) ++ a1)))])), AObj.arr 5 (Pay.bytes (decB ([[AV.ro (Pay.bytes a0)], [AV.ro (Pay.bytes [])]].set (1, Operand.tmp 18).fst [AV.ro (Pay.bytes (crcPut (enc (IntKind.u64.wrap ↑a1.length) ++ a1)))])).flatten)]
 else
 .stuck
 else
 .stuck
 else
 .stuck := by kernel_rfl


def tt48 : Tab := [(0, ty0), (3, ty3), (5, ty5), (22, ty22), (99, ty99)]
theorem tt48_ok : TabOk Try.prog tt48 := tabOk_of_all ⟨ty0_ok, ty3_ok, ty5_ok, ty22_ok, ty99_ok, trivial⟩
def c48 (F : Nat) : Cfg := ⟨tt48, [(64, .pure go64), (79, .pure go82)], F, [], [], 0⟩
theorem f48_eq (F : Nat) (a0 : List UInt8) : afun (c48 F) Try.f48 [AV.ro (Pay.bytes a0)] [] =
 bif appFits ty5 (Pay.bytes (enc (IntKind.u64.wrap ↑a0.length) ++ a0)) then
 bif ((enc (IntKind.u64.wrap ↑a0.length) ++ a0).length + 4).ble 140737488355328 then
 .ret (AV.own 1) [AObj.arr 5 (Pay.bytes (enc (IntKind.u64.wrap ↑a0.length) ++ a0)), AObj.arr 5 (Pay.bytes (crcPut (enc (IntKind.u64.wrap ↑a0.length) ++ a0)))]
 else
 .stuck
 else
 .stuck := by kernel_rfl


theorem f41_all (F : Nat) (b : Txt) (i : Int) (hb : b.length ≤ 9223372036854775807) (hc : b.length ≤ 140737488355320) : ∃ x, apure (c41 F) Try.f41 [.ro (.bytes b), .int .i64 i] = some x ∧ Weak (c41 F).tt x (.tup [.ro (.bytes (getF b i).1), .int .i64 (getF b i).2.1, .int .i64 (getF b i).2.2], []) := by
  rw [apure_out, f41_eq]
  unfold getF
  by_cases h0 : (getV b i).2.2 = 0
  · obtain ⟨g1, g2, g3, g4⟩ := getV_seg h0
    obtain ⟨_, _, _, k1, k2, _⟩ := getV_once b i h0
    rw [show (!eqI (getV b i).2.2 0) = false by rw [Bool.not_eq_false', eqI_iff]; exact h0, cond_false, if_neg (fun x => x h0), bif_ltI]
    generalize (getV b i).2.1 = q at *
    generalize (getV b i).1 = n at *
    by_cases h1 : 1048576 < n
    · rw [if_pos h1, if_pos h1]
      exact ⟨_, rfl, .tup (.empty rfl (.same (.same .nil)))⟩
    rw [if_neg h1, if_neg h1, wrap64 (n := n) (by omega) (by omega), wrap64 (n := n + 4) (by omega) (by omega), wrap64 (n := (b.length : Int) - q) (by omega) (by omega), bif_ltI]
    by_cases h2 : (b.length : Int) - q < n + 4
    · rw [if_pos h2, if_pos h2]
      exact ⟨_, rfl, .tup (.empty rfl (.same (.same .nil)))⟩
    rw [if_neg h2, if_neg h2, wrap64 (n := q + n) (by omega) (by omega), wrap64 (n := q + n + 4) (by omega) (by omega), wrap64 (n := q + n + 4 - 4) (by omega) (by omega), show q + n + 4 - 4 = q + n by omega,
      bif_pos (by simp only [Bool.and_eq_true, leI_iff]; omega), show List.take ((q + n + 4).toNat - i.toNat) (List.drop i.toNat b) = seg b i (q + n + 4) from rfl, show List.take ((q + n).toNat - q.toNat) (List.drop q.toNat b) = seg b q (q + n) from rfl]
    have hl := seg_len (l := b) g1 (show i ≤ q + n + 4 by omega) (by omega)
    have hl2 := seg_len (l := b) (show 0 ≤ q by omega) (show q ≤ q + n by omega) (by omega)
    rw [bif_pos (by rw [ble_iff]; omega)]
    by_cases h3 : crcTake (seg b i (q + n + 4)) = 0
    · rw [show (!eqI (crcTake (seg b i (q + n + 4))) 0) = false by rw [Bool.not_eq_false', eqI_iff]; exact h3, cond_false, if_neg (fun x => x h3), bif_pos (by simp only [Bool.and_eq_true, leI_iff]; omega), bif_pos (fits5.2 (by omega))]
      exact ⟨_, rfl, .same⟩
    · have h4 : crcTake (seg b i (q + n + 4)) = 4 := by
        rw [crcTake_seg g1 (by omega) (by omega)] at h3 ⊢
        split at h3
        · exact absurd rfl h3
        · rename_i h; rw [if_neg h]
      rw [show (!eqI (crcTake (seg b i (q + n + 4))) 0) = true by rw [Bool.not_eq_true', Bool.eq_false_iff, Ne, eqI_iff]; exact h3, cond_true, if_pos h3, h4]
      exact ⟨_, rfl, .tup (.empty rfl (.same (.same .nil)))⟩
  · rw [show (!eqI (getV b i).2.2 0) = true by rw [Bool.not_eq_true', Bool.eq_false_iff, Ne, eqI_iff]; exact h0, cond_true, if_pos h0]
    exact ⟨_, rfl, .tup (.empty rfl (.same (.same .nil)))⟩
theorem f42_all (F : Nat) (b : Txt) (i : Int) (hb : b.length ≤ 9223372036854775807) (hc : b.length ≤ 140737488355320) : ∃ x, apure (c42 F) Try.f42 [.ro (.bytes b), .int .i64 i] = some x ∧ Weak (c42 F).tt x (.tup [.ro (.bytes (getF b i).1), .int .i64 (getF b i).2.1, .int .i64 (getF b i).2.2], []) := by
  rw [apure_out, f42_eq]
  unfold getF
  by_cases h0 : (getV b i).2.2 = 0
  · obtain ⟨g1, g2, g3, g4⟩ := getV_seg h0
    obtain ⟨_, _, _, k1, k2, _⟩ := getV_once b i h0
    rw [show (!eqI (getV b i).2.2 0) = false by rw [Bool.not_eq_false', eqI_iff]; exact h0, cond_false, if_neg (fun x => x h0), bif_ltI]
    generalize (getV b i).2.1 = q at *
    generalize (getV b i).1 = n at *
    by_cases h1 : 1048576 < n
    · rw [if_pos h1, if_pos h1]
      exact ⟨_, rfl, .tup (.empty rfl (.same (.same .nil)))⟩
    rw [if_neg h1, if_neg h1, wrap64 (n := n) (by omega) (by omega), wrap64 (n := n + 4) (by omega) (by omega), wrap64 (n := (b.length : Int) - q) (by omega) (by omega), bif_ltI]
    by_cases h2 : (b.length : Int) - q < n + 4
    · rw [if_pos h2, if_pos h2]
      exact ⟨_, rfl, .tup (.empty rfl (.same (.same .nil)))⟩
    rw [if_neg h2, if_neg h2, wrap64 (n := q + n) (by omega) (by omega), wrap64 (n := q + n + 4) (by omega) (by omega), wrap64 (n := q + n + 4 - 4) (by omega) (by omega), show q + n + 4 - 4 = q + n by omega,
      bif_pos (by simp only [Bool.and_eq_true, leI_iff]; omega), show List.take ((q + n + 4).toNat - i.toNat) (List.drop i.toNat b) = seg b i (q + n + 4) from rfl, show List.take ((q + n).toNat - q.toNat) (List.drop q.toNat b) = seg b q (q + n) from rfl,
      show List.take ((q + n).toNat - i.toNat) (List.drop i.toNat b) = seg b i (q + n) from rfl]
    have hl := seg_len (l := b) g1 (show i ≤ q + n by omega) (by omega)
    have ht := crcTake_seg (b := b) (i := i) (j := q + n + 4) g1 (by omega) (by omega)
    rw [show q + n + 4 - 4 = q + n by omega] at ht
    rw [bif_pos (by rw [ble_iff]; omega), bif_pos (by simp only [Bool.and_eq_true, leI_iff]; omega), ht]
    by_cases h3 : crcPut (seg b i (q + n)) = seg b i (q + n + 4)
    · rw [show (!eqS (crcPut (seg b i (q + n))) (seg b i (q + n + 4))) = false by rw [Bool.not_eq_false', eqS_iff]; exact h3, cond_false, if_pos h3, if_neg (fun x => x rfl), bif_pos (by simp only [Bool.and_eq_true, leI_iff]; omega)]
      exact ⟨_, rfl, .same⟩
    · rw [show (!eqS (crcPut (seg b i (q + n))) (seg b i (q + n + 4))) = true by rw [Bool.not_eq_true', Bool.eq_false_iff, Ne, eqS_iff]; exact h3, cond_true, if_neg h3, if_pos (by decide)]
      exact ⟨_, rfl, .tup (.empty rfl (.same (.same .nil)))⟩
  · rw [show (!eqI (getV b i).2.2 0) = true by rw [Bool.not_eq_true', Bool.eq_false_iff, Ne, eqI_iff]; exact h0, cond_true, if_pos h0]
    exact ⟨_, rfl, .tup (.empty rfl (.same (.same .nil)))⟩
theorem enc_len9 (n : Nat) (h : n ≤ 35184372088832) : (enc (n : Int)).length ≤ 9 := by
  rw [enc_length _ (by omega)]
  have := len9_range (n : Int)
  omega
theorem f47_all (F : Nat) (b d : Txt) (h1 : ¬ 1048576 < d.length) (h2 : b.length ≤ 35184372088832) : outR (afun (c47 F) Try.f47 [.ro (.bytes b), .ro (.bytes d)] []) = some (.tup [.own 0, .int .i64 0], [.arr 5 (.bytes (b ++ encF d))]) := by
  have he := enc_len9 d.length (by omega)
  rw [f47_eq, bif_neg (by rw [ltI_iff]; omega), wrapu64 (by omega) (by omega), bif_pos (fits5.2 (by rw [List.length_append]; omega)), bif_pos (by rw [ble_iff, List.length_append]; omega)]
  have hX : (crcPut (enc (d.length : Int) ++ d)).length = (enc (d.length : Int)).length + d.length + 4 := by rw [crcPut_length, List.length_append]
  rw [show encF d = crcPut (enc (d.length : Int) ++ d) from rfl]
  generalize crcPut (enc (d.length : Int) ++ d) = X at *
  rw [show (List.set [[AV.ro (Pay.bytes b)], [AV.ro (Pay.bytes [])]] (1, Operand.tmp 18).fst [AV.ro (Pay.bytes X)]) = [b, X].map byteRow from rfl, okB_map, decB_map, bif_pos (by rw [Bool.true_and, ble_iff, szB_cons, szB_cons]; show _ + (_ + 0) ≤ _; omega)]
  rw [show [b, X].flatten = b ++ X by simp]
  rfl
theorem f48_all (F : Nat) (d : Txt) (h1 : d.length ≤ 35184372088832) : outR (afun (c48 F) Try.f48 [.ro (.bytes d)] []) = some (.own 0, [.arr 5 (.bytes (encF d))]) := by
  have he := enc_len9 d.length (by omega)
  rw [f48_eq, wrapu64 (by omega) (by omega), bif_pos (fits5.2 (by rw [List.length_append]; omega)), bif_pos (by rw [ble_iff, List.length_append]; omega)]
  rfl

theorem ok41 : PureOk Try.prog 41 go41 := by
  refine pureOk_of (c41 rounds) tt41_ok (.cons ok59 (.cons ok77 (.cons ok78.lent .nil))) follows rfl Try.func41 (by kernel_rfl) (by kernel_rfl) ?_ ?_
  · intro R stk args ret
    unfold go41
    split
    · simp only [elim_cond]; rfl
    · rfl
  · intro args r objs h hr
    unfold go41 at h
    split at h
    · rename_i b i
      rcases bif_alt h with ⟨hf0, h⟩ | ⟨hf0, h⟩
      · cases h
        rw [ble_iff] at hf0
        exact f41_all rounds b i (by omega) hf0
      ·
        cases h
    · cases h

theorem ok42 : PureOk Try.prog 42 go41 := by
  refine pureOk_of (c42 rounds) tt42_ok (.cons ok60 (.cons ok79 .nil)) follows rfl Try.func42 (by kernel_rfl) (by kernel_rfl) ?_ ?_
  · intro R stk args ret
    unfold go41
    split
    · simp only [elim_cond]; rfl
    · rfl
  · intro args r objs h hr
    unfold go41 at h
    split at h
    · rename_i b i
      rcases bif_alt h with ⟨hf0, h⟩ | ⟨hf0, h⟩
      · cases h
        rw [ble_iff] at hf0
        exact f42_all rounds b i (by omega) hf0
      ·
        cases h
    · cases h

theorem ok47 : PureOk Try.prog 47 go47 := by
  refine pureOk_of (c47 rounds) tt47_ok (.cons ok81 (.cons ok82 (.cons ok72 .nil))) follows rfl Try.func47 (by kernel_rfl) (by kernel_rfl) ?_ ?_
  · intro R stk args ret
    unfold go47
    split
    · simp only [elim_cond]; rfl
    · rfl
  · intro args r objs h hr
    unfold go47 at h
    split at h
    · rename_i b d
      rcases bif_alt h with ⟨hf0, h⟩ | ⟨hf0, h⟩
      · cases h
        refine ⟨_, ?_, .same⟩
        rw [apure_out]
        rw [blt_iff] at hf0
        rw [f47_eq, bif_pos (by rw [ltI_iff]; omega)]
        rfl
      ·
        rcases bif_alt h with ⟨hf1, h⟩ | ⟨hf1, h⟩
        · cases h
          rw [Bool.eq_false_iff, Ne, blt_iff] at hf0
          rw [ble_iff] at hf1
          refine ⟨_, ?_, .same⟩
          rw [apure_out]
          exact f47_all rounds b d hf0 hf1
        ·
          cases h
    · cases h

theorem ok48 : PureOk Try.prog 48 go48 := by
  refine pureOk_of (c48 rounds) tt48_ok (.cons ok64 (.cons ok79 .nil)) follows rfl Try.func48 (by kernel_rfl) (by kernel_rfl) ?_ ?_
  · intro R stk args ret
    unfold go48
    split
    · simp only [elim_cond]; rfl
    · rfl
  · intro args r objs h hr
    unfold go48 at h
    split at h
    · rename_i d
      rcases bif_alt h with ⟨hf0, h⟩ | ⟨hf0, h⟩
      · cases h
        rw [ble_iff] at hf0
        refine ⟨_, ?_, .same⟩
        rw [apure_out]
        exact f48_all rounds d hf0
      ·
        cases h
    · cases h

end Go.Proofs.YtmkgmlgklggnlaaG
