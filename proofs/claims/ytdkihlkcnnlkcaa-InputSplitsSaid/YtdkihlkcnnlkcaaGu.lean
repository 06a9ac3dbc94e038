/- A part of the proof: plain laws, and what functions of the given program come to; no condition. -/
import Derived.Test.YtdkihlkcnnlkcaaGt
namespace Go.Proofs.YtdkihlkcnnlkcaaG
open Go Go.Proofs.YtdkihlkcnnlkcaaGm
set_option maxRecDepth 100000
set_option maxHeartbeats 0

def tt11 : Tab := [(0, ty0), (1, ty1), (3, ty3), (4, ty4), (5, ty5), (9, ty9), (23, ty23), (24, ty24), (25, ty25), (35, ty35), (75, ty75), (96, ty96)]
theorem tt11_ok : TabOk Try.prog tt11 := tabOk_of_all ⟨ty0_ok, ty1_ok, ty3_ok, ty4_ok, ty5_ok, ty9_ok, ty23_ok, ty24_ok, ty25_ok, ty35_ok, ty75_ok, ty96_ok, trivial⟩
def c11 (F : Nat) : Cfg := ⟨tt11, [(40, .pure go40), (61, .pure go61)], F, [], [], 0⟩
noncomputable def y11 : Itr := ⟨60, Try.f60, [(0, ⟨[0, 1, 3], []⟩)], [], [], []⟩

noncomputable def f11_y0 (F k : Nat) (a0 : List UInt8) (x3 : Int) (xh1 : Int) (xh2 : Int) (xh3 : List UInt8) : Res := gloop (c11 F) y11 Try.f11 (St.mk [AV.ro (Pay.bytes a0), AV.tup [], AV.ptr 0 0, AV.ptr 1 0, AV.ptr 2 0, AV.tup [], AV.tup [], AV.ro (Pay.bytes a0), AV.int IntKind.i64 ↑a0.length, AV.bool false, AV.ro (Pay.bytes a0), AV.fn 60 [AV.ptr 3 0], AV.tup [], AV.tup [], AV.tup [], AV.tup [], AV.tup [], AV.tup [], AV.tup [], AV.tup [], AV.tup [], AV.tup [], AV.tup [], AV.tup [], AV.tup [], AV.tup [], AV.tup [], AV.tup [], AV.tup [], AV.tup [], AV.tup [], AV.tup [], AV.tup [], AV.tup []] [AObj.var 24 [AV.nil], AObj.var 3 [AV.int IntKind.i64 0], AObj.var 25 [AV.int IntKind.i64 0], AObj.var 23 [AV.ro (Pay.bytes a0)]]) 0 k (St.mk [AV.top, AV.ptr 3 0, AV.top, AV.int IntKind.i64 x3, AV.top, AV.top, AV.top, AV.top, AV.top, AV.top, AV.top, AV.top, AV.top, AV.top, AV.top, AV.top, AV.top, AV.top, AV.top, AV.top, AV.top, AV.top, AV.top, AV.top, AV.top, AV.top, AV.top, AV.top, AV.top, AV.top, AV.top, AV.top, AV.top] [AObj.var 24 [AV.nil], AObj.var 3 [AV.int IntKind.i64 xh1], AObj.var 25 [AV.int IntKind.i64 xh2], AObj.var 23 [AV.ro (Pay.bytes xh3)]])
noncomputable def f11_y0_1 (F k : Nat) (a0 : List UInt8) (x3 : Int) (xh1 : Int) (xh2 : Int) (xh3 : List UInt8) (xh4 : List (List AV)) : Res := gloop (c11 F) y11 Try.f11 (St.mk [AV.ro (Pay.bytes a0), AV.tup [], AV.ptr 0 0, AV.ptr 1 0, AV.ptr 2 0, AV.tup [], AV.tup [], AV.ro (Pay.bytes a0), AV.int IntKind.i64 ↑a0.length, AV.bool false, AV.ro (Pay.bytes a0), AV.fn 60 [AV.ptr 3 0], AV.tup [], AV.tup [], AV.tup [], AV.tup [], AV.tup [], AV.tup [], AV.tup [], AV.tup [], AV.tup [], AV.tup [], AV.tup [], AV.tup [], AV.tup [], AV.tup [], AV.tup [], AV.tup [], AV.tup [], AV.tup [], AV.tup [], AV.tup [], AV.tup [], AV.tup []] [AObj.var 24 [AV.nil], AObj.var 3 [AV.int IntKind.i64 0], AObj.var 25 [AV.int IntKind.i64 0], AObj.var 23 [AV.ro (Pay.bytes a0)]]) 0 k (St.mk [AV.top, AV.ptr 3 0, AV.top, AV.int IntKind.i64 x3, AV.top, AV.top, AV.top, AV.top, AV.top, AV.top, AV.top, AV.top, AV.top, AV.top, AV.top, AV.top, AV.top, AV.top, AV.top, AV.top, AV.top, AV.top, AV.top, AV.top, AV.top, AV.top, AV.top, AV.top, AV.top, AV.top, AV.top, AV.top, AV.top] [AObj.var 24 [AV.own 4], AObj.var 3 [AV.int IntKind.i64 xh1], AObj.var 25 [AV.int IntKind.i64 xh2], AObj.var 23 [AV.ro (Pay.bytes xh3)], AObj.arr 35 (Pay.rows 2 xh4)])
theorem f11_eq (F : Nat) (a0 : List UInt8) : gfun (c11 F) y11 Try.f11 [AV.ro (Pay.bytes a0)] [] =
  bif ltI 1048576 ↑a0.length then
    .ret (AV.tup [AV.nil, AV.int IntKind.i64 (Int.ofNat 0), AV.int IntKind.i64 (Int.ofNat 5)]) [AObj.var 24 [AV.nil], AObj.var 3 [AV.int IntKind.i64 0], AObj.var 25 [AV.int IntKind.i64 5]]
  else
    f11_y0 F F a0 0 0 0 a0 := by kernel_rfl
theorem f11_y0_eq (F k : Nat) (a0 : List UInt8) (x3 : Int) (xh1 : Int) (xh2 : Int) (xh3 : List UInt8) : f11_y0 F (k + 1) a0 x3 xh1 xh2 xh3 =
  bif ltI x3 ↑xh3.length then
    bif leI 0 x3 && leI x3 ↑xh3.length && leI ↑xh3.length ↑xh3.length then
      bif ltI (idxB (List.drop x3.toNat xh3) 10) 0 then
        bif leI 0 x3 && leI x3 (IntKind.i64.wrap (x3 + IntKind.i64.wrap (↑xh3.length - x3))) && leI (IntKind.i64.wrap (x3 + IntKind.i64.wrap (↑xh3.length - x3))) ↑xh3.length then
          bif ltI 65536 ↑(List.take ((IntKind.i64.wrap (x3 + IntKind.i64.wrap (↑xh3.length - x3))).toNat - x3.toNat) (List.drop x3.toNat xh3)).length then
            .ret (AV.tup [AV.nil, AV.int IntKind.i64 x3, AV.int IntKind.i64 (Int.ofNat 5)]) [AObj.var 24 [AV.nil], AObj.var 3 [AV.int IntKind.i64 x3], AObj.var 25 [AV.int IntKind.i64 5], AObj.var 23 [AV.ro (Pay.bytes xh3)]]
          else
            f11_y0_1 F k a0 (IntKind.i64.wrap (x3 + IntKind.i64.wrap (IntKind.i64.wrap (↑xh3.length - x3) + 1))) xh1 xh2 xh3 ([] ++ [[AV.int IntKind.i64 x3, AV.str (List.take ((IntKind.i64.wrap (x3 + IntKind.i64.wrap (↑xh3.length - x3))).toNat - x3.toNat) (List.drop x3.toNat xh3))]])
        else
          .stuck
      else
        bif leI 0 x3 && leI x3 (IntKind.i64.wrap (x3 + idxB (List.drop x3.toNat xh3) 10)) && leI (IntKind.i64.wrap (x3 + idxB (List.drop x3.toNat xh3) 10)) ↑xh3.length then
          bif ltI 65536 ↑(List.take ((IntKind.i64.wrap (x3 + idxB (List.drop x3.toNat xh3) 10)).toNat - x3.toNat) (List.drop x3.toNat xh3)).length then
            .ret (AV.tup [AV.nil, AV.int IntKind.i64 x3, AV.int IntKind.i64 (Int.ofNat 5)]) [AObj.var 24 [AV.nil], AObj.var 3 [AV.int IntKind.i64 x3], AObj.var 25 [AV.int IntKind.i64 5], AObj.var 23 [AV.ro (Pay.bytes xh3)]]
          else
            f11_y0_1 F k a0 (IntKind.i64.wrap (x3 + IntKind.i64.wrap (idxB (List.drop x3.toNat xh3) 10 + 1))) xh1 xh2 xh3 ([] ++ [[AV.int IntKind.i64 x3, AV.str (List.take ((IntKind.i64.wrap (x3 + idxB (List.drop x3.toNat xh3) 10)).toNat - x3.toNat) (List.drop x3.toNat xh3))]])
        else
          .stuck
    else
      .stuck
  else
    .ret (AV.tup [AV.nil, AV.int IntKind.i64 (Int.ofNat a0.length), AV.int IntKind.i64 (Int.ofNat 0)]) [AObj.var 24 [AV.nil], AObj.var 3 [AV.int IntKind.i64 ↑a0.length], AObj.var 25 [AV.int IntKind.i64 0], AObj.var 23 [AV.ro (Pay.bytes xh3)]] := by kernel_rfl
theorem f11_y0_1_eq (F k : Nat) (a0 : List UInt8) (x3 : Int) (xh1 : Int) (xh2 : Int) (xh3 : List UInt8) (xh4 : List (List AV)) : f11_y0_1 F (k + 1) a0 x3 xh1 xh2 xh3 xh4 =
  bif ltI x3 ↑xh3.length then
    bif leI 0 x3 && leI x3 ↑xh3.length && leI ↑xh3.length ↑xh3.length then
      bif ltI (idxB (List.drop x3.toNat xh3) 10) 0 then
        bif leI 0 x3 && leI x3 (IntKind.i64.wrap (x3 + IntKind.i64.wrap (↑xh3.length - x3))) && leI (IntKind.i64.wrap (x3 + IntKind.i64.wrap (↑xh3.length - x3))) ↑xh3.length then
          bif ltI 65536 ↑(List.take ((IntKind.i64.wrap (x3 + IntKind.i64.wrap (↑xh3.length - x3))).toNat - x3.toNat) (List.drop x3.toNat xh3)).length then
            .ret (AV.tup [AV.nil, AV.int IntKind.i64 x3, AV.int IntKind.i64 (Int.ofNat 5)]) [AObj.var 24 [AV.nil], AObj.var 3 [AV.int IntKind.i64 x3], AObj.var 25 [AV.int IntKind.i64 5], AObj.var 23 [AV.ro (Pay.bytes xh3)], AObj.arr 35 (Pay.rows 2 xh4)]
          else
            bif leI 65536 ↑xh4.length then
              .ret (AV.tup [AV.nil, AV.int IntKind.i64 x3, AV.int IntKind.i64 (Int.ofNat 9)]) [AObj.var 24 [AV.nil], AObj.var 3 [AV.int IntKind.i64 x3], AObj.var 25 [AV.int IntKind.i64 9], AObj.var 23 [AV.ro (Pay.bytes xh3)], AObj.arr 35 (Pay.rows 2 xh4)]
            else
              bif appFits ty35 (Pay.rows 2 (xh4 ++ [[AV.int IntKind.i64 x3, AV.str (List.take ((IntKind.i64.wrap (x3 + IntKind.i64.wrap (↑xh3.length - x3))).toNat - x3.toNat) (List.drop x3.toNat xh3))]])) then
                f11_y0_1 F k a0 (IntKind.i64.wrap (x3 + IntKind.i64.wrap (IntKind.i64.wrap (↑xh3.length - x3) + 1))) xh1 xh2 xh3 (xh4 ++ [[AV.int IntKind.i64 x3, AV.str (List.take ((IntKind.i64.wrap (x3 + IntKind.i64.wrap (↑xh3.length - x3))).toNat - x3.toNat) (List.drop x3.toNat xh3))]])
              else
                .stuck
        else
          .stuck
      else
        bif leI 0 x3 && leI x3 (IntKind.i64.wrap (x3 + idxB (List.drop x3.toNat xh3) 10)) && leI (IntKind.i64.wrap (x3 + idxB (List.drop x3.toNat xh3) 10)) ↑xh3.length then
          bif ltI 65536 ↑(List.take ((IntKind.i64.wrap (x3 + idxB (List.drop x3.toNat xh3) 10)).toNat - x3.toNat) (List.drop x3.toNat xh3)).length then
            .ret (AV.tup [AV.nil, AV.int IntKind.i64 x3, AV.int IntKind.i64 (Int.ofNat 5)]) [AObj.var 24 [AV.nil], AObj.var 3 [AV.int IntKind.i64 x3], AObj.var 25 [AV.int IntKind.i64 5], AObj.var 23 [AV.ro (Pay.bytes xh3)], AObj.arr 35 (Pay.rows 2 xh4)]
          else
            bif leI 65536 ↑xh4.length then
              .ret (AV.tup [AV.nil, AV.int IntKind.i64 x3, AV.int IntKind.i64 (Int.ofNat 9)]) [AObj.var 24 [AV.nil], AObj.var 3 [AV.int IntKind.i64 x3], AObj.var 25 [AV.int IntKind.i64 9], AObj.var 23 [AV.ro (Pay.bytes xh3)], AObj.arr 35 (Pay.rows 2 xh4)]
            else
              bif appFits ty35 (Pay.rows 2 (xh4 ++ [[AV.int IntKind.i64 x3, AV.str (List.take ((IntKind.i64.wrap (x3 + idxB (List.drop x3.toNat xh3) 10)).toNat - x3.toNat) (List.drop x3.toNat xh3))]])) then
                f11_y0_1 F k a0 (IntKind.i64.wrap (x3 + IntKind.i64.wrap (idxB (List.drop x3.toNat xh3) 10 + 1))) xh1 xh2 xh3 (xh4 ++ [[AV.int IntKind.i64 x3, AV.str (List.take ((IntKind.i64.wrap (x3 + idxB (List.drop x3.toNat xh3) 10)).toNat - x3.toNat) (List.drop x3.toNat xh3))]])
              else
                .stuck
        else
          .stuck
    else
      .stuck
  else
    .ret (AV.tup [AV.own 4, AV.int IntKind.i64 (Int.ofNat a0.length), AV.int IntKind.i64 (Int.ofNat 0)]) [AObj.var 24 [AV.own 4], AObj.var 3 [AV.int IntKind.i64 ↑a0.length], AObj.var 25 [AV.int IntKind.i64 0], AObj.var 23 [AV.ro (Pay.bytes xh3)], AObj.arr 35 (Pay.rows 2 xh4)] := by kernel_rfl


def recOut (n : Nat) (rows : List (Nat × Txt)) (at' : Nat) (ls : List Txt) : AV × List AObj :=
  match recE rows.length at' ls with
  | some x => (.tup [.nil, .int .i64 x.1, .int .i64 x.2], [])
  | none => (.tup [.own 0, .int .i64 n, .int .i64 0], [.arr 35 (.rows 2 (recRows rows ++ recRows (recs at' ls)))])
theorem fits35 (l : List (List AV)) (h : l.length ≤ 1000000) : appFits ty35 (.rows 2 l) = true := by
  unfold appFits
  rw [ble_iff]
  show l.length * 24 ≤ _
  omega
theorem recRows_len (l : List (Nat × Txt)) : (recRows l).length = l.length := List.length_map _
theorem recRows_snoc (l : List (Nat × Txt)) (x : Nat × Txt) : recRows (l ++ [x]) = recRows l ++ [recRow x] := by simp [recRows]
theorem recOut_more (n : Nat) (rows : List (Nat × Txt)) (at' : Nat) (l : Txt) (ls : List Txt) (h1 : ¬ 65536 < l.length) (h2 : ¬ 65536 ≤ rows.length) : recOut n (rows ++ [(at', l)]) (at' + l.length + 1) ls = recOut n rows at' (l :: ls) := by
  unfold recOut
  rw [show recE rows.length at' (l :: ls) = recE (rows.length + 1) (at' + l.length + 1) ls by rw [recE, if_neg h1, if_neg h2], List.length_append, List.length_singleton, recRows_snoc, show recs at' (l :: ls) = (at', l) :: recs (at' + l.length + 1) ls from rfl, List.append_assoc]
  rfl
theorem f11_run (F : Nat) (b : Txt) (x1 x2 : Int) (hb : b.length ≤ 1048576) : ∀ (d k j : Nat) (rows : List (Nat × Txt)), b.length ≤ j + d → j ≤ b.length + 1 → d < k → rows.length ≤ 65536 →
    outR (f11_y0_1 F k b j x1 x2 b (recRows rows)) = some (recOut b.length rows j (spl (b.drop j)))
  | d, k + 1, j, rows, h1, h2, h3, h4 => by
    rw [f11_y0_1_eq]
    by_cases hj : j < b.length
    · rw [bif_pos (by rw [ltI_iff]; omega), bif_pos (by simp only [Bool.and_eq_true, leI_iff]; omega), Int.toNat_natCast]
      have hlen : (b.drop j).length = b.length - j := List.length_drop
      have hne : b.drop j ≠ [] := fun e => by rw [e] at hlen; simp at hlen; omega
      obtain ⟨d, rfl⟩ : ∃ m, d = m + 1 := ⟨d - 1, by omega⟩
      cases hi : (b.drop j).findIdx? (fun c => (c.toNat : Int) == 10) with
      | none =>
        have e1 : idxB (b.drop j) 10 = -1 := by unfold idxB; rw [hi]
        have e2 : (b.drop j).take (b.length - j) = b.drop j := List.take_of_length_le (by omega)
        rw [e1, bif_pos (by decide), wrap64 (n := (b.length : Int) - j) (by omega) (by omega), show (j : Int) + ((b.length : Int) - j) = b.length by omega, wrap64 (n := (b.length : Int)) (by omega) (by omega), Int.toNat_natCast, e2,
          bif_pos (by simp only [Bool.and_eq_true, leI_iff]; omega), spl_none hi hne, bif_ltI, bif_leI, recRows_len]
        by_cases g1 : 65536 < (b.drop j).length
        · rw [if_pos (by omega)]
          unfold recOut
          rw [recE, if_pos g1]; rfl
        rw [if_neg (by omega)]
        by_cases g2 : 65536 ≤ rows.length
        · rw [if_pos (by omega)]
          unfold recOut
          rw [recE, if_neg g1, if_pos g2]; rfl
        rw [if_neg (by omega), bif_pos (fits35 _ (by rw [List.length_append, recRows_len, List.length_singleton]; omega)), wrap64 (n := (b.length : Int) - j + 1) (by omega) (by omega), wrap64 (by omega) (by omega), show (j : Int) + ((b.length : Int) - j + 1) = ((b.length + 1 : Nat) : Int) by omega,
          ← recOut_more _ _ _ _ _ g1 g2, show recRows rows ++ [[AV.int .i64 (j : Int), AV.str (b.drop j)]] = recRows (rows ++ [(j, b.drop j)]) from (recRows_snoc rows (j, b.drop j)).symm]
        have ih := f11_run F b x1 x2 hb d k (b.length + 1) (rows ++ [(j, b.drop j)]) (by omega) (by omega) (by omega) (by rw [List.length_append, List.length_singleton]; omega)
        have e5 : b.drop (b.length + 1) = [] := List.drop_eq_nil_of_le (by omega)
        rw [ih, e5, hlen, show j + (b.length - j) + 1 = b.length + 1 by omega]; rfl
      | some i =>
        obtain ⟨e2, hil⟩ := spl_found hi
        have e1 : idxB (b.drop j) 10 = i := by unfold idxB; rw [hi]
        have e3 : ((b.drop j).take i).length = i := by rw [List.length_take]; omega
        rw [e1, bif_neg (by rw [ltI_iff]; omega), wrap64 (n := (j : Int) + i) (by omega) (by omega), show (((j : Int) + i).toNat - j) = i by omega,
          bif_pos (by simp only [Bool.and_eq_true, leI_iff]; omega), e2, bif_ltI, bif_leI, recRows_len, e3]
        by_cases g1 : 65536 < i
        · rw [if_pos (by omega)]
          unfold recOut
          rw [recE, if_pos (by omega)]; rfl
        rw [if_neg (by omega)]
        by_cases g2 : 65536 ≤ rows.length
        · rw [if_pos (by omega)]
          unfold recOut
          rw [recE, if_neg (by omega), if_pos g2]; rfl
        rw [if_neg (by omega), bif_pos (fits35 _ (by rw [List.length_append, recRows_len, List.length_singleton]; omega)), wrap64 (n := (i : Int) + 1) (by omega) (by omega), wrap64 (by omega) (by omega), show (j : Int) + ((i : Int) + 1) = ((j + i + 1 : Nat) : Int) by omega,
          ← recOut_more _ _ _ _ _ (by omega) g2, show recRows rows ++ [[AV.int .i64 (j : Int), AV.str ((b.drop j).take i)]] = recRows (rows ++ [(j, (b.drop j).take i)]) from (recRows_snoc rows (j, (b.drop j).take i)).symm]
        have ih := f11_run F b x1 x2 hb d k (j + i + 1) (rows ++ [(j, (b.drop j).take i)]) (by omega) (by omega) (by omega) (by rw [List.length_append, List.length_singleton]; omega)
        rw [ih, List.drop_drop, e3, show j + (i + 1) = j + i + 1 by omega]
    · rw [bif_neg (by rw [ltI_iff]; omega), List.drop_eq_nil_of_le (by omega)]
      unfold recOut
      simp only [spl, recE, recs, recRows, List.map_nil, List.append_nil]
      rfl

theorem recOut_weak (b : Txt) (hb : ¬ 1048576 < b.length) : Weak tt11 (recOut b.length [] 0 (spl b)) (.tup [.ro (.rows 2 (recRows (records b).1)), .int .i64 (records b).2.1, .int .i64 (records b).2.2], []) := by
  unfold recOut records
  rw [if_neg hb, show ([] : List (Nat × Txt)).length = 0 from rfl]
  cases recE 0 0 (spl b) with
  | some x => exact .tup (.empty rfl (.same (.same .nil)))
  | none => exact .lend
theorem f11_all (F k : Nat) (b : Txt) (x1 x2 : Int) (hb : ¬ 1048576 < b.length) (hk : 1048580 < k) : ∃ x, outR (f11_y0 F k b ((0 : Nat) : Int) x1 x2 b) = some x ∧ Weak tt11 x (.tup [.ro (.rows 2 (recRows (records b).1)), .int .i64 (records b).2.1, .int .i64 (records b).2.2], []) := by
  obtain ⟨k, rfl⟩ : ∃ m, k = m + 1 := ⟨k - 1, by omega⟩
  rw [f11_y0_eq]
  by_cases hj : 0 < b.length
  · refine ⟨_, ?_, recOut_weak b hb⟩
    rw [bif_pos (by rw [ltI_iff]; omega), bif_pos (by simp only [Bool.and_eq_true, leI_iff]; omega), Int.toNat_natCast, List.drop_zero]
    have hne : b ≠ [] := fun e => by rw [e] at hj; simp at hj
    cases hi : b.findIdx? (fun c => (c.toNat : Int) == 10) with
    | none =>
      have e1 : idxB b 10 = -1 := by unfold idxB; rw [hi]
      have e2 : b.take (b.length - 0) = b := List.take_of_length_le (by omega)
      rw [e1, bif_pos (by decide), wrap64 (n := (b.length : Int) - ((0 : Nat) : Int)) (by omega) (by omega), show ((0 : Nat) : Int) + ((b.length : Int) - ((0 : Nat) : Int)) = b.length by omega, wrap64 (n := (b.length : Int)) (by omega) (by omega), Int.toNat_natCast, e2,
        bif_pos (by simp only [Bool.and_eq_true, leI_iff]; omega), spl_none hi hne, bif_ltI]
      by_cases g1 : 65536 < b.length
      · rw [if_pos (by omega)]
        unfold recOut
        rw [recE, if_pos g1]; rfl
      rw [if_neg (by omega), wrap64 (n := (b.length : Int) - ((0 : Nat) : Int) + 1) (by omega) (by omega), wrap64 (by omega) (by omega), show ((0 : Nat) : Int) + ((b.length : Int) - ((0 : Nat) : Int) + 1) = ((b.length + 1 : Nat) : Int) by omega,
        ← recOut_more _ _ _ _ _ g1 (by simp)]
      have ih := f11_run F b x1 x2 (by omega) 1048576 k (b.length + 1) [(0, b)] (by omega) (by omega) (by omega) (by simp)
      have e5 : b.drop (b.length + 1) = [] := List.drop_eq_nil_of_le (by omega)
      rw [e5] at ih
      rw [Nat.zero_add, List.nil_append]
      exact ih
    | some i =>
      obtain ⟨e2, hil⟩ := spl_found hi
      have e1 : idxB b 10 = i := by unfold idxB; rw [hi]
      have e3 : (b.take i).length = i := by rw [List.length_take]; omega
      rw [e1, bif_neg (by rw [ltI_iff]; omega), wrap64 (n := ((0 : Nat) : Int) + i) (by omega) (by omega), show ((((0 : Nat) : Int) + i).toNat - 0) = i by omega,
        bif_pos (by simp only [Bool.and_eq_true, leI_iff]; omega), e2, bif_ltI, e3]
      by_cases g1 : 65536 < i
      · rw [if_pos (by omega)]
        unfold recOut
        rw [recE, if_pos (by omega)]; rfl
      rw [if_neg (by omega), wrap64 (n := (i : Int) + 1) (by omega) (by omega), wrap64 (by omega) (by omega), show ((0 : Nat) : Int) + ((i : Int) + 1) = ((i + 1 : Nat) : Int) by omega,
        ← recOut_more _ _ _ _ _ (by omega) (by simp)]
      have ih := f11_run F b x1 x2 (by omega) 1048576 k (i + 1) [(0, b.take i)] (by omega) (by omega) (by omega) (by simp)
      rw [Nat.zero_add, List.nil_append, e3]
      exact ih
  · have : b = [] := List.eq_nil_of_length_eq_zero (by omega)
    subst this
    exact ⟨_, rfl, .tup (.empty rfl (.same (.same .nil)))⟩
theorem ok11 : PureOk Try.prog 11 go11 := by
  refine gpureOk_of (c11 rounds) y11 tt11_ok (.cons ok40 (.cons ok61 .nil)) follows rfl Try.func60 (by kernel_rfl) Try.func11 (by kernel_rfl) (by kernel_rfl) ?_ ?_
  · intro R stk args ret; unfold go11; split <;> rfl
  · intro args r objs h hr
    unfold go11 at h
    split at h
    · rename_i b
      cases h
      unfold gpure
      rw [f11_eq, bif_ltI]
      by_cases hb : 1048576 < b.length
      · rw [if_pos (by omega)]
        refine ⟨_, rfl, ?_⟩
        unfold records
        rw [if_pos hb]
        exact .tup (.empty rfl (.same (.same .nil)))
      · rw [if_neg (by omega)]
        exact f11_all rounds rounds b 0 0 hb (by unfold rounds; omega)
    · cases h

end Go.Proofs.YtdkihlkcnnlkcaaG
