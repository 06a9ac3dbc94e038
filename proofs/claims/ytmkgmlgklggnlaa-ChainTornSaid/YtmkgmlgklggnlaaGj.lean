/- A part of the proof: plain laws, and what functions of the given program come to; no condition. -/
import Derived.Test.YtmkgmlgklggnlaaGi
namespace Go.Proofs.YtmkgmlgklggnlaaG
open Go Go.Proofs.YtmkgmlgklggnlaaGm
set_option maxRecDepth 100000

theorem f59_run (F : Nat) (x1 K : Int) (l : List UInt8) (hl : l.length ≤ 8) : ∀ (d k : Nat) (n : Int) (i : Nat), i + d = l.length → d < k → 0 ≤ n → (n + 1) * 256 ^ d ≤ 18446744073709551616 →
    f59_0 F k x1 n K l l.length i = if len9 (cat n (l.drop i)) = K then .ret (.tup [.int .u64 (cat n (l.drop i)), .int .i64 (IntKind.i64.wrap (x1 + K)), .int .i64 0]) [] else .ret (.tup [.int .u64 0, .int .i64 0, .int .i64 3]) []
  | 0, k + 1, n, i, h1, h2, h3, h4 => by
    rw [f59_0_eq, bif_neg (by rw [ltI_iff]; omega), List.drop_eq_nil_of_le (by omega)]
    show (bif !eqI (len9 n) K then _ else _) = _
    by_cases h : len9 n = K
    · rw [if_pos (by simpa [cat] using h), bif_neg (by simp [eqI, h])]; rfl
    · rw [if_neg (by simpa [cat] using h), bif_pos (by simp [eqI, h])]
  | d + 1, k + 1, n, i, h1, h2, h3, h4 => by
    have hi : i < l.length := by omega
    have hc : (l[i]).toNat < 256 := (l[i]).toNat_lt
    have hP : (0 : Int) < 256 ^ d := Int.pow_pos (by decide)
    rw [Int.pow_succ] at h4
    have m1 := Int.mul_le_mul_of_nonneg_left (show (1 : Int) ≤ 256 ^ d by omega) (show 0 ≤ (n + 1) * 256 by omega)
    have e1 : (n + 1) * 256 * 256 ^ d = (n + 1) * (256 ^ d * 256) := by
      rw [Int.mul_assoc, Int.mul_comm 256]
    have m2 := Int.mul_le_mul_of_nonneg_right (show 256 * n + (l[i]).toNat + 1 ≤ (n + 1) * 256 by omega) (Int.le_of_lt hP)
    have hlen : (Pay.bytes l : Pay AV).len = l.length := rfl
    have hget : l.getD (i : Int).toNat 0 = l[i] := by simp [List.getD, hi]
    rw [f59_0_eq, bif_pos (by rw [ltI_iff]; omega), bif_pos (by unfold inB; rw [hlen]; simp; omega), hget, ior_cat n _ h3 (by omega), wrap64 (by omega) (by omega),
      show (i : Int) + 1 = ((i + 1 : Nat) : Int) by omega, f59_run F x1 K l hl d k _ (i + 1) (by omega) (by omega) (by omega) (by omega), List.drop_eq_getElem_cons hi]
    rfl

theorem get_run (l : List UInt8) (i : Int) (hi : -9223372036854775808 ≤ i ∧ i ≤ 9223372036854775807) (hl : l.length ≤ 9223372036854775807) :
    afun (c59 rounds) Try.f59 [.ro (.bytes l), .int .i64 i] [] = .ret (.tup [.int .u64 (getV l i).1, .int .i64 (getV l i).2.1, .int .i64 (getV l i).2.2]) [] := by
  have hlen : (Pay.bytes l : Pay AV).len = l.length := rfl
  rw [f59_eq, hlen]
  unfold getV
  by_cases a1 : i < 0
  · rw [bif_pos (by rw [ltI_iff]; exact a1), if_pos (.inl a1)]
  rw [bif_neg (by rw [ltI_iff]; exact a1)]
  by_cases a2 : (l.length : Int) < i
  · rw [bif_pos (by rw [ltI_iff]; exact a2), if_pos (.inr a2)]
  rw [bif_neg (by rw [ltI_iff]; exact a2), if_neg (by omega)]
  by_cases a3 : i = l.length
  · rw [bif_pos (by rw [eqI_iff]; exact a3), if_pos a3]
  rw [bif_neg (by rw [eqI_iff]; exact a3), if_neg a3, bif_pos (by unfold inB; simp; omega)]
  generalize hc : l.getD i.toNat 0 = c
  rw [not8]
  have ho := ones8_le c
  have e1 : IntKind.i64.wrap (1 + (8 - bits8 (255 - (c.toNat : Int)))) = ones8 c + 1 := by
    show IntKind.i64.wrap (1 + ones8 c) = _
    rw [wrap64 (by omega) (by omega)]; omega
  rw [e1, wrap64 (n := (l.length : Int) - i) (by omega) (by omega)]
  by_cases a4 : (l.length : Int) - i < ones8 c + 1
  · rw [bif_pos (by rw [ltI_iff]; exact a4), if_pos a4]
  rw [bif_neg (by rw [ltI_iff]; exact a4), if_neg a4, wrap64 (n := i + 1) (by omega) (by omega), wrap64 (n := i + (ones8 c + 1)) (by omega) (by omega)]
  have hsl : (leI 0 (i + 1) && leI (i + 1) (i + (ones8 c + 1)) && leI (i + (ones8 c + 1)) ↑l.length) = true := by
    simp [leI]; omega
  have hd : (i + (ones8 c + 1)).toNat - (i + 1).toNat = (ones8 c).toNat := by omega
  have hlen2 : (List.take (ones8 c).toNat (List.drop (i + 1).toNat l)).length = (ones8 c).toNat := by simp; omega
  rw [hd]
  generalize hL : List.take (ones8 c).toNat (List.drop (i + 1).toNat l) = L at hlen2
  have hd2 : (bif true then (Pay.bytes L : Pay AV) else Pay.bytes (List.drop (i + 1).toNat l)).len = L.length := rfl
  rw [hd2]
  have hcc : c.toNat < 256 := c.toNat_lt
  have fin : ∀ n : Int, 0 ≤ n → (n + 1) * 256 ^ L.length ≤ 18446744073709551616 → f59_0 rounds rounds i n (ones8 c + 1) L L.length 0 =
      .ret (.tup [.int .u64 (if len9 (cat n L) = ones8 c + 1 then (cat n L, i + (ones8 c + 1), 0) else ((0, 0, 3) : Int × Int × Int)).1, .int .i64 (if len9 (cat n L) = ones8 c + 1 then (cat n L, i + (ones8 c + 1), 0) else ((0, 0, 3) : Int × Int × Int)).2.1,
        .int .i64 (if len9 (cat n L) = ones8 c + 1 then (cat n L, i + (ones8 c + 1), 0) else ((0, 0, 3) : Int × Int × Int)).2.2]) [] := by
    intro n h0 h1
    have := f59_run rounds i (ones8 c + 1) L (by omega) L.length rounds n 0 (by omega) (by unfold rounds; omega) h0 h1
    rw [List.drop_zero, wrap64 (by omega) (by omega)] at this
    refine this.trans ?_
    split <;> rfl
  by_cases a5 : ones8 c + 1 < 9
  · rw [bif_pos (by rw [ltI_iff]; exact a5), bif_pos (by unfold inB; simp; omega), bif_neg (by rw [ltI_iff]; omega), bif_pos hsl, wrapu64 (by omega) (by omega), shr255 _ (by omega) (by omega), if_pos a5,
      show (8 - (ones8 c + 1)).toNat = (7 - ones8 c).toNat by omega, iand_mask c.toNat _ hcc (by omega)]
    refine fin _ (Int.emod_nonneg _ (Int.ne_of_gt (Int.pow_pos (by decide)))) ?_
    have hm := Int.emod_lt_of_pos (c.toNat : Int) (show (0 : Int) < 2 ^ (7 - ones8 c).toNat from Int.pow_pos (by decide))
    have hP : (0 : Int) < 256 ^ L.length := Int.pow_pos (by decide)
    have := Int.mul_le_mul_of_nonneg_right (show (c.toNat : Int) % 2 ^ (7 - ones8 c).toNat + 1 ≤ 2 ^ (7 - ones8 c).toNat by omega) (Int.le_of_lt hP)
    have key : ∀ x : Fin 8, (2 : Int) ^ (7 - (x.val : Int)).toNat * 256 ^ x.val ≤ 18446744073709551616 := by decide
    have k2 := key ⟨(ones8 c).toNat, by omega⟩
    simp only [Int.toNat_of_nonneg ho.1] at k2
    rw [hlen2] at this ⊢
    omega
  · rw [bif_neg (by rw [ltI_iff]; exact a5), bif_pos hsl, if_neg a5]
    refine fin 0 (by omega) ?_
    rw [hlen2, show (ones8 c).toNat = 8 by omega]
    decide

theorem ok59 : PureOk Try.prog 59 go59 := by
  refine pureOk_of (c59 rounds) tt59_ok (.cons ok88 (.cons ok83 .nil)) follows rfl Try.func59 (by kernel_rfl) (by kernel_rfl) ?_ ?_
  · intro R stk args k; unfold go59; split <;> rfl
  · intro args r objs h hr
    unfold go59 at h
    split at h
    · rename_i l n
      cases h
      have hn := has64 hr.tail.int
      have hl := hr.bytes
      refine ⟨_, ?_, .same⟩
      unfold apure
      rw [get_run l n hn (by unfold maxLen at hl; omega)]
      rfl
    · cases h
end Go.Proofs.YtmkgmlgklggnlaaG
