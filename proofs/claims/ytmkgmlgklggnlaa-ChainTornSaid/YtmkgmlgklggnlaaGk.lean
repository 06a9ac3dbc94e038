/- A part of the proof: plain laws, and what functions of the given program come to; no condition. -/
import Derived.Test.YtmkgmlgklggnlaaGj
namespace Go.Proofs.YtmkgmlgklggnlaaG
open Go Go.Proofs.YtmkgmlgklggnlaaGm
set_option maxRecDepth 100000
def tt60 : Tab := [(0, ty0), (3, ty3), (4, ty4), (5, ty5), (22, ty22), (99, ty99)]
theorem tt60_ok : TabOk Try.prog tt60 := tabOk_of_all ⟨ty0_ok, ty3_ok, ty4_ok, ty5_ok, ty22_ok, ty99_ok, trivial⟩
def c60 (F : Nat) : Cfg := ⟨tt60, [(89, .pure go89), (90, .pure go90), (91, .pure go83)], F, [(0, ⟨[0, 1, 7, 8, 9], []⟩)], [], 0⟩
noncomputable def f60_0 (F k : Nat) (x0 : List UInt8) (x1 : Int) (x7 : Int) (x8 : Int) (x9 : Int) : Res := aloop (c60 F) Try.f60 0 [] k (St.mk [AV.ro (Pay.bytes x0), AV.int .i64 x1, .top, .top, .top, .top, .top, AV.int .i64 x7, AV.int .u64 x8, AV.int .i64 x9, .top, .top, .top, .top, .top, .top, .top, .top, .top, .top, .top, .top, .top, .top, .top, .top, .top, .top, .top, .top, .top, .top, .top, .top, .top, .top, .top, .top, .top, .top, .top, .top, .top, .top, .top, .top, .top, .top, .top, .top, .top, .top, .top, .top, .top, .top, .top, .top, .top, .top, .top, .top, .top, .top, .top, .top, .top, .top, .top, .top] [])
theorem f60_eq (F : Nat) (a0 : List UInt8) (a1 : Int) : afun (c60 F) Try.f60 [AV.ro (Pay.bytes a0), AV.int .i64 a1] [] =
 bif ltI a1 0 then
 .ret (AV.tup [AV.int .u64 0, AV.int .i64 0, AV.int .i64 8]) []
 else
 bif ltI (↑(Pay.bytes a0).len) a1 then
 .ret (AV.tup [AV.int .u64 0, AV.int .i64 0, AV.int .i64 8]) []
 else
 bif eqI a1 ↑(Pay.bytes a0).len then
 .ret (AV.tup [AV.int .u64 0, AV.int .i64 0, AV.int .i64 2]) []
 else
 bif inB a1 (Pay.bytes a0).len then
 bif ltI (IntKind.i64.wrap (↑(Pay.bytes a0).len - a1)) (IntKind.i64.wrap (8 - bits8 (255 - ↑(a0.getD a1.toNat 0).toNat) + 1)) then
 .ret (AV.tup [AV.int .u64 0, AV.int .i64 0, AV.int .i64 2]) []
 else
 bif leI (IntKind.i64.wrap (8 - bits8 (255 - ↑(a0.getD a1.toNat 0).toNat) + 1)) 8 then
 bif inB a1 (Pay.bytes a0).len then
 bif eqI (pow2 (IntKind.i64.wrap (8 - IntKind.i64.wrap (8 - bits8 (255 - ↑(a0.getD a1.toNat 0).toNat) + 1)))) 0 then
 .stuck
 else
 f60_0 F F a0 a1 (IntKind.i64.wrap (8 - bits8 (255 - ↑(a0.getD a1.toNat 0).toNat) + 1)) (irem (IntKind.u64.wrap ↑(a0.getD a1.toNat 0).toNat) (pow2 (IntKind.i64.wrap (8 - IntKind.i64.wrap (8 - bits8 (255 - ↑(a0.getD a1.toNat 0).toNat) + 1))))) (IntKind.i64.wrap (a1 + 1))
 else
 .stuck
 else
 f60_0 F F a0 a1 (IntKind.i64.wrap (8 - bits8 (255 - ↑(a0.getD a1.toNat 0).toNat) + 1)) 0 (IntKind.i64.wrap (a1 + 1))
 else
 .stuck := by kernel_rfl
theorem f60_0_eq (F k : Nat) (x0 : List UInt8) (x1 : Int) (x7 : Int) (x8 : Int) (x9 : Int) : f60_0 F (k + 1) x0 x1 x7 x8 x9 =
 bif ltI x9 (IntKind.i64.wrap (x1 + x7)) then
 bif inB x9 (Pay.bytes x0).len then
 f60_0 F k x0 x1 x7 (IntKind.u64.wrap (IntKind.u64.wrap (256 * x8) + IntKind.u64.wrap ↑(x0.getD x9.toNat 0).toNat)) (IntKind.i64.wrap (x9 + 1))
 else
 .stuck
 else
 bif !eqI (len9 x8) x7 then
 .ret (AV.tup [AV.int .u64 0, AV.int .i64 0, AV.int .i64 3]) []
 else
 .ret (AV.tup [AV.int .u64 x8, AV.int .i64 (IntKind.i64.wrap (x1 + x7)), AV.int .i64 0]) [] := by kernel_rfl


theorem f60_run (F : Nat) (x1 K : Int) (l : List UInt8) (hl : l.length ≤ 9223372036854775807) (h0 : 0 ≤ x1) (hK : 0 ≤ K) (hle : x1 + K ≤ l.length) : ∀ (d k : Nat) (n : Int) (j : Nat), (j : Int) + d = x1 + K → d < k → 0 ≤ n → (n + 1) * 256 ^ d ≤ 18446744073709551616 →
    f60_0 F k l x1 K n j = if len9 (cat n ((l.drop j).take d)) = K then .ret (.tup [.int .u64 (cat n ((l.drop j).take d)), .int .i64 (x1 + K), .int .i64 0]) [] else .ret (.tup [.int .u64 0, .int .i64 0, .int .i64 3]) []
  | 0, k + 1, n, j, h1, h2, h3, h4 => by
    rw [f60_0_eq, wrap64 (n := x1 + K) (by omega) (by omega), bif_neg (by rw [ltI_iff]; omega), List.take_zero]
    show (bif !eqI (len9 n) K then _ else _) = _
    by_cases h : len9 n = K
    · rw [if_pos (by simpa [cat] using h), bif_neg (by simp [eqI, h])]; rfl
    · rw [if_neg (by simpa [cat] using h), bif_pos (by simp [eqI, h])]
  | d + 1, k + 1, n, j, h1, h2, h3, h4 => by
    have hi : j < l.length := by omega
    have hc : (l[j]).toNat < 256 := (l[j]).toNat_lt
    have hP : (0 : Int) < 256 ^ d := Int.pow_pos (by decide)
    rw [Int.pow_succ] at h4
    have m1 := Int.mul_le_mul_of_nonneg_left (show (1 : Int) ≤ 256 ^ d by omega) (show 0 ≤ (n + 1) * 256 by omega)
    have e1 : (n + 1) * 256 * 256 ^ d = (n + 1) * (256 ^ d * 256) := by
      rw [Int.mul_assoc, Int.mul_comm 256]
    have m2 := Int.mul_le_mul_of_nonneg_right (show 256 * n + (l[j]).toNat + 1 ≤ (n + 1) * 256 by omega) (Int.le_of_lt hP)
    have hlen : (Pay.bytes l : Pay AV).len = l.length := rfl
    have hget : l.getD (j : Int).toNat 0 = l[j] := by simp [List.getD, hi]
    rw [f60_0_eq, wrap64 (n := x1 + K) (by omega) (by omega), bif_pos (by rw [ltI_iff]; omega), bif_pos (by unfold inB; rw [hlen]; simp; omega), hget, wrapu64 (n := 256 * n) (by omega) (by omega),
      wrapu64 (n := ((l[j]).toNat : Int)) (by omega) (by omega), wrapu64 (by omega) (by omega), wrap64 (by omega) (by omega),
      show (j : Int) + 1 = ((j + 1 : Nat) : Int) by omega, f60_run F x1 K l hl h0 hK hle d k _ (j + 1) (by omega) (by omega) (by omega) (by omega), List.drop_eq_getElem_cons hi, List.take_succ_cons]
    rfl

theorem ref_get_run (l : List UInt8) (i : Int) (hi : -9223372036854775808 ≤ i ∧ i ≤ 9223372036854775807) (hl : l.length ≤ 9223372036854775807) :
    afun (c60 rounds) Try.f60 [.ro (.bytes l), .int .i64 i] [] = .ret (.tup [.int .u64 (getV l i).1, .int .i64 (getV l i).2.1, .int .i64 (getV l i).2.2]) [] := by
  have hlen : (Pay.bytes l : Pay AV).len = l.length := rfl
  rw [f60_eq, hlen]
  unfold getV
  by_cases a1 : i < 0
  · rw [bif_pos (by rw [ltI_iff]; exact a1), if_pos (.inl a1)]
  rw [bif_neg (by rw [ltI_iff]; exact a1)]
  by_cases a2 : (l.length : Int) < i
  · rw [bif_pos (by rw [ltI_iff]; exact a2), if_pos (.inr a2)]
  rw [bif_neg (by rw [ltI_iff]; exact a2), if_neg (by omega)]
  by_cases a3 : i = l.length
  · rw [bif_pos (by rw [eqI_iff]; exact a3), if_pos a3]
  rw [bif_neg (by rw [eqI_iff]; exact a3), if_neg a3, bif_pos (by unfold inB; simp; omega)]
  generalize hc : l.getD i.toNat 0 = c
  have ho := ones8_le c
  have e1 : IntKind.i64.wrap (8 - bits8 (255 - (c.toNat : Int)) + 1) = ones8 c + 1 := by
    show IntKind.i64.wrap (ones8 c + 1) = _
    rw [wrap64 (by omega) (by omega)]
  rw [e1, wrap64 (n := (l.length : Int) - i) (by omega) (by omega)]
  by_cases a4 : (l.length : Int) - i < ones8 c + 1
  · rw [bif_pos (by rw [ltI_iff]; exact a4), if_pos a4]
  rw [bif_neg (by rw [ltI_iff]; exact a4), if_neg a4, wrap64 (n := i + 1) (by omega) (by omega)]
  have hcc : c.toNat < 256 := c.toNat_lt
  generalize hL : List.take (ones8 c).toNat (List.drop (i + 1).toNat l) = L
  have fin : ∀ n : Int, 0 ≤ n → (n + 1) * 256 ^ (ones8 c).toNat ≤ 18446744073709551616 → f60_0 rounds rounds l i (ones8 c + 1) n (i + 1) =
      .ret (.tup [.int .u64 (if len9 (cat n L) = ones8 c + 1 then (cat n L, i + (ones8 c + 1), 0) else ((0, 0, 3) : Int × Int × Int)).1, .int .i64 (if len9 (cat n L) = ones8 c + 1 then (cat n L, i + (ones8 c + 1), 0) else ((0, 0, 3) : Int × Int × Int)).2.1,
        .int .i64 (if len9 (cat n L) = ones8 c + 1 then (cat n L, i + (ones8 c + 1), 0) else ((0, 0, 3) : Int × Int × Int)).2.2]) [] := by
    intro n h0 h1
    have := f60_run rounds i (ones8 c + 1) l hl (by omega) (by omega) (by omega) (ones8 c).toNat rounds n (i + 1).toNat (by omega) (by unfold rounds; omega) h0 h1
    rw [Int.toNat_of_nonneg (show 0 ≤ i + 1 by omega), hL] at this
    refine this.trans ?_
    split <;> rfl
  have hpw : IntKind.i64.wrap (8 - (ones8 c + 1)) = 7 - ones8 c := by rw [wrap64 (by omega) (by omega)]; omega
  by_cases a5 : ones8 c + 1 < 9
  · have hp : pow2 (7 - ones8 c) = 2 ^ (7 - ones8 c).toNat := pow2_small (by omega)
    have hm := Int.emod_lt_of_pos (c.toNat : Int) (show (0 : Int) < 2 ^ (7 - ones8 c).toNat from Int.pow_pos (by decide))
    have hpos : (0 : Int) < 2 ^ (7 - ones8 c).toNat := Int.pow_pos (by decide)
    have hir : irem (c.toNat : Int) (2 ^ (7 - ones8 c).toNat) = (c.toNat : Int) % 2 ^ (7 - ones8 c).toNat := by
      unfold irem; exact Int.tmod_eq_emod_of_nonneg (by omega)
    rw [bif_pos (by rw [leI_iff]; omega), bif_pos (by unfold inB; simp; omega), hpw, hp, bif_neg (by rw [eqI_iff]; omega), wrapu64 (by omega) (by omega), hir, if_pos a5]
    refine fin _ (Int.emod_nonneg _ (Int.ne_of_gt hpos)) ?_
    have hP : (0 : Int) < 256 ^ (ones8 c).toNat := Int.pow_pos (by decide)
    have := Int.mul_le_mul_of_nonneg_right (show (c.toNat : Int) % 2 ^ (7 - ones8 c).toNat + 1 ≤ 2 ^ (7 - ones8 c).toNat by omega) (Int.le_of_lt hP)
    have key : ∀ x : Fin 8, (2 : Int) ^ (7 - (x.val : Int)).toNat * 256 ^ x.val ≤ 18446744073709551616 := by decide
    have k2 := key ⟨(ones8 c).toNat, by omega⟩
    simp only [Int.toNat_of_nonneg ho.1] at k2
    omega
  · rw [bif_neg (by rw [leI_iff]; omega), if_neg a5]
    refine fin 0 (by omega) ?_
    rw [show (ones8 c).toNat = 8 by omega]
    decide

theorem ok60 : PureOk Try.prog 60 go59 := by
  refine pureOk_of (c60 rounds) tt60_ok (.cons ok89 (.cons ok90 (.cons ok91 .nil))) follows rfl Try.func60 (by kernel_rfl) (by kernel_rfl) ?_ ?_
  · intro R stk args k; unfold go59; split <;> rfl
  · intro args r objs h hr
    unfold go59 at h
    split at h
    · rename_i l n
      cases h
      have hn := has64 hr.tail.int
      have hl := hr.bytes
      refine ⟨_, ?_, .same⟩
      unfold apure
      rw [ref_get_run l n hn (by unfold maxLen at hl; omega)]
      rfl
    · cases h
end Go.Proofs.YtmkgmlgklggnlaaG
