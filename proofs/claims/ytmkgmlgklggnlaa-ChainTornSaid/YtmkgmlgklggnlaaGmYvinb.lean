/- A part of the proof: plain laws, and what functions of the given program come to; no condition. -/
import Derived.Test.YtmkgmlgklggnlaaGmYvint
namespace Go.Proofs.YtmkgmlgklggnlaaGm
set_option maxRecDepth 100000

/-! Read back. -/
theorem cat_eq : ∀ (l : List UInt8) (x : Int), cat x l = x * 256 ^ l.length + cat 0 l
  | [], x => by simp [cat]
  | c :: l, x => by
    simp only [cat, List.length_cons]
    rw [cat_eq l (256 * x + c.toNat), cat_eq l (256 * 0 + c.toNat), Int.pow_succ, Int.add_mul, Int.mul_zero, Int.zero_add, ← Int.mul_assoc, Int.mul_comm 256 x, Int.mul_assoc x, Int.mul_comm 256, ← Int.mul_assoc, Int.add_assoc, Int.mul_assoc]
theorem cat0_bound : ∀ (l : List UInt8), 0 ≤ cat 0 l ∧ cat 0 l < 256 ^ l.length
  | [] => by simp [cat]
  | c :: l => by
    have ih := cat0_bound l
    have hc : c.toNat < 256 := c.toNat_lt
    simp only [cat, List.length_cons]
    rw [cat_eq, Int.mul_zero, Int.zero_add, Int.pow_succ]
    have hP : (0 : Int) < 256 ^ l.length := Int.pow_pos (by decide)
    have h1 := Int.mul_le_mul_of_nonneg_right (show (c.toNat : Int) ≤ 255 by omega) (Int.le_of_lt hP)
    have h2 := Int.mul_nonneg (show (0 : Int) ≤ c.toNat by omega) (Int.le_of_lt hP)
    omega
theorem pow256 (j : Nat) : (2 : Int) ^ (8 * j) = 256 ^ j := by
  rw [Int.pow_mul]; rfl
theorem be_add : ∀ (j : Nat) (m a : Int), be j (m + a * 256 ^ j) = be j m
  | 0, _, _ => rfl
  | j + 1, m, a => by
    have hP : (256 : Int) ^ j ≠ 0 := Int.ne_of_gt (Int.pow_pos (by decide))
    have e : m + a * 256 ^ (j + 1) = m + (a * 256) * 256 ^ j := by rw [Int.pow_succ, Int.mul_assoc, Int.mul_comm 256]
    simp only [be]
    rw [e, be_add j m (a * 256), pow256, Int.add_mul_ediv_right _ _ hP, Int.add_mul_emod_self_right]
theorem be_cat : ∀ (l : List UInt8) (x : Int), be l.length (cat x l) = l
  | [], _ => rfl
  | c :: l, x => by
    have hc : c.toNat < 256 := c.toNat_lt
    have hP : (0 : Int) < 256 ^ l.length := Int.pow_pos (by decide)
    have hb := cat0_bound l
    simp only [List.length_cons, be, cat]
    rw [be_cat l, pow256, cat_eq, Int.add_comm, Int.add_mul_ediv_right _ _ (Int.ne_of_gt hP), Int.ediv_eq_zero_of_lt hb.1 hb.2, Int.zero_add, Int.mul_comm 256 x, Int.add_comm, Int.add_mul_emod_self_right]
    congr 1
    rw [show ((c.toNat : Int) % 256).toNat = c.toNat by omega, UInt8.ofNat_toNat]
theorem cat_be : ∀ (j : Nat) (m y : Int), 0 ≤ m → cat y (be j m) = y * 256 ^ j + m % 256 ^ j
  | 0, m, y, _ => by simp [be, cat, Int.emod_one]
  | j + 1, m, y, h => by
    have hP : (0 : Int) < 256 ^ j := Int.pow_pos (by decide)
    simp only [be, cat]
    rw [cat_be j m _ h, pow256]
    have hx : 0 ≤ m / 256 ^ j % 256 ∧ m / 256 ^ j % 256 < 256 := by omega
    have e : ((UInt8.ofNat (m / 256 ^ j % 256).toNat).toNat : Int) = m / 256 ^ j % 256 := by
      rw [UInt8.toNat_ofNat']; omega
    rw [e]
    have e2 : m % 256 ^ (j + 1) = (m / 256 ^ j % 256) * 256 ^ j + m % 256 ^ j := by
      have h1 := Int.emod_add_mul_ediv m (256 ^ (j + 1))
      have h2 := Int.emod_add_mul_ediv m (256 ^ j)
      have h3 := Int.emod_add_mul_ediv (m / 256 ^ j) 256
      rw [Int.pow_succ] at h1 ⊢
      rw [← Int.ediv_ediv_of_nonneg (Int.le_of_lt hP)] at h1
      generalize m / 256 ^ j = q at h1 h2 h3 ⊢
      generalize (256 : Int) ^ j = P at h1 h2 ⊢
      have h4 : P * 256 * (q / 256) = P * (256 * (q / 256)) := Int.mul_assoc _ _ _
      have h5 : P * q = P * (q % 256) + P * (256 * (q / 256)) := by rw [← Int.mul_add, h3]
      have h6 : (q % 256) * P = P * (q % 256) := Int.mul_comm _ _
      omega
    rw [e2, Int.pow_succ, Int.add_mul, Int.mul_comm 256 y, Int.mul_assoc, Int.mul_comm 256]
    omega

/-- What marks the first byte of so many. -/
def mark9 (k : Nat) : Int := (256 - 2 ^ (9 - k)) * 256 ^ (k - 1)
theorem enc_mark (n : Int) (_h0 : 0 ≤ n) (h8 : len9 n ≤ 8) : enc n = be (len9 n).toNat (n + mark9 (len9 n).toNat) := by
  by_cases h0 : n < 128
  · simp only [len9, enc, if_pos h0]
    show be 1 n = be 1 (n + 0)
    rw [Int.add_zero]
  by_cases h1 : n < 16384
  · simp only [len9, enc, if_neg h0, if_pos h1]; rfl
  by_cases h2 : n < 2097152
  · simp only [len9, enc, if_neg h0, if_neg h1, if_pos h2]; rfl
  by_cases h3 : n < 268435456
  · simp only [len9, enc, if_neg h0, if_neg h1, if_neg h2, if_pos h3]; rfl
  by_cases h4 : n < 34359738368
  · simp only [len9, enc, if_neg h0, if_neg h1, if_neg h2, if_neg h3, if_pos h4]; rfl
  by_cases h5 : n < 4398046511104
  · simp only [len9, enc, if_neg h0, if_neg h1, if_neg h2, if_neg h3, if_neg h4, if_pos h5]; rfl
  by_cases h6 : n < 562949953421312
  · simp only [len9, enc, if_neg h0, if_neg h1, if_neg h2, if_neg h3, if_neg h4, if_neg h5, if_pos h6]; rfl
  by_cases h7 : n < 72057594037927936
  · simp only [len9, enc, if_neg h0, if_neg h1, if_neg h2, if_neg h3, if_neg h4, if_neg h5, if_neg h6, if_pos h7]; rfl
  simp only [len9, if_neg h0, if_neg h1, if_neg h2, if_neg h3, if_neg h4, if_neg h5, if_neg h6, if_neg h7] at h8
  omega
theorem len9_range (n : Int) : 1 ≤ len9 n ∧ len9 n ≤ 9 := by
  unfold len9
  repeat (split; · omega)
  omega
/-- So many bytes have this room. -/
theorem len9_room (n : Int) (h8 : len9 n ≤ 8) : n < 2 ^ (8 - len9 n).toNat * 256 ^ ((len9 n).toNat - 1) := by
  unfold len9 at h8 ⊢
  split at h8
  · rw [if_pos ‹_›]; simpa using ‹_›
  split at h8
  · rw [if_neg ‹_›, if_pos ‹_›]; simpa using ‹_›
  split at h8
  · rw [if_neg ‹_›, if_neg ‹_›, if_pos ‹_›]; simpa using ‹_›
  split at h8
  · rw [if_neg ‹_›, if_neg ‹_›, if_neg ‹_›, if_pos ‹_›]; simpa using ‹_›
  split at h8
  · rw [if_neg ‹_›, if_neg ‹_›, if_neg ‹_›, if_neg ‹_›, if_pos ‹_›]; simpa using ‹_›
  split at h8
  · rw [if_neg ‹_›, if_neg ‹_›, if_neg ‹_›, if_neg ‹_›, if_neg ‹_›, if_pos ‹_›]; simpa using ‹_›
  split at h8
  · rw [if_neg ‹_›, if_neg ‹_›, if_neg ‹_›, if_neg ‹_›, if_neg ‹_›, if_neg ‹_›, if_pos ‹_›]; simpa using ‹_›
  split at h8
  · rw [if_neg ‹_›, if_neg ‹_›, if_neg ‹_›, if_neg ‹_›, if_neg ‹_›, if_neg ‹_›, if_neg ‹_›, if_pos ‹_›]; simpa using ‹_›
  · omega
/-- A first byte with so many ones ahead. -/
theorem first_ones : ∀ k : Fin 9, ∀ x : Fin 256, 1 ≤ k.val → x.val < 2 ^ (8 - k.val) → ones8 (UInt8.ofNat (256 - 2 ^ (9 - k.val) + x.val)) = k.val - 1 ∧ (256 - 2 ^ (9 - k.val) + x.val) % 2 ^ (8 - k.val) = x.val ∧ 256 - 2 ^ (9 - k.val) + x.val < 256 := by decide +kernel
theorem ones_first : ∀ c : Fin 256, ones8 (UInt8.ofNat c.val) + 1 ≤ 8 → c.val = 256 - 2 ^ (8 - (ones8 (UInt8.ofNat c.val)).toNat) + c.val % 2 ^ (7 - (ones8 (UInt8.ofNat c.val)).toNat) := by decide +kernel
theorem ones_ff : ∀ c : Fin 256, ones8 (UInt8.ofNat c.val) = 8 → c.val = 255 := by decide +kernel

theorem getD_cons_drop (l : List UInt8) (i : Nat) (h : i < l.length) : l.drop i = l.getD i 0 :: l.drop (i + 1) := by
  rw [List.drop_eq_getElem_cons h]; simp [List.getD, h]

/-- The four ways. -/
theorem getV_shape (l : List UInt8) (i : Int) : getV l i = (0, 0, 8) ∨ getV l i = (0, 0, 2) ∨ getV l i = (0, 0, 3) ∨
    ∃ c L x, l.getD i.toNat 0 = c ∧ (l.drop (i + 1).toNat).take (ones8 c).toNat = L ∧ (if ones8 c + 1 < 9 then (c.toNat : Int) % 2 ^ (7 - ones8 c).toNat else 0) = x ∧ 0 ≤ i ∧ i + (ones8 c + 1) ≤ l.length ∧
      len9 (cat x L) = ones8 c + 1 ∧ getV l i = (cat x L, i + (ones8 c + 1), 0) := by
  unfold getV
  split
  · exact .inl rfl
  split
  · exact .inr (.inl rfl)
  split
  · exact .inr (.inl rfl)
  generalize hc : l.getD i.toNat 0 = c at *
  generalize hL : (l.drop (i + 1).toNat).take (ones8 c).toNat = L
  generalize hx : (if ones8 c + 1 < 9 then (c.toNat : Int) % 2 ^ (7 - ones8 c).toNat else 0) = x
  split
  · rename_i h1 h2 h3 h4
    exact .inr (.inr (.inr ⟨c, L, x, rfl, hL, hx, by omega, by omega, h4, rfl⟩))
  · exact .inr (.inr (.inl rfl))

/-- WHAT IS GOT IS PUT AS THE BYTES THAT IT WAS. -/
theorem getV_once (l : List UInt8) (i : Int) (h : (getV l i).2.2 = 0) :
    0 ≤ i ∧ (getV l i).2.1 = i + len9 (getV l i).1 ∧ (getV l i).2.1 ≤ l.length ∧ 0 ≤ (getV l i).1 ∧ (getV l i).1 < 18446744073709551616 ∧ enc (getV l i).1 = (l.drop i.toNat).take (len9 (getV l i).1).toNat := by
  rcases getV_shape l i with e | e | e | ⟨c, L, x, hc, hL, hx, hi, hle, h4, e⟩
  · rw [e] at h; simp at h
  · rw [e] at h; simp at h
  · rw [e] at h; simp at h
  · rw [e]
    dsimp only
    have ho := ones8_le c
    have hlen : L.length = (ones8 c).toNat := by rw [← hL]; simp; omega
    have hdrop : l.drop i.toNat = c :: l.drop (i + 1).toNat := by
      rw [getD_cons_drop _ _ (by omega), hc, show (i + 1).toNat = i.toNat + 1 by omega]
    have htake : (l.drop i.toNat).take (ones8 c + 1).toNat = c :: L := by
      rw [hdrop, show (ones8 c + 1).toNat = (ones8 c).toNat + 1 by omega, List.take_succ_cons, hL]
    have hcc : c.toNat < 256 := c.toNat_lt
    have hx0 : 0 ≤ x ∧ x < 2 ^ (7 - ones8 c).toNat ∨ (ones8 c = 8 ∧ x = 0) := by
      by_cases h5 : ones8 c + 1 < 9
      · left
        rw [if_pos h5] at hx
        rw [← hx]
        exact ⟨Int.emod_nonneg _ (Int.ne_of_gt (Int.pow_pos (by decide))), Int.emod_lt_of_pos _ (Int.pow_pos (by decide))⟩
      · right
        rw [if_neg h5] at hx
        exact ⟨by omega, hx.symm⟩
    have hb := cat0_bound L
    have hcat := cat_eq L x
    have hP : (0 : Int) < 256 ^ L.length := Int.pow_pos (by decide)
    have key : ∀ y : Fin 9, (2 : Int) ^ (7 - (y.val : Int)).toNat * 256 ^ y.val ≤ 18446744073709551616 := by decide +kernel
    have hbnd : 0 ≤ cat x L ∧ cat x L < 18446744073709551616 := by
      have k2 := key ⟨(ones8 c).toNat, by omega⟩
      simp only [Int.toNat_of_nonneg ho.1] at k2
      rcases hx0 with ⟨a1, a2⟩ | ⟨a1, a2⟩
      · have m1 := Int.mul_nonneg a1 (Int.le_of_lt hP)
        have m2 := Int.mul_le_mul_of_nonneg_right (show x + 1 ≤ 2 ^ (7 - ones8 c).toNat by omega) (Int.le_of_lt hP)
        rw [Int.add_mul, Int.one_mul] at m2
        rw [hlen] at m2 hb hcat m1
        omega
      · rw [a2] at hcat ⊢
        rw [Int.zero_mul, Int.zero_add] at hcat
        rw [hlen, a1] at hb
        refine ⟨hb.1, Int.lt_of_lt_of_le hb.2 (by decide)⟩
    refine ⟨by omega, by rw [h4], by omega, hbnd.1, hbnd.2, ?_⟩
    rw [h4, htake]
    by_cases h5 : ones8 c + 1 < 9
    · rw [if_pos h5] at hx
      rw [enc_mark _ hbnd.1 (by omega), h4]
      have e0 : (ones8 c + 1).toNat = (ones8 c).toNat + 1 := by omega
      have e1 := ones_first ⟨c.toNat, hcc⟩
      simp only [UInt8.ofNat_toNat] at e1
      have e1 := e1 (by omega)
      have eM : cat x L + mark9 ((ones8 c).toNat + 1) = cat (x + (256 - 2 ^ (8 - (ones8 c).toNat))) L := by
        rw [cat_eq L x, cat_eq L (x + _), hlen, mark9, Int.add_mul, Nat.add_sub_cancel, show 9 - ((ones8 c).toNat + 1) = 8 - (ones8 c).toNat by omega]
        omega
      have ecx : (c.toNat : Int) = x + (256 - 2 ^ (8 - (ones8 c).toNat)) := by
        rw [← hx, show (7 - ones8 c).toNat = 7 - (ones8 c).toNat by omega]
        have hp : 2 ^ (8 - (ones8 c).toNat) ≤ 2 ^ 8 := Nat.pow_le_pow_right (by decide) (by omega)
        have hq : ((2 ^ (8 - (ones8 c).toNat) : Nat) : Int) = (2 : Int) ^ (8 - (ones8 c).toNat) := by simp
        have hr : ((c.toNat % 2 ^ (7 - (ones8 c).toNat) : Nat) : Int) = (c.toNat : Int) % 2 ^ (7 - (ones8 c).toNat) := by simp
        omega
      rw [e0, eM, ← ecx]
      have : cat (c.toNat : Int) L = cat 0 (c :: L) := by simp [cat]
      rw [this]
      have := be_cat (c :: L) 0
      rw [List.length_cons, hlen] at this
      exact this
    · have h8 : ones8 c = 8 := by omega
      have e1 := ones_ff ⟨c.toNat, hcc⟩
      simp only [UInt8.ofNat_toNat] at e1
      have e1 := e1 h8
      rw [if_neg h5] at hx
      have hn : 72057594037927936 ≤ cat x L := by
        rcases Int.lt_or_le (cat x L) 72057594037927936 with h6 | h6
        · exfalso
          have : len9 (cat x L) ≤ 8 := by
            unfold len9
            repeat (split; · omega)
            omega
          omega
        · exact h6
      rw [enc_9 hn]
      have := be_cat L x
      rw [hlen, h8] at this
      rw [show (8 : Int).toNat = 8 from rfl] at this
      rw [this]
      congr 1
      have : c = UInt8.ofNat c.toNat := by rw [UInt8.ofNat_toNat]
      rw [this, e1]; rfl

theorem enc_length (n : Int) (h0 : 0 ≤ n) : (enc n).length = (len9 n).toNat := by
  by_cases h : len9 n ≤ 8
  · rw [enc_mark n h0 h, be_length]
  · have := len9_range n
    have hn : 72057594037927936 ≤ n := by
      rcases Int.lt_or_le n 72057594037927936 with h6 | h6
      · exfalso
        apply h
        unfold len9
        repeat (split; · omega)
        omega
      · exact h6
    rw [enc_9 hn, len9_9 hn, List.length_cons, be_length]; rfl

/-- WHAT IS PUT IS GOT, WHATEVER IS AHEAD OF IT AND BEHIND IT. -/
theorem getV_enc (p r : List UInt8) (n : Int) (h0 : 0 ≤ n) (h1 : n < 18446744073709551616) : getV (p ++ enc n ++ r) p.length = (n, p.length + len9 n, 0) := by
  have hr := len9_range n
  have hel := enc_length n h0
  -- the first byte, and those behind it
  have key : ∃ c L, enc n = c :: L ∧ ones8 c + 1 = len9 n ∧ cat (if ones8 c + 1 < 9 then (c.toNat : Int) % 2 ^ (7 - ones8 c).toNat else 0) L = n := by
    by_cases h8 : len9 n ≤ 8
    · rw [enc_mark n h0 h8]
      obtain ⟨k, hk⟩ : ∃ k : Nat, (len9 n).toNat = k + 1 := ⟨(len9 n).toNat - 1, by omega⟩
      have hroom := len9_room n h8
      rw [hk, Nat.add_sub_cancel, show (8 - len9 n).toNat = 7 - k by omega] at hroom
      have hP : (0 : Int) < 256 ^ k := Int.pow_pos (by decide)
      have hq : n / 256 ^ k < 2 ^ (7 - k) := Int.ediv_lt_of_lt_mul hP hroom
      have hq0 : 0 ≤ n / 256 ^ k := Int.ediv_nonneg h0 (Int.le_of_lt hP)
      have hqn : ((2 ^ (7 - k) : Nat) : Int) = (2 : Int) ^ (7 - k) := by simp
      have hq2 : 2 ^ (7 - k) ≤ 2 ^ 7 := Nat.pow_le_pow_right (by decide) (by omega)
      have hf := first_ones ⟨k + 1, by omega⟩ ⟨(n / 256 ^ k).toNat, by omega⟩ (by simp) (by
        simp only [show 8 - (k + 1) = 7 - k by omega]; omega)
      simp only [show 8 - (k + 1) = 7 - k by omega, show 9 - (k + 1) = 8 - k by omega] at hf
      obtain ⟨f1, f2, f3⟩ := hf
      have hp8 : 2 ^ (8 - k) ≤ 2 ^ 8 := Nat.pow_le_pow_right (by decide) (by omega)
      have hp8n : ((2 ^ (8 - k) : Nat) : Int) = (2 : Int) ^ (8 - k) := by simp
      rw [hk]
      have hm : mark9 (k + 1) = (256 - 2 ^ (8 - k)) * 256 ^ k := by rw [mark9, Nat.add_sub_cancel, show 9 - (k + 1) = 8 - k by omega]
      have ehead : (n + mark9 (k + 1)) / 2 ^ (8 * k) % 256 = ((256 - 2 ^ (8 - k) + (n / 256 ^ k).toNat : Nat) : Int) := by
        rw [hm, pow256, Int.add_mul_ediv_right _ _ (Int.ne_of_gt hP)]
        omega
      refine ⟨UInt8.ofNat (256 - 2 ^ (8 - k) + (n / 256 ^ k).toNat), be k n, ?_, ?_, ?_⟩
      · simp only [be]
        rw [ehead, hm, be_add]
        rfl
      · rw [f1]; omega
      · rw [f1, if_pos (by omega)]
        have e1 : (((UInt8.ofNat (256 - 2 ^ (8 - k) + (n / 256 ^ k).toNat)).toNat : Nat) : Int) = ((256 - 2 ^ (8 - k) + (n / 256 ^ k).toNat : Nat) : Int) := by
          rw [UInt8.toNat_ofNat']; omega
        have hk1 : ((k + 1 : Nat) : Int) - 1 = k := by omega
        rw [e1, hk1, show (7 - (k : Int)).toNat = 7 - k by omega]
        have e2 : ((256 - 2 ^ (8 - k) + (n / 256 ^ k).toNat : Nat) : Int) % 2 ^ (7 - k) = n / 256 ^ k := by
          rw [← hqn, ← Int.natCast_emod, f2]; omega
        rw [e2, cat_be k n _ h0, Int.mul_comm]
        exact Int.mul_ediv_add_emod n (256 ^ k)
    · have hn : 72057594037927936 ≤ n := by
        rcases Int.lt_or_le n 72057594037927936 with h6 | h6
        · exfalso
          apply h8
          unfold len9
          repeat (split; · omega)
          omega
        · exact h6
      refine ⟨255, be 8 n, enc_9 hn, ?_, ?_⟩
      · rw [len9_9 hn]; decide
      · rw [show (if ones8 255 + 1 < 9 then (((255 : UInt8).toNat : Nat) : Int) % 2 ^ (7 - ones8 255).toNat else 0) = 0 by decide, cat_be 8 n 0 h0]
        omega
  obtain ⟨c, L, hcL, ho, hcat⟩ := key
  have hlen : (p ++ enc n ++ r).length = p.length + (len9 n).toNat + r.length := by rw [List.length_append, List.length_append, hel]
  have hget : (p ++ enc n ++ r).getD ((p.length : Int)).toNat 0 = c := by
    rw [hcL]; simp [List.getD]
  have hL : L.length = (ones8 c).toNat := by
    have := congrArg List.length hcL
    rw [hel, List.length_cons] at this
    omega
  have hdrop : ((p ++ enc n ++ r).drop ((p.length : Int) + 1).toNat).take (ones8 c).toNat = L := by
    rw [hcL, show ((p.length : Int) + 1).toNat = p.length + 1 by omega]
    have : p ++ c :: L ++ r = (p ++ [c]) ++ (L ++ r) := by simp
    rw [this, show p.length + 1 = (p ++ [c]).length by simp, List.drop_left, ← hL, List.take_left]
  unfold getV
  rw [hlen, if_neg (by omega), if_neg (by omega), hget, if_neg (by omega), hdrop, hcat, if_pos (by omega), ho]

/-! With a sign; texts. -/
def zig (n : Int) : Int := if n < 0 then -2 * n - 1 else 2 * n
def zag (u : Int) : Int := if u % 2 = 1 then -(u / 2) - 1 else u / 2
theorem zag_zig (n : Int) : zag (zig n) = n := by unfold zag zig; split <;> split <;> omega
theorem zig_has {n : Int} (h : -9223372036854775808 ≤ n ∧ n ≤ 9223372036854775807) : 0 ≤ zig n ∧ zig n < 18446744073709551616 := by unfold zig; split <;> omega
/-- A number with a sign, at a place. -/
def getI (l : List UInt8) (i : Int) : Int × Int × Int := (zag (getV l i).1, (getV l i).2.1, (getV l i).2.2)
/-- A text, at a place. -/
def getT (l : List UInt8) (i most : Int) : List UInt8 × Int × Int :=
  if (getV l i).2.2 ≠ 0 then ([], 0, (getV l i).2.2) else if most < 0 ∨ most < (getV l i).1 then ([], 0, 5) else if (l.length : Int) - (getV l i).2.1 < (getV l i).1 then ([], 0, 2)
  else ((l.drop (getV l i).2.1.toNat).take (getV l i).1.toNat, (getV l i).2.1 + (getV l i).1, 0)
theorem getV_bad (l : List UInt8) (i : Int) (h : (getV l i).2.2 ≠ 0) : (getV l i).1 = 0 ∧ (getV l i).2.1 = 0 := by
  rcases getV_shape l i with e | e | e | ⟨c, L, x, hc, hL, hx, hi, hle, h4, e⟩
  · rw [e]; exact ⟨rfl, rfl⟩
  · rw [e]; exact ⟨rfl, rfl⟩
  · rw [e]; exact ⟨rfl, rfl⟩
  · rw [e] at h; simp at h
theorem getV_err (l : List UInt8) (i : Int) : (getV l i).2.2 = 0 ∨ (getV l i).2.2 = 2 ∨ (getV l i).2.2 = 3 ∨ (getV l i).2.2 = 8 := by
  rcases getV_shape l i with e | e | e | ⟨c, L, x, hc, hL, hx, hi, hle, h4, e⟩ <;> rw [e] <;> simp
theorem getV_fits (l : List UInt8) (i : Int) : 0 ≤ (getV l i).1 ∧ (getV l i).1 < 18446744073709551616 ∧ 0 ≤ (getV l i).2.1 ∧ (getV l i).2.1 ≤ l.length := by
  by_cases h : (getV l i).2.2 = 0
  · obtain ⟨h1, h2, h3, h4, h5, _⟩ := getV_once l i h
    have := len9_range (getV l i).1
    omega
  · have := getV_bad l i h
    omega
/-- What a text is put as. -/
def encT (s : List UInt8) : List UInt8 := enc s.length ++ s
theorem getT_enc (p s r : List UInt8) (most : Int) (hm : (s.length : Int) ≤ most) (hs : s.length < 18446744073709551616) : getT (p ++ encT s ++ r) p.length most = (s, ((p.length + (encT s).length : Nat) : Int), 0) := by
  have h := getV_enc p (s ++ r) (s.length : Int) (by omega) (by omega)
  have e : p ++ encT s ++ r = p ++ enc s.length ++ (s ++ r) := by simp [encT]
  have hl := enc_length (s.length : Int) (by omega)
  have hr := len9_range (s.length : Int)
  unfold getT
  rw [e, h]
  dsimp only
  have hlen : (p ++ enc s.length ++ (s ++ r)).length = p.length + (len9 (s.length : Int)).toNat + (s.length + r.length) := by rw [List.length_append, List.length_append, List.length_append, hl]
  rw [if_neg (by simp), if_neg (by omega), hlen, if_neg (by omega)]
  have hd : ((p ++ enc s.length ++ (s ++ r)).drop ((p.length : Int) + len9 s.length).toNat).take ((s.length : Int)).toNat = s := by
    rw [show ((p.length : Int) + len9 s.length).toNat = (p ++ enc s.length).length by rw [List.length_append, hl]; omega, List.drop_left, Int.toNat_natCast, List.take_left]
  rw [hd]
  congr 2
  simp only [encT, List.length_append, hl]
  omega
end Go.Proofs.YtmkgmlgklggnlaaGm
