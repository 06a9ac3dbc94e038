/- A part of the proof: plain laws, and what functions of the given program come to; no condition. -/
import Derived.Test.YtmkgmlgklggnlaaGm3
namespace Go.Proofs.YtmkgmlgklggnlaaGm
set_option maxRecDepth 100000
/-! Numbers as bytes: the plain law. -/
/-- How many bytes a number has. -/
def len9 (n : Int) : Int := if n < 128 then 1 else if n < 16384 then 2 else if n < 2097152 then 3 else if n < 268435456 then 4 else if n < 34359738368 then 5 else if n < 4398046511104 then 6 else if n < 562949953421312 then 7 else if n < 72057594037927936 then 8 else 9
def pow2 (n : Int) : Int := 2 ^ n.toNat % 18446744073709551616
theorem pow2_small {n : Int} (h : n ≤ 63) : pow2 n = 2 ^ n.toNat := by
  unfold pow2
  have h1 : (2 : Nat) ^ n.toNat ≤ 2 ^ 63 := Nat.pow_le_pow_right (by decide) (by omega)
  have h2 : ((2 : Int) ^ n.toNat) = ((2 ^ n.toNat : Nat) : Int) := by simp
  rw [h2]
  generalize (2 : Nat) ^ n.toNat = x at h1
  omega

/-- So many bytes of a number, the greatest first. -/
def be : Nat → Int → List UInt8
  | 0, _ => []
  | j + 1, m => UInt8.ofNat (m / 2 ^ (8 * j) % 256).toNat :: be j m

/-- The bytes of a number. -/
def enc (n : Int) : List UInt8 :=
  if n < 128 then be 1 n else if n < 16384 then be 2 (n + 32768) else if n < 2097152 then be 3 (n + 12582912) else if n < 268435456 then be 4 (n + 3758096384)
  else if n < 34359738368 then be 5 (n + 1030792151040) else if n < 4398046511104 then be 6 (n + 272678883688448) else if n < 562949953421312 then be 7 (n + 70931694131085312)
  else if n < 72057594037927936 then be 8 (n + 18302628885633695744) else 255 :: be 8 n

theorem be_length : ∀ (j : Nat) (n : Int), (be j n).length = j
  | 0, _ => rfl
  | j + 1, n => by simp [be, be_length j]

theorem be_snoc : ∀ (j : Nat) (n : Int), be (j + 1) n = be j (n / 256) ++ [UInt8.ofNat (n % 256).toNat]
  | 0, n => by simp [be]
  | j + 1, n => by
    rw [be, be_snoc j n]
    conv => rhs; rw [be]
    have : n / 2 ^ (8 * (j + 1)) = n / 256 / 2 ^ (8 * j) := by
      rw [Int.ediv_ediv_of_nonneg (by decide), show 8 * (j + 1) = 8 + 8 * j by omega, Int.pow_add]; rfl
    rw [this]; rfl

theorem ior_add (m _c : Nat) (h : ∀ c : Fin 256, c.val < m → ior .u8 (c.val : Int) (256 - 2 * m) = c.val + (256 - 2 * m)) (hm : m ≤ 256) (x : Int) (h0 : 0 ≤ x) (h1 : x < m) : ior .u8 x (256 - 2 * m) = x + (256 - 2 * m) := by
  have := h ⟨x.toNat, by omega⟩ (by simp; omega)
  simp only [Int.toNat_of_nonneg h0] at this
  exact this
theorem first0 (n : Int) (h0 : 0 ≤ n) (h1 : n < 128) : UInt8.ofNat (ior .u8 (n / 2 ^ (8 * 0) % 256) 0).toNat :: be 0 n = be 1 (n + 0) := by
  have e : ior .u8 (n / 2 ^ (8 * 0) % 256) 0 = n / 2 ^ (8 * 0) % 256 + 0 := ior_add 128 0 (by decide) (by decide) _ (by omega) (by omega)
  rw [e]
  simp only [be, List.cons.injEq, and_true]
  refine ?_
  all_goals (congr 2; omega)
theorem first1 (n : Int) (h0 : 0 ≤ n) (h1 : n < 16384) : UInt8.ofNat (ior .u8 (n / 2 ^ (8 * 1) % 256) 128).toNat :: be 1 n = be 2 (n + 32768) := by
  have e : ior .u8 (n / 2 ^ (8 * 1) % 256) 128 = n / 2 ^ (8 * 1) % 256 + 128 := ior_add 64 0 (by decide) (by decide) _ (by omega) (by omega)
  rw [e]
  simp only [be, List.cons.injEq, and_true]
  refine ⟨?_, ?_⟩
  all_goals (congr 2; omega)
theorem first2 (n : Int) (h0 : 0 ≤ n) (h1 : n < 2097152) : UInt8.ofNat (ior .u8 (n / 2 ^ (8 * 2) % 256) 192).toNat :: be 2 n = be 3 (n + 12582912) := by
  have e : ior .u8 (n / 2 ^ (8 * 2) % 256) 192 = n / 2 ^ (8 * 2) % 256 + 192 := ior_add 32 0 (by decide) (by decide) _ (by omega) (by omega)
  rw [e]
  simp only [be, List.cons.injEq, and_true]
  refine ⟨?_, ?_, ?_⟩
  all_goals (congr 2; omega)
theorem first3 (n : Int) (h0 : 0 ≤ n) (h1 : n < 268435456) : UInt8.ofNat (ior .u8 (n / 2 ^ (8 * 3) % 256) 224).toNat :: be 3 n = be 4 (n + 3758096384) := by
  have e : ior .u8 (n / 2 ^ (8 * 3) % 256) 224 = n / 2 ^ (8 * 3) % 256 + 224 := ior_add 16 0 (by decide) (by decide) _ (by omega) (by omega)
  rw [e]
  simp only [be, List.cons.injEq, and_true]
  refine ⟨?_, ?_, ?_, ?_⟩
  all_goals (congr 2; omega)
theorem first4 (n : Int) (h0 : 0 ≤ n) (h1 : n < 34359738368) : UInt8.ofNat (ior .u8 (n / 2 ^ (8 * 4) % 256) 240).toNat :: be 4 n = be 5 (n + 1030792151040) := by
  have e : ior .u8 (n / 2 ^ (8 * 4) % 256) 240 = n / 2 ^ (8 * 4) % 256 + 240 := ior_add 8 0 (by decide) (by decide) _ (by omega) (by omega)
  rw [e]
  simp only [be, List.cons.injEq, and_true]
  refine ⟨?_, ?_, ?_, ?_, ?_⟩
  all_goals (congr 2; omega)
theorem first5 (n : Int) (h0 : 0 ≤ n) (h1 : n < 4398046511104) : UInt8.ofNat (ior .u8 (n / 2 ^ (8 * 5) % 256) 248).toNat :: be 5 n = be 6 (n + 272678883688448) := by
  have e : ior .u8 (n / 2 ^ (8 * 5) % 256) 248 = n / 2 ^ (8 * 5) % 256 + 248 := ior_add 4 0 (by decide) (by decide) _ (by omega) (by omega)
  rw [e]
  simp only [be, List.cons.injEq, and_true]
  refine ⟨?_, ?_, ?_, ?_, ?_, ?_⟩
  all_goals (congr 2; omega)
theorem first6 (n : Int) (h0 : 0 ≤ n) (h1 : n < 562949953421312) : UInt8.ofNat (ior .u8 (n / 2 ^ (8 * 6) % 256) 252).toNat :: be 6 n = be 7 (n + 70931694131085312) := by
  have e : ior .u8 (n / 2 ^ (8 * 6) % 256) 252 = n / 2 ^ (8 * 6) % 256 + 252 := ior_add 2 0 (by decide) (by decide) _ (by omega) (by omega)
  rw [e]
  simp only [be, List.cons.injEq, and_true]
  refine ⟨?_, ?_, ?_, ?_, ?_, ?_, ?_⟩
  all_goals (congr 2; omega)
theorem first7 (n : Int) (h0 : 0 ≤ n) (h1 : n < 72057594037927936) : UInt8.ofNat (ior .u8 (n / 2 ^ (8 * 7) % 256) 254).toNat :: be 7 n = be 8 (n + 18302628885633695744) := by
  have e : ior .u8 (n / 2 ^ (8 * 7) % 256) 254 = n / 2 ^ (8 * 7) % 256 + 254 := ior_add 1 0 (by decide) (by decide) _ (by omega) (by omega)
  rw [e]
  simp only [be, List.cons.injEq, and_true]
  refine ⟨?_, ?_, ?_, ?_, ?_, ?_, ?_, ?_⟩
  all_goals (congr 2; omega)
theorem len9_1 {n : Int} (_h0 : 0 ≤ n) (h1 : n < 128) : len9 n = 1 := by
  unfold len9; rw [if_pos h1]
theorem len9_2 {n : Int} (h0 : 128 ≤ n) (h1 : n < 16384) : len9 n = 2 := by
  unfold len9; rw [if_neg (by omega)]; rw [if_pos h1]
theorem len9_3 {n : Int} (h0 : 16384 ≤ n) (h1 : n < 2097152) : len9 n = 3 := by
  unfold len9; rw [if_neg (by omega)]; rw [if_neg (by omega)]; rw [if_pos h1]
theorem len9_4 {n : Int} (h0 : 2097152 ≤ n) (h1 : n < 268435456) : len9 n = 4 := by
  unfold len9; rw [if_neg (by omega)]; rw [if_neg (by omega)]; rw [if_neg (by omega)]; rw [if_pos h1]
theorem len9_5 {n : Int} (h0 : 268435456 ≤ n) (h1 : n < 34359738368) : len9 n = 5 := by
  unfold len9; rw [if_neg (by omega)]; rw [if_neg (by omega)]; rw [if_neg (by omega)]; rw [if_neg (by omega)]; rw [if_pos h1]
theorem len9_6 {n : Int} (h0 : 34359738368 ≤ n) (h1 : n < 4398046511104) : len9 n = 6 := by
  unfold len9; rw [if_neg (by omega)]; rw [if_neg (by omega)]; rw [if_neg (by omega)]; rw [if_neg (by omega)]; rw [if_neg (by omega)]; rw [if_pos h1]
theorem len9_7 {n : Int} (h0 : 4398046511104 ≤ n) (h1 : n < 562949953421312) : len9 n = 7 := by
  unfold len9; rw [if_neg (by omega)]; rw [if_neg (by omega)]; rw [if_neg (by omega)]; rw [if_neg (by omega)]; rw [if_neg (by omega)]; rw [if_neg (by omega)]; rw [if_pos h1]
theorem len9_8 {n : Int} (h0 : 562949953421312 ≤ n) (h1 : n < 72057594037927936) : len9 n = 8 := by
  unfold len9; rw [if_neg (by omega)]; rw [if_neg (by omega)]; rw [if_neg (by omega)]; rw [if_neg (by omega)]; rw [if_neg (by omega)]; rw [if_neg (by omega)]; rw [if_neg (by omega)]; rw [if_pos h1]
theorem len9_9 {n : Int} (h0 : 72057594037927936 ≤ n) : len9 n = 9 := by
  unfold len9; rw [if_neg (by omega)]; rw [if_neg (by omega)]; rw [if_neg (by omega)]; rw [if_neg (by omega)]; rw [if_neg (by omega)]; rw [if_neg (by omega)]; rw [if_neg (by omega)]; rw [if_neg (by omega)]
theorem enc_1 {n : Int} (_h0 : 0 ≤ n) (h1 : n < 128) : enc n = be 1 (n + 0) := by
  unfold enc; rw [if_pos h1]; rw [Int.add_zero]
theorem enc_2 {n : Int} (h0 : 128 ≤ n) (h1 : n < 16384) : enc n = be 2 (n + 32768) := by
  unfold enc; rw [if_neg (by omega)]; rw [if_pos h1]
theorem enc_3 {n : Int} (h0 : 16384 ≤ n) (h1 : n < 2097152) : enc n = be 3 (n + 12582912) := by
  unfold enc; rw [if_neg (by omega)]; rw [if_neg (by omega)]; rw [if_pos h1]
theorem enc_4 {n : Int} (h0 : 2097152 ≤ n) (h1 : n < 268435456) : enc n = be 4 (n + 3758096384) := by
  unfold enc; rw [if_neg (by omega)]; rw [if_neg (by omega)]; rw [if_neg (by omega)]; rw [if_pos h1]
theorem enc_5 {n : Int} (h0 : 268435456 ≤ n) (h1 : n < 34359738368) : enc n = be 5 (n + 1030792151040) := by
  unfold enc; rw [if_neg (by omega)]; rw [if_neg (by omega)]; rw [if_neg (by omega)]; rw [if_neg (by omega)]; rw [if_pos h1]
theorem enc_6 {n : Int} (h0 : 34359738368 ≤ n) (h1 : n < 4398046511104) : enc n = be 6 (n + 272678883688448) := by
  unfold enc; rw [if_neg (by omega)]; rw [if_neg (by omega)]; rw [if_neg (by omega)]; rw [if_neg (by omega)]; rw [if_neg (by omega)]; rw [if_pos h1]
theorem enc_7 {n : Int} (h0 : 4398046511104 ≤ n) (h1 : n < 562949953421312) : enc n = be 7 (n + 70931694131085312) := by
  unfold enc; rw [if_neg (by omega)]; rw [if_neg (by omega)]; rw [if_neg (by omega)]; rw [if_neg (by omega)]; rw [if_neg (by omega)]; rw [if_neg (by omega)]; rw [if_pos h1]
theorem enc_8 {n : Int} (h0 : 562949953421312 ≤ n) (h1 : n < 72057594037927936) : enc n = be 8 (n + 18302628885633695744) := by
  unfold enc; rw [if_neg (by omega)]; rw [if_neg (by omega)]; rw [if_neg (by omega)]; rw [if_neg (by omega)]; rw [if_neg (by omega)]; rw [if_neg (by omega)]; rw [if_neg (by omega)]; rw [if_pos h1]
theorem enc_9 {n : Int} (h0 : 72057594037927936 ≤ n) : enc n = 255 :: be 8 n := by
  unfold enc; rw [if_neg (by omega)]; rw [if_neg (by omega)]; rw [if_neg (by omega)]; rw [if_neg (by omega)]; rw [if_neg (by omega)]; rw [if_neg (by omega)]; rw [if_neg (by omega)]; rw [if_neg (by omega)]
theorem be_len (n : Int) : (enc n).length ≤ 9 := by
  unfold enc
  repeat (split; · (rw [be_length]; decide))
  simp [be_length]

/-- How many bits a byte has. -/
def bits8 (n : Int) : Int := if n < 1 then 0 else if n < 2 then 1 else if n < 4 then 2 else if n < 8 then 3 else if n < 16 then 4 else if n < 32 then 5 else if n < 64 then 6 else if n < 128 then 7 else 8
def tab8 : List UInt8 := [0, 1, 2, 2, 3, 3, 3, 3, 4, 4, 4, 4, 4, 4, 4, 4, 5, 5, 5, 5, 5, 5, 5, 5, 5, 5, 5, 5, 5, 5, 5, 5, 6, 6, 6, 6, 6, 6, 6, 6, 6, 6, 6, 6, 6, 6, 6, 6, 6, 6, 6, 6, 6, 6, 6, 6, 6, 6, 6, 6, 6, 6, 6, 6, 7, 7, 7, 7, 7, 7, 7, 7, 7, 7, 7, 7, 7, 7, 7, 7, 7, 7, 7, 7, 7, 7, 7, 7, 7, 7, 7, 7, 7, 7, 7, 7, 7, 7, 7, 7, 7, 7, 7, 7, 7, 7, 7, 7, 7, 7, 7, 7, 7, 7, 7, 7, 7, 7, 7, 7, 7, 7, 7, 7, 7, 7, 7, 7, 8, 8, 8, 8, 8, 8, 8, 8, 8, 8, 8, 8, 8, 8, 8, 8, 8, 8, 8, 8, 8, 8, 8, 8, 8, 8, 8, 8, 8, 8, 8, 8, 8, 8, 8, 8, 8, 8, 8, 8, 8, 8, 8, 8, 8, 8, 8, 8, 8, 8, 8, 8, 8, 8, 8, 8, 8, 8, 8, 8, 8, 8, 8, 8, 8, 8, 8, 8, 8, 8, 8, 8, 8, 8, 8, 8, 8, 8, 8, 8, 8, 8, 8, 8, 8, 8, 8, 8, 8, 8, 8, 8, 8, 8, 8, 8, 8, 8, 8, 8, 8, 8, 8, 8, 8, 8, 8, 8, 8, 8, 8, 8, 8, 8, 8, 8, 8, 8, 8, 8, 8, 8, 8, 8, 8, 8, 8, 8]
theorem tab8_bits : ∀ x : Fin 256, ((tab8.getD x.val 0).toNat : Int) = bits8 (x.val : Int) := by decide
theorem bits8_le (n : Int) : 0 ≤ bits8 n ∧ bits8 n ≤ 8 := by
  unfold bits8
  repeat (split; · omega)
  omega
theorem ones_step : ∀ x : Fin 256, 128 ≤ x.val → 8 - bits8 (255 - (x.val : Int)) = 1 + (8 - bits8 (255 - ((x.val * 2 % 256 : Nat) : Int))) := by decide
theorem ones_low (n : Int) (h0 : 0 ≤ n) (h1 : n < 128) : bits8 (255 - n) = 8 := by
  unfold bits8
  repeat (rw [if_neg (by omega)])
def ones8 (c : UInt8) : Int := 8 - bits8 (255 - (c.toNat : Int))
/-- Bytes behind a number. -/
def cat (n : Int) : List UInt8 → Int
  | [] => n
  | c :: l => cat (256 * n + c.toNat) l
theorem ones8_le (c : UInt8) : 0 ≤ ones8 c ∧ ones8 c ≤ 8 := by
  unfold ones8
  have := bits8_le (255 - (c.toNat : Int))
  omega

/-- The number in bytes, at a place. -/
def getV (l : List UInt8) (at' : Int) : Int × Int × Int :=
  if at' < 0 ∨ (l.length : Int) < at' then (0, 0, 8) else if at' = l.length then (0, 0, 2) else
  if (l.length : Int) - at' < ones8 (l.getD at'.toNat 0) + 1 then (0, 0, 2) else
  if len9 (cat (if ones8 (l.getD at'.toNat 0) + 1 < 9 then ((l.getD at'.toNat 0).toNat : Int) % 2 ^ (7 - ones8 (l.getD at'.toNat 0)).toNat else 0) ((l.drop (at' + 1).toNat).take (ones8 (l.getD at'.toNat 0)).toNat)) = ones8 (l.getD at'.toNat 0) + 1 then
    (cat (if ones8 (l.getD at'.toNat 0) + 1 < 9 then ((l.getD at'.toNat 0).toNat : Int) % 2 ^ (7 - ones8 (l.getD at'.toNat 0)).toNat else 0) ((l.drop (at' + 1).toNat).take (ones8 (l.getD at'.toNat 0)).toNat), at' + (ones8 (l.getD at'.toNat 0) + 1), 0)
  else (0, 0, 3)
theorem ior_cat (x : Int) (c : UInt8) (h0 : 0 ≤ x) (h1 : x < 72057594037927936) : ior .u64 (ishl .u64 x 8) (IntKind.u64.wrap (c.toNat : Int)) = 256 * x + c.toNat := by
  have hc : c.toNat < 256 := c.toNat_lt
  have e1 : ishl .u64 x 8 = 256 * x := by
    unfold ishl
    rw [show (2 : Int) ^ min (8 : Int).toNat IntKind.u64.bits = 256 from rfl, wrapu64 (by omega) (by omega)]; omega
  have e2 : IntKind.u64.wrap (c.toNat : Int) = c.toNat := wrapu64 (by omega) (by omega)
  rw [e1, e2]
  unfold ior
  obtain ⟨y, rfl⟩ := Int.eq_ofNat_of_zero_le h0
  have hy : y < 72057594037927936 := by omega
  rw [BitVec.toNat_or, show (256 * (y : Int)) = ((y * 256 : Nat) : Int) by omega]
  have b1 : (BitVec.ofInt IntKind.u64.bits ((y * 256 : Nat) : Int)).toNat = y * 256 := by
    rw [BitVec.toNat_ofInt]; show (((y * 256 : Nat) : Int) % ((2 ^ 64 : Nat) : Int)).toNat = _; omega
  have b2 : (BitVec.ofInt IntKind.u64.bits ((c.toNat : Nat) : Int)).toNat = c.toNat := by
    rw [BitVec.toNat_ofInt]; show (((c.toNat : Nat) : Int) % ((2 ^ 64 : Nat) : Int)).toNat = _; omega
  rw [b1, b2]
  have := Nat.shiftLeft_add_eq_or_of_lt (i := 8) (b := c.toNat) hc y
  rw [Nat.shiftLeft_eq] at this
  rw [← this, wrapu64 (by omega) (by omega)]
  omega

theorem iand_mask (a m : Nat) (ha : a < 256) (hm : m ≤ 8) : iand .u64 (a : Int) ((2 : Int) ^ m - 1) = (a : Int) % 2 ^ m := by
  unfold iand
  have hp : 1 ≤ 2 ^ m ∧ 2 ^ m ≤ 256 := ⟨Nat.one_le_two_pow, by have := Nat.pow_le_pow_right (n := 2) (by decide) hm; simpa using this⟩
  have e : ((2 : Int) ^ m - 1) = ((2 ^ m - 1 : Nat) : Int) := by
    have : ((2 ^ m : Nat) : Int) = (2 : Int) ^ m := by simp
    omega
  rw [BitVec.toNat_and, e]
  have b1 : (BitVec.ofInt IntKind.u64.bits (a : Int)).toNat = a := by
    rw [BitVec.toNat_ofInt]; show ((a : Int) % ((2 ^ 64 : Nat) : Int)).toNat = _; omega
  have b2 : (BitVec.ofInt IntKind.u64.bits ((2 ^ m - 1 : Nat) : Int)).toNat = 2 ^ m - 1 := by
    rw [BitVec.toNat_ofInt]; show (((2 ^ m - 1 : Nat) : Int) % ((2 ^ 64 : Nat) : Int)).toNat = _
    generalize 2 ^ m = z at hp
    omega
  rw [b1, b2, Nat.and_two_pow_sub_one_eq_mod]
  have : a % 2 ^ m ≤ a := Nat.mod_le _ _
  rw [wrapu64 (by omega) (by omega)]
  simp
theorem cat_bound : ∀ (l : List UInt8) (n : Int), 0 ≤ n → (n + 1) * 256 ^ l.length ≤ 18446744073709551616 → 0 ≤ cat n l ∧ cat n l < 18446744073709551616
  | [], n, h0, h1 => by simp [cat] at h1 ⊢; omega
  | c :: l, n, h0, h1 => by
    have hc : c.toNat < 256 := c.toNat_lt
    have hP : (0 : Int) < 256 ^ l.length := Int.pow_pos (by decide)
    refine cat_bound l (256 * n + c.toNat) (by omega) ?_
    rw [List.length_cons, Int.pow_succ] at h1
    have := Int.mul_le_mul_of_nonneg_right (show 256 * n + c.toNat + 1 ≤ 256 * (n + 1) by omega) (Int.le_of_lt hP)
    have e : 256 * (n + 1) * 256 ^ l.length = (n + 1) * (256 ^ l.length * 256) := by
      rw [Int.mul_comm 256 (n + 1), Int.mul_assoc, Int.mul_comm 256]
    omega

theorem not8 (c : UInt8) : ixor .u8 (Int.ofNat (2 ^ IntKind.u8.bits - Nat.succ 0)) (c.toNat : Int) = 255 - (c.toNat : Int) := by
  have key : ∀ x : Fin 256, ixor .u8 (Int.ofNat (2 ^ IntKind.u8.bits - Nat.succ 0)) ((x.val : Nat) : Int) = 255 - ((x.val : Nat) : Int) := by decide
  exact key ⟨c.toNat, c.toNat_lt⟩

theorem shr255 (K : Int) (h0 : 1 ≤ K) (h1 : K ≤ 8) : ishr .u64 255 K = 2 ^ (8 - K).toNat - 1 := by
  have key : ∀ x : Fin 9, ishr .u64 255 (x.val : Int) = 2 ^ (8 - (x.val : Int)).toNat - 1 := by decide
  have := key ⟨K.toNat, by omega⟩
  simp only [Int.toNat_of_nonneg (show 0 ≤ K by omega)] at this
  exact this

end Go.Proofs.YtmkgmlgklggnlaaGm
