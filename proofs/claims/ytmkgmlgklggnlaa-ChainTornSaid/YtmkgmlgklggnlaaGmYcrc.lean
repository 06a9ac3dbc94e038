/- A check sum of 32 bits over bit vectors: linear, and what follows; no condition. -/
import Derived.Test.YtmkgmlgklggnlaaGm3
namespace Go.Proofs.YtmkgmlgklggnlaaGm

def cstep (x : BitVec 32) : BitVec 32 := (x >>> 1) ^^^ (if x.getLsbD 0 = true then 0xedb88320#32 else 0#32)
def csteps : Nat → BitVec 32 → BitVec 32
  | 0, x => x
  | n + 1, x => csteps n (cstep x)
def cbyte (s : BitVec 32) (c : UInt8) : BitVec 32 := csteps 8 (s ^^^ BitVec.ofNat 32 c.toNat)
def cmore (s : BitVec 32) (l : List UInt8) : BitVec 32 := l.foldl cbyte s
def le4 (x : BitVec 32) : List UInt8 := [UInt8.ofNat (x.toNat % 256), UInt8.ofNat (x.toNat / 256 % 256), UInt8.ofNat (x.toNat / 65536 % 256), UInt8.ofNat (x.toNat / 16777216 % 256)]
def csum (l : List UInt8) : BitVec 32 := ~~~ cmore (~~~ 0#32) l
def cput (l : List UInt8) : List UInt8 := l ++ le4 (csum l)

theorem xor_ac (a b c d : BitVec 32) : (a ^^^ b) ^^^ (c ^^^ d) = (a ^^^ c) ^^^ (b ^^^ d) := by
  ext i; simp only [BitVec.getElem_xor]; cases a[i] <;> cases b[i] <;> cases c[i] <;> cases d[i] <;> rfl

theorem cstep_xor (x y : BitVec 32) : cstep (x ^^^ y) = cstep x ^^^ cstep y := by
  unfold cstep
  rw [BitVec.ushiftRight_xor_distrib, xor_ac]
  congr 1
  rw [BitVec.getLsbD_xor]
  cases x.getLsbD 0 <;> cases y.getLsbD 0 <;> simp

theorem csteps_xor : ∀ (n : Nat) (x y : BitVec 32), csteps n (x ^^^ y) = csteps n x ^^^ csteps n y
  | 0, _, _ => rfl
  | n + 1, x, y => by simp only [csteps]; rw [cstep_xor, csteps_xor n]

theorem cstep_zero {x : BitVec 32} (h : cstep x = 0#32) : x = 0#32 := by
  unfold cstep at h
  cases hb : x.getLsbD 0 with
  | true =>
    rw [hb, if_pos rfl] at h
    have := congrArg (fun z => z.getLsbD 31) h
    simp at this
  | false =>
    rw [hb, if_neg (by simp)] at h
    have hx : x.toNat < 4294967296 := x.isLt
    have h1 : (x >>> 1).toNat = 0 := by
      have : (x >>> 1) ^^^ 0#32 = x >>> 1 := by simp
      rw [this] at h; rw [h]; rfl
    rw [BitVec.toNat_ushiftRight, Nat.shiftRight_eq_div_pow] at h1
    have h2 : x.toNat % 2 = 0 := by
      have e : x.getLsbD 0 = x.toNat.testBit 0 := rfl
      rw [e, Nat.testBit_zero] at hb
      simp only [decide_eq_false_iff_not] at hb
      omega
    apply BitVec.eq_of_toNat_eq
    show x.toNat = 0
    omega

theorem csteps_zero : ∀ {n : Nat} {x : BitVec 32}, csteps n x = 0#32 → x = 0#32
  | 0, _, h => h
  | n + 1, _, h => cstep_zero (csteps_zero (n := n) h)

theorem csteps_nil : ∀ n, csteps n 0#32 = 0#32
  | 0 => rfl
  | n + 1 => by simp only [csteps]; rw [show cstep 0#32 = 0#32 by decide, csteps_nil n]

theorem csteps_add : ∀ (m n : Nat) (x : BitVec 32), csteps (m + n) x = csteps n (csteps m x)
  | 0, n, x => by rw [Nat.zero_add]; rfl
  | m + 1, n, x => by rw [show m + 1 + n = (m + n) + 1 by omega]; simp only [csteps]; exact csteps_add m n _

theorem cstep_even (y : Nat) (h : 2 * y < 4294967296) : cstep (BitVec.ofNat 32 (2 * y)) = BitVec.ofNat 32 y := by
  unfold cstep
  have hb : (BitVec.ofNat 32 (2 * y)).getLsbD 0 = false := by
    have e : (BitVec.ofNat 32 (2 * y)).getLsbD 0 = (BitVec.ofNat 32 (2 * y)).toNat.testBit 0 := rfl
    rw [e, Nat.testBit_zero, BitVec.toNat_ofNat, Nat.mod_eq_of_lt h]
    simp
  rw [hb, if_neg (by simp)]
  apply BitVec.eq_of_toNat_eq
  rw [BitVec.toNat_xor, BitVec.toNat_ushiftRight, BitVec.toNat_ofNat, BitVec.toNat_ofNat, Nat.mod_eq_of_lt h, Nat.mod_eq_of_lt (by omega), Nat.shiftRight_eq_div_pow]
  simp
  omega

theorem csteps_shift : ∀ (n y : Nat), 2 ^ n * y < 4294967296 → csteps n (BitVec.ofNat 32 (2 ^ n * y)) = BitVec.ofNat 32 y
  | 0, y, _ => by simp [csteps]
  | n + 1, y, h => by
    have e : 2 ^ (n + 1) * y = 2 * (2 ^ n * y) := by rw [Nat.pow_succ, Nat.mul_comm (2 ^ n) 2, Nat.mul_assoc]
    rw [e] at h ⊢
    simp only [csteps]
    rw [cstep_even _ h, csteps_shift n y (by omega)]

/-- A word is its four bytes. -/
theorem word4 (b0 b1 b2 b3 : Nat) (h0 : b0 < 256) (h1 : b1 < 256) (h2 : b2 < 256) (h3 : b3 < 256) :
    BitVec.ofNat 32 (b0 + 256 * b1 + 65536 * b2 + 16777216 * b3) = BitVec.ofNat 32 b0 ^^^ (BitVec.ofNat 32 (2 ^ 8 * b1) ^^^ (BitVec.ofNat 32 (2 ^ 16 * b2) ^^^ BitVec.ofNat 32 (2 ^ 24 * b3))) := by
  have key : ∀ (k x y : Nat), x < 2 ^ k → x ^^^ (2 ^ k * y) = x + 2 ^ k * y := by
    intro k x y hx
    apply Nat.eq_of_testBit_eq
    intro i
    rw [Nat.testBit_xor, Nat.add_comm, Nat.testBit_two_pow_mul_add y hx i, Nat.testBit_two_pow_mul]
    by_cases hi : i < k
    · simp [hi, Nat.not_le.2 hi]
    · have : x.testBit i = false := Nat.testBit_lt_two_pow (Nat.lt_of_lt_of_le hx (Nat.pow_le_pow_right (by decide) (Nat.le_of_not_lt hi)))
      simp [hi, this, Nat.le_of_not_lt hi]
  have e3 : (2 ^ 16 * b2) ^^^ (2 ^ 24 * b3) = 65536 * b2 + 16777216 * b3 := by
    have := key 24 (65536 * b2) b3 (by omega)
    simpa using this
  have e2 : (2 ^ 8 * b1) ^^^ (65536 * b2 + 16777216 * b3) = 256 * b1 + (65536 * b2 + 16777216 * b3) := by
    have := key 16 (256 * b1) (b2 + 256 * b3) (by omega)
    rw [show 2 ^ 16 * (b2 + 256 * b3) = 65536 * b2 + 16777216 * b3 by omega] at this
    simpa using this
  have e1 : b0 ^^^ (256 * b1 + (65536 * b2 + 16777216 * b3)) = b0 + (256 * b1 + (65536 * b2 + 16777216 * b3)) := by
    have := key 8 b0 (b1 + 256 * b2 + 65536 * b3) (by omega)
    rw [show 2 ^ 8 * (b1 + 256 * b2 + 65536 * b3) = 256 * b1 + (65536 * b2 + 16777216 * b3) by omega] at this
    exact this
  apply BitVec.eq_of_toNat_eq
  simp only [BitVec.toNat_xor, BitVec.toNat_ofNat]
  rw [Nat.mod_eq_of_lt (by omega), Nat.mod_eq_of_lt (by omega), Nat.mod_eq_of_lt (by omega), Nat.mod_eq_of_lt (by omega), Nat.mod_eq_of_lt (by omega), e3, e2, e1]
  omega

theorem xor_assoc' (a b c : BitVec 32) : a ^^^ b ^^^ c = a ^^^ (b ^^^ c) := BitVec.xor_assoc a b c

theorem cmore_four (s : BitVec 32) (b0 b1 b2 b3 : UInt8) :
    cmore s [b0, b1, b2, b3] = csteps 32 (s ^^^ BitVec.ofNat 32 (b0.toNat + 256 * b1.toNat + 65536 * b2.toNat + 16777216 * b3.toNat)) := by
  have h0 := b0.toNat_lt
  have h1 := b1.toNat_lt
  have h2 := b2.toNat_lt
  have h3 := b3.toNat_lt
  rw [word4 _ _ _ _ h0 h1 h2 h3]
  simp only [cmore, List.foldl_cons, List.foldl_nil, cbyte]
  have e32 : ∀ x, csteps 32 x = csteps 8 (csteps 8 (csteps 8 (csteps 8 x))) := fun x => by rw [← csteps_add, ← csteps_add, ← csteps_add]
  rw [e32]
  simp only [csteps_xor]
  have s1 := csteps_shift 8 b1.toNat (by omega)
  have s2 : csteps 8 (csteps 8 (BitVec.ofNat 32 (2 ^ 16 * b2.toNat))) = BitVec.ofNat 32 b2.toNat := by rw [← csteps_add]; exact csteps_shift 16 b2.toNat (by omega)
  have s3 : csteps 8 (csteps 8 (csteps 8 (BitVec.ofNat 32 (2 ^ 24 * b3.toNat)))) = BitVec.ofNat 32 b3.toNat := by
    rw [← csteps_add, ← csteps_add]; exact csteps_shift 24 b3.toNat (by omega)
  rw [s1, s2, s3]
  simp only [xor_assoc']

theorem cmore_append (s : BitVec 32) (l m : List UInt8) : cmore s (l ++ m) = cmore (cmore s l) m := by simp [cmore]

theorem cmore_le4 (s w : BitVec 32) : cmore s (le4 w) = csteps 32 (s ^^^ w) := by
  have hw : w.toNat < 4294967296 := w.isLt
  unfold le4
  rw [cmore_four]
  congr 2
  apply BitVec.eq_of_toNat_eq
  rw [BitVec.toNat_ofNat]
  simp only [UInt8.toNat_ofNat']
  omega

/-- Bytes against bytes. -/
def bxor : List UInt8 → List UInt8 → List UInt8
  | [], _ => []
  | a :: l, [] => a :: l
  | a :: l, b :: m => (a ^^^ b) :: bxor l m

theorem ofNat_xor (a b : UInt8) : BitVec.ofNat 32 (a ^^^ b).toNat = BitVec.ofNat 32 a.toNat ^^^ BitVec.ofNat 32 b.toNat := by
  have h0 := a.toNat_lt
  have h1 := b.toNat_lt
  apply BitVec.eq_of_toNat_eq
  rw [BitVec.toNat_xor, BitVec.toNat_ofNat, BitVec.toNat_ofNat, BitVec.toNat_ofNat, UInt8.toNat_xor]
  have h2 : a.toNat ^^^ b.toNat < 2 ^ 8 := Nat.xor_lt_two_pow h0 h1
  rw [Nat.mod_eq_of_lt (by omega), Nat.mod_eq_of_lt (by omega), Nat.mod_eq_of_lt (by omega)]

theorem cmore_bxor : ∀ (l e : List UInt8) (s t : BitVec 32), e.length ≤ l.length → cmore (s ^^^ t) (bxor l e) = cmore s l ^^^ cmore t (e ++ List.replicate (l.length - e.length) 0)
  | [], [], s, t, _ => by simp [bxor, cmore]
  | a :: l, [], s, t, _ => by
    have e0 : ∀ (n : Nat) (t : BitVec 32), cmore t (List.replicate n 0) = csteps (8 * n) t := by
      intro n
      induction n with
      | zero => intro t; rfl
      | succ n ih =>
        intro t
        rw [List.replicate_succ]
        show cmore (cbyte t 0) (List.replicate n 0) = _
        rw [ih, show 8 * (n + 1) = 8 + 8 * n by omega, csteps_add]
        congr 1
        unfold cbyte
        simp
    have e1 : ∀ (l : List UInt8) (s t : BitVec 32), cmore (s ^^^ t) l = cmore s l ^^^ csteps (8 * l.length) t := by
      intro l
      induction l with
      | nil => intro s t; rfl
      | cons a l ih =>
        intro s t
        show cmore (cbyte (s ^^^ t) a) l = cmore (cbyte s a) l ^^^ _
        have : cbyte (s ^^^ t) a = cbyte s a ^^^ csteps 8 t := by
          unfold cbyte
          rw [← csteps_xor]
          congr 1
          ext i; simp only [BitVec.getElem_xor]; cases s[i] <;> cases t[i] <;> cases (BitVec.ofNat 32 a.toNat)[i] <;> rfl
        rw [this, ih, ← csteps_add, List.length_cons, show 8 * (l.length + 1) = 8 + 8 * l.length by omega]
    simp only [bxor, List.nil_append, List.length_nil, Nat.sub_zero]
    rw [e0, e1]
  | a :: l, b :: m, s, t, h => by
    show cmore (cbyte (s ^^^ t) (a ^^^ b)) (bxor l m) = cmore (cbyte s a) l ^^^ cmore (cbyte t b) (m ++ List.replicate ((a :: l).length - (b :: m).length) 0)
    have : cbyte (s ^^^ t) (a ^^^ b) = cbyte s a ^^^ cbyte t b := by
      unfold cbyte
      rw [← csteps_xor, ofNat_xor]
      congr 1
      ext i; simp only [BitVec.getElem_xor]; cases s[i] <;> cases t[i] <;> cases (BitVec.ofNat 32 a.toNat)[i] <;> cases (BitVec.ofNat 32 b.toNat)[i] <;> rfl
    rw [this, cmore_bxor l m _ _ (by simpa using h), List.length_cons, List.length_cons, Nat.add_sub_add_right]

theorem le4_inj {x y : BitVec 32} (h : le4 x = le4 y) : x = y := by
  have hx : x.toNat < 4294967296 := x.isLt
  have hy : y.toNat < 4294967296 := y.isLt
  unfold le4 at h
  simp only [List.cons.injEq, and_true] at h
  obtain ⟨h0, h1, h2, h3⟩ := h
  have k : ∀ a b : Nat, a < 256 → b < 256 → UInt8.ofNat a = UInt8.ofNat b → a = b := by
    intro a b ha hb e
    have := congrArg UInt8.toNat e
    simp only [UInt8.toNat_ofNat'] at this
    omega
  have a0 := k _ _ (by omega) (by omega) h0
  have a1 := k _ _ (by omega) (by omega) h1
  have a2 := k _ _ (by omega) (by omega) h2
  have a3 := k _ _ (by omega) (by omega) h3
  apply BitVec.eq_of_toNat_eq
  omega

/-- What ends with its sum, by the register. -/
theorem cput_reg (l : List UInt8) : cmore (~~~ 0#32) (cput l) = csteps 32 (~~~ 0#32) := by
  unfold cput csum
  rw [cmore_append, cmore_le4]
  congr 1
  ext i hi; simp only [BitVec.getElem_xor, BitVec.getElem_not, BitVec.getElem_zero]; cases (cmore (~~~ 0#32) l)[i] <;> rfl

theorem reg_cput {l : List UInt8} {w : BitVec 32} (h : cmore (~~~ 0#32) (l ++ le4 w) = csteps 32 (~~~ 0#32)) : l ++ le4 w = cput l := by
  rw [cmore_append, cmore_le4] at h
  have h1 : csteps 32 ((cmore (~~~ 0#32) l ^^^ w) ^^^ ~~~ 0#32) = 0#32 := by rw [csteps_xor, h]; simp
  have h2 := csteps_zero h1
  unfold cput csum
  have : w = ~~~ cmore (~~~ 0#32) l := by
    ext i hi
    have := congrArg (fun z => z[i]) h2
    simp only [BitVec.getElem_xor, BitVec.getElem_not, BitVec.getElem_zero] at this ⊢
    revert this
    cases (cmore (~~~ 0#32) l)[i] <;> cases w[i] <;> simp
  rw [this]

theorem bxor_length : ∀ (l e : List UInt8), (bxor l e).length = l.length
  | [], _ => rfl
  | _ :: _, [] => rfl
  | _ :: l, _ :: m => by simp [bxor, bxor_length l m]

/-- A change within four bytes that stand together is found. -/
theorem found (l : List UInt8) (k : Nat) (b0 b1 b2 b3 : UInt8) (hk : k + 4 ≤ (cput l).length) (hb : b0.toNat + 256 * b1.toNat + 65536 * b2.toNat + 16777216 * b3.toNat ≠ 0) :
    cmore (~~~ 0#32) (bxor (cput l) (List.replicate k 0 ++ [b0, b1, b2, b3])) ≠ csteps 32 (~~~ 0#32) := by
  intro h
  have e := cmore_bxor (cput l) (List.replicate k 0 ++ [b0, b1, b2, b3]) (~~~ 0#32) 0#32 (by simpa using hk)
  rw [BitVec.xor_zero, h, cput_reg] at e
  have e1 : cmore 0#32 (List.replicate k 0 ++ [b0, b1, b2, b3] ++ List.replicate ((cput l).length - (List.replicate k 0 ++ [b0, b1, b2, b3]).length) 0) = 0#32 := by
    generalize cmore 0#32 _ = z at e
    ext i hi
    have := congrArg (fun z => z[i]) e
    simp only [BitVec.getElem_xor] at this
    rw [BitVec.getElem_zero]
    revert this
    cases (csteps 32 (~~~ 0#32))[i] <;> cases z[i] <;> simp
  have z0 : ∀ (n : Nat) (t : BitVec 32), cmore t (List.replicate n 0) = csteps (8 * n) t := by
    intro n
    induction n with
    | zero => intro t; rfl
    | succ n ih =>
      intro t
      rw [List.replicate_succ]
      show cmore (cbyte t 0) (List.replicate n 0) = _
      rw [ih, show 8 * (n + 1) = 8 + 8 * n by omega, csteps_add]
      congr 1
      unfold cbyte
      simp
  rw [cmore_append, cmore_append, z0, z0, csteps_nil, cmore_four] at e1
  have e2 := csteps_zero (csteps_zero e1)
  have h0 := b0.toNat_lt
  have h1 := b1.toNat_lt
  have h2 := b2.toNat_lt
  have h3 := b3.toNat_lt
  have := congrArg BitVec.toNat e2
  rw [BitVec.zero_xor, BitVec.toNat_ofNat, Nat.mod_eq_of_lt (by omega)] at this
  exact hb this

/-! As whole numbers of 32 bits. -/
theorem wrapu32 {n : Int} (h0 : 0 ≤ n) (h1 : n < 4294967296) : IntKind.u32.wrap n = n := by
  simp [IntKind.wrap, IntKind.signed, IntKind.bits]; omega
theorem hasu32 {n : Int} (h : IntKind.u32.has n) : 0 ≤ n ∧ n < 4294967296 := by
  have : 0 ≤ n ∧ n ≤ 4294967295 := by simpa [IntKind.has, IntKind.min, IntKind.max, IntKind.signed, IntKind.bits] using h
  omega
theorem ofInt_toNat32 (x : BitVec 32) : BitVec.ofInt 32 (x.toNat : Int) = x := by
  apply BitVec.eq_of_toInt_eq; rw [BitVec.toInt_ofInt, BitVec.toInt_eq_toNat_bmod]
theorem toNat_ofInt32 {n : Int} (h0 : 0 ≤ n) (h1 : n < 4294967296) : ((BitVec.ofInt 32 n).toNat : Int) = n := by
  rw [BitVec.toNat_ofInt]; omega
theorem ixor32 (a b : Int) : ixor .u32 a b = ((BitVec.ofInt 32 a ^^^ BitVec.ofInt 32 b).toNat : Int) := by
  have h := (BitVec.ofInt 32 a ^^^ BitVec.ofInt 32 b).isLt
  unfold ixor
  exact wrapu32 (by omega) (by show ((BitVec.ofInt 32 a ^^^ BitVec.ofInt 32 b).toNat : Int) < _; omega)
theorem iand32 (a b : Int) : iand .u32 a b = ((BitVec.ofInt 32 a &&& BitVec.ofInt 32 b).toNat : Int) := by
  have h := (BitVec.ofInt 32 a &&& BitVec.ofInt 32 b).isLt
  unfold iand
  exact wrapu32 (by omega) (by show ((BitVec.ofInt 32 a &&& BitVec.ofInt 32 b).toNat : Int) < _; omega)
theorem shr32 (x : BitVec 32) : ishr .u32 (x.toNat : Int) 1 = ((x >>> 1).toNat : Int) := by
  unfold ishr
  rw [show (2 : Int) ^ min (1 : Int).toNat IntKind.u32.bits = 2 from rfl, Int.fdiv_eq_ediv_of_nonneg _ (by decide), BitVec.toNat_ushiftRight, Nat.shiftRight_eq_div_pow]
  omega
theorem lsb32 (x : BitVec 32) : (x &&& 1#32) = if x.getLsbD 0 = true then 1#32 else 0#32 := by
  apply BitVec.eq_of_toNat_eq
  have e : x.getLsbD 0 = x.toNat.testBit 0 := rfl
  rw [BitVec.toNat_and, show (1#32).toNat = 1 from rfl, Nat.and_one_is_mod, e, Nat.testBit_zero]
  split
  · rename_i h; simpa using h
  · rename_i h; simp at h; rw [h]; rfl
/-- One step, as the program takes it. -/
theorem cstep_run (x : BitVec 32) : ixor .u32 (ishr .u32 (x.toNat : Int) 1) (iand .u32 3988292384 (IntKind.u32.wrap (0 - iand .u32 (x.toNat : Int) 1))) = ((cstep x).toNat : Int) := by
  rw [ixor32, shr32, ofInt_toNat32, iand32 3988292384, iand32 (x.toNat : Int), ofInt_toNat32, ofInt_toNat32, show BitVec.ofInt 32 1 = 1#32 from rfl, lsb32]
  unfold cstep
  split
  · rw [show IntKind.u32.wrap (0 - ((1#32).toNat : Int)) = 4294967295 by decide, show BitVec.ofInt 32 3988292384 &&& BitVec.ofInt 32 4294967295 = 0xedb88320#32 by decide]
  · rw [show IntKind.u32.wrap (0 - ((0#32).toNat : Int)) = 0 by decide, show BitVec.ofInt 32 3988292384 &&& BitVec.ofInt 32 0 = 0#32 by decide]
theorem low32 (x : BitVec 32) : x.getLsbD 0 = decide (x.toNat % 2 = 1) := by
  have e : x.getLsbD 0 = x.toNat.testBit 0 := rfl
  rw [e, Nat.testBit_zero]
theorem iquo_u32 {a b : Int} (h0 : 0 ≤ a) (h1 : a < 4294967296) (hb : 0 ≤ b) : iquo .u32 a b = a / b := by
  unfold iquo
  have h2 := Int.ediv_nonneg h0 hb
  have h3 := Int.ediv_le_self b h0
  rw [Int.tdiv_eq_ediv_of_nonneg h0, wrapu32 h2 (by omega)]
/-- .. and as the document's answer takes it. -/
theorem cstep_ref (x : BitVec 32) : (if irem (x.toNat : Int) 2 = 1 then ixor .u32 (iquo .u32 (x.toNat : Int) 2) 3988292384 else iquo .u32 (x.toNat : Int) 2) = ((cstep x).toNat : Int) := by
  have hx := x.isLt
  have e1 : iquo .u32 (x.toNat : Int) 2 = ((x >>> 1).toNat : Int) := by
    rw [iquo_u32 (by omega) (by omega) (by decide), BitVec.toNat_ushiftRight, Nat.shiftRight_eq_div_pow]; omega
  rw [irem_eq (by omega), e1]
  unfold cstep
  rw [low32]
  by_cases h : x.toNat % 2 = 1
  · rw [if_pos (by omega), if_pos (by simpa using h), ixor32, ofInt_toNat32]; rfl
  · rw [if_neg (by omega), if_neg (by simpa using h), BitVec.xor_zero]
def crcB (s c : Int) : Int := ((csteps 8 (BitVec.ofInt 32 s ^^^ BitVec.ofInt 32 c)).toNat : Int)
def crcM (s : Int) : List UInt8 → Int
  | [] => s
  | c :: l => crcM (crcB s c.toNat) l
def crcMore (s : Int) (l : List UInt8) : Int := 4294967295 - crcM (4294967295 - s) l
def crcOf (l : List UInt8) : Int := crcMore 0 l
theorem crcB_has (s c : Int) : 0 ≤ crcB s c ∧ crcB s c < 4294967296 := by
  have := (csteps 8 (BitVec.ofInt 32 s ^^^ BitVec.ofInt 32 c)).isLt
  unfold crcB; omega
theorem crcM_has : ∀ (l : List UInt8) (s : Int), 0 ≤ s → s < 4294967296 → 0 ≤ crcM s l ∧ crcM s l < 4294967296
  | [], s, h0, h1 => ⟨h0, h1⟩
  | c :: l, s, _, _ => crcM_has l _ (crcB_has s _).1 (crcB_has s _).2
theorem crcOf_has (l : List UInt8) : 0 ≤ crcOf l ∧ crcOf l < 4294967296 := by
  have := crcM_has l (4294967295 - 0) (by decide) (by decide)
  unfold crcOf crcMore; omega
theorem crcM_append : ∀ (l m : List UInt8) (s : Int), crcM s (l ++ m) = crcM (crcM s l) m
  | [], _, _ => rfl
  | _ :: l, m, s => crcM_append l m _
theorem crcMore_append (l m : List UInt8) : crcMore (crcOf l) m = crcOf (l ++ m) := by
  unfold crcOf crcMore
  rw [crcM_append, show 4294967295 - (4294967295 - crcM (4294967295 - 0) l) = crcM (4294967295 - 0) l by omega]
theorem crcM_eq : ∀ (l : List UInt8) (x : BitVec 32), crcM (x.toNat : Int) l = ((cmore x l).toNat : Int)
  | [], _ => rfl
  | c :: l, x => by
    have hc : c.toNat < 256 := c.toNat_lt
    simp only [crcM, cmore, List.foldl_cons]
    have e : crcB (x.toNat : Int) (c.toNat : Int) = ((cbyte x c).toNat : Int) := by
      unfold crcB cbyte
      rw [ofInt_toNat32]
      rfl
    rw [e]
    exact crcM_eq l (cbyte x c)
theorem crcOf_eq (l : List UInt8) : crcOf l = ((csum l).toNat : Int) := by
  unfold crcOf crcMore csum
  have h := (cmore (~~~ 0#32) l).isLt
  have := crcM_eq l (~~~ 0#32)
  rw [show (((~~~ 0#32 : BitVec 32)).toNat : Int) = 4294967295 - 0 by decide] at this
  rw [this, BitVec.toNat_not]
  omega
theorem ixor_ones32 {a : Int} (h0 : 0 ≤ a) (h1 : a < 4294967296) : ixor .u32 4294967295 a = 4294967295 - a := by
  rw [ixor32, show BitVec.ofInt 32 4294967295 = BitVec.allOnes 32 from rfl, BitVec.xor_comm, BitVec.xor_allOnes, BitVec.toNat_not, BitVec.toNat_ofInt]
  omega
/-- Bytes with their sum behind. -/
def crcPut (l : List UInt8) : List UInt8 := cput l
theorem crcPut_length (l : List UInt8) : (crcPut l).length = l.length + 4 := by simp [crcPut, cput, le4]
/-- Bytes without it, where they end with it. -/
def crcGot (l : List UInt8) : List UInt8 := if 4 ≤ l.length ∧ crcPut (l.take (l.length - 4)) = l then l.take (l.length - 4) else []
/-- Bytes without it: the error. -/
def crcTake (l : List UInt8) : Int := if l.length < 4 then 2 else if crcPut (l.take (l.length - 4)) = l then 0 else 4
theorem take_short {l : List UInt8} (h : l.length < 4) : crcTake l = 2 ∧ crcGot l = [] := by
  unfold crcTake crcGot; rw [if_pos h, if_neg (by omega)]; exact ⟨rfl, rfl⟩
theorem take_good {l : List UInt8} (h : ¬ l.length < 4) (e : crcPut (l.take (l.length - 4)) = l) : crcTake l = 0 ∧ crcGot l = l.take (l.length - 4) := by
  unfold crcTake crcGot; rw [if_neg h, if_pos e, if_pos ⟨by omega, e⟩]; exact ⟨rfl, rfl⟩
theorem take_bad {l : List UInt8} (h : ¬ l.length < 4) (e : crcPut (l.take (l.length - 4)) ≠ l) : crcTake l = 4 ∧ crcGot l = [] := by
  unfold crcTake crcGot; rw [if_neg h, if_neg e, if_neg (fun x => e x.2)]; exact ⟨rfl, rfl⟩
theorem take_put (l : List UInt8) : crcTake (crcPut l) = 0 ∧ crcGot (crcPut l) = l := by
  have h := crcPut_length l
  have e : (crcPut l).take ((crcPut l).length - 4) = l := by
    rw [h, Nat.add_sub_cancel]; unfold crcPut cput; simp
  have := take_good (l := crcPut l) (by omega) (by rw [e])
  rw [e] at this
  exact this
end Go.Proofs.YtmkgmlgklggnlaaGm
