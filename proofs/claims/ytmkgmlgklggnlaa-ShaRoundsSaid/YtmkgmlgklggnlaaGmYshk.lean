/- A part of the proof: plain laws, and what functions of the given program come to; no condition. -/
import Derived.Test.YtmkgmlgklggnlaaGmYsha
/-! # Long numbers in parts of 16 bits: products and cube roots. Plain law: no program. -/
namespace Go.Proofs.YtmkgmlgklggnlaaGm
def valB : List Int → Int
  | [] => 0
  | x :: l => x + 65536 * valB l
/-- A number in n parts. -/
def digN : Nat → Nat → List Int
  | 0, _ => []
  | n + 1, v => ((v % 65536 : Nat) : Int) :: digN n (v / 65536)
theorem digN_len : ∀ n v, (digN n v).length = n
  | 0, _ => rfl
  | n + 1, v => by rw [digN, List.length_cons, digN_len n]
theorem digN_get : ∀ (n i v : Nat), i < n → (digN n v).getD i 0 = ((v / 65536 ^ i % 65536 : Nat) : Int)
  | n + 1, 0, v, _ => by rw [Nat.pow_zero, Nat.div_one]; rfl
  | n + 1, i + 1, v, h => by
    show (digN n (v / 65536)).getD i 0 = _
    rw [digN_get n i _ (by omega), Nat.div_div_eq_div_mul, Nat.pow_succ, Nat.mul_comm]
theorem digN_in : ∀ (n v : Nat), ∀ x ∈ digN n v, 0 ≤ x ∧ x < 65536
  | n + 1, v, x, h => by
    rcases List.mem_cons.1 h with rfl | h
    · omega
    · exact digN_in n _ x h
theorem valB_digN : ∀ (n v : Nat), v < 65536 ^ n → valB (digN n v) = v
  | 0, v, h => by
    rw [Nat.pow_zero] at h
    obtain rfl : v = 0 := by omega
    rfl
  | n + 1, v, h => by
    rw [digN, valB, valB_digN n (v / 65536) (by rw [Nat.div_lt_iff_lt_mul (by decide), ← Nat.pow_succ]; exact h)]
    omega
theorem valB_pos : ∀ {l : List Int}, (∀ x ∈ l, 0 ≤ x) → 0 ≤ valB l
  | [], _ => Int.le_refl _
  | x :: l, h => by
    have h1 := h x (by simp)
    have h2 := valB_pos (l := l) fun y hy => h y (by simp [hy])
    unfold valB
    omega
theorem valB_set : ∀ (l : List Int) (j : Nat) (v : Int), j < l.length → valB (l.set j v) = valB l + (v - l.getD j 0) * 65536 ^ j
  | x :: l, 0, v, _ => by
    show v + 65536 * valB l = x + 65536 * valB l + (v - x) * 65536 ^ 0
    rw [Int.pow_zero, Int.mul_one]; omega
  | x :: l, j + 1, v, h => by
    show x + 65536 * valB (l.set j v) = x + 65536 * valB l + (v - l.getD j 0) * 65536 ^ (j + 1)
    rw [valB_set l j v (by simpa using h), Int.pow_succ, Int.mul_add, Int.add_assoc, Int.mul_comm ((65536 : Int) ^ j) 65536, ← Int.mul_assoc, ← Int.mul_assoc, Int.mul_comm (v - l.getD j 0) 65536]
theorem valB_drop (l : List Int) (i : Nat) (h : i < l.length) : valB (l.drop i) = l.getD i 0 + 65536 * valB (l.drop (i + 1)) := by
  rw [List.drop_eq_getElem_cons h, List.getD_eq_getElem?_getD, List.getElem?_eq_getElem h]; rfl
/-- Carried. -/
def carryL : List Int → List Int
  | [] => []
  | [x] => [x]
  | x :: y :: r => x % 65536 :: carryL ((y + x / 65536) :: r)
termination_by l => l.length
theorem carry_dig : ∀ (n : Nat) (l : List Int), l.length = n → (∀ x ∈ l, 0 ≤ x) → valB l < 65536 ^ n → carryL l = digN n (valB l).toNat
  | 0, l, h, _, _ => by
    obtain rfl := List.eq_nil_of_length_eq_zero h
    rw [carryL]; rfl
  | 1, [x], _, hp, hv => by
    have h0 := hp x (by simp)
    have e : valB [x] = x := by simp [valB]
    rw [e, Int.pow_one] at hv
    rw [carryL, e, digN, digN]
    congr 1; omega
  | n + 2, x :: y :: r, h, hp, hv => by
    have hx := hp x (by simp)
    have hy := hp y (by simp)
    have hr := valB_pos (l := r) fun z hz => hp z (by simp [hz])
    have e1 : valB (x :: y :: r) = x + 65536 * (y + 65536 * valB r) := rfl
    have e2 : valB ((y + x / 65536) :: r) = y + x / 65536 + 65536 * valB r := rfl
    have hq : valB ((y + x / 65536) :: r) = valB (x :: y :: r) / 65536 := by rw [e1, e2]; omega
    have hlt : valB ((y + x / 65536) :: r) < 65536 ^ (n + 1) := by
      rw [hq]
      refine Int.ediv_lt_of_lt_mul (by decide) ?_
      rw [← Int.pow_succ]; exact hv
    have ih := carry_dig (n + 1) ((y + x / 65536) :: r) (by simpa using h) (by
      intro z hz
      rcases List.mem_cons.1 hz with rfl | hz
      · omega
      · exact hp z (by simp [hz])) hlt
    rw [carryL, ih]
    show _ = (((valB (x :: y :: r)).toNat % 65536 : Nat) : Int) :: digN (n + 1) ((valB (x :: y :: r)).toNat / 65536)
    congr 1
    · rw [e1]; omega
    · congr 1
      rw [hq, e1]; omega
/-- Compared from the top. -/
def cmpGo (a b : List Int) : Nat → Bool
  | 0 => true
  | i + 1 => bif !eqI (a.getD i 0) (b.getD i 0) then ltI (a.getD i 0) (b.getD i 0) else cmpGo a b i
theorem cmp_dig (N a b : Nat) : ∀ n, n ≤ N → cmpGo (digN N a) (digN N b) n = decide (a % 65536 ^ n ≤ b % 65536 ^ n)
  | 0, _ => by
    rw [Nat.pow_zero, Nat.mod_one, Nat.mod_one]; rfl
  | n + 1, h => by
    rw [cmpGo, cmp_dig N a b n (by omega), digN_get N n a (by omega), digN_get N n b (by omega), Nat.mod_pow_succ, Nat.mod_pow_succ]
    generalize a / 65536 ^ n % 65536 = x
    generalize b / 65536 ^ n % 65536 = y
    have hP : 0 < 65536 ^ n := Nat.pow_pos (by decide)
    have hu := Nat.mod_lt a hP
    have hv := Nat.mod_lt b hP
    generalize a % 65536 ^ n = u at *
    generalize b % 65536 ^ n = v at *
    generalize 65536 ^ n = P at *
    rcases Nat.lt_trichotomy x y with hxy | rfl | hxy
    · rw [bif_pos (by rw [not_eqI_iff]; omega), ltI_iff.2 (by omega)]
      have : P * (x + 1) ≤ P * y := Nat.mul_le_mul_left P hxy
      rw [Nat.mul_succ] at this
      exact (decide_eq_true (by omega)).symm
    · rw [bif_neg (by rw [not_eqI_iff]; omega)]
      exact decide_eq_decide.2 (by omega)
    · rw [bif_pos (by rw [not_eqI_iff]; omega), show ltI (x : Int) (y : Int) = false by rw [← Bool.not_eq_true, ltI_iff]; omega]
      have : P * (y + 1) ≤ P * x := Nat.mul_le_mul_left P hxy
      rw [Nat.mul_succ] at this
      exact (decide_eq_false (by omega)).symm
/-- Is the cube no more? -/
def cubeB (x n : Nat) : Bool := Nat.ble (x * x * x) (n * 79228162514264337593543950336)
/-- A cube root's bits, from a bit on. -/
def rootGo (n : Nat) : Nat → Nat → Nat → Nat
  | 0, _, x => x
  | d + 1, bit, x => rootGo n d (bit / 2) (bif cubeB (x + bit) n then x + bit else x)
def rootN (n : Nat) : Nat := rootGo n 36 34359738368 0 % 4294967296
/-- Is it a prime number? -/
def primeGo (n : Nat) : Nat → Nat → Bool
  | 0, _ => Nat.blt 1 n
  | d + 1, k => bif Nat.ble (k * k) n then (bif Nat.beq (n % k) 0 then false else primeGo n d (k + 1)) else Nat.blt 1 n
def primeN (n : Nat) : Bool := primeGo n 30 2
def nextP : Nat → Nat → Nat
  | 0, p => p
  | d + 1, p => bif primeN p then p else nextP d (p + 1)
/-- The words of the first primes, from a number on. -/
def keysGo : Nat → Nat → List Int
  | 0, _ => []
  | d + 1, p => ((rootN (nextP 40 p) : Nat) : Int) :: keysGo d (nextP 40 p + 1)
theorem keys_all : keysGo 64 2 = keysW := by kernel_rfl
def inL (x : Int) : Bool := leI 0 x && ltI x 65536
theorem inL_iff {x : Int} : inL x = true ↔ 0 ≤ x ∧ x < 65536 := by unfold inL; rw [Bool.and_eq_true, leI_iff, ltI_iff]
theorem inL_all {l : List Int} (h : l.all inL = true) : ∀ x ∈ l, 0 ≤ x ∧ x < 65536 := fun x hx => inL_iff.1 (List.all_eq_true.1 h x hx)
theorem digN_all (n v : Nat) : (digN n v).all inL = true := by
  rw [List.all_eq_true]
  exact fun x hx => inL_iff.2 (digN_in n v x hx)
theorem valB_lt : ∀ {l : List Int}, (∀ x ∈ l, 0 ≤ x ∧ x < 65536) → valB l < 65536 ^ l.length
  | [], _ => by simp [valB]
  | x :: l, h => by
    have h1 := h x (by simp)
    have h2 := valB_lt (l := l) fun y hy => h y (by simp [hy])
    have h3 : 65536 * (valB l + 1) ≤ 65536 * 65536 ^ l.length := Int.mul_le_mul_of_nonneg_left (by omega) (by decide)
    unfold valB
    rw [List.length_cons, Int.pow_succ, Int.mul_comm]
    rw [Int.mul_add] at h3
    omega
theorem valB_rep : ∀ n, valB (List.replicate n 0) = 0
  | 0 => rfl
  | n + 1 => by
    show 0 + 65536 * valB (List.replicate n 0) = 0
    rw [valB_rep n]; rfl
def keysOk : Nat → Nat → Bool
  | 0, _ => true
  | d + 1, p => primeN (nextP 40 p) && Nat.ble (nextP 40 p) 399 && keysOk d (nextP 40 p + 1)
theorem keys_ok : keysOk 64 2 = true := by kernel_rfl
theorem digN_mul (m v : Nat) : digN (m + 1) (65536 * v) = 0 :: digN m v := by
  rw [digN, Nat.mul_mod_right, Nat.mul_div_cancel_left _ (by decide)]; rfl
theorem digN_want (n : Nat) (h : n < 65536) : (List.replicate 11 (0 : Int)).set 6 (n : Int) = digN 11 (n * 79228162514264337593543950336) := by
  rw [show n * 79228162514264337593543950336 = 65536 * (65536 * (65536 * (65536 * (65536 * (65536 * n))))) by omega, digN_mul, digN_mul, digN_mul, digN_mul, digN_mul, digN_mul]
  have h1 : n / 65536 = 0 := by omega
  have h2 : n % 65536 = n := by omega
  rw [digN, h1, h2]; rfl
theorem digN_three (v : Nat) (h : v < 281474976710656) : digN 3 v = [((v % 65536 : Nat) : Int), ((v / 65536 % 65536 : Nat) : Int), ((v / 4294967296 : Nat) : Int)] := by
  rw [digN, digN, digN, digN, Nat.div_div_eq_div_mul, show v / (65536 * 65536) % 65536 = v / 4294967296 by omega]
theorem app_len0 {α : Type} (p : List α) (x : α) (r : List α) : (p ++ x :: r).length = p.length + (r.length + 1) := by rw [List.length_append, List.length_cons]
theorem app_get0 {α : Type} (d x : α) (r : List α) : ∀ p : List α, (p ++ x :: r).getD p.length d = x
  | [] => rfl
  | _ :: p => app_get0 d x r p
theorem app_get1 {α : Type} (d x y : α) (r : List α) : ∀ p : List α, (p ++ x :: y :: r).getD (p.length + 1) d = y
  | [] => rfl
  | _ :: p => app_get1 d x y r p
theorem app_set0 {α : Type} (x v : α) (r : List α) : ∀ p : List α, (p ++ x :: r).set p.length v = p ++ v :: r
  | [] => rfl
  | a :: p => by
    show a :: (p ++ x :: r).set p.length v = a :: (p ++ v :: r)
    rw [app_set0 x v r p]
theorem app_set1 {α : Type} (x y v : α) (r : List α) : ∀ p : List α, (p ++ x :: y :: r).set (p.length + 1) v = p ++ x :: v :: r
  | [] => rfl
  | a :: p => by
    show a :: (p ++ x :: y :: r).set (p.length + 1) v = a :: (p ++ x :: v :: r)
    rw [app_set1 x y v r p]
theorem times_step {a b P Q V W : Int} (h : V = b + 65536 * W) : a * b * (P * Q) + a * P * (Q * 65536 * W) = a * P * (Q * V) := by
  subst h
  rw [Int.mul_add, Int.mul_add]
  congr 1 <;> ac_rfl
theorem times_step2 {a P V W Z : Int} (h : V = a + 65536 * W) : a * P * Z + P * 65536 * W * Z = P * V * Z := by
  subst h
  rw [Int.mul_add, Int.add_mul]
  congr 1 <;> ac_rfl
theorem limb_mul {x y : Int} (hx : 0 ≤ x ∧ x < 65536) (hy : 0 ≤ y ∧ y < 65536) : 0 ≤ x * y ∧ x * y < 4294967296 := by
  refine ⟨Int.mul_nonneg hx.1 hy.1, ?_⟩
  have h1 : x * y ≤ 65535 * 65535 := Int.mul_le_mul (by omega) (by omega) hy.1 (by decide)
  omega
theorem getD_mem {l : List Int} {i : Nat} (h : i < l.length) : l.getD i 0 ∈ l := by
  rw [List.getD_eq_getElem?_getD, List.getElem?_eq_getElem h]
  exact List.getElem_mem _
theorem wrapU {n : Int} (h0 : 0 ≤ n) (h1 : n ≤ 1152921504606846976) : IntKind.u64.wrap n = n := wrapu64 h0 (by omega)
theorem ble_decide (a b : Nat) : decide (a ≤ b) = Nat.ble a b := by
  cases h : Nat.ble a b
  · exact decide_eq_false (fun hc => by rw [Nat.ble_eq_true_of_le hc] at h; cases h)
  · exact decide_eq_true (Nat.le_of_ble_eq_true h)
end Go.Proofs.YtmkgmlgklggnlaaGm
