/- A part of the proof: plain laws, and what functions of the given program come to; no condition. -/
import Derived.Test.YtmkgmlgklggnlaaGmYchain
import Derived.Test.YtmkgmlgklggnlaaGmYcrc
/-! # SHA-256: words and rounds. Plain law: no program. -/
namespace Go.Proofs.YtmkgmlgklggnlaaGm
/-- math/bits.RotateLeft32. -/
def rotL (x k : Int) : Int := ior .u32 (ishl .u32 x (iand .u64 (IntKind.u64.wrap k) 31)) (ishr .u32 x (IntKind.u64.wrap (32 - iand .u64 (IntKind.u64.wrap k) 31)))
/-- Turned right. -/
def rightW (x n : Int) : Int := ior .u32 (ishr .u32 x n) (ishl .u32 x (IntKind.i64.wrap (32 - n)))
theorem ior_comm (k : IntKind) (a b : Int) : ior k a b = ior k b a := by unfold ior; rw [BitVec.or_comm]
theorem rot_right {x : Int} {n m : Nat} (h : n + m = 32) (h0 : 0 < n) (h1 : 0 < m) (hk : iand .u64 (IntKind.u64.wrap (-(n : Int))) 31 = (m : Int)) : rotL x (-(n : Int)) = rightW x n := by
  unfold rotL rightW
  rw [hk, wrapu64 (by omega) (by omega), wrap64 (by omega) (by omega), show (32 : Int) - m = n by omega, show (32 : Int) - n = m by omega, ior_comm]
theorem rot7 (x : Int) : rotL x (-7) = rightW x 7 := rot_right (n := 7) (m := 25) rfl (by decide) (by decide) (by decide)
theorem rot18 (x : Int) : rotL x (-18) = rightW x 18 := rot_right (n := 18) (m := 14) rfl (by decide) (by decide) (by decide)
theorem rot17 (x : Int) : rotL x (-17) = rightW x 17 := rot_right (n := 17) (m := 15) rfl (by decide) (by decide) (by decide)
theorem rot19 (x : Int) : rotL x (-19) = rightW x 19 := rot_right (n := 19) (m := 13) rfl (by decide) (by decide) (by decide)
theorem rot6 (x : Int) : rotL x (-6) = rightW x 6 := rot_right (n := 6) (m := 26) rfl (by decide) (by decide) (by decide)
theorem rot11 (x : Int) : rotL x (-11) = rightW x 11 := rot_right (n := 11) (m := 21) rfl (by decide) (by decide) (by decide)
theorem rot25 (x : Int) : rotL x (-25) = rightW x 25 := rot_right (n := 25) (m := 7) rfl (by decide) (by decide) (by decide)
theorem rot2 (x : Int) : rotL x (-2) = rightW x 2 := rot_right (n := 2) (m := 30) rfl (by decide) (by decide) (by decide)
theorem rot13 (x : Int) : rotL x (-13) = rightW x 13 := rot_right (n := 13) (m := 19) rfl (by decide) (by decide) (by decide)
theorem rot22 (x : Int) : rotL x (-22) = rightW x 22 := rot_right (n := 22) (m := 10) rfl (by decide) (by decide) (by decide)
/-- The words' own mixing. -/
def sig0 (x : Int) : Int := ixor .u32 (ixor .u32 (rightW x 7) (rightW x 18)) (x / 8)
def sig1 (x : Int) : Int := ixor .u32 (ixor .u32 (rightW x 17) (rightW x 19)) (x / 1024)
def w32 (n : Int) : Int := IntKind.u32.wrap n
/-- One more word. -/
def wNext (w : List Int) (i : Nat) : Int := w32 (w32 (w32 (w.getD (i - 16) 0 + sig0 (w.getD (i - 15) 0)) + w.getD (i - 7) 0) + sig1 (w.getD (i - 2) 0))
/-- 'n' more words from place i on. -/
def wMore : Nat → Nat → List Int → List Int
  | 0, _, w => w
  | n + 1, i, w => wMore n (i + 1) (w.set i (wNext w i))
/-- Four bytes as a word. -/
def wordAt (b : List Int) (i : Nat) : Int := ((b.getD (4 * i) 0 * 256 + b.getD (4 * i + 1) 0) * 256 + b.getD (4 * i + 2) 0) * 256 + b.getD (4 * i + 3) 0
def wFirst (b : List Int) : List Int := (List.range 64).map fun i => if i < 16 then wordAt b i else 0
def sched (b : List Int) : List Int := wMore 48 16 (wFirst b)
structure Hs where
  a : Int
  b : Int
  c : Int
  d : Int
  e : Int
  f : Int
  g : Int
  h : Int
/-- One round, of key and word. -/
def step1 (s : Hs) (k w : Int) : Hs :=
  let p := w32 (w32 (w32 (w32 (s.h + ixor .u32 (ixor .u32 (rightW s.e 6) (rightW s.e 11)) (rightW s.e 25)) + ixor .u32 (iand .u32 s.e s.f) (iand .u32 (w32 (4294967295 - s.e)) s.g)) + k) + w)
  let q := w32 (ixor .u32 (ixor .u32 (rightW s.a 2) (rightW s.a 13)) (rightW s.a 22) + ixor .u32 (ixor .u32 (iand .u32 s.a s.b) (iand .u32 s.a s.c)) (iand .u32 s.b s.c))
  ⟨w32 (p + q), s.a, s.b, s.c, w32 (s.d + p), s.e, s.f, s.g⟩
def stepN (ks ws : List Int) : Nat → Nat → Hs → Hs
  | 0, _, s => s
  | n + 1, i, s => stepN ks ws n (i + 1) (step1 s (ks.getD i 0) (ws.getD i 0))
def addH (s t : Hs) : Hs := ⟨w32 (s.a + t.a), w32 (s.b + t.b), w32 (s.c + t.c), w32 (s.d + t.d), w32 (s.e + t.e), w32 (s.f + t.f), w32 (s.g + t.g), w32 (s.h + t.h)⟩
/-- A block more. -/
def roundH (ks : List Int) (s : Hs) (b : List Int) : Hs := addH s (stepN ks (sched b) 64 0 s)
def Hs.av (s : Hs) : AV := .arr [.int .u32 s.a, .int .u32 s.b, .int .u32 s.c, .int .u32 s.d, .int .u32 s.e, .int .u32 s.f, .int .u32 s.g, .int .u32 s.h]
theorem setZ (a cs : List AV) (h : cs.length = a.length) : setRange cs 0 a = a := by
  have := setRange_all a [] [] cs h
  simpa using this
theorem intsA_len (k : IntKind) (l : List Int) : (intsA k l).length = l.length := List.length_map _
theorem intsA_int (k : IntKind) (l : List Int) : (intsA k l).map intOf = l := by
  unfold intsA
  rw [List.map_map]
  conv => rhs; rw [← List.map_id l]
  rfl
theorem intsA_is (k : IntKind) (l : List Int) : (intsA k l).all (isInt k) = true := by
  unfold intsA
  rw [List.all_eq_true]
  intro a ha
  obtain ⟨n, _, rfl⟩ := List.mem_map.1 ha
  cases k <;> rfl
theorem wMore_len : ∀ (n i : Nat) (w : List Int), (wMore n i w).length = w.length
  | 0, _, _ => rfl
  | n + 1, i, w => by rw [wMore, wMore_len, List.length_set]
theorem sched_len (b : List Int) : (sched b).length = 64 := by
  unfold sched wFirst
  rw [wMore_len, List.length_map, List.length_range]
/-- An answer that is read out of an array variable. -/
def resEnd (o : Option AV) (hp : List AObj) : Res :=
  match (match (match o with
    | some v => some [v]
    | none => none : Option (List AV)) with
    | some [v] => some v
    | some l => some (.tup l)
    | none => none : Option AV) with
  | some v => .ret v hp
  | none => .stuck
/-- The 64 constants. -/
def keysW : List Int := [1116352408, 1899447441, 3049323471, 3921009573, 961987163, 1508970993, 2453635748, 2870763221, 3624381080, 310598401, 607225278, 1426881987, 1925078388, 2162078206, 2614888103, 3248222580, 3835390401, 4022224774, 264347078, 604807628, 770255983, 1249150122, 1555081692, 1996064986, 2554220882, 2821834349, 2952996808, 3210313671, 3336571891, 3584528711, 113926993, 338241895, 666307205, 773529912, 1294757372, 1396182291, 1695183700, 1986661051, 2177026350, 2456956037, 2730485921, 2820302411, 3259730800, 3345764771, 3516065817, 3600352804, 4094571909, 275423344, 430227734, 506948616, 659060556, 883997877, 958139571, 1322822218, 1537002063, 1747873779, 1955562222, 2024104815, 2227730452, 2361852424, 2428436474, 2756734187, 3204031479, 3329325298]
theorem Real.arrT {l r : List AV} (h : Real (.arr l :: r)) : Real l := by
  obtain ⟨w, M, vs, h⟩ := h
  cases h with | cons h _ =>
  cases h with | arr h _ _ => exact ⟨w, M, _, h⟩
theorem Real.bytesA : ∀ {l : List AV}, Real l → l.all (isInt .u8) = true → ∀ x ∈ l.map intOf, 0 ≤ x ∧ x < 256
  | [], _, _, x, hx => by simp at hx
  | a :: l, h, ha, x, hx => by
    rw [List.all_cons, Bool.and_eq_true] at ha
    rw [List.map_cons, List.mem_cons] at hx
    rcases hx with rfl | hx
    · have h1 := ha.1
      cases a <;> first | cases h1 | skip
      rename_i k n
      cases k <;> first | cases h1 | skip
      exact hasu8 h.int
    · exact Real.bytesA h.tail ha.2 x hx
theorem ior_cat32 {x c : Int} (h0 : 0 ≤ x) (h1 : x < 16777216) (c0 : 0 ≤ c) (c1 : c < 256) : ior .u32 (ishl .u32 x 8) (IntKind.u32.wrap c) = 256 * x + c := by
  have e1 : ishl .u32 x 8 = 256 * x := by
    unfold ishl
    rw [show (2 : Int) ^ min (8 : Int).toNat IntKind.u32.bits = 256 from rfl, wrapu32 (by omega) (by omega)]; omega
  rw [e1, wrapu32 c0 (by omega)]
  unfold ior
  obtain ⟨y, rfl⟩ := Int.eq_ofNat_of_zero_le h0
  obtain ⟨z, rfl⟩ := Int.eq_ofNat_of_zero_le c0
  have hz : z < 2 ^ 8 := by omega
  rw [BitVec.toNat_or, show (256 * (y : Int)) = ((y * 256 : Nat) : Int) by omega]
  have b1 : (BitVec.ofInt IntKind.u32.bits ((y * 256 : Nat) : Int)).toNat = y * 256 := by
    rw [BitVec.toNat_ofInt]; show (((y * 256 : Nat) : Int) % ((2 ^ 32 : Nat) : Int)).toNat = _; omega
  have b2 : (BitVec.ofInt IntKind.u32.bits ((z : Nat) : Int)).toNat = z := by
    rw [BitVec.toNat_ofInt]; show (((z : Nat) : Int) % ((2 ^ 32 : Nat) : Int)).toNat = _; omega
  rw [b1, b2]
  have := Nat.shiftLeft_add_eq_or_of_lt (i := 8) (b := z) hz y
  rw [Nat.shiftLeft_eq] at this
  rw [← this, wrapu32 (by omega) (by omega)]
  omega
theorem ishr32 {a : Int} {b : Nat} (h : b ≤ 32) : ishr .u32 a (b : Int) = a / 2 ^ b := by
  unfold ishr
  rw [show min (b : Int).toNat IntKind.u32.bits = b from Nat.min_eq_left h]
  exact Int.fdiv_eq_ediv_of_nonneg _ (Int.le_of_lt (Int.pow_pos (by decide)))
theorem ishr32_3 (a : Int) : ishr .u32 a 3 = a / 8 := ishr32 (b := 3) (by decide)
theorem ishr32_10 (a : Int) : ishr .u32 a 10 = a / 1024 := ishr32 (b := 10) (by decide)
/-- One byte more in a word. -/
def catW (w b : List Int) (i j : Nat) : List Int := w.set i (ior .u32 (ishl .u32 (w.getD i 0) 8) (IntKind.u32.wrap (b.getD (4 * i + j) 0)))
def wPart (b : List Int) (i : Nat) : List Int := (List.range 64).map fun n => if n < i then wordAt b n else 0
theorem wPart_len (b : List Int) (i : Nat) : (wPart b i).length = 64 := by unfold wPart; rw [List.length_map, List.length_range]
theorem catW_len (w b : List Int) (i j : Nat) : (catW w b i j).length = w.length := by unfold catW; rw [List.length_set]
theorem wPart_get (b : List Int) (i n : Nat) (h : n < 64) : (wPart b i).getD n 0 = if n < i then wordAt b n else 0 := by
  unfold wPart
  rw [List.getD_eq_getElem?_getD, List.getElem?_map, List.getElem?_range h]; rfl
theorem wPart_set (b : List Int) (i : Nat) : (wPart b i).set i (wordAt b i) = wPart b (i + 1) := by
  apply List.ext_getElem?
  intro n
  rw [List.getElem?_set]
  unfold wPart
  rw [List.length_map, List.length_range, List.getElem?_map, List.getElem?_map]
  by_cases h : i = n
  · subst h
    rw [if_pos rfl]
    by_cases h2 : i < 64
    · rw [if_pos h2, List.getElem?_range h2, Option.map_some, if_pos (Nat.lt_succ_self _)]
    · rw [if_neg h2, List.getElem?_eq_none (by rw [List.length_range]; omega)]; rfl
  · rw [if_neg h]
    by_cases h2 : n < 64
    · rw [List.getElem?_range h2, Option.map_some, Option.map_some]
      by_cases h3 : n < i
      · rw [if_pos h3, if_pos (by omega)]
      · rw [if_neg h3, if_neg (by omega)]
    · rw [List.getElem?_eq_none (by rw [List.length_range]; omega)]; rfl
theorem catW_set {w b : List Int} {i j : Nat} {v : Int} (hw : i < w.length) (h0 : 0 ≤ v) (h1 : v < 16777216) (hb : 0 ≤ b.getD (4 * i + j) 0 ∧ b.getD (4 * i + j) 0 < 256) :
    catW (w.set i v) b i j = w.set i (256 * v + b.getD (4 * i + j) 0) := by
  unfold catW
  rw [List.set_set, List.getD_eq_getElem?_getD, List.getElem?_set_self hw]
  show w.set i (ior .u32 (ishl .u32 v 8) _) = _
  rw [ior_cat32 h0 h1 hb.1 hb.2]
theorem word_four {b : List Int} (hb : ∀ x ∈ b, 0 ≤ x ∧ x < 256) {i : Nat} (hi : i < 16) : catW (catW (catW (catW (wPart b i) b i 0) b i 1) b i 2) b i 3 = wPart b (i + 1) := by
  have hg : ∀ n, 0 ≤ b.getD n 0 ∧ b.getD n 0 < 256 := fun n => by
    rw [List.getD_eq_getElem?_getD]
    cases h : b[n]? with
    | none => exact ⟨by decide, by decide⟩
    | some x => exact hb x (List.mem_of_getElem? h)
  have hl : i < (wPart b i).length := by rw [wPart_len]; omega
  have h0 := hg (4 * i + 0)
  have h1 := hg (4 * i + 1)
  have h2 := hg (4 * i + 2)
  have h3 := hg (4 * i + 3)
  have e0 : catW (wPart b i) b i 0 = (wPart b i).set i (b.getD (4 * i + 0) 0) := by
    unfold catW
    rw [wPart_get b i i (by omega), if_neg (Nat.lt_irrefl _), ior_cat32 (by decide) (by decide) h0.1 h0.2]
    congr 1; omega
  rw [e0, catW_set hl (by omega) (by omega) h1, catW_set hl (by omega) (by omega) h2, catW_set hl (by omega) (by omega) h3, ← wPart_set]
  congr 1
  unfold wordAt
  rw [Nat.add_zero] at h0 ⊢
  omega
theorem w32_lt (n : Int) : 0 ≤ w32 n ∧ w32 n < 4294967296 := by
  unfold w32; simp [IntKind.wrap, IntKind.signed, IntKind.bits]; omega
theorem ixor_ones (x : Int) : ixor .u32 (Int.ofNat (2 ^ IntKind.u32.bits - Nat.succ 0)) x = w32 (4294967295 - x) := by
  unfold ixor w32
  rw [show BitVec.ofInt IntKind.u32.bits (Int.ofNat (2 ^ IntKind.u32.bits - Nat.succ 0)) = BitVec.allOnes IntKind.u32.bits from rfl, BitVec.allOnes_xor, BitVec.toNat_not, BitVec.toNat_ofInt]
  simp only [IntKind.wrap, IntKind.signed, IntKind.bits]
  simp
  omega
theorem iquo32 {x : Int} (h0 : 0 ≤ x) (h1 : x < 4294967296) {n : Int} (hn : 0 < n) : iquo .u32 x n = x / n := by
  unfold iquo
  rw [Int.tdiv_eq_ediv_of_nonneg h0, wrapu32 (Int.ediv_nonneg h0 (Int.le_of_lt hn)) (Int.lt_of_le_of_lt (Int.ediv_le_self _ h0) h1)]
/-- Bytes as numbers. -/
def bI (p : List UInt8) : List Int := p.map fun x => (x.toNat : Int)
theorem bI_len (p : List UInt8) : (bI p).length = p.length := List.length_map _
theorem bI_get (p : List UInt8) (i : Nat) : (bI p).getD i 0 = ((p.getD i 0).toNat : Int) := by
  unfold bI
  rw [List.getD_eq_getElem?_getD, List.getElem?_map, List.getD_eq_getElem?_getD]
  cases p[i]? <;> rfl
theorem bI_byte {p : List UInt8} {x : Int} (h : x ∈ bI p) : 0 ≤ x ∧ x < 256 := by
  obtain ⟨y, _, rfl⟩ := List.mem_map.1 h
  have := y.toNat_lt
  omega
def inW (w : List Int) : Prop := ∀ x ∈ w, 0 ≤ x ∧ x < 4294967296
theorem inW.get {w : List Int} (h : inW w) (i : Nat) : 0 ≤ w.getD i 0 ∧ w.getD i 0 < 4294967296 := by
  rw [List.getD_eq_getElem?_getD]
  cases e : w[i]? with
  | none => exact ⟨by decide, by decide⟩
  | some x => exact h x (List.mem_of_getElem? e)
theorem inW.set {w : List Int} (h : inW w) (i : Nat) {v : Int} (hv : 0 ≤ v ∧ v < 4294967296) : inW (w.set i v) := by
  intro x hx
  rcases List.mem_or_eq_of_mem_set hx with hx | rfl
  · exact h x hx
  · exact hv
theorem wordAt_lt {b : List Int} (hb : ∀ x ∈ b, 0 ≤ x ∧ x < 256) (i : Nat) : 0 ≤ wordAt b i ∧ wordAt b i < 4294967296 := by
  have hg : ∀ n, 0 ≤ b.getD n 0 ∧ b.getD n 0 < 256 := fun n => by
    rw [List.getD_eq_getElem?_getD]
    cases h : b[n]? with
    | none => exact ⟨by decide, by decide⟩
    | some x => exact hb x (List.mem_of_getElem? h)
  have h0 := hg (4 * i)
  have h1 := hg (4 * i + 1)
  have h2 := hg (4 * i + 2)
  have h3 := hg (4 * i + 3)
  unfold wordAt
  omega
theorem wFirst_in {b : List Int} (hb : ∀ x ∈ b, 0 ≤ x ∧ x < 256) : inW (wFirst b) := by
  intro x hx
  obtain ⟨i, _, rfl⟩ := List.mem_map.1 hx
  split
  · exact wordAt_lt hb i
  · exact ⟨by decide, by decide⟩
theorem wFirst_part (b : List Int) : wPart b 16 = wFirst b := rfl
/-- The words at first. -/
def firstW : Hs := ⟨1779033703, 3144134277, 1013904242, 2773480762, 1359893119, 2600822924, 528734635, 1541459225⟩
def Hs.cells (s : Hs) : List AV := [.int .u32 s.a, .int .u32 s.b, .int .u32 s.c, .int .u32 s.d, .int .u32 s.e, .int .u32 s.f, .int .u32 s.g, .int .u32 s.h]
end Go.Proofs.YtmkgmlgklggnlaaGm
