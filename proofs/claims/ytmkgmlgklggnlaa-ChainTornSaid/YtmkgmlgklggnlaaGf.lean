/- A part of the proof: plain laws, and what functions of the given program come to; no condition. -/
import Derived.Test.YtmkgmlgklggnlaaGe
namespace Go.Proofs.YtmkgmlgklggnlaaG
open Go Go.Proofs.YtmkgmlgklggnlaaGm
set_option maxRecDepth 100000

theorem f64_done (F r : Nat) (n x3 x5 : Int) (b : UInt8) (t : List UInt8) (h : x3 ≠ 9) : f64_0 F (1 + r) n x3 x5 (-1) (b :: t) =
    .ret (.own 0) [.arr 5 (.bytes (UInt8.ofNat (IntKind.u8.wrap (IntKind.i64.wrap (x5 + IntKind.i64.wrap (b.toNat : Int)))).toNat :: t))] := by
  have e1 : inB 0 (Pay.bytes (b :: t) : Pay AV).len = true := by
    show inB 0 (b :: t).length = true
    unfold inB; simp
  rw [show 1 + r = r + 1 by omega, f64_0_eq, bif_neg (by decide), bif_neg (by rw [eqI_iff]; exact h), bif_pos e1, bif_pos e1, bif_pos (by
    have : (Pay.bytes (b :: t) : Pay AV).len = t.length + 1 := rfl
    rw [this]
    simp [Nat.blt])]
  rfl
theorem f64_done9 (F r : Nat) (n x5 : Int) (l : List UInt8) (h : l.length ≤ 1000) : f64_0 F (1 + r) n 9 x5 (-1) l = .ret (.own 1) [.arr 5 (.bytes l), .arr 5 (.bytes (255 :: l))] := by
  rw [show 1 + r = r + 1 by omega, f64_0_eq, bif_neg (by decide), bif_pos (by decide), one_set _ _ rfl, bif_pos (by rw [fits5]; simp; omega)]
  rfl

theorem bytes1 (n : Int) (h0 : 0 ≤ n) (h1 : n < 128) : afun (c64 rounds) Try.f64 [.int .u64 n] [] = .ret (.own 0) [.arr 5 (.bytes (enc n))] := by
  obtain ⟨n', h⟩ := f64_run rounds (rounds - 2) 1 0 1 n (List.replicate (Int.toNat 1) 0) (by omega) (by omega) (by decide) (by decide)
  have hx : 0 ≤ n / 2 ^ (8 * 0) % 256 ∧ n / 2 ^ (8 * 0) % 256 < 128 := by omega
  have hb : be 1 n = UInt8.ofNat (n / 2 ^ (8 * 0) % 256).toNat :: be 0 n := rfl
  have hf := first0 n (by omega) h1
  have e0 : ior .u8 (n / 2 ^ (8 * 0) % 256) 0 = n / 2 ^ (8 * 0) % 256 + 0 := ior_add 128 0 (by decide) (by decide) _ hx.1 hx.2
  rw [e0] at hf
  rw [f64_eq, len9_1 h0 h1, bif_neg (by decide), bif_pos (by decide), show IntKind.i64.wrap (256 - IntKind.i64.wrap (pow2 (IntKind.i64.wrap (9 - 1)))) = 0 by decide,
    show IntKind.i64.wrap (1 - 1) = ((1 : Nat) : Int) - 1 by decide]
  refine Eq.trans (b := f64_0 rounds (1 + 1 + (rounds - 2)) n 1 0 (((1 : Nat) : Int) - 1) (List.replicate (Int.toNat 1) 0)) rfl ?_
  rw [h, show (List.replicate (Int.toNat 1) (0 : UInt8)).drop 1 = [] from rfl, List.append_nil, hb, f64_done _ _ _ _ _ _ _ (by decide), enc_1 h0 h1, ← hf]
  have e : ((UInt8.ofNat (n / 2 ^ (8 * 0) % 256).toNat).toNat : Int) = n / 2 ^ (8 * 0) % 256 := by rw [UInt8.toNat_ofNat']; omega
  rw [e]
  generalize n / 2 ^ (8 * 0) % 256 = x at hx
  rw [wrap64 (n := x) (by omega) (by omega), wrap64 (by omega) (by omega), wrapu8]
  rw [show (0 + x) % 256 = x + 0 by omega]

theorem bytes2 (n : Int) (h0 : 128 ≤ n) (h1 : n < 16384) : afun (c64 rounds) Try.f64 [.int .u64 n] [] = .ret (.own 0) [.arr 5 (.bytes (enc n))] := by
  obtain ⟨n', h⟩ := f64_run rounds (rounds - 3) 2 128 2 n (List.replicate (Int.toNat 2) 0) (by omega) (by omega) (by decide) (by decide)
  have hx : 0 ≤ n / 2 ^ (8 * 1) % 256 ∧ n / 2 ^ (8 * 1) % 256 < 64 := by omega
  have hb : be 2 n = UInt8.ofNat (n / 2 ^ (8 * 1) % 256).toNat :: be 1 n := rfl
  have hf := first1 n (by omega) h1
  have e0 : ior .u8 (n / 2 ^ (8 * 1) % 256) 128 = n / 2 ^ (8 * 1) % 256 + 128 := ior_add 64 0 (by decide) (by decide) _ hx.1 hx.2
  rw [e0] at hf
  rw [f64_eq, len9_2 h0 h1, bif_neg (by decide), bif_pos (by decide), show IntKind.i64.wrap (256 - IntKind.i64.wrap (pow2 (IntKind.i64.wrap (9 - 2)))) = 128 by decide,
    show IntKind.i64.wrap (2 - 1) = ((2 : Nat) : Int) - 1 by decide]
  refine Eq.trans (b := f64_0 rounds (2 + 1 + (rounds - 3)) n 2 128 (((2 : Nat) : Int) - 1) (List.replicate (Int.toNat 2) 0)) rfl ?_
  rw [h, show (List.replicate (Int.toNat 2) (0 : UInt8)).drop 2 = [] from rfl, List.append_nil, hb, f64_done _ _ _ _ _ _ _ (by decide), enc_2 h0 h1, ← hf]
  have e : ((UInt8.ofNat (n / 2 ^ (8 * 1) % 256).toNat).toNat : Int) = n / 2 ^ (8 * 1) % 256 := by rw [UInt8.toNat_ofNat']; omega
  rw [e]
  generalize n / 2 ^ (8 * 1) % 256 = x at hx
  rw [wrap64 (n := x) (by omega) (by omega), wrap64 (by omega) (by omega), wrapu8]
  rw [show (128 + x) % 256 = x + 128 by omega]

theorem bytes3 (n : Int) (h0 : 16384 ≤ n) (h1 : n < 2097152) : afun (c64 rounds) Try.f64 [.int .u64 n] [] = .ret (.own 0) [.arr 5 (.bytes (enc n))] := by
  obtain ⟨n', h⟩ := f64_run rounds (rounds - 4) 3 192 3 n (List.replicate (Int.toNat 3) 0) (by omega) (by omega) (by decide) (by decide)
  have hx : 0 ≤ n / 2 ^ (8 * 2) % 256 ∧ n / 2 ^ (8 * 2) % 256 < 32 := by omega
  have hb : be 3 n = UInt8.ofNat (n / 2 ^ (8 * 2) % 256).toNat :: be 2 n := rfl
  have hf := first2 n (by omega) h1
  have e0 : ior .u8 (n / 2 ^ (8 * 2) % 256) 192 = n / 2 ^ (8 * 2) % 256 + 192 := ior_add 32 0 (by decide) (by decide) _ hx.1 hx.2
  rw [e0] at hf
  rw [f64_eq, len9_3 h0 h1, bif_neg (by decide), bif_pos (by decide), show IntKind.i64.wrap (256 - IntKind.i64.wrap (pow2 (IntKind.i64.wrap (9 - 3)))) = 192 by decide,
    show IntKind.i64.wrap (3 - 1) = ((3 : Nat) : Int) - 1 by decide]
  refine Eq.trans (b := f64_0 rounds (3 + 1 + (rounds - 4)) n 3 192 (((3 : Nat) : Int) - 1) (List.replicate (Int.toNat 3) 0)) rfl ?_
  rw [h, show (List.replicate (Int.toNat 3) (0 : UInt8)).drop 3 = [] from rfl, List.append_nil, hb, f64_done _ _ _ _ _ _ _ (by decide), enc_3 h0 h1, ← hf]
  have e : ((UInt8.ofNat (n / 2 ^ (8 * 2) % 256).toNat).toNat : Int) = n / 2 ^ (8 * 2) % 256 := by rw [UInt8.toNat_ofNat']; omega
  rw [e]
  generalize n / 2 ^ (8 * 2) % 256 = x at hx
  rw [wrap64 (n := x) (by omega) (by omega), wrap64 (by omega) (by omega), wrapu8]
  rw [show (192 + x) % 256 = x + 192 by omega]

theorem bytes4 (n : Int) (h0 : 2097152 ≤ n) (h1 : n < 268435456) : afun (c64 rounds) Try.f64 [.int .u64 n] [] = .ret (.own 0) [.arr 5 (.bytes (enc n))] := by
  obtain ⟨n', h⟩ := f64_run rounds (rounds - 5) 4 224 4 n (List.replicate (Int.toNat 4) 0) (by omega) (by omega) (by decide) (by decide)
  have hx : 0 ≤ n / 2 ^ (8 * 3) % 256 ∧ n / 2 ^ (8 * 3) % 256 < 16 := by omega
  have hb : be 4 n = UInt8.ofNat (n / 2 ^ (8 * 3) % 256).toNat :: be 3 n := rfl
  have hf := first3 n (by omega) h1
  have e0 : ior .u8 (n / 2 ^ (8 * 3) % 256) 224 = n / 2 ^ (8 * 3) % 256 + 224 := ior_add 16 0 (by decide) (by decide) _ hx.1 hx.2
  rw [e0] at hf
  rw [f64_eq, len9_4 h0 h1, bif_neg (by decide), bif_pos (by decide), show IntKind.i64.wrap (256 - IntKind.i64.wrap (pow2 (IntKind.i64.wrap (9 - 4)))) = 224 by decide,
    show IntKind.i64.wrap (4 - 1) = ((4 : Nat) : Int) - 1 by decide]
  refine Eq.trans (b := f64_0 rounds (4 + 1 + (rounds - 5)) n 4 224 (((4 : Nat) : Int) - 1) (List.replicate (Int.toNat 4) 0)) rfl ?_
  rw [h, show (List.replicate (Int.toNat 4) (0 : UInt8)).drop 4 = [] from rfl, List.append_nil, hb, f64_done _ _ _ _ _ _ _ (by decide), enc_4 h0 h1, ← hf]
  have e : ((UInt8.ofNat (n / 2 ^ (8 * 3) % 256).toNat).toNat : Int) = n / 2 ^ (8 * 3) % 256 := by rw [UInt8.toNat_ofNat']; omega
  rw [e]
  generalize n / 2 ^ (8 * 3) % 256 = x at hx
  rw [wrap64 (n := x) (by omega) (by omega), wrap64 (by omega) (by omega), wrapu8]
  rw [show (224 + x) % 256 = x + 224 by omega]

theorem bytes5 (n : Int) (h0 : 268435456 ≤ n) (h1 : n < 34359738368) : afun (c64 rounds) Try.f64 [.int .u64 n] [] = .ret (.own 0) [.arr 5 (.bytes (enc n))] := by
  obtain ⟨n', h⟩ := f64_run rounds (rounds - 6) 5 240 5 n (List.replicate (Int.toNat 5) 0) (by omega) (by omega) (by decide) (by decide)
  have hx : 0 ≤ n / 2 ^ (8 * 4) % 256 ∧ n / 2 ^ (8 * 4) % 256 < 8 := by omega
  have hb : be 5 n = UInt8.ofNat (n / 2 ^ (8 * 4) % 256).toNat :: be 4 n := rfl
  have hf := first4 n (by omega) h1
  have e0 : ior .u8 (n / 2 ^ (8 * 4) % 256) 240 = n / 2 ^ (8 * 4) % 256 + 240 := ior_add 8 0 (by decide) (by decide) _ hx.1 hx.2
  rw [e0] at hf
  rw [f64_eq, len9_5 h0 h1, bif_neg (by decide), bif_pos (by decide), show IntKind.i64.wrap (256 - IntKind.i64.wrap (pow2 (IntKind.i64.wrap (9 - 5)))) = 240 by decide,
    show IntKind.i64.wrap (5 - 1) = ((5 : Nat) : Int) - 1 by decide]
  refine Eq.trans (b := f64_0 rounds (5 + 1 + (rounds - 6)) n 5 240 (((5 : Nat) : Int) - 1) (List.replicate (Int.toNat 5) 0)) rfl ?_
  rw [h, show (List.replicate (Int.toNat 5) (0 : UInt8)).drop 5 = [] from rfl, List.append_nil, hb, f64_done _ _ _ _ _ _ _ (by decide), enc_5 h0 h1, ← hf]
  have e : ((UInt8.ofNat (n / 2 ^ (8 * 4) % 256).toNat).toNat : Int) = n / 2 ^ (8 * 4) % 256 := by rw [UInt8.toNat_ofNat']; omega
  rw [e]
  generalize n / 2 ^ (8 * 4) % 256 = x at hx
  rw [wrap64 (n := x) (by omega) (by omega), wrap64 (by omega) (by omega), wrapu8]
  rw [show (240 + x) % 256 = x + 240 by omega]

theorem bytes6 (n : Int) (h0 : 34359738368 ≤ n) (h1 : n < 4398046511104) : afun (c64 rounds) Try.f64 [.int .u64 n] [] = .ret (.own 0) [.arr 5 (.bytes (enc n))] := by
  obtain ⟨n', h⟩ := f64_run rounds (rounds - 7) 6 248 6 n (List.replicate (Int.toNat 6) 0) (by omega) (by omega) (by decide) (by decide)
  have hx : 0 ≤ n / 2 ^ (8 * 5) % 256 ∧ n / 2 ^ (8 * 5) % 256 < 4 := by omega
  have hb : be 6 n = UInt8.ofNat (n / 2 ^ (8 * 5) % 256).toNat :: be 5 n := rfl
  have hf := first5 n (by omega) h1
  have e0 : ior .u8 (n / 2 ^ (8 * 5) % 256) 248 = n / 2 ^ (8 * 5) % 256 + 248 := ior_add 4 0 (by decide) (by decide) _ hx.1 hx.2
  rw [e0] at hf
  rw [f64_eq, len9_6 h0 h1, bif_neg (by decide), bif_pos (by decide), show IntKind.i64.wrap (256 - IntKind.i64.wrap (pow2 (IntKind.i64.wrap (9 - 6)))) = 248 by decide,
    show IntKind.i64.wrap (6 - 1) = ((6 : Nat) : Int) - 1 by decide]
  refine Eq.trans (b := f64_0 rounds (6 + 1 + (rounds - 7)) n 6 248 (((6 : Nat) : Int) - 1) (List.replicate (Int.toNat 6) 0)) rfl ?_
  rw [h, show (List.replicate (Int.toNat 6) (0 : UInt8)).drop 6 = [] from rfl, List.append_nil, hb, f64_done _ _ _ _ _ _ _ (by decide), enc_6 h0 h1, ← hf]
  have e : ((UInt8.ofNat (n / 2 ^ (8 * 5) % 256).toNat).toNat : Int) = n / 2 ^ (8 * 5) % 256 := by rw [UInt8.toNat_ofNat']; omega
  rw [e]
  generalize n / 2 ^ (8 * 5) % 256 = x at hx
  rw [wrap64 (n := x) (by omega) (by omega), wrap64 (by omega) (by omega), wrapu8]
  rw [show (248 + x) % 256 = x + 248 by omega]

theorem bytes7 (n : Int) (h0 : 4398046511104 ≤ n) (h1 : n < 562949953421312) : afun (c64 rounds) Try.f64 [.int .u64 n] [] = .ret (.own 0) [.arr 5 (.bytes (enc n))] := by
  obtain ⟨n', h⟩ := f64_run rounds (rounds - 8) 7 252 7 n (List.replicate (Int.toNat 7) 0) (by omega) (by omega) (by decide) (by decide)
  have hx : 0 ≤ n / 2 ^ (8 * 6) % 256 ∧ n / 2 ^ (8 * 6) % 256 < 2 := by omega
  have hb : be 7 n = UInt8.ofNat (n / 2 ^ (8 * 6) % 256).toNat :: be 6 n := rfl
  have hf := first6 n (by omega) h1
  have e0 : ior .u8 (n / 2 ^ (8 * 6) % 256) 252 = n / 2 ^ (8 * 6) % 256 + 252 := ior_add 2 0 (by decide) (by decide) _ hx.1 hx.2
  rw [e0] at hf
  rw [f64_eq, len9_7 h0 h1, bif_neg (by decide), bif_pos (by decide), show IntKind.i64.wrap (256 - IntKind.i64.wrap (pow2 (IntKind.i64.wrap (9 - 7)))) = 252 by decide,
    show IntKind.i64.wrap (7 - 1) = ((7 : Nat) : Int) - 1 by decide]
  refine Eq.trans (b := f64_0 rounds (7 + 1 + (rounds - 8)) n 7 252 (((7 : Nat) : Int) - 1) (List.replicate (Int.toNat 7) 0)) rfl ?_
  rw [h, show (List.replicate (Int.toNat 7) (0 : UInt8)).drop 7 = [] from rfl, List.append_nil, hb, f64_done _ _ _ _ _ _ _ (by decide), enc_7 h0 h1, ← hf]
  have e : ((UInt8.ofNat (n / 2 ^ (8 * 6) % 256).toNat).toNat : Int) = n / 2 ^ (8 * 6) % 256 := by rw [UInt8.toNat_ofNat']; omega
  rw [e]
  generalize n / 2 ^ (8 * 6) % 256 = x at hx
  rw [wrap64 (n := x) (by omega) (by omega), wrap64 (by omega) (by omega), wrapu8]
  rw [show (252 + x) % 256 = x + 252 by omega]

theorem bytes8 (n : Int) (h0 : 562949953421312 ≤ n) (h1 : n < 72057594037927936) : afun (c64 rounds) Try.f64 [.int .u64 n] [] = .ret (.own 0) [.arr 5 (.bytes (enc n))] := by
  obtain ⟨n', h⟩ := f64_run rounds (rounds - 9) 8 254 8 n (List.replicate (Int.toNat 8) 0) (by omega) (by omega) (by decide) (by decide)
  have hx : 0 ≤ n / 2 ^ (8 * 7) % 256 ∧ n / 2 ^ (8 * 7) % 256 < 1 := by omega
  have hb : be 8 n = UInt8.ofNat (n / 2 ^ (8 * 7) % 256).toNat :: be 7 n := rfl
  have hf := first7 n (by omega) h1
  have e0 : ior .u8 (n / 2 ^ (8 * 7) % 256) 254 = n / 2 ^ (8 * 7) % 256 + 254 := ior_add 1 0 (by decide) (by decide) _ hx.1 hx.2
  rw [e0] at hf
  rw [f64_eq, len9_8 h0 h1, bif_neg (by decide), bif_pos (by decide), show IntKind.i64.wrap (256 - IntKind.i64.wrap (pow2 (IntKind.i64.wrap (9 - 8)))) = 254 by decide,
    show IntKind.i64.wrap (8 - 1) = ((8 : Nat) : Int) - 1 by decide]
  refine Eq.trans (b := f64_0 rounds (8 + 1 + (rounds - 9)) n 8 254 (((8 : Nat) : Int) - 1) (List.replicate (Int.toNat 8) 0)) rfl ?_
  rw [h, show (List.replicate (Int.toNat 8) (0 : UInt8)).drop 8 = [] from rfl, List.append_nil, hb, f64_done _ _ _ _ _ _ _ (by decide), enc_8 h0 h1, ← hf]
  have e : ((UInt8.ofNat (n / 2 ^ (8 * 7) % 256).toNat).toNat : Int) = n / 2 ^ (8 * 7) % 256 := by rw [UInt8.toNat_ofNat']; omega
  rw [e]
  generalize n / 2 ^ (8 * 7) % 256 = x at hx
  rw [wrap64 (n := x) (by omega) (by omega), wrap64 (by omega) (by omega), wrapu8]
  rw [show (254 + x) % 256 = x + 254 by omega]

theorem bytes9 (n : Int) (h0 : 72057594037927936 ≤ n) (h1 : n < 18446744073709551616) : afun (c64 rounds) Try.f64 [.int .u64 n] [] = .ret (.own 1) [.arr 5 (.bytes (be 8 n)), .arr 5 (.bytes (enc n))] := by
  obtain ⟨n', h⟩ := f64_run rounds (rounds - 9) 9 0 8 n (List.replicate (Int.toNat 8) 0) (by omega) (by omega) (by decide) (by decide)
  rw [f64_eq, len9_9 h0, bif_pos (by decide), show IntKind.i64.wrap (8 - 1) = ((8 : Nat) : Int) - 1 by decide]
  refine Eq.trans (b := f64_0 rounds (8 + 1 + (rounds - 9)) n 9 0 (((8 : Nat) : Int) - 1) (List.replicate (Int.toNat 8) 0)) rfl ?_
  rw [h, show (List.replicate (Int.toNat 8) (0 : UInt8)).drop 8 = [] from rfl, List.append_nil, f64_done9 _ _ _ _ _ (by rw [be_length]; decide), enc_9 h0]

def go64 (R : Type) (stk : R) (args : List AV) (k : AV → List AObj → R) : R :=
  match args with
  | [.int .u64 n] => k (.own 0) [.arr 5 (.bytes (enc n))]
  | _ => stk

theorem ok64 : PureOk Try.prog 64 go64 := by
  refine pureOk_of (c64 rounds) tt64_ok (.cons ok91 (.cons ok90 .nil)) follows rfl Try.func64 (by kernel_rfl) (by kernel_rfl) ?_ ?_
  · intro R stk args k; unfold go64; split <;> rfl
  · intro args r objs h hr
    unfold go64 at h
    split at h
    · rename_i n
      cases h
      have hn := hasu64 hr.int
      refine ⟨_, ?_, .same⟩
      unfold apure
      by_cases h2 : n < 128
      · rw [bytes1 n (by omega) h2]; rfl
      by_cases h3 : n < 16384
      · rw [bytes2 n (by omega) h3]; rfl
      by_cases h4 : n < 2097152
      · rw [bytes3 n (by omega) h4]; rfl
      by_cases h5 : n < 268435456
      · rw [bytes4 n (by omega) h5]; rfl
      by_cases h6 : n < 34359738368
      · rw [bytes5 n (by omega) h6]; rfl
      by_cases h7 : n < 4398046511104
      · rw [bytes6 n (by omega) h7]; rfl
      by_cases h8 : n < 562949953421312
      · rw [bytes7 n (by omega) h8]; rfl
      by_cases h9 : n < 72057594037927936
      · rw [bytes8 n (by omega) h9]; rfl
      · rw [bytes9 n (by omega) hn.2]; rfl
    · cases h

end Go.Proofs.YtmkgmlgklggnlaaG
