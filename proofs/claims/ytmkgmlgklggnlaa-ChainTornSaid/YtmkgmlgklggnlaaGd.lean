/- A part of the proof: plain laws, and what functions of the given program come to; no condition. -/
import Derived.Test.YtmkgmlgklggnlaaGc
namespace Go.Proofs.YtmkgmlgklggnlaaG
open Go Go.Proofs.YtmkgmlgklggnlaaGm
set_option maxRecDepth 100000

theorem put1 (l : List UInt8) (n : Int) (h0 : 0 ≤ n) (h1 : n < 128) (hl : l.length + 9 ≤ 140737488355328) : afun (c81 rounds) Try.f81 [.ro (.bytes l), .int .u64 n] [] = .ret (.own 0) [.arr 5 (.bytes (l ++ enc n))] := by
  rw [f81_eq, bif_pos (by rw [fits5]; omega), len9_1 h0 h1, bif_neg (by decide), bif_neg (by decide), show ishl .u8 255 (IntKind.i64.wrap (9 - 1)) = 0 by decide,
    show rounds = 0 + 2 + (rounds - 2) from rfl]
  have := f81_first rounds (rounds - 2) 0 n 0 (by decide) l (by omega)
  rw [first0 n (by omega) h1] at this
  rw [enc_1 h0 h1]
  exact this

theorem put2 (l : List UInt8) (n : Int) (h0 : 128 ≤ n) (h1 : n < 16384) (hl : l.length + 9 ≤ 140737488355328) : afun (c81 rounds) Try.f81 [.ro (.bytes l), .int .u64 n] [] = .ret (.own 0) [.arr 5 (.bytes (l ++ enc n))] := by
  rw [f81_eq, bif_pos (by rw [fits5]; omega), len9_2 h0 h1, bif_neg (by decide), bif_neg (by decide), show ishl .u8 255 (IntKind.i64.wrap (9 - 2)) = 128 by decide,
    show rounds = 1 + 2 + (rounds - 3) from rfl]
  have := f81_first rounds (rounds - 3) 1 n 128 (by decide) l (by omega)
  rw [first1 n (by omega) h1] at this
  rw [enc_2 h0 h1]
  exact this

theorem put3 (l : List UInt8) (n : Int) (h0 : 16384 ≤ n) (h1 : n < 2097152) (hl : l.length + 9 ≤ 140737488355328) : afun (c81 rounds) Try.f81 [.ro (.bytes l), .int .u64 n] [] = .ret (.own 0) [.arr 5 (.bytes (l ++ enc n))] := by
  rw [f81_eq, bif_pos (by rw [fits5]; omega), len9_3 h0 h1, bif_neg (by decide), bif_neg (by decide), show ishl .u8 255 (IntKind.i64.wrap (9 - 3)) = 192 by decide,
    show rounds = 2 + 2 + (rounds - 4) from rfl]
  have := f81_first rounds (rounds - 4) 2 n 192 (by decide) l (by omega)
  rw [first2 n (by omega) h1] at this
  rw [enc_3 h0 h1]
  exact this

theorem put4 (l : List UInt8) (n : Int) (h0 : 2097152 ≤ n) (h1 : n < 268435456) (hl : l.length + 9 ≤ 140737488355328) : afun (c81 rounds) Try.f81 [.ro (.bytes l), .int .u64 n] [] = .ret (.own 0) [.arr 5 (.bytes (l ++ enc n))] := by
  rw [f81_eq, bif_pos (by rw [fits5]; omega), len9_4 h0 h1, bif_neg (by decide), bif_neg (by decide), show ishl .u8 255 (IntKind.i64.wrap (9 - 4)) = 224 by decide,
    show rounds = 3 + 2 + (rounds - 5) from rfl]
  have := f81_first rounds (rounds - 5) 3 n 224 (by decide) l (by omega)
  rw [first3 n (by omega) h1] at this
  rw [enc_4 h0 h1]
  exact this

theorem put5 (l : List UInt8) (n : Int) (h0 : 268435456 ≤ n) (h1 : n < 34359738368) (hl : l.length + 9 ≤ 140737488355328) : afun (c81 rounds) Try.f81 [.ro (.bytes l), .int .u64 n] [] = .ret (.own 0) [.arr 5 (.bytes (l ++ enc n))] := by
  rw [f81_eq, bif_pos (by rw [fits5]; omega), len9_5 h0 h1, bif_neg (by decide), bif_neg (by decide), show ishl .u8 255 (IntKind.i64.wrap (9 - 5)) = 240 by decide,
    show rounds = 4 + 2 + (rounds - 6) from rfl]
  have := f81_first rounds (rounds - 6) 4 n 240 (by decide) l (by omega)
  rw [first4 n (by omega) h1] at this
  rw [enc_5 h0 h1]
  exact this

theorem put6 (l : List UInt8) (n : Int) (h0 : 34359738368 ≤ n) (h1 : n < 4398046511104) (hl : l.length + 9 ≤ 140737488355328) : afun (c81 rounds) Try.f81 [.ro (.bytes l), .int .u64 n] [] = .ret (.own 0) [.arr 5 (.bytes (l ++ enc n))] := by
  rw [f81_eq, bif_pos (by rw [fits5]; omega), len9_6 h0 h1, bif_neg (by decide), bif_neg (by decide), show ishl .u8 255 (IntKind.i64.wrap (9 - 6)) = 248 by decide,
    show rounds = 5 + 2 + (rounds - 7) from rfl]
  have := f81_first rounds (rounds - 7) 5 n 248 (by decide) l (by omega)
  rw [first5 n (by omega) h1] at this
  rw [enc_6 h0 h1]
  exact this

theorem put7 (l : List UInt8) (n : Int) (h0 : 4398046511104 ≤ n) (h1 : n < 562949953421312) (hl : l.length + 9 ≤ 140737488355328) : afun (c81 rounds) Try.f81 [.ro (.bytes l), .int .u64 n] [] = .ret (.own 0) [.arr 5 (.bytes (l ++ enc n))] := by
  rw [f81_eq, bif_pos (by rw [fits5]; omega), len9_7 h0 h1, bif_neg (by decide), bif_neg (by decide), show ishl .u8 255 (IntKind.i64.wrap (9 - 7)) = 252 by decide,
    show rounds = 6 + 2 + (rounds - 8) from rfl]
  have := f81_first rounds (rounds - 8) 6 n 252 (by decide) l (by omega)
  rw [first6 n (by omega) h1] at this
  rw [enc_7 h0 h1]
  exact this

theorem put8 (l : List UInt8) (n : Int) (h0 : 562949953421312 ≤ n) (h1 : n < 72057594037927936) (hl : l.length + 9 ≤ 140737488355328) : afun (c81 rounds) Try.f81 [.ro (.bytes l), .int .u64 n] [] = .ret (.own 0) [.arr 5 (.bytes (l ++ enc n))] := by
  rw [f81_eq, bif_pos (by rw [fits5]; omega), len9_8 h0 h1, bif_neg (by decide), bif_neg (by decide), show ishl .u8 255 (IntKind.i64.wrap (9 - 8)) = 254 by decide,
    show rounds = 7 + 2 + (rounds - 9) from rfl]
  have := f81_first rounds (rounds - 9) 7 n 254 (by decide) l (by omega)
  rw [first7 n (by omega) h1] at this
  rw [enc_8 h0 h1]
  exact this

theorem put9 (l : List UInt8) (n : Int) (h0 : 72057594037927936 ≤ n) (_h1 : n < 18446744073709551616) (hl : l.length + 9 ≤ 140737488355328) : afun (c81 rounds) Try.f81 [.ro (.bytes l), .int .u64 n] [] = .ret (.own 0) [.arr 5 (.bytes (l ++ enc n))] := by
  rw [f81_eq, bif_pos (by rw [fits5]; omega), len9_9 h0, bif_neg (by decide), bif_pos (by decide), one_set _ _ rfl, bif_pos (by rw [fits5]; simp; omega),
    show rounds = 7 + 2 + (rounds - 9) from rfl]
  have := f81_first rounds (rounds - 9) 7 n 0 (by decide) (l ++ [255]) (by simp; omega)
  have e : ior .u8 (n / 2 ^ (8 * 7) % 256) 0 = n / 2 ^ (8 * 7) % 256 := by
    unfold ior
    have hx : 0 ≤ n / 2 ^ (8 * 7) % 256 ∧ n / 2 ^ (8 * 7) % 256 < 256 := by omega
    generalize n / 2 ^ (8 * 7) % 256 = x at hx
    rw [show (BitVec.ofInt IntKind.u8.bits 0) = 0#_ from rfl, BitVec.or_zero, wrapu8, BitVec.toNat_ofInt]
    simp [IntKind.bits]; omega
  rw [e] at this
  rw [enc_9 h0]
  refine this.trans ?_
  simp [be]
/-- What Put puts. -/
def go81 (R : Type) (stk : R) (args : List AV) (k : AV → List AObj → R) : R :=
  match args with
  | [.ro (.bytes l), .int .u64 n] => bif Nat.ble (l.length + 9) 140737488355328 then k (.own 0) [.arr 5 (.bytes (l ++ enc n))] else stk
  | [.nil, .int .u64 n] => k (.own 0) [.arr 5 (.bytes (enc n))]
  | _ => stk
theorem put (l : List UInt8) (n : Int) (h0 : 0 ≤ n) (h1 : n < 18446744073709551616) (hl : l.length + 9 ≤ 140737488355328) : afun (c81 rounds) Try.f81 [.ro (.bytes l), .int .u64 n] [] = .ret (.own 0) [.arr 5 (.bytes (l ++ enc n))] := by
  by_cases h2 : n < 128
  · exact put1 l n (by omega) h2 hl
  by_cases h3 : n < 16384
  · exact put2 l n (by omega) h3 hl
  by_cases h4 : n < 2097152
  · exact put3 l n (by omega) h4 hl
  by_cases h5 : n < 268435456
  · exact put4 l n (by omega) h5 hl
  by_cases h6 : n < 34359738368
  · exact put5 l n (by omega) h6 hl
  by_cases h7 : n < 4398046511104
  · exact put6 l n (by omega) h7 hl
  by_cases h8 : n < 562949953421312
  · exact put7 l n (by omega) h8 hl
  by_cases h9 : n < 72057594037927936
  · exact put8 l n (by omega) h9 hl
  exact put9 l n (by omega) h1 hl

end Go.Proofs.YtmkgmlgklggnlaaG
