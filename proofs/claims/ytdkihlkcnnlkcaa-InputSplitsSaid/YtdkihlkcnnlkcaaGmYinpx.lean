/- A part of the proof: plain laws, and what functions of the given program come to; no condition. -/
import Derived.Test.YtdkihlkcnnlkcaaGm3
import Derived.Test.YtdkihlkcnnlkcaaGmYinp
import Derived.Lib.BytesEntry
namespace Go.Proofs.YtdkihlkcnnlkcaaGm
/-! The model's own entry for the search of a byte. -/
theorem cells_bytes {w : World} {M : Nat → Prop} : ∀ {l : List UInt8} {us : List Value}, RepL w M [] (Pay.cells (.bytes l)) us → us = l.map fun c => Value.int .u8 c.toNat
  | [], us, h => by cases h; rfl
  | c :: l, us, h => by
    cases h with | cons h t =>
    cases h
    rw [cells_bytes (l := l) t]
    rfl
theorem index_eq : ∀ (l : List UInt8) (c : UInt8), Lib.indexByte l c = idxB l c.toNat
  | [], c => rfl
  | b :: l, c => by
    have ih := index_eq l c
    unfold idxB at ih ⊢
    rw [List.findIdx?_cons]
    have hb : (((b.toNat : Int) == (c.toNat : Int)) = (b == c)) := by
      rw [Bool.eq_iff_iff, beq_iff_eq, beq_iff_eq]
      constructor
      · intro h; exact UInt8.toNat_inj.1 (by omega)
      · rintro rfl; rfl
    rw [hb]
    unfold Lib.indexByte
    cases hbc : b == c with
    | true => rfl
    | false =>
      simp only [Bool.false_eq_true, if_false]
      rw [ih]
      cases List.findIdx? (fun x : UInt8 => (x.toNat : Int) == (c.toNat : Int)) l with
      | none => rfl
      | some i =>
        simp
theorem run_index {P : Program} {w : World} {M : Nat → Prop} {l : List UInt8} {n : Int} {v : Value} (h : RepV w M [] (.ro (.bytes l)) v) (hn : 0 ≤ n ∧ n ≤ 255) :
    (Extern.BytealgIndexByte.indexByte #[v, .int .u8 n]).run P w = .ok (.int .i64 (idxB l n)) w := by
  have hc : (n.toNat.toUInt8.toNat : Int) = n := by
    have : n.toNat.toUInt8.toNat = n.toNat % 256 := by simp [Nat.toUInt8]
    omega
  cases h with
  | @roN _ a cap h0 hm hnn =>
    have hl : l = [] := List.eq_nil_of_length_eq_zero h0
    subst hl
    cases a with
    | none => rfl
    | some a => rfl
  | @ro _ us b base cap hl hcell hb hlt h1 hp hw hcap hm =>
    have hu := cells_bytes hl
    have := Lib.run_indexByteSlice (P := P) (w := w) b base l.length cap (l.map fun c => (c.toNat : Int)) (by simp) (fun i hi => by
      have := hcell i (.int .u8 (l.getD i 0).toNat) (by rw [hu]; simp [List.getD, List.getElem?_eq_getElem hi])
      rw [this]
      simp [List.getD, List.getElem?_eq_getElem hi]) n
    have e : Lib.bytesOf (l.map fun c => (c.toNat : Int)) = l := by
      unfold Lib.bytesOf
      rw [List.map_map]
      have : ((fun x : Int => x.toNat.toUInt8) ∘ fun c : UInt8 => (c.toNat : Int)) = id := by
        funext c; simp
      first | (rw [this, List.map_id]) | simp
    rw [e, index_eq, hc] at this
    exact this
end Go.Proofs.YtdkihlkcnnlkcaaGm
