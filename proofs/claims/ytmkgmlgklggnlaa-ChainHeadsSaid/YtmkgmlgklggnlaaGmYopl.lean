/- A part of the proof: plain laws, and what functions of the given program come to; no condition. -/
import Derived.Test.YtmkgmlgklggnlaaGm3
/-! # How long a row's slice may be: its weight bounds it. -/
namespace Go.Proofs.YtmkgmlgklggnlaaGm
section
variable {P : Program} {w : World} {H : Type} {enc : TypeId × Value → H} {spare : Nat → Bool}
theorem slice_len {t E : TypeId} (ht : P.underlying t = some (.slice E)) {fuel : Nat} {a : Option Addr} {len cap : Nat} {x : DataW H × List MemPlace}
    (h : DataW.trod enc P w 0 spare true fuel t [.slice a len cap] = some x) (hz : Sized P t x.1) : len * P.bytesOf E ≤ reachBytes := by
  cases fuel with
  | zero => simp [DataW.trod] at h
  | succ fuel =>
    unfold DataW.trod at h
    rw [ht] at h
    split at h
    all_goals first
      | (exfalso; simp_all; done)
      | skip
    · rename_i heq
      simp_all
    · rename_i E' a' len' cap' heq heq2
      simp at heq
      simp at heq2
      obtain ⟨rfl, rfl, rfl⟩ := heq2
      subst heq
      dsimp only at h
      split at h
      · rw [Option.bind_eq_some_iff] at h
        obtain ⟨elems, hel, hx⟩ := h
        rw [Option.map_eq_some_iff] at hx
        obtain ⟨rest, _, hx⟩ := hx
        subst hx
        obtain ⟨hn, _⟩ := mapM_some' hel
        have := hz ((elems.length + rest.length) * P.bytesOf E) (by
          simp only [DataW.weights, ht, List.length_map]
          exact List.mem_cons_self)
        refine Nat.le_trans (Nat.mul_le_mul_right _ ?_) this
        simp at hn
        omega
      · cases h
/-- The bytes that a row reads of its own slice. -/
theorem row_len {t E : TypeId} (ht : P.underlying t = some (.slice E)) (hb : P.bytesOf E = 1) {a : Option Addr} {len cap : Nat} {d : DataW H} {ps : List MemPlace}
    (h : DataW.Trod enc P w 0 spare true t (.slice a len cap) d ps) (hz : Sized P t d) : len ≤ reachBytes := by
  obtain ⟨fuel, h⟩ := h
  have h' : DataW.trod enc P w 0 spare true fuel t [.slice a len cap] = some (d, ps) := by simpa [Value.cells] using h
  have := slice_len (x := (d, ps)) ht h' hz
  rw [hb, Nat.mul_one] at this
  exact this
end
end Go.Proofs.YtmkgmlgklggnlaaGm
