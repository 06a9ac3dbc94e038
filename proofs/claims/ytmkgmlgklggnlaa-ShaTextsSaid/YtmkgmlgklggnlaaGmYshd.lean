/- A part of the proof: plain laws, and what functions of the given program come to; no condition. -/
import Derived.Test.YtmkgmlgklggnlaaGmYshc
import Derived.Test.YtmkgmlgklggnlaaGmYchainf
/-! # Arrays of whole numbers as a row's arguments. Plain law: no program. -/
namespace Go.Proofs.YtmkgmlgklggnlaaGm
theorem flat_ints {k : IntKind} : ∀ {rs : List (List AV)}, (∀ x ∈ rs, Fits (.int k) x) → rs.flatten.length = rs.length ∧ rs.flatten.all (isInt k) = true
  | [], _ => ⟨rfl, rfl⟩
  | x :: rs, h => by
    obtain ⟨n, rfl⟩ := h x (by simp)
    obtain ⟨h1, h2⟩ := flat_ints (rs := rs) fun y hy => h y (by simp [hy])
    rw [List.flatten_cons, List.length_append, h1, List.all_append, h2]
    exact ⟨by simp; omega, by cases k <;> rfl⟩
theorem harr_ints (k : IntKind) {m : Nat} : ∀ n e, Sh.array m (.int k) = .array n e → ∀ r : List AV, Fits (.array m (.int k)) r → ∀ a ∈ r, scalarLeaf a = true := by
  intro n e _ r h a ha
  obtain ⟨rs, _, rfl, h2⟩ := h
  have := List.all_eq_true.1 (flat_ints h2).2 a ha
  cases a <;> first | rfl | (cases k <;> cases this)
theorem fits_arr {k : IntKind} {m : Nat} {a : AV} (h : FitsV (.array m (.int k)) a) : ∃ r : List AV, a = .arr r ∧ (r.length = m ∧ r.all (isInt k) = true) := by
  obtain ⟨r, rfl, rs, h1, rfl, h2⟩ := h
  obtain ⟨h3, h4⟩ := flat_ints h2
  exact ⟨_, rfl, by omega, h4⟩
theorem fits_sum {a : AV} (h : FitsV (.array 32 (.int .u8)) a) : ∃ r : List AV, a = .arr r ∧ (r.length = 32 ∧ r.all (isInt .u8) = true) := fits_arr h
theorem fits_block {a : AV} (h : FitsV (.array 64 (.int .u8)) a) : ∃ r : List AV, a = .arr r ∧ (r.length = 64 ∧ r.all (isInt .u8) = true) := fits_arr h
theorem fits_words {a : AV} (h : FitsV (.array 8 (.int .u32)) a) : ∃ r : List AV, a = .arr r ∧ (r.length = 8 ∧ r.all (isInt .u32) = true) := fits_arr h
end Go.Proofs.YtmkgmlgklggnlaaGm
