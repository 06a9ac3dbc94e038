/- A part of the proof: plain laws, and what functions of the given program come to; no condition. -/
import Derived.Test.YtmkgmlgklggnlaaGmYframe
import Derived.Test.YtmkgmlgklggnlaaGm3
/-! # What an argument of frames' data is. -/
namespace Go.Proofs.YtmkgmlgklggnlaaGm
theorem rows_bytes : ∀ {l : List (List AV)}, (∀ r ∈ l, Fits (.slice (.int .u8)) r) → ∃ X : List Txt, l = X.map byteRow
  | [], _ => ⟨[], rfl⟩
  | r :: l, h => by
    obtain ⟨X, rfl⟩ := rows_bytes (l := l) fun x hx => h x (by simp [hx])
    obtain ⟨p, rfl, y, rfl⟩ := h r (by simp)
    exact ⟨y :: X, rfl⟩
theorem fits_frames {a : AV} (h : FitsV (.slice (.slice (.int .u8))) a) : ∃ X : List Txt, a = .ro (.rows 1 (X.map byteRow)) ∧ True := by
  obtain ⟨p, hp, l, rfl, hl⟩ := h
  cases hp
  obtain ⟨X, rfl⟩ := rows_bytes hl
  exact ⟨X, rfl, trivial⟩
end Go.Proofs.YtmkgmlgklggnlaaGm
