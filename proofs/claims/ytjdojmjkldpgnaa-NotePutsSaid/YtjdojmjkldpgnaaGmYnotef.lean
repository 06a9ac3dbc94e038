/- A part of the proof: plain laws, and what functions of the given program come to; no condition. -/
import Derived.Test.YtjdojmjkldpgnaaGm3
import Derived.Test.YtjdojmjkldpgnaaGmYnote
namespace Go.Proofs.YtjdojmjkldpgnaaGm
theorem fits_note {a : AV} (h : FitsV (.struct [.int .i64, .int .i64, .int .i64, .int .i64, .slice (.int .i64), .slice (.int .u8), .slice (.int .u8)]) a) : ∃ n : NoteV, a = n.av ∧ True := by
  obtain ⟨r, rfl, h⟩ := h
  simp only [FitsAll, Fits, FitsPay] at h
  obtain ⟨_, _, rfl, ⟨k, rfl⟩, _, _, rfl, ⟨t, rfl⟩, _, _, rfl, ⟨y, rfl⟩, _, _, rfl, ⟨p, rfl⟩, _, _, rfl, ⟨_, rfl, w, rfl⟩, _, _, rfl, ⟨_, rfl, u, rfl⟩, _, _, rfl, ⟨_, rfl, v, rfl⟩, rfl⟩ := h
  exact ⟨⟨k, t, y, p, w, u, v⟩, rfl, trivial⟩
end Go.Proofs.YtjdojmjkldpgnaaGm
