/- A part of the proof: plain laws, and what functions of the given program come to; no condition. -/
import Derived.Test.YtdkihlkcnnlkcaaGm3
import Derived.Test.YtdkihlkcnnlkcaaGmYrec
namespace Go.Proofs.YtdkihlkcnnlkcaaGm
/-! What comes from outside: texts, pairs, and lists of these. -/
theorem reach_cap {n : Nat} (h : n ≤ reachBytes) : n ≤ 140737488355328 := Nat.le_trans h (by decide)
theorem fits_txt {r : List AV} (h : Fits .str r) : ∃ s : Txt, r = strRow [s] ∧ s.length ≤ 140737488355328 := by
  simp only [Fits] at h
  obtain ⟨s, rfl, hs⟩ := h
  exact ⟨s, rfl, reach_cap hs⟩
theorem fits_two {r : List AV} (h : Fits (.struct [.str, .str]) r) : ∃ a b : Txt, r = strRow [a, b] ∧ a.length ≤ 140737488355328 ∧ b.length ≤ 140737488355328 := by
  simp only [Fits, FitsAll] at h
  obtain ⟨_, _, rfl, ⟨a, rfl, ha⟩, _, _, rfl, ⟨b, rfl, hb⟩, rfl⟩ := h
  exact ⟨a, b, rfl, reach_cap ha, reach_cap hb⟩
theorem fits_pair {a : AV} (h : FitsV (.struct [.str, .str]) a) : ∃ p : Txt × Txt, a = .agg [.str p.1, .str p.2] ∧ p.1.length ≤ 140737488355328 ∧ p.2.length ≤ 140737488355328 := by
  obtain ⟨r, rfl, h⟩ := h
  obtain ⟨a, b, rfl, h1, h2⟩ := fits_two (by simpa only [Fits] using h)
  exact ⟨(a, b), rfl, h1, h2⟩
theorem rows_fit {n : Nat} {F : List AV → Prop} (hF : ∀ r, F r → ∃ ts : List Txt, r = strRow ts ∧ ts.length = n ∧ roomT ts = true) : ∀ {l : List (List AV)}, (∀ r ∈ l, F r) → ∃ X : List (List Txt), l = X.map strRow ∧ (∀ t ∈ X, t.length = n) ∧ roomT X.flatten = true
  | [], _ => ⟨[], rfl, by simp, rfl⟩
  | r :: l, h => by
    obtain ⟨t, rfl, h1, h2⟩ := hF r (h r (by simp))
    obtain ⟨X, rfl, h3, h4⟩ := rows_fit (l := l) hF fun x hx => h x (by simp [hx])
    refine ⟨t :: X, rfl, fun u hu => ?_, ?_⟩
    · rcases List.mem_cons.1 hu with rfl | hu
      · exact h1
      · exact h3 u hu
    · unfold roomT at *
      rw [List.flatten_cons, List.all_append, h2, h4]; rfl
theorem fits_texts {a : AV} (h : FitsV (.slice .str) a) : ∃ X : List (List Txt), a = .ro (.rows 1 (X.map strRow)) ∧ (∀ t ∈ X, t.length = 1) ∧ roomT X.flatten = true := by
  obtain ⟨p, hp, l, rfl, hl⟩ := h
  cases hp
  obtain ⟨X, rfl, h1, h2⟩ := rows_fit (n := 1) (fun r hr => by
    obtain ⟨s, rfl, hs⟩ := fits_txt hr
    exact ⟨[s], rfl, rfl, by unfold roomT; simpa [ble_iff] using hs⟩) hl
  exact ⟨X, rfl, h1, h2⟩
theorem fits_pairs {a : AV} (h : FitsV (.slice (.struct [.str, .str])) a) : ∃ X : List (List Txt), a = .ro (.rows 2 (X.map strRow)) ∧ (∀ t ∈ X, t.length = 2) ∧ roomT X.flatten = true := by
  obtain ⟨p, hp, l, rfl, hl⟩ := h
  cases hp
  obtain ⟨X, rfl, h1, h2⟩ := rows_fit (n := 2) (fun r hr => by
    obtain ⟨a, b, rfl, ha, hb⟩ := fits_two hr
    exact ⟨[a, b], rfl, rfl, by unfold roomT; simp [ha, hb]⟩) hl
  exact ⟨X, rfl, h1, h2⟩
end Go.Proofs.YtdkihlkcnnlkcaaGm
