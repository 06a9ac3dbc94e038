/- A part of the proof: plain laws, and what functions of the given program come to; no condition. -/
import Derived.Test.YtmkgmlgklggnlaaGmYshc
import Derived.Test.YtmkgmlgklggnlaaGmYchainf
/-! # Arrays of whole numbers as a row's arguments. Plain law: no program. -/
namespace Go.Proofs.YtmkgmlgklggnlaaGm
theorem flat_ints {k : IntKind} : ∀ {rs : List (List AV)}, (∀ x ∈ rs, Fits (.int k) x) → rs.flatten.length = rs.length ∧ rs.flatten.all (isInt k) = true
  | [], _ => ⟨rfl, rfl⟩
  | x :: rs, h => by
    obtain ⟨n, rfl⟩ := h x (by simp)
    obtain ⟨h1, h2⟩ := flat_ints (rs := rs) fun y hy => h y (by simp [hy])
    rw [List.flatten_cons, List.length_append, h1, List.all_append, h2]
    exact ⟨by simp; omega, by cases k <;> rfl⟩
theorem harr_ints (k : IntKind) {m : Nat} : ∀ n e, Sh.array m (.int k) = .array n e → ∀ r : List AV, Fits (.array m (.int k)) r → ∀ a ∈ r, scalarLeaf a = true := by
  intro n e _ r h a ha
  obtain ⟨rs, _, rfl, h2⟩ := h
  have := List.all_eq_true.1 (flat_ints h2).2 a ha
  cases a <;> first | rfl | (cases k <;> cases this)
theorem fits_arr {k : IntKind} {m : Nat} {a : AV} (h : FitsV (.array m (.int k)) a) : ∃ r : List AV, a = .arr r ∧ (r.length = m ∧ r.all (isInt k) = true) := by
  obtain ⟨r, rfl, rs, h1, rfl, h2⟩ := h
  obtain ⟨h3, h4⟩ := flat_ints h2
  exact ⟨_, rfl, by omega, h4⟩
theorem fits_sum {a : AV} (h : FitsV (.array 32 (.int .u8)) a) : ∃ r : List AV, a = .arr r ∧ (r.length = 32 ∧ r.all (isInt .u8) = true) := fits_arr h
theorem fits_block {a : AV} (h : FitsV (.array 64 (.int .u8)) a) : ∃ r : List AV, a = .arr r ∧ (r.length = 64 ∧ r.all (isInt .u8) = true) := fits_arr h
theorem fits_words {a : AV} (h : FitsV (.array 8 (.int .u32)) a) : ∃ r : List AV, a = .arr r ∧ (r.length = 8 ∧ r.all (isInt .u32) = true) := fits_arr h
/-- Sixty-four values, one by one. -/
def cells64 (f : Nat → Int) : List AV := [.int .u8 (f 0), .int .u8 (f 1), .int .u8 (f 2), .int .u8 (f 3), .int .u8 (f 4), .int .u8 (f 5), .int .u8 (f 6), .int .u8 (f 7), .int .u8 (f 8), .int .u8 (f 9), .int .u8 (f 10), .int .u8 (f 11), .int .u8 (f 12), .int .u8 (f 13), .int .u8 (f 14), .int .u8 (f 15), .int .u8 (f 16), .int .u8 (f 17), .int .u8 (f 18), .int .u8 (f 19), .int .u8 (f 20), .int .u8 (f 21), .int .u8 (f 22), .int .u8 (f 23), .int .u8 (f 24), .int .u8 (f 25), .int .u8 (f 26), .int .u8 (f 27), .int .u8 (f 28), .int .u8 (f 29), .int .u8 (f 30), .int .u8 (f 31), .int .u8 (f 32), .int .u8 (f 33), .int .u8 (f 34), .int .u8 (f 35), .int .u8 (f 36), .int .u8 (f 37), .int .u8 (f 38), .int .u8 (f 39), .int .u8 (f 40), .int .u8 (f 41), .int .u8 (f 42), .int .u8 (f 43), .int .u8 (f 44), .int .u8 (f 45), .int .u8 (f 46), .int .u8 (f 47), .int .u8 (f 48), .int .u8 (f 49), .int .u8 (f 50), .int .u8 (f 51), .int .u8 (f 52), .int .u8 (f 53), .int .u8 (f 54), .int .u8 (f 55), .int .u8 (f 56), .int .u8 (f 57), .int .u8 (f 58), .int .u8 (f 59), .int .u8 (f 60), .int .u8 (f 61), .int .u8 (f 62), .int .u8 (f 63)]
theorem cells64_eq (f : Nat → Int) : cells64 f = intsA .u8 ((List.range 64).map f) := rfl
theorem range_get (l : List Int) : (List.range l.length).map (fun i => l.getD i 0) = l := by
  apply List.ext_getElem?
  intro i
  rw [List.getElem?_map]
  by_cases h : i < l.length
  · rw [List.getElem?_range h, Option.map_some, List.getD_eq_getElem?_getD, List.getElem?_eq_getElem h]; rfl
  · rw [List.getElem?_eq_none (by rw [List.length_range]; omega), List.getElem?_eq_none (by omega)]; rfl
theorem cells64_of {r : List AV} (h : r.length = 64) (ha : r.all (isInt .u8) = true) : r = cells64 fun i => (r.map intOf).getD i 0 := by
  have e := range_get (r.map intOf)
  rw [List.length_map, h] at e
  rw [cells64_eq, e]
  exact (ints_back ha).symm
theorem bI_u8of {l : List AV} (hb : ∀ x ∈ l.map intOf, 0 ≤ x ∧ x < 256) : bI (u8of l) = l.map intOf := by
  unfold bI u8of
  rw [List.map_map]
  apply List.map_congr_left
  intro a ha
  have := hb (intOf a) (List.mem_map.2 ⟨a, ha, rfl⟩)
  show ((UInt8.ofNat (intOf a).toNat).toNat : Int) = intOf a
  rw [UInt8.toNat_ofNat']
  omega
theorem eqAs_refl : ∀ l : List AV, eqAs l l = true
  | [] => rfl
  | a :: l => by
    show (eqI (intOf a) (intOf a) && eqAs l l) = true
    rw [eqAs_refl l, eqI_iff.2 rfl]; rfl
theorem cells32_of {r : List AV} (h : r.length = 32) (ha : r.all (isInt .u8) = true) : r = cells32 fun i => (r.map intOf).getD i 0 := by
  have e := range_get (r.map intOf)
  rw [List.length_map, h] at e
  rw [cells32_eq, e]
  exact (ints_back ha).symm
theorem u8of_len (l : List AV) : (u8of l).length = l.length := List.length_map _
end Go.Proofs.YtmkgmlgklggnlaaGm
