/- A part of the proof: plain laws, and what functions of the given program come to; no condition. -/
import Derived.Test.YtjdojmjkldpgnaaDoorGmYfold
import Derived.Test.YtjdojmjkldpgnaaDoorGmYitoa
import Derived.Test.YtjdojmjkldpgnaaDoorGm3
/-! # Items, as rows that are read; the numeral of a number by its digits. -/
namespace Go.Proofs.YtjdojmjkldpgnaaDoorGm
def okItem (r : List AV) : Bool := isStr (nth r 0) && (isRo (.rows 4 []) (nth r 1) && (isRo (.ints .i64 []) (nth r 2) && (rowsOf (nth r 1)).all fun q => isStr (nth q 2)))
def okItems (x : List (List AV)) : Bool := x.all okItem
theorem fits_items {a : AV} (h : FitsV (.slice (.struct [.str, .slice (.struct shPart), .slice (.int .i64)])) a) : ∃ x : List (List AV), a = .ro (.rows 3 x) ∧ okItems x = true := by
  obtain ⟨p, hp, l, rfl, hl⟩ := h
  cases hp
  refine ⟨l, rfl, ?_⟩
  unfold okItems
  rw [List.all_eq_true]
  intro r hr
  have := hl r hr
  simp only [Fits, FitsAll] at this
  obtain ⟨_, _, rfl, ⟨s, rfl, hs⟩, _, _, rfl, ⟨p, rfl, hp⟩, _, _, rfl, ⟨q, rfl, hq⟩, rfl⟩ := this
  obtain ⟨x, rfl, hx⟩ := hp
  obtain ⟨y, rfl⟩ := hq
  unfold okItem
  refine Bool.and_eq_true _ _ ▸ ⟨rfl, ?_⟩
  refine Bool.and_eq_true _ _ ▸ ⟨rfl, ?_⟩
  refine Bool.and_eq_true _ _ ▸ ⟨rfl, ?_⟩
  rw [List.all_eq_true]
  intro q hq
  have := hx q hq
  obtain ⟨a, b, rfl, h1, c, d, rfl, h2, h3⟩ := this
  obtain ⟨_, _, rfl, ⟨p, rfl⟩, _, _, rfl, ⟨n, rfl⟩, _, _, rfl, ⟨s, rfl, hs⟩, rfl⟩ := h1
  rfl
theorem drop_at {α : Type} (z : α) : ∀ {x l : List α} {i : Nat} {r : α}, x.drop i = r :: l → i < x.length ∧ x.getD i z = r ∧ x.drop (i + 1) = l ∧ r ∈ x
  | [], _, _, _, h => by simp at h
  | a :: x, l, 0, r, h => by
    simp only [List.drop_zero, List.cons.injEq] at h
    obtain ⟨rfl, rfl⟩ := h
    exact ⟨by simp, rfl, rfl, by simp⟩
  | a :: x, l, i + 1, r, h => by
    obtain ⟨h1, h2, h3, h4⟩ := drop_at z (x := x) (i := i) h
    exact ⟨by simp; omega, h2, h3, by simp [h4]⟩
theorem drop_end {α : Type} {x : List α} {i : Nat} (h : x.drop i = []) : x.length ≤ i := by simpa using h
theorem nth_take3 : ∀ (r : List AV) (i : Nat), i < 3 → nth (List.take 3 (List.drop 0 r)) i = nth r i
  | [], _, _ => rfl
  | [_], 0, _ => rfl
  | [_], 1, _ => rfl
  | [_], 2, _ => rfl
  | [_, _], 0, _ => rfl
  | [_, _], 1, _ => rfl
  | [_, _], 2, _ => rfl
  | _ :: _ :: _ :: _, 0, _ => rfl
  | _ :: _ :: _ :: _, 1, _ => rfl
  | _ :: _ :: _ :: _, 2, _ => rfl
  | _, n + 3, h => by omega
/-- The letters of the values of parts, the first three hundred. -/
def partsR : Int → Nat → List (List AV) → Int
  | n, _, [] => n
  | n, j, q :: qs => bif ltI j 300 then partsR (IntKind.i64.wrap (n + ((strOf (nth q 2)).length : Int))) (j + 1) qs else n
def itemN (n : Int) (r : List AV) : Int := IntKind.i64.wrap (IntKind.i64.wrap (IntKind.i64.wrap (n + ((strOf (nth r 0)).length : Int)) + IntKind.i64.wrap (4 * ((intsOf (nth r 2)).length : Int))) + IntKind.i64.wrap (4 * ((rowsOf (nth r 1)).length : Int)))
/-- Are these items too much? -/
def muchR (m : Nat) : Int → Nat → List (List AV) → Bool
  | _, _, [] => ltI 60 m
  | n, i, r :: l => bif ltI i 60 then (bif ltI 1500 (partsR (itemN n r) 0 (rowsOf (nth r 1))) then true else muchR m (partsR (itemN n r) 0 (rowsOf (nth r 1))) (i + 1) l) else ltI 60 m
theorem muchR_few (m : Nat) : ∀ (l : List (List AV)) (n : Int) (i : Nat), muchR m n i l = false → m ≤ 60
  | [], n, i, h => by
    rcases Nat.lt_or_ge 60 m with h' | h'
    · rw [muchR, ltI_iff.2 (by omega)] at h; cases h
    · exact h'
  | r :: l, n, i, h => by
    rw [muchR] at h
    rcases bif_alt h with ⟨_, h⟩ | ⟨_, h⟩
    · rcases bif_alt h with ⟨_, h⟩ | ⟨_, h⟩
      · cases h
      · exact muchR_few m l _ _ h
    · rcases Nat.lt_or_ge 60 m with h' | h'
      · rw [ltI_iff.2 (by omega)] at h; cases h
      · exact h'
def keysR (x : List (List AV)) : List (List AV) := x.map fun r => [.str (strOf (nth r 0))]
theorem keysR_at (x : List (List AV)) (i : Nat) (h : i < x.length) : (keysR x).getD i [] = [.str (strOf (nth (x.getD i []) 0))] := by
  unfold keysR
  rw [List.getD_eq_getElem?_getD, List.getElem?_map, List.getD_eq_getElem?_getD, List.getElem?_eq_getElem h]
  rfl
/-! Digits. -/
theorem digit_at : ∀ d : Nat, d < 10 → (bif true then List.take ((IntKind.i64.wrap ((d : Int) + 1)).toNat - (d : Int).toNat) (List.drop (d : Int).toNat (ByteArray.mk #[48, 49, 50, 51, 52, 53, 54, 55, 56, 57]).data.toList) else List.drop (d : Int).toNat (ByteArray.mk #[48, 49, 50, 51, 52, 53, 54, 55, 56, 57]).data.toList) = [UInt8.ofNat (48 + d)] ∧
    (leI 0 (d : Int) && leI (d : Int) (IntKind.i64.wrap ((d : Int) + 1)) && leI (IntKind.i64.wrap ((d : Int) + 1)) ((ByteArray.mk #[48, 49, 50, 51, 52, 53, 54, 55, 56, 57]).data.toList.length : Int)) = true := by decide +kernel
theorem rem_quo (x : Int) : (irem x 10 = ((x.natAbs % 10 : Nat) : Int) ∨ (irem x 10 = -((x.natAbs % 10 : Nat) : Int) ∧ 0 < x.natAbs % 10)) ∧ (x.tdiv 10).natAbs = x.natAbs / 10 := by
  obtain ⟨m, rfl | rfl⟩ := x.eq_nat_or_neg
  · refine ⟨.inl ?_, ?_⟩
    · rw [irem_eq (by omega)]; simp
    · rw [Int.tdiv_eq_ediv_of_nonneg (by omega)]; omega
  · unfold irem
    rw [Int.neg_tmod, Int.neg_tdiv, Int.natAbs_neg, Int.natAbs_neg, Int.tmod_eq_emod_of_nonneg (by omega), Int.tdiv_eq_ediv_of_nonneg (by omega)]
    refine ⟨?_, by omega⟩
    rcases Nat.eq_zero_or_pos (m % 10) with h | h
    · exact .inl (by simp only [Int.natAbs_natCast]; omega)
    · exact .inr ⟨by simp only [Int.natAbs_natCast]; omega, by simpa using h⟩
end Go.Proofs.YtjdojmjkldpgnaaDoorGm
