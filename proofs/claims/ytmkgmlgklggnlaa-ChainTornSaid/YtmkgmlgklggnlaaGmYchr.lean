/- A part of the proof: plain laws, and what functions of the given program come to; no condition. -/
import Derived.Test.YtmkgmlgklggnlaaGmYchain
import Derived.Test.YtmkgmlgklggnlaaGmYshb
/-! # A log's entries, as far as they are right: one function for the program's and the document's reading. -/
namespace Go.Proofs.YtmkgmlgklggnlaaGm
/-- A head, byte by byte. -/
def hdF (r : List AV) (i : Nat) : Int := intOf (nth r i)
def okH (r : List AV) : Bool := Nat.beq r.length 32 && r.all (isInt .u8)
theorem okH_cells (f : Nat → Int) : okH (cells32 f) = true := by kernel_rfl
theorem isInt_int {k : IntKind} {a : AV} (h : isInt k a = true) : AV.int k (intOf a) = a := by
  cases a <;> simp [isInt] at h
  rename_i k' n
  have : k = k' := by cases k <;> cases k' <;> first | rfl | (simp [ikEq] at h)
  rw [this]; rfl
theorem hd_list : ∀ (r : List AV), r.all (isInt .u8) = true → (List.range r.length).map (fun i => AV.int .u8 (hdF r i)) = r
  | [], _ => rfl
  | a :: r, h => by
    rw [List.all_cons, Bool.and_eq_true] at h
    have ih := hd_list r h.2
    rw [List.length_cons, List.range_succ_eq_map, List.map_cons, List.map_map]
    conv => rhs; rw [← ih]
    congr 1
    exact isInt_int h.1
theorem hd_cells {r : List AV} (h : okH r = true) : cells32 (hdF r) = r := by
  unfold okH at h
  rw [Bool.and_eq_true] at h
  have hl : r.length = 32 := Nat.eq_of_beq_eq_true h.1
  have := hd_list r h.2
  rw [hl] at this
  exact this
theorem set32 (f : Nat → Int) : setRange (List.replicate 32 (AV.int .u8 0)) 0 (cells32 f) = cells32 f := by kernel_rfl
theorem take32 (f : Nat → Int) : List.take 32 (cells32 f) = cells32 f := by kernel_rfl
/-- The head behind an entry's bytes. -/
def nxF (r : List AV) (p : Txt) : Nat → Int := shaF (u8of r ++ p)
/-- What a frame's bytes are, under a head: the entry, the head behind it, or why not. -/
def oneC (d : Txt) (r : List AV) : EntT × (Nat → Int) × Int :=
  bif ltI d.length 32 then (zeroE, hdF r, 3) else
  bif !eqI (getE (d.take (d.length - 32))).2 0 then (zeroE, hdF r, (getE (d.take (d.length - 32))).2) else
  bif !eqAs (cells32 (nxF r (d.take (d.length - 32)))) (spanB (d.drop (d.length - 32)) 0 32) then (zeroE, hdF r, 4) else
  ((getE (d.take (d.length - 32))).1, nxF r (d.take (d.length - 32)), 0)
def entRow (x : EntT) : List AV := [.int .i64 x.1, .int .i64 x.2.1, .int .i64 x.2.2.1, .int .i64 x.2.2.2.1, .ro (.rows 32 x.2.2.2.2)]
/-- The entries, the heads behind them, how far it goes, and why no further. -/
def readC (b : Txt) : Nat → Int → (Nat → Int) → List (List AV) × List (List AV) × Int × Int
  | 0, i, _ => ([], [], i, 0)
  | n + 1, i, h =>
    bif ltI i b.length then
      bif !eqI (getF b i).2.2 0 then ([], [], i, (getF b i).2.2) else
      bif !eqI (oneC (getF b i).1 (cells32 h)).2.2 0 then ([], [], i, (oneC (getF b i).1 (cells32 h)).2.2) else
      (entRow (oneC (getF b i).1 (cells32 h)).1 :: (readC b n (getF b i).2.1 (oneC (getF b i).1 (cells32 h)).2.1).1,
        cells32 (oneC (getF b i).1 (cells32 h)).2.1 :: (readC b n (getF b i).2.1 (oneC (getF b i).1 (cells32 h)).2.1).2.1, (readC b n (getF b i).2.1 (oneC (getF b i).1 (cells32 h)).2.1).2.2)
    else ([], [], i, 0)
theorem seg_small (b : Txt) (i j : Int) : (seg b i j).length ≤ b.length := by
  unfold seg
  rw [List.length_take, List.length_drop]
  omega
theorem getF_small (b : Txt) (i : Int) : (getF b i).1.length ≤ b.length := by
  unfold getF
  split
  · simp
  split
  · simp
  split
  · simp
  split
  · simp
  · exact seg_small _ _ _
/-! Rows that are entries. -/
def okE (r : List AV) : Bool := isInt .i64 (nth r 0) && (isInt .i64 (nth r 1) && (isInt .i64 (nth r 2) && (isInt .i64 (nth r 3) && (isRo (.rows 32 []) (nth r 4) && okS (rowsOf (nth r 4))))))
def okEs (x : List (List AV)) : Bool := x.all okE
theorem okE_row {x : EntT} (h : okS x.2.2.2.2 = true) : okE (entRow x) = true := h
theorem oneC_ok (d : Txt) (r : List AV) : okS (oneC d r).1.2.2.2.2 = true := by
  unfold oneC
  cases ltI d.length 32 with
  | true => rfl
  | false =>
    rw [cond_false]
    cases !eqI (getE (d.take (d.length - 32))).2 0 with
    | true => rfl
    | false =>
      rw [cond_false]
      cases !eqAs (cells32 (nxF r (d.take (d.length - 32)))) (spanB (d.drop (d.length - 32)) 0 32) with
      | true => rfl
      | false => exact getE_ok _
theorem readC_ok (b : Txt) : ∀ (n : Nat) (i : Int) (h : Nat → Int), okEs (readC b n i h).1 = true
  | 0, _, _ => rfl
  | n + 1, i, h => by
    rw [readC]
    cases ltI i b.length with
    | false => rfl
    | true =>
      rw [cond_true]
      cases !eqI (getF b i).2.2 0 with
      | true => rfl
      | false =>
        rw [cond_false]
        cases !eqI (oneC (getF b i).1 (cells32 h)).2.2 0 with
        | true => rfl
        | false =>
          rw [cond_false]
          show (okE _ && okEs _) = true
          rw [okE_row (oneC_ok _ _), readC_ok b n]
          rfl
theorem readC_heads (b : Txt) : ∀ (n : Nat) (i : Int) (h : Nat → Int), (readC b n i h).2.1.all okH = true
  | 0, _, _ => rfl
  | n + 1, i, h => by
    rw [readC]
    cases ltI i b.length with
    | false => rfl
    | true =>
      rw [cond_true]
      cases !eqI (getF b i).2.2 0 with
      | true => rfl
      | false =>
        rw [cond_false]
        cases !eqI (oneC (getF b i).1 (cells32 h)).2.2 0 with
        | true => rfl
        | false =>
          rw [cond_false]
          show (okH _ && List.all _ okH) = true
          rw [okH_cells, readC_heads b n]
          rfl
theorem readC_len (b : Txt) : ∀ (n : Nat) (i : Int) (h : Nat → Int), (readC b n i h).1.length ≤ n ∧ (readC b n i h).2.1.length ≤ n
  | 0, _, _ => ⟨Nat.le_refl _, Nat.le_refl _⟩
  | n + 1, i, h => by
    rw [readC]
    cases ltI i b.length with
    | false => exact ⟨Nat.zero_le _, Nat.zero_le _⟩
    | true =>
      rw [cond_true]
      cases !eqI (getF b i).2.2 0 with
      | true => exact ⟨Nat.zero_le _, Nat.zero_le _⟩
      | false =>
        rw [cond_false]
        cases !eqI (oneC (getF b i).1 (cells32 h)).2.2 0 with
        | true => exact ⟨Nat.zero_le _, Nat.zero_le _⟩
        | false =>
          rw [cond_false]
          obtain ⟨h1, h2⟩ := readC_len b n (getF b i).2.1 (oneC (getF b i).1 (cells32 h)).2.1
          exact ⟨by rw [List.length_cons]; omega, by rw [List.length_cons]; omega⟩
def sameRow (r q : List AV) : Bool := sameE (intOf (nth r 0)) (intOf (nth r 1)) (intOf (nth r 2)) (intOf (nth r 3)) (rowsOf (nth r 4)) (intOf (nth q 0)) (intOf (nth q 1)) (intOf (nth q 2)) (intOf (nth q 3)) (rowsOf (nth q 4))
def sameRows : List (List AV) → List (List AV) → Bool
  | [], [] => true
  | r :: x, q :: y => sameRow r q && sameRows x y
  | _, _ => false
theorem sameRows_self : ∀ (x : List (List AV)), okEs x = true → sameRows x x = true
  | [], _ => rfl
  | r :: x, h => by
    have h' : (okE r && okEs x) = true := h
    rw [Bool.and_eq_true] at h'
    have h2 := h'.1
    unfold okE at h2
    simp only [Bool.and_eq_true] at h2
    show (sameRow r r && sameRows x x) = true
    rw [sameRows_self x h'.2]
    unfold sameRow
    rw [sameE_self h2.2.2.2.2.2]
    rfl
theorem sameRows_len : ∀ {x y : List (List AV)}, sameRows x y = true → x.length = y.length
  | [], [], _ => rfl
  | [], _ :: _, h => by cases h
  | _ :: _, [], h => by cases h
  | r :: x, q :: y, h => by
    have h' : (sameRow r q && sameRows x y) = true := h
    rw [Bool.and_eq_true] at h'
    simp [sameRows_len h'.2]
theorem nth_take5 : ∀ (r : List AV) (i : Nat), i < 5 → nth (List.take 5 (List.drop 0 r)) i = nth r i
  | [], _, _ => rfl
  | [_], i, h => by match i, h with | 0, _ => rfl | 1, _ => rfl | 2, _ => rfl | 3, _ => rfl | 4, _ => rfl
  | [_, _], i, h => by match i, h with | 0, _ => rfl | 1, _ => rfl | 2, _ => rfl | 3, _ => rfl | 4, _ => rfl
  | [_, _, _], i, h => by match i, h with | 0, _ => rfl | 1, _ => rfl | 2, _ => rfl | 3, _ => rfl | 4, _ => rfl
  | [_, _, _, _], i, h => by match i, h with | 0, _ => rfl | 1, _ => rfl | 2, _ => rfl | 3, _ => rfl | 4, _ => rfl
  | _ :: _ :: _ :: _ :: _ :: _, i, h => by match i, h with | 0, _ => rfl | 1, _ => rfl | 2, _ => rfl | 3, _ => rfl | 4, _ => rfl
theorem dropC_at {α : Type} (z : α) : ∀ {x l : List α} {i : Nat} {r : α}, x.drop i = r :: l → i < x.length ∧ x.getD i z = r ∧ x.drop (i + 1) = l ∧ r ∈ x
  | [], _, _, _, h => by simp at h
  | a :: x, l, 0, r, h => by
    simp only [List.drop_zero, List.cons.injEq] at h
    obtain ⟨rfl, rfl⟩ := h
    exact ⟨by simp, rfl, rfl, by simp⟩
  | a :: x, l, i + 1, r, h => by
    obtain ⟨h1, h2, h3, h4⟩ := dropC_at z (x := x) (i := i) h
    exact ⟨by simp; omega, h2, h3, by simp [h4]⟩
end Go.Proofs.YtmkgmlgklggnlaaGm
