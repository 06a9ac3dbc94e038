/- A part of the proof: plain laws, and what functions of the given program come to; no condition. -/
import Derived.Test.YtdkihlkcnnlkcaaGmYrec
/-! # An input's lines and records. Plain law: no program. -/
namespace Go.Proofs.YtdkihlkcnnlkcaaGm
def spl : Txt → List Txt
  | [] => []
  | c :: r => if c = 10 then [] :: spl r else match spl r with
    | [] => [[c]]
    | l :: ls => (c :: l) :: ls
/-- Where each line begins, and what it is. -/
def recs : Nat → List Txt → List (Nat × Txt)
  | _, [] => []
  | at', l :: ls => (at', l) :: recs (at' + l.length + 1) ls
/-- The first that may not be: where it is, and why. -/
def recE : Nat → Nat → List Txt → Option (Nat × Int)
  | _, _, [] => none
  | n, at', l :: ls => if 65536 < l.length then some (at', 5) else if 65536 ≤ n then some (at', 9) else recE (n + 1) (at' + l.length + 1) ls
def recRow (x : Nat × Txt) : List AV := [.int .i64 x.1, .str x.2]
def recRows (l : List (Nat × Txt)) : List (List AV) := l.map recRow
/-- The records of an input; where it is wrong, and why. -/
def records (b : Txt) : List (Nat × Txt) × Nat × Int :=
  if 1048576 < b.length then ([], 0, 5) else match recE 0 0 (spl b) with
    | some x => ([], x.1, x.2)
    | none => (recs 0 (spl b), b.length, 0)
def idxB (l : Txt) (n : Int) : Int := match l.findIdx? (fun c => (c.toNat : Int) == n) with
  | some i => i
  | none => -1
theorem spl_found : ∀ {r : Txt} {i : Nat}, r.findIdx? (fun c => (c.toNat : Int) == 10) = some i → spl r = r.take i :: spl (r.drop (i + 1)) ∧ i < r.length
  | [], i, h => by simp at h
  | c :: r, i, h => by
    rw [List.findIdx?_cons] at h
    by_cases hc : (c.toNat : Int) = 10
    · have hc' : c = 10 := by
        have h1 : c.toNat = (10 : UInt8).toNat := by show c.toNat = 10; omega
        exact UInt8.toNat_inj.1 h1
      simp [hc] at h
      subst h
      rw [show spl (c :: r) = (if c = 10 then [] :: spl r else match spl r with | [] => [[c]] | l :: ls => (c :: l) :: ls) from rfl]
      rw [if_pos hc']
      exact ⟨rfl, by simp⟩
    · have hc' : c ≠ 10 := by rintro rfl; exact hc rfl
      simp [hc] at h
      obtain ⟨j, hj, rfl⟩ := h
      obtain ⟨h1, h2⟩ := spl_found hj
      rw [show spl (c :: r) = (if c = 10 then [] :: spl r else match spl r with | [] => [[c]] | l :: ls => (c :: l) :: ls) from rfl]
      rw [if_neg hc', h1]
      exact ⟨rfl, by simp; omega⟩
theorem spl_none : ∀ {r : Txt}, r.findIdx? (fun c => (c.toNat : Int) == 10) = none → r ≠ [] → spl r = [r]
  | [], h, h0 => absurd rfl h0
  | c :: r, h, _ => by
    rw [List.findIdx?_cons] at h
    by_cases hc : (c.toNat : Int) = 10
    · simp [hc] at h
    · have hc' : c ≠ 10 := by rintro rfl; exact hc rfl
      have hr : r.findIdx? (fun c => (c.toNat : Int) == 10) = none := by simpa [hc] using h
      rw [show spl (c :: r) = (if c = 10 then [] :: spl r else match spl r with | [] => [[c]] | l :: ls => (c :: l) :: ls) from rfl]
      rw [if_neg hc']
      by_cases h0 : r = []
      · subst h0; rfl
      · rw [spl_none hr h0]
/-! Rows of records. -/
def isRec : List AV → Bool
  | [.int .i64 _, .str _] => true
  | _ => false
def recI (x : Int × Txt) : List AV := [.int .i64 x.1, .str x.2]
def decI (r : List AV) : Int × Txt := (intOf (nth r 0), strOf (nth r 1))
def okI (l : List (List AV)) : Bool := l.all isRec
def decIs (l : List (List AV)) : List (Int × Txt) := l.map decI
theorem okI_map (X : List (Int × Txt)) : okI (X.map recI) = true := by
  unfold okI
  rw [List.all_eq_true]
  intro r hr
  obtain ⟨x, _, rfl⟩ := List.mem_map.1 hr
  rfl
theorem decIs_map : ∀ X : List (Int × Txt), decIs (X.map recI) = X
  | [] => rfl
  | x :: X => by rw [List.map_cons]; show decI (recI x) :: decIs (X.map recI) = _; rw [decIs_map X]; rfl
theorem isRec_out {r : List AV} (h : isRec r = true) : r = recI (decI r) := by
  unfold isRec at h
  split at h
  · rfl
  · cases h
theorem okI_out : ∀ {l : List (List AV)}, okI l = true → l = (decIs l).map recI
  | [], _ => rfl
  | r :: l, h => by
    have h' : (isRec r && okI l) = true := h
    rw [Bool.and_eq_true] at h'
    show r :: l = recI (decI r) :: (decIs l).map recI
    rw [← okI_out h'.2, ← isRec_out h'.1]
theorem recI_getD (X : List (Int × Txt)) (i : Nat) (h : i < X.length) : (X.map recI).getD i [] = recI (X.getD i (0, [])) := by
  simp [List.getD_eq_getElem?_getD, List.getElem?_eq_getElem h]
theorem recRows_I (l : List (Nat × Txt)) : recRows l = (l.map fun x => ((x.1 : Int), x.2)).map recI := by
  unfold recRows; rw [List.map_map]; rfl
/-- Which begins there. -/
def whichN (X : List (Int × Txt)) (n : Int) : Option Nat := X.findIdx? fun x => eqI x.1 n
def idxI (o : Option Nat) : Int := match o with
  | some i => i
  | none => -1
def zeroI (o : Option Nat) : Int := match o with
  | some i => i
  | none => 0
def hasI (l : List Int) (n : Int) : Bool := l.any fun x => eqI x n
def onlyI (X : List (Int × Txt)) (l : List Int) : List (Int × Txt) := X.filter fun x => hasI l x.1
/-- Pieces, one behind the other. -/
def pieces (n p : Int) : Nat → Int → List (Int × Int)
  | 0, _ => []
  | d + 1, j => if j < n then (j, j + min p (n - j)) :: pieces n p d (j + p) else []
def pairI (x : Int × Int) : List AV := [.int .i64 x.1, .int .i64 x.2]
def perI (n per : Int) : Int := min (max per 1) (max n 1)
theorem findIdx_drop {α : Type} (p : α → Bool) (l : List α) (j : Nat) (d : α) (h : j < l.length) : (l.drop j).findIdx? p = if p (l.getD j d) then some 0 else ((l.drop (j + 1)).findIdx? p).map (· + 1) := by
  rw [show l.drop j = l.getD j d :: l.drop (j + 1) by rw [List.getD_eq_getElem?_getD, List.getElem?_eq_getElem h]; exact (List.drop_eq_getElem_cons h), List.findIdx?_cons]
theorem find_at {b : Txt} {f j : Nat} (h1 : f ≤ j) (h2 : j < b.length) (hn : ∀ c ∈ (b.drop f).take (j - f), ¬ (c.toNat : Int) = 10) (h : ((b.getD j 0).toNat : Int) = 10) :
    (b.drop f).findIdx? (fun c => (c.toNat : Int) == 10) = some (j - f) := by
  have e : b.drop f = (b.drop f).take (j - f) ++ b.drop j := by
    have := List.take_append_drop (j - f) (b.drop f)
    rw [List.drop_drop, show f + (j - f) = j by omega] at this
    exact this.symm
  rw [e, List.findIdx?_append]
  have e1 : ((b.drop f).take (j - f)).findIdx? (fun c => (c.toNat : Int) == 10) = none := by
    rw [List.findIdx?_eq_none_iff]
    intro c hc
    simpa using hn c hc
  rw [e1, findIdx_drop _ b j 0 h2, if_pos (by simpa using h)]
  simp only [Option.none_or, Option.map_some, List.length_take, List.length_drop]
  congr 1
  omega
theorem find_not {b : Txt} (hn : ∀ c ∈ b, ¬ (c.toNat : Int) = 10) : b.findIdx? (fun c => (c.toNat : Int) == 10) = none := by
  rw [List.findIdx?_eq_none_iff]
  intro c hc
  simpa using hn c hc
theorem seg_more {b : Txt} {f j : Nat} (h1 : f ≤ j) (h2 : j < b.length) (hn : ∀ c ∈ (b.drop f).take (j - f), ¬ (c.toNat : Int) = 10) (h : ¬ ((b.getD j 0).toNat : Int) = 10) :
    ∀ c ∈ (b.drop f).take (j + 1 - f), ¬ (c.toNat : Int) = 10 := by
  rw [show j + 1 - f = (j - f) + 1 by omega, List.take_add, List.drop_drop, show f + (j - f) = j by omega]
  intro c hc
  rcases List.mem_append.1 hc with hc | hc
  · exact hn c hc
  · rw [show b.drop j = b.getD j 0 :: b.drop (j + 1) by rw [List.getD_eq_getElem?_getD, List.getElem?_eq_getElem h2]; exact (List.drop_eq_getElem_cons h2), List.take_succ_cons, List.take_zero, List.mem_singleton] at hc
    rw [hc]; exact h
theorem Real.intsLen {k : IntKind} {p : List Int} {l : List AV} (h : Real (.ro (.ints k p) :: l)) : p.length ≤ maxLen := by
  obtain ⟨w, M, vs, h⟩ := h
  cases h with | cons h _ =>
  cases h with
  | roN h0 => have : p.length = 0 := h0; rw [this]; exact Nat.zero_le _
  | ro _ _ _ _ _ _ _ hcap hm => exact Nat.le_trans hcap hm
def recsI (b : Txt) : List (Int × Txt) := (records b).1.map fun x => ((x.1 : Int), x.2)
def atI (X : List (Int × Txt)) (n : Int) : Txt := match whichN X n with
  | some i => (X.getD i (0, [])).2
  | none => []
theorem recRows_recsI (b : Txt) : recRows (records b).1 = (recsI b).map recI := recRows_I _
/-- Lines, each with its line feed. -/
def joinL (ls : List Txt) : Txt := ls.flatMap (· ++ [10])
theorem joinL_cons (l : Txt) (ls : List Txt) : joinL (l :: ls) = l ++ 10 :: joinL ls := by simp [joinL]
theorem joinL_snoc (ls : List Txt) (l : Txt) : joinL (ls ++ [l]) = joinL ls ++ l ++ [10] := by simp [joinL]
theorem spl_nil : ∀ {b : Txt}, spl b = [] → b = []
  | [], _ => rfl
  | c :: r, h => by
    unfold spl at h
    split at h
    · cases h
    · split at h <;> cases h
theorem spl_join : ∀ (b : Txt), joinL (spl b) = match b.getLast? with
    | none => []
    | some c => if c = 10 then b else b ++ [10]
  | [] => rfl
  | c :: r => by
    have ih := spl_join r
    rw [show spl (c :: r) = (if c = 10 then [] :: spl r else match spl r with | [] => [[c]] | l :: ls => (c :: l) :: ls) from rfl]
    by_cases hc : c = 10
    · rw [if_pos hc, joinL_cons, ih, List.getLast?_cons]
      cases hr : r.getLast? with
      | none => rw [List.getLast?_eq_none_iff] at hr; subst hr; subst hc; rfl
      | some x => subst hc; show 10 :: (if x = 10 then r else r ++ [10]) = (if x = 10 then _ else _); split <;> rfl
    · rw [if_neg hc, List.getLast?_cons]
      cases hs : spl r with
      | nil =>
        have := spl_nil hs
        subst this
        show joinL [[c]] = (if c = 10 then _ else _)
        rw [if_neg hc]; rfl
      | cons l ls =>
        rw [hs] at ih
        rw [show joinL ((c :: l) :: ls) = c :: joinL (l :: ls) by rw [joinL_cons, joinL_cons]; rfl, ih]
        cases hr : r.getLast? with
        | none => rw [List.getLast?_eq_none_iff] at hr; subst hr; cases hs
        | some x => show c :: (if x = 10 then r else r ++ [10]) = (if x = 10 then _ else _); split <;> rfl
theorem joinL_len (b : Txt) : (joinL (spl b)).length ≤ b.length + 1 := by
  rw [spl_join]
  split
  · simp
  · split <;> simp
theorem joinL_mem : ∀ {ls : List Txt} {l : Txt}, l ∈ ls → l.length < (joinL ls).length
  | m :: ls, l, h => by
    rw [joinL_cons, List.length_append, List.length_cons]
    rcases List.mem_cons.1 h with rfl | h
    · omega
    · have := joinL_mem h; omega
theorem joinL_count : ∀ ls : List Txt, ls.length ≤ (joinL ls).length
  | [] => by simp
  | l :: ls => by
    have := joinL_count ls
    rw [joinL_cons, List.length_append, List.length_cons, List.length_cons]; omega
theorem recE_none : ∀ (ls : List Txt) (n at' : Nat), (∀ l ∈ ls, l.length ≤ 65536) → n + ls.length ≤ 65536 → recE n at' ls = none
  | [], _, _, _, _ => rfl
  | l :: ls, n, at', h1, h2 => by
    rw [List.length_cons] at h2
    rw [recE, if_neg (by have := h1 l (by simp); omega), if_neg (by omega)]
    exact recE_none ls _ _ (fun x hx => h1 x (by simp [hx])) (by omega)
theorem records_small {b : Txt} (h : b.length ≤ 3000) : records b = (recs 0 (spl b), b.length, 0) := by
  have h1 := joinL_len b
  unfold records
  rw [if_neg (by omega), recE_none (spl b) 0 0 (fun l hl => by have := joinL_mem hl; omega) (by have := joinL_count (spl b); omega)]
theorem recs_len : ∀ (at' : Nat) (ls : List Txt), (recs at' ls).length = ls.length
  | _, [] => rfl
  | at', l :: ls => by rw [recs, List.length_cons, List.length_cons, recs_len]
theorem records_len (b : Txt) : (recRows (records b).1).length ≤ b.length + 1 := by
  unfold recRows
  rw [List.length_map]
  unfold records
  split
  · simp
  · split
    · simp
    · rw [recs_len]
      have h1 := joinL_len b
      have := joinL_count (spl b)
      omega
theorem recs_getD : ∀ (ls : List Txt) (at' j : Nat), j < ls.length → (recs at' ls).getD j (0, []) = (at' + (joinL (ls.take j)).length, ls.getD j [])
  | l :: ls, at', 0, _ => rfl
  | l :: ls, at', j + 1, h => by
    rw [List.length_cons] at h
    rw [recs, List.getD_cons_succ, recs_getD ls _ j (by omega), List.take_succ_cons, joinL_cons, List.length_append, List.length_cons, List.getD_cons_succ]
    congr 1
    omega
theorem recRows_getD (X : List (Nat × Txt)) (i : Nat) (h : i < X.length) : (recRows X).getD i [] = recRow (X.getD i (0, [])) := by
  unfold recRows
  simp [List.getD_eq_getElem?_getD, List.getElem?_eq_getElem h]
theorem last_at {b : Txt} (h : 0 < b.length) : b.getLast? = some (b.getD (b.length - 1) 0) := by
  rw [List.getLast?_eq_getElem?, List.getD_eq_getElem?_getD, List.getElem?_eq_getElem (by omega)]; rfl
theorem pieces_nil {n p : Int} {d : Nat} {j : Int} (h : n ≤ j) : pieces n p d j = [] := by
  cases d with
  | zero => rfl
  | succ d => rw [pieces, if_neg (by omega)]
theorem pieces_some {n p : Int} {d : Nat} {j : Int} (h : j < n) (hd : n ≤ j + d) : 0 < (pieces n p d j).length := by
  cases d with
  | zero => omega
  | succ d => rw [pieces, if_pos h]; simp
theorem pairI_getD (X : List (Int × Int)) (i : Nat) (h : i < X.length) : (X.map pairI).getD i [] = pairI (X.getD i (0, 0)) := by
  simp [List.getD_eq_getElem?_getD, List.getElem?_eq_getElem h]
theorem row_ints {k : IntKind} {w : World} {a : Option Addr} {len cap : Nat} {zs : List Int} (h : IsRow k w a len cap zs) : ∃ l : List Int, l.length = len ∧ RepV w (fun _ => False) [] (.ro (.ints k l)) (.slice a len cap) := by
  have hlen : len ≤ zs.length := by
    rcases h with ⟨_, h1, _, rfl⟩ | ⟨_, _, h1, _, h3, _⟩
    · simp [h1]
    · omega
  have hl : (zs.take len).length = len := by simp; omega
  have hmap : ∀ (i : Nat) (x : AV), (Pay.ints k (zs.take len) : Pay AV).cells[i]? = some x → ∃ n, zs[i]? = some n ∧ x = .int k n := by
    intro i x hx
    simp only [Pay.cells, List.getElem?_map, Option.map_eq_some_iff] at hx
    obtain ⟨n, hn, rfl⟩ := hx
    have hi : i < len := by
      rcases Nat.lt_or_ge i len with h' | h'
      · exact h'
      · rw [List.getElem?_eq_none (by simp; omega)] at hn; cases hn
    rw [List.getElem?_take_of_lt hi] at hn
    exact ⟨n, hn, rfl⟩
  have hl' : (Pay.ints k (zs.take len) : Pay AV).len = len := hl
  have hl2 : (Pay.ints k (zs.take len) : Pay AV).cells.length = len := by simpa [Pay.cells] using hl
  exact ⟨_, hl, rowInts h hl' hmap hl2 trivial rfl⟩
end Go.Proofs.YtdkihlkcnnlkcaaGm
