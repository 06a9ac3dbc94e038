/- A part of the proof: plain laws, and what functions of the given program come to; no condition. -/
import Derived.Test.YtdkihlkcnnlkcaaGmYvinb
namespace Go.Proofs.YtdkihlkcnnlkcaaGm
set_option maxRecDepth 100000
/-! Rows of texts. -/
abbrev Txt := List UInt8
def okRows (n : Nat) : List (List AV) → Bool
  | [] => true
  | r :: l => Nat.beq r.length n && r.all isStr && okRows n l
def strRow (ts : List Txt) : List AV := ts.map .str
def decRow (r : List AV) : List Txt := r.map strOf
def decRows (l : List (List AV)) : List (List Txt) := l.map decRow
def szT (ts : List Txt) : Nat := (ts.map fun s => s.length + 9).sum
def longT (ts : List Txt) : Bool := ts.any fun s => Nat.blt 65536 s.length
def encTs (ts : List Txt) : List UInt8 := ts.flatMap encT
theorem decRow_str : ∀ ts : List Txt, decRow (strRow ts) = ts
  | [] => rfl
  | t :: ts => congrArg (t :: ·) (decRow_str ts)
theorem strRow_all : ∀ ts : List Txt, (strRow ts).all isStr = true
  | [] => rfl
  | _ :: ts => strRow_all ts
theorem strRow_dec : ∀ {r : List AV}, r.all isStr = true → r = strRow (decRow r)
  | [], _ => rfl
  | a :: r, h => by
    rw [List.all_cons, Bool.and_eq_true] at h
    cases a <;> simp only [isStr] at h <;> first | cases h.1 | skip
    exact congrArg (_ :: ·) (strRow_dec h.2)
theorem strRow_len (ts : List Txt) : (strRow ts).length = ts.length := List.length_map ..
theorem okRows_map {n : Nat} : ∀ {tss : List (List Txt)}, (∀ ts ∈ tss, ts.length = n) → okRows n (tss.map strRow) = true
  | [], _ => rfl
  | ts :: tss, h => by
    unfold okRows
    rw [List.map_cons]
    dsimp only
    rw [strRow_all, strRow_len, h ts (by simp), okRows_map fun t ht => h t (by simp [ht])]
    simp
theorem decRows_map : ∀ tss : List (List Txt), decRows (tss.map strRow) = tss
  | [] => rfl
  | ts :: tss => by
    unfold decRows at *
    rw [List.map_cons, List.map_cons, decRow_str]
    congr 1
    exact decRows_map tss
theorem okRows_out {n : Nat} : ∀ {l : List (List AV)}, okRows n l = true → l = (decRows l).map strRow ∧ ∀ ts ∈ decRows l, ts.length = n
  | [], _ => ⟨rfl, by simp [decRows]⟩
  | r :: l, h => by
    unfold okRows at h
    simp only [Bool.and_eq_true] at h
    obtain ⟨⟨h1, h2⟩, h3⟩ := h
    obtain ⟨e1, e2⟩ := okRows_out h3
    have er := strRow_dec h2
    refine ⟨?_, ?_⟩
    · show r :: l = strRow (decRow r) :: (decRows l).map strRow
      rw [← er, ← e1]
    · intro ts hts
      have : decRows (r :: l) = decRow r :: decRows l := rfl
      rw [this] at hts
      rcases List.mem_cons.1 hts with rfl | hts
      · unfold decRow; rw [List.length_map]; exact Nat.eq_of_beq_eq_true h1
      · exact e2 ts hts
theorem rows_getD (tss : List (List Txt)) (i : Nat) (h : i < tss.length) : (tss.map strRow).getD i [] = strRow (tss.getD i []) := by
  simp [List.getD, h]
theorem szT_cons (s : Txt) (ts : List Txt) : szT (s :: ts) = s.length + 9 + szT ts := by simp [szT]
theorem szT_app (a b : List Txt) : szT (a ++ b) = szT a + szT b := by simp [szT]
theorem encT_len (s : Txt) : (encT s).length ≤ s.length + 9 := by
  unfold encT
  have := be_len (s.length : Int)
  simp
  omega
theorem encTs_len : ∀ ts : List Txt, (encTs ts).length ≤ szT ts
  | [] => Nat.zero_le _
  | s :: ts => by
    have := encTs_len ts
    have h := encT_len s
    unfold encTs at *
    rw [List.flatMap_cons, szT_cons, List.length_append]
    omega
theorem encTs_app (a b : List Txt) : encTs (a ++ b) = encTs a ++ encTs b := by simp [encTs]
theorem longT_cons (s : Txt) (ts : List Txt) : longT (s :: ts) = (Nat.blt 65536 s.length || longT ts) := rfl
theorem longT_app (a b : List Txt) : longT (a ++ b) = (longT a || longT b) := by simp [longT]
theorem drop_getD' {α : Type} (l : List α) (i : Nat) (d : α) (h : i < l.length) : l.drop i = l.getD i d :: l.drop (i + 1) := by
  rw [List.drop_eq_getElem_cons h, List.getD, List.getElem?_eq_getElem h]; rfl
end Go.Proofs.YtdkihlkcnnlkcaaGm
