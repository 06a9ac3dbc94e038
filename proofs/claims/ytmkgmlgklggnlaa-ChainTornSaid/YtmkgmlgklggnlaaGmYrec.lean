/- A part of the proof: plain laws, and what functions of the given program come to; no condition. -/
import Derived.Test.YtmkgmlgklggnlaaGmYvinb
import Derived.Test.YtmkgmlgklggnlaaGmYval
namespace Go.Proofs.YtmkgmlgklggnlaaGm
set_option maxRecDepth 100000
/-! Rows of texts. -/
abbrev Txt := List UInt8
def okRows (n : Nat) : List (List AV) → Bool
  | [] => true
  | r :: l => Nat.beq r.length n && r.all isStr && okRows n l
def strRow (ts : List Txt) : List AV := ts.map .str
def decRow (r : List AV) : List Txt := r.map strOf
def decRows (l : List (List AV)) : List (List Txt) := l.map decRow
def szT (ts : List Txt) : Nat := (ts.map fun s => s.length + 9).sum
def longT (ts : List Txt) : Bool := ts.any fun s => Nat.blt 65536 s.length
def encTs (ts : List Txt) : List UInt8 := ts.flatMap encT
theorem decRow_str : ∀ ts : List Txt, decRow (strRow ts) = ts
  | [] => rfl
  | t :: ts => congrArg (t :: ·) (decRow_str ts)
theorem strRow_all : ∀ ts : List Txt, (strRow ts).all isStr = true
  | [] => rfl
  | _ :: ts => strRow_all ts
theorem strRow_dec : ∀ {r : List AV}, r.all isStr = true → r = strRow (decRow r)
  | [], _ => rfl
  | a :: r, h => by
    rw [List.all_cons, Bool.and_eq_true] at h
    cases a <;> simp only [isStr] at h <;> first | cases h.1 | skip
    exact congrArg (_ :: ·) (strRow_dec h.2)
theorem strRow_len (ts : List Txt) : (strRow ts).length = ts.length := List.length_map ..
theorem okRows_map {n : Nat} : ∀ {tss : List (List Txt)}, (∀ ts ∈ tss, ts.length = n) → okRows n (tss.map strRow) = true
  | [], _ => rfl
  | ts :: tss, h => by
    unfold okRows
    rw [List.map_cons]
    dsimp only
    rw [strRow_all, strRow_len, h ts (by simp), okRows_map fun t ht => h t (by simp [ht])]
    simp
theorem decRows_map : ∀ tss : List (List Txt), decRows (tss.map strRow) = tss
  | [] => rfl
  | ts :: tss => by
    unfold decRows at *
    rw [List.map_cons, List.map_cons, decRow_str]
    congr 1
    exact decRows_map tss
theorem okRows_out {n : Nat} : ∀ {l : List (List AV)}, okRows n l = true → l = (decRows l).map strRow ∧ ∀ ts ∈ decRows l, ts.length = n
  | [], _ => ⟨rfl, by simp [decRows]⟩
  | r :: l, h => by
    unfold okRows at h
    simp only [Bool.and_eq_true] at h
    obtain ⟨⟨h1, h2⟩, h3⟩ := h
    obtain ⟨e1, e2⟩ := okRows_out h3
    have er := strRow_dec h2
    refine ⟨?_, ?_⟩
    · show r :: l = strRow (decRow r) :: (decRows l).map strRow
      rw [← er, ← e1]
    · intro ts hts
      have : decRows (r :: l) = decRow r :: decRows l := rfl
      rw [this] at hts
      rcases List.mem_cons.1 hts with rfl | hts
      · unfold decRow; rw [List.length_map]; exact Nat.eq_of_beq_eq_true h1
      · exact e2 ts hts
theorem rows_getD (tss : List (List Txt)) (i : Nat) (h : i < tss.length) : (tss.map strRow).getD i [] = strRow (tss.getD i []) := by
  simp [List.getD, h]
theorem szT_cons (s : Txt) (ts : List Txt) : szT (s :: ts) = s.length + 9 + szT ts := by simp [szT]
theorem szT_app (a b : List Txt) : szT (a ++ b) = szT a + szT b := by simp [szT]
theorem encT_len (s : Txt) : (encT s).length ≤ s.length + 9 := by
  unfold encT
  have := be_len (s.length : Int)
  simp
  omega
theorem encTs_len : ∀ ts : List Txt, (encTs ts).length ≤ szT ts
  | [] => Nat.zero_le _
  | s :: ts => by
    have := encTs_len ts
    have h := encT_len s
    unfold encTs at *
    rw [List.flatMap_cons, szT_cons, List.length_append]
    omega
theorem encTs_app (a b : List Txt) : encTs (a ++ b) = encTs a ++ encTs b := by simp [encTs]
theorem longT_cons (s : Txt) (ts : List Txt) : longT (s :: ts) = (Nat.blt 65536 s.length || longT ts) := rfl
theorem longT_app (a b : List Txt) : longT (a ++ b) = (longT a || longT b) := by simp [longT]
theorem drop_getD' {α : Type} (l : List α) (i : Nat) (d : α) (h : i < l.length) : l.drop i = l.getD i d :: l.drop (i + 1) := by
  rw [List.drop_eq_getElem_cons h, List.getD, List.getElem?_eq_getElem h]; rfl
/-- The text in a row of one. -/
def txtAt (l : List (List AV)) (i : Nat) : Txt := strOf (nth (l.getD i []) 0)
/-- So many texts, one behind the other. -/
def getTs (b : Txt) : Nat → Int → List Txt × Int × Int
  | 0, i => ([], i, 0)
  | n + 1, i =>
    if (getT b i 65536).2.2 ≠ 0 then ([], 0, (getT b i 65536).2.2)
    else if (getTs b n (getT b i 65536).2.1).2.2 ≠ 0 then ([], 0, (getTs b n (getT b i 65536).2.1).2.2)
    else ((getT b i 65536).1 :: (getTs b n (getT b i 65536).2.1).1, (getTs b n (getT b i 65536).2.1).2.1, 0)
/-- A list of items of so many texts each. -/
def getL (b : Txt) (i : Int) (by' : Nat) : List Txt × Int × Int :=
  if (getV b i).2.2 ≠ 0 then ([], 0, (getV b i).2.2) else if 65536 < (getV b i).1 then ([], 0, 9) else getTs b ((getV b i).1.toNat * by') (getV b i).2.1
def oneR (ts : List Txt) : List (List AV) := ts.map fun s => [.str s]
def pairR : List Txt → List (List AV)
  | a :: b :: r => [.str a, .str b] :: pairR r
  | _ => []
theorem oneR_ok : ∀ ts : List Txt, okRows 1 (oneR ts) = true
  | [] => rfl
  | _ :: ts => by
    show (true && true && okRows 1 (oneR ts)) = true
    rw [oneR_ok ts]; rfl
theorem oneR_dec : ∀ ts : List Txt, (decRows (oneR ts)).flatten = ts
  | [] => rfl
  | t :: ts => congrArg (t :: ·) (oneR_dec ts)
theorem oneR_strRow (ts : List Txt) : oneR ts = (ts.map fun s => [s]).map strRow := by
  unfold oneR
  rw [List.map_map]
  rfl
theorem getTs_len (b : Txt) : ∀ (n : Nat) (i : Int), (getTs b n i).2.2 = 0 → (getTs b n i).1.length = n
  | 0, _, _ => rfl
  | n + 1, i, h => by
    unfold getTs at h ⊢
    by_cases h1 : (getT b i 65536).2.2 = 0
    · rw [if_neg fun x => x h1] at h ⊢
      by_cases h2 : (getTs b n (getT b i 65536).2.1).2.2 = 0
      · rw [if_neg fun x => x h2, List.length_cons, getTs_len b n _ h2]
      · rw [if_pos h2] at h; exact absurd h h2
    · rw [if_pos h1] at h; exact absurd h h1
theorem getTs_bad (b : Txt) : ∀ (n : Nat) (i : Int), (getTs b n i).2.2 ≠ 0 → (getTs b n i).1 = [] ∧ (getTs b n i).2.1 = 0
  | 0, _, h => absurd rfl h
  | n + 1, i, h => by
    unfold getTs at h ⊢
    by_cases h1 : (getT b i 65536).2.2 = 0
    · rw [if_neg fun x => x h1] at h ⊢
      by_cases h2 : (getTs b n (getT b i 65536).2.1).2.2 = 0
      · rw [if_neg fun x => x h2] at h; exact absurd rfl h
      · rw [if_pos h2]; exact ⟨rfl, rfl⟩
    · rw [if_pos h1]; exact ⟨rfl, rfl⟩
theorem getTs_stop {b : Txt} {n : Nat} {i : Int} (h : (getT b i 65536).2.2 ≠ 0) : getTs b (n + 1) i = ([], 0, (getT b i 65536).2.2) := by
  unfold getTs; rw [if_pos h]
theorem getTs_go {b : Txt} {n : Nat} {i : Int} (h : (getT b i 65536).2.2 = 0) : getTs b (n + 1) i = if (getTs b n (getT b i 65536).2.1).2.2 ≠ 0 then ([], 0, (getTs b n (getT b i 65536).2.1).2.2)
    else ((getT b i 65536).1 :: (getTs b n (getT b i 65536).2.1).1, (getTs b n (getT b i 65536).2.1).2.1, 0) := by
  conv => lhs; unfold getTs
  rw [if_neg fun x => x h]
/-! ### Orders -/
def orL : List Int → Int
  | [] => 0
  | a :: l => if a ≠ 0 then a else orL l
def ordP (a b c d : Txt) : Int := if cmpB a c ≠ 0 then cmpB a c else cmpB b d
theorem ordP_swap (a b c d : Txt) : ordP c d a b = - ordP a b c d := by
  unfold ordP
  rw [cmpB_swap a c, cmpB_swap b d]
  by_cases h : cmpB a c = 0
  · simp [h]
  · rw [if_pos h, if_pos (by omega)]
theorem ordP_range (a b c d : Txt) : -1 ≤ ordP a b c d ∧ ordP a b c d ≤ 1 := by
  unfold ordP
  have h1 := cmpB_range a c
  have h2 := cmpB_range b d
  split <;> omega
def chainB {α : Type} (R : α → α → Bool) : List α → Bool
  | a :: b :: r => R a b && chainB R (b :: r)
  | _ => true
theorem chainB_snoc {α : Type} (R : α → α → Bool) (y x : α) : ∀ l : List α, chainB R (l ++ [y, x]) = (chainB R (l ++ [y]) && R y x)
  | [] => by simp [chainB]
  | [a] => by simp [chainB]
  | a :: b :: r => by
    have := chainB_snoc R y x (b :: r)
    simp only [List.cons_append] at this ⊢
    unfold chainB
    rw [this, Bool.and_assoc]
theorem chainB_mono {α : Type} {R Q : α → α → Bool} (h : ∀ a b, R a b = true → Q a b = true) : ∀ l : List α, chainB R l = true → chainB Q l = true
  | [], _ => rfl
  | [_], _ => rfl
  | a :: b :: r, hl => by
    unfold chainB at hl ⊢
    rw [Bool.and_eq_true] at hl ⊢
    exact ⟨h _ _ hl.1, chainB_mono h (b :: r) hl.2⟩
def txt0 (ts : List Txt) : Txt := ts.getD 0 []
def txt1 (ts : List Txt) : Txt := ts.getD 1 []
def lessK (a b : List Txt) : Bool := lessB (txt0 a) (txt0 b)
def notDown (a b : List Txt) : Bool := !ltI (ordP (txt0 b) (txt1 b) (txt0 a) (txt1 a)) 0
theorem lessK_notDown (a b : List Txt) (h : lessK a b = true) : notDown a b = true := by
  unfold lessK at h
  rw [lessB_iff, decide_eq_true_eq] at h
  have h1 := cmpB_swap (txt0 a) (txt0 b)
  unfold notDown ordP
  rw [if_pos (by omega), Bool.not_eq_true', Bool.eq_false_iff, Ne, ltI_iff]
  omega
/-! ### Too long -/
def longF : List Nat → Int → Int → Bool
  | [], j, _ => decide (200 < j)
  | s :: r, j, n => if 200 ≤ j then true else if 3000 < n + s then true else longF r (j + 1) (n + s)
def lens (tss : List (List Txt)) : List Nat := tss.map fun ts => (ts.map List.length).sum
def roomT (ts : List Txt) : Bool := ts.all fun s => Nat.ble s.length 140737488355328
theorem longF_out : ∀ (ls : List Nat) (j n : Int), longF ls j n = false → j ≤ 200 → j + ls.length ≤ 200 ∧ (n ≤ 3000 → n + ls.sum ≤ 3000)
  | [], j, n, h, hj => by simp at *; omega
  | s :: r, j, n, h, hj => by
    unfold longF at h
    split at h
    · cases h
    · split at h
      · cases h
      · have := longF_out r (j + 1) (n + s) h (by omega)
        simp only [List.length_cons, List.sum_cons]
        omega
theorem lens_szT : ∀ (tss : List (List Txt)) (k : Nat), (∀ ts ∈ tss, ts.length = k) → szT tss.flatten = (lens tss).sum + 9 * (k * tss.length)
  | [], k, _ => rfl
  | ts :: tss, k, h => by
    have ih := lens_szT tss k fun t ht => h t (by simp [ht])
    have hk := h ts (by simp)
    have key : ∀ l : List Txt, szT l = (l.map List.length).sum + 9 * l.length := by
      intro l
      induction l with
      | nil => rfl
      | cons a l ih => rw [szT_cons, ih]; simp; omega
    rw [List.flatten_cons, szT_app, ih, key ts]
    simp only [lens, List.map_cons, List.sum_cons, List.length_cons, hk]
    rw [Nat.mul_add]
    omega
/-! ### What was got is the bytes that it was got from -/
def seg (l : Txt) (i j : Int) : Txt := (l.drop i.toNat).take (j.toNat - i.toNat)
theorem seg_app {l : Txt} {i j k : Int} (h0 : 0 ≤ i) (h1 : i ≤ j) (h2 : j ≤ k) : seg l i j ++ seg l j k = seg l i k := by
  unfold seg
  have e : l.drop j.toNat = (l.drop i.toNat).drop (j.toNat - i.toNat) := by rw [List.drop_drop]; congr 1; omega
  rw [e, show k.toNat - i.toNat = (j.toNat - i.toNat) + (k.toNat - j.toNat) by omega, List.take_add]
theorem seg_len {l : Txt} {i j : Int} (h0 : 0 ≤ i) (h1 : i ≤ j) (h2 : j ≤ l.length) : ((seg l i j).length : Int) = j - i := by
  unfold seg
  rw [List.length_take, List.length_drop]
  omega
theorem getV_seg {l : Txt} {i : Int} (h : (getV l i).2.2 = 0) : 0 ≤ i ∧ i < (getV l i).2.1 ∧ (getV l i).2.1 ≤ l.length ∧ enc (getV l i).1 = seg l i (getV l i).2.1 := by
  obtain ⟨h1, h2, h3, h4, h5, h6⟩ := getV_once l i h
  have hr := len9_range (getV l i).1
  refine ⟨h1, by omega, h3, ?_⟩
  rw [h6]
  unfold seg
  congr 1
  omega
theorem getT_seg {l : Txt} {i m : Int} (h : (getT l i m).2.2 = 0) : 0 ≤ i ∧ i < (getT l i m).2.1 ∧ (getT l i m).2.1 ≤ l.length ∧ ((getT l i m).1.length : Int) ≤ m ∧ encT (getT l i m).1 = seg l i (getT l i m).2.1 := by
  unfold getT at h ⊢
  by_cases h1 : (getV l i).2.2 = 0
  · rw [if_neg fun x => x h1] at h ⊢
    by_cases h2 : m < 0 ∨ m < (getV l i).1
    · rw [if_pos h2] at h; cases h
    · rw [if_neg h2] at h ⊢
      by_cases h3 : (l.length : Int) - (getV l i).2.1 < (getV l i).1
      · rw [if_pos h3] at h; cases h
      · rw [if_neg h3]
        obtain ⟨g1, g2, g3, g4⟩ := getV_seg h1
        have hf := getV_fits l i
        dsimp only
        have hlen : (((l.drop (getV l i).2.1.toNat).take (getV l i).1.toNat).length : Int) = (getV l i).1 := by rw [List.length_take, List.length_drop]; omega
        refine ⟨g1, by omega, by omega, by omega, ?_⟩
        unfold encT
        rw [hlen, g4, ← seg_app (i := i) (j := (getV l i).2.1) (k := (getV l i).2.1 + (getV l i).1) g1 (by omega) (by omega)]
        congr 1
        unfold seg
        congr 1
        omega
  · rw [if_pos h1] at h; exact absurd h h1
theorem getTs_seg (l : Txt) : ∀ (n : Nat) (i : Int), 0 ≤ i → i ≤ l.length → (getTs l n i).2.2 = 0 → i ≤ (getTs l n i).2.1 ∧ (getTs l n i).2.1 ≤ l.length ∧ (∀ s ∈ (getTs l n i).1, s.length ≤ 65536) ∧ encTs (getTs l n i).1 = seg l i (getTs l n i).2.1
  | 0, i, h0, h1, _ => by
    refine ⟨Int.le_refl _, h1, by simp [getTs], ?_⟩
    simp [getTs, encTs, seg]
  | n + 1, i, h0, h1, h => by
    by_cases e1 : (getT l i 65536).2.2 = 0
    · rw [getTs_go e1] at h ⊢
      by_cases e2 : (getTs l n (getT l i 65536).2.1).2.2 = 0
      · rw [if_neg fun x => x e2]
        obtain ⟨g1, g2, g3, g4, g5⟩ := getT_seg e1
        obtain ⟨k1, k2, k3, k4⟩ := getTs_seg l n _ (by omega) g3 e2
        dsimp only
        refine ⟨by omega, k2, ?_, ?_⟩
        · intro s hs
          rcases List.mem_cons.1 hs with rfl | hs
          · omega
          · exact k3 s hs
        · rw [show encTs ((getT l i 65536).1 :: (getTs l n (getT l i 65536).2.1).1) = encT (getT l i 65536).1 ++ encTs (getTs l n (getT l i 65536).2.1).1 by simp [encTs], g5, k4]
          exact seg_app g1 (by omega) k1
      · rw [if_pos e2] at h; exact absurd h e2
    · rw [getTs_stop e1] at h; exact absurd h e1
theorem getL_seg {l : Txt} {i : Int} {n : Nat} (h : (getL l i n).2.2 = 0) : 0 ≤ i ∧ i ≤ (getL l i n).2.1 ∧ (getL l i n).2.1 ≤ l.length ∧ 0 ≤ (getV l i).1 ∧ (getV l i).1 ≤ 65536 ∧ (getL l i n).1.length = (getV l i).1.toNat * n ∧ (∀ s ∈ (getL l i n).1, s.length ≤ 65536) ∧
    enc (getV l i).1 ++ encTs (getL l i n).1 = seg l i (getL l i n).2.1 := by
  unfold getL at h ⊢
  by_cases h1 : (getV l i).2.2 = 0
  · rw [if_neg fun x => x h1] at h ⊢
    by_cases h2 : 65536 < (getV l i).1
    · rw [if_pos h2] at h; cases h
    · rw [if_neg h2] at h ⊢
      obtain ⟨g1, g2, g3, g4⟩ := getV_seg h1
      have hf := getV_fits l i
      obtain ⟨k1, k2, k3, k4⟩ := getTs_seg l _ _ (by omega) g3 h
      refine ⟨g1, by omega, k2, hf.1, by omega, getTs_len l _ _ h, k3, ?_⟩
      rw [g4, k4]
      exact seg_app g1 (by omega) k1
  · rw [if_pos h1] at h; exact absurd h h1
theorem szT_encTs : ∀ ts : List Txt, szT ts ≤ (encTs ts).length + 8 * ts.length
  | [] => Nat.zero_le _
  | s :: ts => by
    have ih := szT_encTs ts
    have he : 1 ≤ (enc (s.length : Int)).length := by rw [enc_length _ (by omega)]; have := len9_range (s.length : Int); omega
    rw [szT_cons, show encTs (s :: ts) = encT s ++ encTs ts by simp [encTs], List.length_append, List.length_cons]
    have : (encT s).length = (enc (s.length : Int)).length + s.length := by simp [encT]
    omega
theorem pairR_rows : ∀ ts : List Txt, ∃ X : List (List Txt), pairR ts = X.map strRow ∧ ∀ t ∈ X, t.length = 2
  | [] => ⟨[], rfl, by simp⟩
  | [_] => ⟨[], rfl, by simp⟩
  | a :: b :: r => by
    obtain ⟨X, e, h⟩ := pairR_rows r
    refine ⟨[a, b] :: X, ?_, ?_⟩
    · show [AV.str a, AV.str b] :: pairR r = strRow [a, b] :: X.map strRow
      rw [e]; rfl
    · intro t ht
      rcases List.mem_cons.1 ht with rfl | ht
      · rfl
      · exact h t ht
theorem pairR_ok (ts : List Txt) : okRows 2 (pairR ts) = true := by
  obtain ⟨X, e, h⟩ := pairR_rows ts
  rw [e]; exact okRows_map h
theorem longT_no {ts : List Txt} (h : ∀ s ∈ ts, s.length ≤ 65536) : longT ts = false := by
  unfold longT
  rw [List.any_eq_false]
  intro s hs
  rw [blt_iff]
  exact Nat.not_lt.2 (h s hs)
/-! ### What was put is got again -/
theorem getTs_enc (r : Txt) : ∀ (ts : List Txt) (p : Txt), (∀ s ∈ ts, s.length ≤ 65536) → getTs (p ++ encTs ts ++ r) ts.length p.length = (ts, ((p ++ encTs ts).length : Int), 0)
  | [], p, _ => by simp [getTs, encTs]
  | s :: ts, p, h => by
    have hs := h s (by simp)
    have e1 := getT_enc p s (encTs ts ++ r) 65536 (by omega) (by omega)
    have e0 : p ++ encTs (s :: ts) ++ r = p ++ encT s ++ (encTs ts ++ r) := by simp [encTs]
    have ih := getTs_enc r ts (p ++ encT s) fun t ht => h t (by simp [ht])
    rw [show p ++ encT s ++ encTs ts ++ r = p ++ encT s ++ (encTs ts ++ r) by simp] at ih
    rw [e0, List.length_cons, getTs_go (by rw [e1]), e1]
    dsimp only
    rw [show ((p.length + (encT s).length : Nat) : Int) = ((p ++ encT s).length : Int) by simp, ih, if_neg (by simp)]
    have e2 : p ++ encTs (s :: ts) = p ++ encT s ++ encTs ts := by simp [encTs]
    rw [e2]
theorem getL_enc (p r : Txt) (n by' : Nat) (ts : List Txt) (hn : n ≤ 65536) (hl : ts.length = n * by') (h : ∀ s ∈ ts, s.length ≤ 65536) :
    getL (p ++ (enc n ++ encTs ts) ++ r) p.length by' = (ts, ((p ++ (enc n ++ encTs ts)).length : Int), 0) := by
  have e1 := getV_enc p (encTs ts ++ r) n (by omega) (by omega)
  rw [show p ++ enc n ++ (encTs ts ++ r) = p ++ (enc n ++ encTs ts) ++ r by simp] at e1
  have e2 := getTs_enc r ts (p ++ enc n) h
  rw [show p ++ enc n ++ encTs ts ++ r = p ++ (enc n ++ encTs ts) ++ r by simp, hl] at e2
  have he : ((p ++ enc (n : Int)).length : Int) = p.length + len9 n := by rw [List.length_append, Int.natCast_add, enc_length _ (by omega)]; have := len9_range (n : Int); omega
  unfold getL
  rw [e1]
  dsimp only
  rw [if_neg (by simp), if_neg (by omega), ← he, Int.toNat_natCast, e2]
  simp
theorem oneR_flat : ∀ {X : List (List Txt)}, (∀ t ∈ X, t.length = 1) → decRows (oneR X.flatten) = X
  | [], _ => rfl
  | t :: X, h => by
    have ih := oneR_flat (X := X) fun u hu => h u (by simp [hu])
    obtain ⟨s, rfl⟩ := List.length_eq_one_iff.1 (h t (by simp))
    show [s] :: decRows (oneR X.flatten) = _
    rw [ih]
theorem pairR_flat : ∀ {X : List (List Txt)}, (∀ t ∈ X, t.length = 2) → decRows (pairR X.flatten) = X
  | [], _ => rfl
  | t :: X, h => by
    have ih := pairR_flat (X := X) fun u hu => h u (by simp [hu])
    have ht := h t (by simp)
    obtain ⟨a, b, rfl⟩ : ∃ a b, t = [a, b] := by match t, ht with | [a, b], _ => exact ⟨a, b, rfl⟩
    show [a, b] :: decRows (pairR X.flatten) = _
    rw [ih]
theorem flat_len {n : Nat} : ∀ {X : List (List Txt)}, (∀ t ∈ X, t.length = n) → X.flatten.length = X.length * n
  | [], _ => by simp
  | t :: X, h => by
    rw [List.flatten_cons, List.length_append, flat_len fun u hu => h u (by simp [hu]), h t (by simp), List.length_cons, Nat.add_mul]; omega
theorem sum_mem {n : Nat} {l : List Nat} (h : n ∈ l) : n ≤ l.sum := by
  induction l with
  | nil => cases h
  | cons a l ih =>
    rcases List.mem_cons.1 h with rfl | h
    · simp
    · have := ih h; simp; omega
theorem lens_short {X : List (List Txt)} {m : Nat} (h : (lens X).sum ≤ m) : ∀ s ∈ X.flatten, s.length ≤ m := by
  intro s hs
  obtain ⟨t, ht, hst⟩ := List.mem_flatten.1 hs
  have h1 : s.length ≤ (t.map List.length).sum := sum_mem (List.mem_map.2 ⟨s, hst, rfl⟩)
  have h2 : (t.map List.length).sum ≤ (lens X).sum := sum_mem (List.mem_map.2 ⟨t, ht, rfl⟩)
  omega
end Go.Proofs.YtmkgmlgklggnlaaGm
