/- A part of the proof: plain laws, and what functions of the given program come to; no condition. -/
import Derived.Test.YtmkgmlgklggnlaaGmYrec
import Derived.Test.YtmkgmlgklggnlaaGmYnote
import Derived.Test.YtmkgmlgklggnlaaGmYcrc
/-! # Bytes in frames. Plain law: no program. -/
namespace Go.Proofs.YtmkgmlgklggnlaaGm
def byteRow (b : Txt) : List AV := [.ro (.bytes b)]
def isB : List AV → Bool
  | [.ro (.bytes _)] => true
  | _ => false
def decRowB (r : List AV) : Txt := bytesOf (nth r 0)
def okB (l : List (List AV)) : Bool := l.all isB
def decB (l : List (List AV)) : List Txt := l.map decRowB
theorem okB_map (X : List Txt) : okB (X.map byteRow) = true := by
  unfold okB
  rw [List.all_eq_true]
  intro r hr
  obtain ⟨x, _, rfl⟩ := List.mem_map.1 hr
  rfl
theorem decB_map : ∀ X : List Txt, decB (X.map byteRow) = X
  | [] => rfl
  | x :: X => by rw [List.map_cons]; show decRowB (byteRow x) :: decB (X.map byteRow) = _; rw [decB_map X]; rfl
theorem isB_out {r : List AV} (h : isB r = true) : r = byteRow (decRowB r) := by
  unfold isB at h
  split at h
  · rfl
  · cases h
theorem okB_out : ∀ {l : List (List AV)}, okB l = true → l = (decB l).map byteRow
  | [], _ => rfl
  | r :: l, h => by
    have h' : (isB r && okB l) = true := h
    rw [Bool.and_eq_true] at h'
    show r :: l = byteRow (decRowB r) :: (decB l).map byteRow
    rw [← okB_out h'.2, ← isB_out h'.1]
theorem byteRow_getD (X : List Txt) (i : Nat) (h : i < X.length) : (X.map byteRow).getD i [] = byteRow (X.getD i []) := by
  simp [List.getD_eq_getElem?_getD, List.getElem?_eq_getElem h]
def szB (X : List Txt) : Nat := (X.map List.length).sum
theorem szB_cons (x : Txt) (X : List Txt) : szB (x :: X) = x.length + szB X := by simp [szB]
theorem szB_flatten : ∀ X : List Txt, X.flatten.length = szB X
  | [] => rfl
  | x :: X => by rw [List.flatten_cons, List.length_append, szB_cons, szB_flatten X]
/-- How long a frame is. -/
def sizeF (n : Int) : Int := if n < 0 ∨ 1048576 < n then 0 else len9 n + n + 4
/-- A frame. -/
def encF (d : Txt) : Txt := crcPut (enc d.length ++ d)
/-- The frame at a place: the data, the place behind, the error. -/
def getF (b : Txt) (i : Int) : Txt × Int × Int :=
  if (getV b i).2.2 ≠ 0 then ([], 0, (getV b i).2.2) else if 1048576 < (getV b i).1 then ([], 0, 5) else
  if (b.length : Int) - (getV b i).2.1 < (getV b i).1 + 4 then ([], 0, 2) else
  if crcTake (seg b i ((getV b i).2.1 + (getV b i).1 + 4)) ≠ 0 then ([], 0, 4) else
  (seg b (getV b i).2.1 ((getV b i).2.1 + (getV b i).1), (getV b i).2.1 + (getV b i).1 + 4, 0)
/-- All frames from a place on; how far they go; the error that ends them. -/
def allF (b : Txt) : Nat → Int → List Txt × Int × Int
  | 0, i => ([], i, 0)
  | d + 1, i => if i < b.length then if (getF b i).2.2 ≠ 0 then ([], i, (getF b i).2.2) else
      ((getF b i).1 :: (allF b d (getF b i).2.1).1, (allF b d (getF b i).2.1).2) else ([], i, 0)
theorem seg_cut {b : Txt} {i j : Int} (h0 : 0 ≤ i) (h1 : i + 4 ≤ j) (h2 : j ≤ b.length) : (seg b i j).take ((seg b i j).length - 4) = seg b i (j - 4) := by
  have := seg_len (l := b) h0 (show i ≤ j by omega) h2
  unfold seg at *
  rw [List.take_take]
  congr 1
  omega
theorem crcTake_seg {b : Txt} {i j : Int} (h0 : 0 ≤ i) (h1 : i + 4 ≤ j) (h2 : j ≤ b.length) : crcTake (seg b i j) = if crcPut (seg b i (j - 4)) = seg b i j then 0 else 4 := by
  have := seg_len (l := b) h0 (show i ≤ j by omega) h2
  unfold crcTake
  rw [if_neg (by omega), seg_cut h0 h1 h2]
theorem getF_ok {b : Txt} {i : Int} (h : (getF b i).2.2 = 0) : 0 ≤ i ∧ i + 5 ≤ (getF b i).2.1 ∧ (getF b i).2.1 ≤ b.length ∧ ((getF b i).1.length : Int) ≤ 1048576 := by
  unfold getF at h ⊢
  by_cases h0 : (getV b i).2.2 = 0
  · obtain ⟨g1, g2, g3, g4⟩ := getV_seg h0
    obtain ⟨_, _, _, k1, k2, _⟩ := getV_once b i h0
    rw [if_neg (fun x => x h0)] at h ⊢
    generalize (getV b i).2.1 = q at *
    generalize (getV b i).1 = n at *
    by_cases h1 : 1048576 < n
    · rw [if_pos h1] at h; cases h
    rw [if_neg h1] at h ⊢
    by_cases h2 : (b.length : Int) - q < n + 4
    · rw [if_pos h2] at h; cases h
    rw [if_neg h2] at h ⊢
    by_cases h3 : crcTake (seg b i (q + n + 4)) ≠ 0
    · rw [if_pos h3] at h; cases h
    rw [if_neg h3]
    have hl2 := seg_len (l := b) (show 0 ≤ q by omega) (show q ≤ q + n by omega) (by omega)
    dsimp only
    omega
  · rw [if_pos h0] at h; exact absurd h h0
theorem seg_mid (p x r : Txt) : seg (p ++ x ++ r) p.length (p.length + x.length) = x := by
  unfold seg
  rw [show ((p.length : Int) + (x.length : Int)).toNat - (p.length : Int).toNat = x.length by omega, Int.toNat_natCast, List.append_assoc, List.drop_left, List.take_left]
theorem crcPut_split (l : Txt) : ∃ t : Txt, t.length = 4 ∧ crcPut l = l ++ t := ⟨le4 (csum l), rfl, rfl⟩
theorem encF_split (d : Txt) : ∃ t : Txt, t.length = 4 ∧ encF d = enc d.length ++ (d ++ t) := by
  obtain ⟨t, h1, h2⟩ := crcPut_split (enc d.length ++ d)
  exact ⟨t, h1, by unfold encF; rw [h2, List.append_assoc]⟩
theorem encF_len (d : Txt) : ((encF d).length : Int) = len9 d.length + d.length + 4 := by
  unfold encF
  rw [crcPut_length, List.length_append]
  have := enc_length (d.length : Int) (by omega)
  have := len9_range (d.length : Int)
  omega
theorem getF_enc (p d r : Txt) (hd : d.length ≤ 1048576) : getF (p ++ encF d ++ r) p.length = (d, ((p ++ encF d).length : Int), 0) := by
  obtain ⟨t, ht, he⟩ := encF_split d
  have hr := len9_range (d.length : Int)
  have hL := enc_length (d.length : Int) (by omega)
  have hF := encF_len d
  have hv : getV (p ++ encF d ++ r) p.length = ((d.length : Int), p.length + len9 d.length, 0) := by
    have := getV_enc p (d ++ t ++ r) d.length (by omega) (by omega)
    rw [he]
    rw [show p ++ (enc ↑d.length ++ (d ++ t)) ++ r = p ++ enc ↑d.length ++ (d ++ t ++ r) by simp only [List.append_assoc]]
    exact this
  unfold getF
  rw [hv]
  dsimp only
  have hl : ((p ++ encF d ++ r).length : Int) = p.length + (encF d).length + r.length := by simp only [List.length_append]; omega
  rw [if_neg (fun x => x rfl), if_neg (by omega), if_neg (by omega)]
  have e1 : (p.length : Int) + len9 d.length + d.length + 4 = p.length + (encF d).length := by omega
  rw [e1, seg_mid, show crcTake (encF d) = 0 from (take_put _).1, if_neg (fun x => x rfl)]
  have e2 : seg (p ++ encF d ++ r) (p.length + len9 d.length) (p.length + len9 d.length + d.length) = d := by
    have := seg_mid (p ++ enc d.length) d (t ++ r)
    rw [he, show p ++ (enc ↑d.length ++ (d ++ t)) ++ r = p ++ enc ↑d.length ++ d ++ (t ++ r) by simp only [List.append_assoc]]
    rw [show ((p ++ enc (d.length : Int)).length : Int) = p.length + len9 d.length by rw [List.length_append]; omega] at this
    exact this
  rw [e2, show ((p ++ encF d).length : Int) = p.length + (encF d).length by rw [List.length_append]; omega]
theorem enc_first {n : Int} (h0 : 0 ≤ n) (h1 : n < 18446744073709551616) : ones8 ((enc n).getD 0 0) + 1 = len9 n := by
  have h := getV_enc [] [] n h0 h1
  rw [List.nil_append, List.append_nil, show (([] : Txt).length : Int) = 0 from rfl] at h
  have hr := len9_range n
  rcases getV_shape (enc n) 0 with e | e | e | ⟨c, L, x, hc, hL, hx, hi, hle, h4, e⟩
  · rw [e] at h; simp at h
  · rw [e] at h; simp at h
  · rw [e] at h; simp at h
  · rw [e] at h
    have := congrArg (fun z : Int × Int × Int => z.2.1) h
    dsimp only at this
    rw [show (0 : Int).toNat = 0 from rfl] at hc
    rw [hc]; omega
theorem getV_torn (p : Txt) (n : Int) (m : Nat) (h0 : 0 ≤ n) (h1 : n < 18446744073709551616) (hm : 0 < m) (hl : (m : Int) < len9 n) : getV (p ++ (enc n).take m) p.length = (0, 0, 2) := by
  have hL := enc_length n h0
  have hf := enc_first h0 h1
  have hlen : ((p ++ (enc n).take m).length : Int) = p.length + m := by rw [List.length_append, List.length_take]; omega
  have hg : (p ++ (enc n).take m).getD (p.length : Int).toNat 0 = (enc n).getD 0 0 := by
    rw [Int.toNat_natCast, List.getD_eq_getElem?_getD, List.getElem?_append_right (Nat.le_refl _), Nat.sub_self, List.getElem?_take_of_lt hm, List.getD_eq_getElem?_getD]
  unfold getV
  rw [if_neg (by omega), if_neg (by omega), hg, if_pos (by omega)]
theorem getF_torn (p d : Txt) (m : Nat) (hd : d.length ≤ 1048576) (hm : 0 < m) (hl : m < (encF d).length) : (getF (p ++ (encF d).take m) p.length).2.2 = 2 := by
  obtain ⟨t, ht, he⟩ := encF_split d
  have hr := len9_range (d.length : Int)
  have hL := enc_length (d.length : Int) (by omega)
  have hF := encF_len d
  by_cases h : (m : Int) < len9 d.length
  · have e : (encF d).take m = (enc d.length).take m := by rw [he, List.take_append_of_le_length (by omega)]
    unfold getF
    rw [e, getV_torn p _ m (by omega) (by omega) hm h, if_pos (by decide)]
  · have e : p ++ (encF d).take m = p ++ enc d.length ++ (d ++ t).take (m - (enc (d.length : Int)).length) := by
      rw [he, List.take_append, List.take_of_length_le (by omega), List.append_assoc]
    have hlen : ((p ++ (encF d).take m).length : Int) = p.length + m := by rw [List.length_append, List.length_take]; omega
    unfold getF
    rw [hlen, e, getV_enc p _ _ (by omega) (by omega)]
    dsimp only
    rw [if_neg (fun x => x rfl), if_neg (by omega), if_pos (by omega)]
/-- Frames, one behind the other. -/
def encFs (X : List Txt) : Txt := X.flatMap encF
theorem encFs_cons (x : Txt) (X : List Txt) : encFs (x :: X) = encF x ++ encFs X := by simp [encFs]
theorem encFs_app (X Y : List Txt) : encFs (X ++ Y) = encFs X ++ encFs Y := by simp [encFs]
theorem allF_frames : ∀ (X : List Txt) (p r : Txt) (d : Nat), (∀ x ∈ X, x.length ≤ 1048576) → X.length ≤ d →
    allF (p ++ encFs X ++ r) d p.length = (X ++ (allF (p ++ encFs X ++ r) (d - X.length) (p ++ encFs X).length).1, (allF (p ++ encFs X ++ r) (d - X.length) (p ++ encFs X).length).2)
  | [], p, r, d, _, _ => by
    rw [show encFs [] = [] from rfl, List.append_nil, List.length_nil, Nat.sub_zero, List.nil_append]
  | x :: X, p, r, d, h, hd => by
    rw [List.length_cons] at hd
    obtain ⟨d, rfl⟩ : ∃ m, d = m + 1 := ⟨d - 1, by omega⟩
    have hx := h x (by simp)
    have hF := encF_len x
    have hr := len9_range (x.length : Int)
    have e : p ++ encFs (x :: X) ++ r = p ++ encF x ++ (encFs X ++ r) := by rw [encFs_cons]; simp only [List.append_assoc]
    have e2 : p ++ encF x ++ (encFs X ++ r) = (p ++ encF x) ++ encFs X ++ r := by simp only [List.append_assoc]
    have e3 : p ++ encFs (x :: X) = p ++ encF x ++ encFs X := by rw [encFs_cons, List.append_assoc]
    rw [show allF (p ++ encFs (x :: X) ++ r) (d + 1) p.length = _ from rfl, allF, e, getF_enc p x _ hx]
    dsimp only
    rw [if_pos (by simp only [List.length_append]; omega), if_neg (fun x => x rfl), e2, allF_frames X (p ++ encF x) r d (fun y hy => h y (by simp [hy])) (by omega), List.length_cons, Nat.add_sub_add_right, e3]
    rfl
/-- Frames that were cut off. -/
theorem allF_torn (X : List Txt) (d : Txt) (m : Nat) (h : ∀ x ∈ X, x.length ≤ 1048576) (hd : d.length ≤ 1048576) (hm : m < (encF d).length) (k : Nat) (hk : X.length < k) :
    allF (encFs X ++ (encF d).take m) k 0 = (X, ((encFs X).length : Int), if m = 0 then 0 else 2) := by
  have := allF_frames X [] ((encF d).take m) k h (by omega)
  rw [List.nil_append, show (([] : Txt).length : Int) = 0 from rfl] at this
  rw [this]
  obtain ⟨j, hj⟩ : ∃ j, k - X.length = j + 1 := ⟨k - X.length - 1, by omega⟩
  rw [hj, allF]
  by_cases h0 : m = 0
  · subst h0
    rw [List.take_zero, List.append_nil, if_neg (by omega), if_pos rfl, List.append_nil]
  · rw [if_pos (by rw [List.length_append, List.length_take]; omega), getF_torn _ d m hd (by omega) hm, if_pos (by decide), if_neg h0, List.append_nil]
theorem allF_whole (X : List Txt) (h : ∀ x ∈ X, x.length ≤ 1048576) (k : Nat) (hk : X.length < k) : allF (encFs X) k 0 = (X, ((encFs X).length : Int), 0) := by
  have := allF_torn X [] 0 h (by simp) (by have := encF_len []; have := len9_range (([] : Txt).length : Int); omega) k hk
  rw [List.take_zero, List.append_nil, if_pos rfl] at this
  exact this
end Go.Proofs.YtmkgmlgklggnlaaGm
