/- A part of the proof: plain laws, and what functions of the given program come to; no condition. -/
import Derived.Test.YtmkgmlgklggnlaaGmYchr
/-! # What was added to a log is read back, as far as it is whole. -/
namespace Go.Proofs.YtmkgmlgklggnlaaGm
set_option maxRecDepth 100000
theorem shaF_byte (t : List UInt8) (i : Nat) : 0 ≤ shaF t i ∧ shaF t i < 256 := by
  unfold shaF outF
  exact ⟨Int.emod_nonneg _ (by decide), Int.emod_lt_of_pos _ (by decide)⟩
/-- A head as bytes. -/
def hdB (f : Nat → Int) : Txt := u8of (cells32 f)
theorem hdB_eq (f : Nat → Int) : hdB f = (List.range 32).map fun i => UInt8.ofNat (f i).toNat := by kernel_rfl
theorem hdB_len (f : Nat → Int) : (hdB f).length = 32 := by rw [hdB_eq, List.length_map, List.length_range]
theorem span_hdB (f : Nat → Int) (h : ∀ i, 0 ≤ f i ∧ f i < 256) : spanB (hdB f) 0 32 = cells32 f := by
  rw [cells32_eq]
  unfold spanB intsA
  rw [List.map_map]
  refine List.map_congr_left fun i hi => ?_
  have hi : i < 32 := List.mem_range.1 hi
  have e : (hdB f).getD (0 + i) 0 = UInt8.ofNat (f i).toNat := by
    rw [hdB_eq, Nat.zero_add, List.getD_eq_getElem?_getD, List.getElem?_map, List.getElem?_range hi]
    rfl
  have e2 : (((hdB f).getD (0 + i) 0).toNat : Int) = f i := by
    rw [e]
    have := h i
    rw [UInt8.toNat_ofNat']
    omega
  show AV.int .u8 (((hdB f).getD (0 + i) 0).toNat : Int) = AV.int .u8 (f i)
  rw [e2]
theorem eqAs_same (f : Nat → Int) : eqAs (cells32 f) (cells32 f) = true := by
  rw [cells32_eq]
  exact (eqAs_iff (intsA_is .u8 _) (intsA_is .u8 _) rfl).2 rfl
/-- A row that may be added: an entry that is right. -/
def rightR (r : List AV) : Bool := rightE (intOf (nth r 0)) (intOf (nth r 1)) (intOf (nth r 2)) (intOf (nth r 3)) (rowsOf (nth r 4)).length
def encR (r : List AV) : Txt := encE (intOf (nth r 0)) (intOf (nth r 1)) (intOf (nth r 2)) (intOf (nth r 3)) (rowsOf (nth r 4))
def entR (r : List AV) : EntT := (intOf (nth r 0), intOf (nth r 1), intOf (nth r 2), intOf (nth r 3), rowsOf (nth r 4))
def Bytes32 (r : List AV) : Prop := ∀ q ∈ rowsOf (nth r 4), ∀ x ∈ q, ∃ n : Int, x = .int .u8 n ∧ 0 ≤ n ∧ n ≤ 255
/-- What may be kept. -/
def Fine (r : List AV) : Prop := okE r = true ∧ rightR r = true ∧ Bytes32 r
def nextR (h : Nat → Int) (r : List AV) : Nat → Int := nxF (cells32 h) (encR r)
def datR (h : Nat → Int) (r : List AV) : Txt := encR r ++ hdB (nextR h r)
def frR (h : Nat → Int) (r : List AV) : Txt := encF (datR h r)
theorem okE_sums {r : List AV} (h : okE r = true) : okS (rowsOf (nth r 4)) = true := by
  unfold okE at h
  simp only [Bool.and_eq_true] at h
  exact h.2.2.2.2.2
theorem encR_len {r : List AV} (h : Fine r) : (encR r).length ≤ 200 := by
  obtain ⟨h1, h2, _⟩ := h
  unfold rightR at h2
  have hl : (rowsOf (nth r 4)).length ≤ 2 := by
    have := rightE_iff.1 h2
    unfold RightE at this
    omega
  have hs := sumsB_len (okE_sums h1)
  have he := encN_len [intOf (nth r 0), intOf (nth r 1), intOf (nth r 2), intOf (nth r 3)]
  rw [show [intOf (nth r 0), intOf (nth r 1), intOf (nth r 2), intOf (nth r 3)].length = 4 from rfl] at he
  unfold encR encE
  rw [List.length_append]
  omega
theorem getE_R {r : List AV} (h : Fine r) : getE (encR r) = (entR r, 0) := getE_enc h.2.1 (okE_sums h.1) h.2.2
theorem datR_len (h : Nat → Int) (r : List AV) : (datR h r).length = (encR r).length + 32 := by
  unfold datR
  rw [List.length_append, hdB_len]
theorem frR_len (h : Nat → Int) {r : List AV} (hr : Fine r) : 5 ≤ (frR h r).length ∧ (frR h r).length ≤ 300 := by
  have h1 := encF_len (datR h r)
  have h2 := len9_range ((datR h r).length : Int)
  have h3 := datR_len h r
  have h4 := encR_len hr
  unfold frR
  omega
theorem one_R (h : Nat → Int) {r : List AV} (hr : Fine r) : oneC (datR h r) (cells32 h) = (entR r, nextR h r, 0) := by
  have hl := datR_len h r
  have e1 : (datR h r).take ((datR h r).length - 32) = encR r := by
    rw [hl, Nat.add_sub_cancel]
    exact List.take_left' rfl
  have e2 : (datR h r).drop ((datR h r).length - 32) = hdB (nextR h r) := by
    rw [hl, Nat.add_sub_cancel]
    exact List.drop_left' rfl
  unfold oneC
  rw [bif_neg (by rw [ltI_iff]; omega), e1, e2, getE_R hr, bif_neg (by simp [eqI]), span_hdB (nextR h r) (fun i => shaF_byte (u8of (cells32 h) ++ encR r) i)]
  rw [bif_neg (by rw [Bool.not_eq_true', Bool.not_eq_false]; exact eqAs_same _)]
  rfl
def logB : (Nat → Int) → List (List AV) → Txt
  | _, [] => []
  | h, r :: K => frR h r ++ logB (nextR h r) K
def headA : (Nat → Int) → List (List AV) → (Nat → Int)
  | h, [] => h
  | h, r :: K => headA (nextR h r) K
def endsL : Nat → (Nat → Int) → List (List AV) → List Int
  | _, _, [] => []
  | p, h, r :: K => ((p + (frR h r).length : Nat) : Int) :: endsL (p + (frR h r).length) (nextR h r) K
theorem logB_nil (h : Nat → Int) : logB h [] = [] := by rw [logB]
theorem logB_cons (h : Nat → Int) (r : List AV) (K : List (List AV)) : logB h (r :: K) = frR h r ++ logB (nextR h r) K := by rw [logB]
theorem headA_nil (h : Nat → Int) : headA h [] = h := by rw [headA]
theorem headA_cons (h : Nat → Int) (r : List AV) (K : List (List AV)) : headA h (r :: K) = headA (nextR h r) K := by rw [headA]
theorem endsL_cons (p : Nat) (h : Nat → Int) (r : List AV) (K : List (List AV)) : endsL p h (r :: K) = ((p + (frR h r).length : Nat) : Int) :: endsL (p + (frR h r).length) (nextR h r) K := by rw [endsL]
theorem endsL_nil (p : Nat) (h : Nat → Int) : endsL p h [] = [] := by rw [endsL]
theorem logB_snoc : ∀ (K : List (List AV)) (h : Nat → Int) (r : List AV), logB h (K ++ [r]) = logB h K ++ frR (headA h K) r
  | [], h, r => by rw [List.nil_append, logB_cons, logB_nil, logB_nil, headA_nil, List.append_nil, List.nil_append]
  | a :: K, h, r => by rw [List.cons_append, logB_cons, logB_cons, headA_cons, logB_snoc K, List.append_assoc]
theorem headA_snoc : ∀ (K : List (List AV)) (h : Nat → Int) (r : List AV), headA h (K ++ [r]) = nextR (headA h K) r
  | [], h, r => by rw [List.nil_append, headA_cons, headA_nil, headA_nil]
  | a :: K, h, r => by rw [List.cons_append, headA_cons, headA_cons, headA_snoc K]
theorem endsL_snoc : ∀ (K : List (List AV)) (p : Nat) (h : Nat → Int) (r : List AV), endsL p h (K ++ [r]) = endsL p h K ++ [((p + (logB h K ++ frR (headA h K) r).length : Nat) : Int)]
  | [], p, h, r => by rw [List.nil_append, endsL_cons, endsL_nil, endsL_nil, logB_nil, headA_nil, List.nil_append, List.nil_append]
  | a :: K, p, h, r => by
    rw [List.cons_append, endsL_cons, endsL_cons, endsL_snoc K, logB_cons, headA_cons, List.cons_append]
    congr 3
    simp only [List.length_append]
    congr 1
    omega
theorem endsL_len : ∀ (K : List (List AV)) (p : Nat) (h : Nat → Int), (endsL p h K).length = K.length
  | [], _, _ => by rw [endsL_nil]; rfl
  | a :: K, p, h => by rw [endsL_cons, List.length_cons, endsL_len K, List.length_cons]
theorem endsL_at : ∀ (K : List (List AV)) (p : Nat) (h : Nat → Int) (i : Nat), i < K.length → (endsL p h K).getD i 0 = ((p + (logB h (K.take (i + 1))).length : Nat) : Int)
  | [], p, h, i, hi => by simp at hi
  | a :: K, p, h, 0, _ => by
    rw [endsL_cons, List.take_succ_cons, List.take_zero, logB_cons, logB_nil, List.append_nil]
    exact List.getD_cons_zero ..
  | a :: K, p, h, i + 1, hi => by
    have := endsL_at K (p + (frR h a).length) (nextR h a) i (by simpa using hi)
    rw [endsL_cons, List.take_succ_cons, logB_cons, List.getD_cons_succ, this, List.length_append]
    congr 1
    omega
theorem logB_take : ∀ (K : List (List AV)) (h : Nat → Int) (w : Nat), w < K.length → ∃ q, logB h K = logB h (K.take w) ++ (frR (headA h (K.take w)) (K.getD w []) ++ q)
  | [], h, w, hw => by simp at hw
  | a :: K, h, 0, _ => ⟨logB (nextR h a) K, by rw [List.take_zero, logB_nil, headA_nil, List.nil_append, logB_cons]; rfl⟩
  | a :: K, h, w + 1, hw => by
    obtain ⟨q, hq⟩ := logB_take K (nextR h a) w (by simpa using hw)
    refine ⟨q, ?_⟩
    rw [List.take_succ_cons, logB_cons, logB_cons, headA_cons, hq, List.append_assoc, List.getD_cons_succ]
theorem logB_len : ∀ (K : List (List AV)) (h : Nat → Int), (∀ r ∈ K, Fine r) → 5 * K.length ≤ (logB h K).length ∧ (logB h K).length ≤ 300 * K.length
  | [], h, _ => by rw [logB_nil]; exact ⟨Nat.le_refl _, Nat.le_refl _⟩
  | a :: K, h, hf => by
    have h1 := frR_len h (hf a (by simp))
    have h2 := logB_len K (nextR h a) fun r hr => hf r (by simp [hr])
    rw [logB_cons, List.length_append, List.length_cons]
    omega
/-- The entries of whole frames are read, and what is behind them is gone on with. -/
theorem read_log : ∀ (K : List (List AV)) (p t : Txt) (n : Nat) (h : Nat → Int), (∀ r ∈ K, Fine r) →
    ∃ H, readC (p ++ logB h K ++ t) (n + K.length) (p.length : Int) h =
      (K.map (fun r => entRow (entR r)) ++ (readC (p ++ logB h K ++ t) n ((p ++ logB h K).length : Int) (headA h K)).1, H, (readC (p ++ logB h K ++ t) n ((p ++ logB h K).length : Int) (headA h K)).2.2)
  | [], p, t, n, h, _ => ⟨(readC (p ++ t) n (p.length : Int) h).2.1, by
    rw [logB_nil, headA_nil, List.append_nil, List.map_nil, List.nil_append]
    rfl⟩
  | a :: K, p, t, n, h, hf => by
    have ha := hf a (by simp)
    have hl := frR_len h ha
    have e0 : p ++ logB h (a :: K) ++ t = p ++ frR h a ++ (logB (nextR h a) K ++ t) := by
      rw [logB_cons]
      simp only [List.append_assoc]
    have e1 : p ++ logB h (a :: K) ++ t = (p ++ frR h a) ++ logB (nextR h a) K ++ t := by rw [e0]; simp only [List.append_assoc]
    have e2 : p ++ logB h (a :: K) = (p ++ frR h a) ++ logB (nextR h a) K := by
      rw [logB_cons, List.append_assoc]
    have hg : getF (p ++ frR h a ++ (logB (nextR h a) K ++ t)) p.length = (datR h a, ((p ++ frR h a).length : Int), 0) := getF_enc p (datR h a) _ (by rw [datR_len]; have := encR_len ha; omega)
    obtain ⟨H, hH⟩ := read_log K (p ++ frR h a) t n (nextR h a) fun r hr => hf r (by simp [hr])
    refine ⟨cells32 (nextR h a) :: H, ?_⟩
    rw [show n + (a :: K).length = (n + K.length) + 1 by simp only [List.length_cons]; omega, readC]
    rw [bif_pos (by rw [ltI_iff, e0]; simp only [List.length_append]; omega)]
    have hg' : getF (p ++ logB h (a :: K) ++ t) p.length = (datR h a, ((p ++ frR h a).length : Int), 0) := by rw [e0]; exact hg
    rw [hg', bif_neg (by simp [eqI])]
    dsimp only
    rw [one_R h ha, bif_neg (by simp [eqI])]
    dsimp only
    rw [e1, hH, e2, headA_cons]
    rfl
theorem sameRow_ent {r : List AV} (h : okE r = true) : sameRow (entRow (entR r)) r = true := by
  show sameE (intOf (nth r 0)) (intOf (nth r 1)) (intOf (nth r 2)) (intOf (nth r 3)) (rowsOf (nth r 4)) (intOf (nth r 0)) (intOf (nth r 1)) (intOf (nth r 2)) (intOf (nth r 3)) (rowsOf (nth r 4)) = true
  exact sameE_self (okE_sums h)
theorem sameRows_ent : ∀ (K : List (List AV)), (∀ r ∈ K, Fine r) → sameRows (K.map fun r => entRow (entR r)) K = true
  | [], _ => rfl
  | a :: K, h => by
    show (sameRow (entRow (entR a)) a && sameRows (K.map fun r => entRow (entR r)) K) = true
    rw [sameRow_ent (h a (by simp)).1, sameRows_ent K fun r hr => h r (by simp [hr])]
    rfl
/-- A log that is cut off: what is read of it. -/
theorem read_cut (K : List (List AV)) (h : Nat → Int) (hf : ∀ r ∈ K, Fine r) (k w : Nat) (hk : k ≤ (logB h K).length) (hw : w ≤ K.length) (h1 : (logB h (K.take w)).length ≤ k) (h2 : w < K.length → k < (logB h (K.take (w + 1))).length) (n : Nat) (hn : w + 1 ≤ n) :
    sameRows (readC ((logB h K).take k) n 0 h).1 (K.take w) = true ∧ (readC ((logB h K).take k) n 0 h).2.2.1 = ((logB h (K.take w)).length : Int) ∧
      (eqI (readC ((logB h K).take k) n 0 h).2.2.2 0 = eqI ((logB h (K.take w)).length : Int) (k : Int)) := by
  have hf2 : ∀ r ∈ K.take w, Fine r := fun r hr => hf r (List.mem_of_mem_take hr)
  have hlw : (K.take w).length = w := by rw [List.length_take]; omega
  -- what is left behind the whole frames
  obtain ⟨t, ht, hte⟩ : ∃ t : Txt, (logB h K).take k = logB h (K.take w) ++ t ∧ ((t = [] ∧ (logB h (K.take w)).length = k) ∨ (w < K.length ∧ ∃ m, 0 < m ∧ m < (frR (headA h (K.take w)) (K.getD w [])).length ∧ t = (frR (headA h (K.take w)) (K.getD w [])).take m ∧ k = (logB h (K.take w)).length + m)) := by
    rcases Nat.lt_or_ge w K.length with hlt | hge
    · obtain ⟨q, hq⟩ := logB_take K h w hlt
      have hs : K.take (w + 1) = K.take w ++ [K.getD w []] := by
        rw [List.take_add_one, List.getD_eq_getElem?_getD, List.getElem?_eq_getElem hlt]
        rfl
      have h3 := h2 hlt
      rw [hs, logB_snoc, List.length_append] at h3
      refine ⟨(frR (headA h (K.take w)) (K.getD w [])).take (k - (logB h (K.take w)).length), ?_, ?_⟩
      · conv => lhs; rw [hq]
        rw [List.take_append, List.take_of_length_le (by omega)]
        congr 1
        rw [List.take_append_of_le_length (by omega)]
      · rcases Nat.lt_or_ge (logB h (K.take w)).length k with h4 | h4
        · exact .inr ⟨hlt, k - (logB h (K.take w)).length, by omega, by omega, rfl, by omega⟩
        · refine .inl ⟨?_, by omega⟩
          rw [show k - (logB h (K.take w)).length = 0 by omega]
          rfl
    · have e : K.take w = K := List.take_of_length_le hge
      rw [e] at h1 ⊢
      refine ⟨[], ?_, .inl ⟨rfl, by omega⟩⟩
      rw [List.append_nil, List.take_of_length_le (by omega)]
  obtain ⟨j, rfl⟩ : ∃ j, n = (j + 1) + w := ⟨n - w - 1, by omega⟩
  obtain ⟨H, hH⟩ := read_log (K.take w) [] t (j + 1) h hf2
  simp only [List.nil_append, hlw, List.length_nil, Int.natCast_zero] at hH
  rw [ht]
  have hH' : readC (logB h (K.take w) ++ t) (j + 1 + w) 0 h = _ := hH
  rw [hH']
  dsimp only
  rcases hte with ⟨rfl, he⟩ | ⟨hlt, m, m1, m2, rfl, he⟩
  · have e : readC (logB h (K.take w) ++ []) (j + 1) ((logB h (K.take w)).length : Int) (headA h (K.take w)) = ([], [], ((logB h (K.take w)).length : Int), 0) := by
      rw [readC, bif_neg (by rw [ltI_iff]; simp)]
    rw [e]
    refine ⟨by rw [List.append_nil]; exact sameRows_ent _ hf2, rfl, ?_⟩
    rw [he, eqI_iff.2 rfl, eqI_iff.2 rfl]
  · have hr := hf (K.getD w []) (by rw [List.getD_eq_getElem?_getD, List.getElem?_eq_getElem hlt]; exact List.getElem_mem hlt)
    have hg := getF_torn (logB h (K.take w)) (datR (headA h (K.take w)) (K.getD w [])) m (by rw [datR_len]; have := encR_len hr; omega) m1 m2
    have e : readC (logB h (K.take w) ++ (frR (headA h (K.take w)) (K.getD w [])).take m) (j + 1) ((logB h (K.take w)).length : Int) (headA h (K.take w)) = ([], [], ((logB h (K.take w)).length : Int), 2) := by
      rw [readC, bif_pos (by rw [ltI_iff]; simp only [List.length_append, List.length_take]; omega)]
      unfold frR
      rw [hg]
      rfl
    rw [e]
    refine ⟨by rw [List.append_nil]; exact sameRows_ent _ hf2, rfl, ?_⟩
    have a1 : eqI 2 0 = false := rfl
    have a2 : eqI ((logB h (K.take w)).length : Int) (k : Int) = false := Bool.eq_false_iff.2 fun x => by rw [eqI_iff] at x; omega
    show eqI 2 0 = _
    rw [a1, a2]
theorem readC_hd (b : Txt) (n : Nat) (i : Int) (h : Nat → Int) : readC b (n + 1) i (hdF (cells32 h)) = readC b (n + 1) i h := by
  rw [readC, readC, hd_cells (okH_cells h)]
theorem nth_mem : ∀ {r : List AV} {i : Nat} {e : Pay AV}, isRo e (nth r i) = true → nth r i ∈ r
  | [], i, e, h => by cases i <;> cases h
  | a :: r, 0, e, h => by simp [nth]
  | a :: r, i + 1, e, h => List.mem_cons_of_mem _ (nth_mem (r := r) (i := i) h)
theorem isRo_rows {s : Nat} {a : AV} (h : isRo (.rows s []) a = true) : ∃ X, a = .ro (.rows s X) := by
  cases a <;> try (cases h; done)
  rename_i p
  cases p <;> try (cases h; done)
  rename_i t X
  have := Nat.eq_of_beq_eq_true h
  subst this
  exact ⟨X, rfl⟩
theorem rep_at {w : World} {M : Nat → Prop} : ∀ {l : List AV} {us : List Value}, RepL w M [] l us → ∀ a ∈ l, ∃ u, RepV w M [] a u
  | _, _, .nil, _, h => by cases h
  | _, _, .cons h t, a, ha => by
    rcases List.mem_cons.1 ha with rfl | ha
    · exact ⟨_, h⟩
    · exact rep_at t a ha
theorem rows_bytes {x : List (List AV)} {l : List AV} (hr : Real (.ro (.rows 5 x) :: l)) (h : okEs x = true) : ∀ r ∈ x, Bytes32 r := by
  intro r hrx q hq a ha
  obtain ⟨w, M, us, hc⟩ := hr.cells (by intro h0; have : x.length = 0 := h0; rw [List.eq_nil_of_length_eq_zero this] at hrx; cases hrx)
  have he := List.all_eq_true.1 h r hrx
  have hs := okE_sums he
  unfold okE at he
  simp only [Bool.and_eq_true] at he
  have hro := he.2.2.2.2.1
  have hm : nth r 4 ∈ (Pay.rows 5 x : Pay AV).cells := List.mem_flatten.2 ⟨r, hrx, nth_mem hro⟩
  obtain ⟨u, hu⟩ := rep_at hc _ hm
  obtain ⟨X, hX⟩ := isRo_rows hro
  rw [hX] at hu hq hs
  have hq : q ∈ X := hq
  unfold okS at hs
  rw [List.all_eq_true] at hs
  have h2 := (sumOk_out (hs q hq)).2
  rw [List.all_eq_true] at h2
  have h3 := h2 a ha
  cases hu with
  | roN h0 _ _ =>
    have : X.length = 0 := h0
    rw [List.eq_nil_of_length_eq_zero this] at hq; cases hq
  | ro hl _ _ _ _ _ _ _ _ =>
    obtain ⟨u2, hu2⟩ := rep_at hl a (List.mem_flatten.2 ⟨q, hq, ha⟩)
    cases a with
    | int k n =>
      cases k <;> first | (simp [isInt, ikEq] at h3; done) | skip
      cases hu2 with | int hk =>
      have hk : 0 ≤ n ∧ n ≤ 255 := by simpa [IntKind.has, IntKind.min, IntKind.max, IntKind.signed, IntKind.bits] using hk
      exact ⟨n, rfl, hk.1, hk.2⟩
    | _ => simp [isInt] at h3
theorem fine_ent {r : List AV} (h : okE r = true) (hr : rightR r = true) (hb : Bytes32 r) : Fine (entRow (entR r)) := ⟨okE_row (okE_sums h), hr, hb⟩
end Go.Proofs.YtmkgmlgklggnlaaGm
