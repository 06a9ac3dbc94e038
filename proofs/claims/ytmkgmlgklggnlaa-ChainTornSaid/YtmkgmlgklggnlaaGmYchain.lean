/- A part of the proof: plain laws, and what functions of the given program come to; no condition. -/
import Derived.Test.YtmkgmlgklggnlaaGmYframe
/-! # Entries of a log. Plain law: no program. -/
namespace Go.Proofs.YtmkgmlgklggnlaaGm
/-- A row of 32 bytes. -/
def sumOk (r : List AV) : Bool := Nat.beq r.length 32 && r.all (isInt .u8)
def okS (R : List (List AV)) : Bool := R.all sumOk
theorem okS_at {R : List (List AV)} (h : okS R = true) (j : Nat) (hj : j < R.length) : sumOk (R.getD j []) = true := by
  unfold okS at h
  rw [List.all_eq_true] at h
  refine h _ ?_
  rw [List.getD_eq_getElem?_getD, List.getElem?_eq_getElem hj]
  exact List.getElem_mem hj
theorem sumOk_out {r : List AV} (h : sumOk r = true) : r.length = 32 ∧ r.all (isInt .u8) = true := by
  unfold sumOk at h
  rw [Bool.and_eq_true] at h
  exact ⟨Nat.eq_of_beq_eq_true h.1, h.2⟩
theorem all_scalar {r : List AV} (h : r.all (isInt .u8) = true) : r.all scalarLeaf = true := by
  rw [List.all_eq_true] at h ⊢
  intro a ha
  have := h a ha
  cases a <;> first | rfl | cases this
theorem sum_take {r : List AV} (h : r.length = 32) : List.take 32 (List.drop 0 r) = r := by rw [List.drop_zero, List.take_of_length_le (by omega)]
theorem eqAs_iff : ∀ {a b : List AV}, a.all (isInt .u8) = true → b.all (isInt .u8) = true → a.length = b.length → (eqAs a b = true ↔ a = b)
  | [], [], _, _, _ => by simp [eqAs]
  | x :: a, y :: b, ha, hb, hl => by
    rw [List.all_cons, Bool.and_eq_true] at ha hb
    have ih := eqAs_iff ha.2 hb.2 (by simpa using hl)
    have hx := ha.1
    have hy := hb.1
    cases x with
    | int k n =>
      cases k <;> first | (simp [isInt, ikEq] at hx; done) | skip
      cases y with
      | int k' m =>
        cases k' <;> first | (simp [isInt, ikEq] at hy; done) | skip
        show (eqI n m && eqAs a b) = true ↔ _
        rw [Bool.and_eq_true, ih, eqI_iff]
        simp
      | _ => cases hy
    | _ => cases hx
/-- May it be? -/
def RightE (k a b c : Int) (n : Nat) : Prop := (0 ≤ k ∧ k ≤ 5) ∧ (0 ≤ a ∧ a ≤ 1073741824) ∧ (0 ≤ b ∧ b ≤ 1073741824) ∧ (0 ≤ c ∧ c ≤ 1073741824) ∧ ((k = 3 ∧ n = 2) ∨ (¬ k = 3 ∧ n = 0))
def rightE (k a b c : Int) (n : Nat) : Bool := decide (0 ≤ k ∧ k ≤ 5) && decide (0 ≤ a ∧ a ≤ 1073741824) && decide (0 ≤ b ∧ b ≤ 1073741824) && decide (0 ≤ c ∧ c ≤ 1073741824) && decide ((k = 3 ∧ n = 2) ∨ (¬ k = 3 ∧ n = 0))
theorem rightE_iff {k a b c : Int} {n : Nat} : rightE k a b c n = true ↔ RightE k a b c n := by
  unfold rightE RightE
  simp only [Bool.and_eq_true, decide_eq_true_eq]
  constructor
  · rintro ⟨⟨⟨⟨h1, h2⟩, h3⟩, h4⟩, h5⟩; exact ⟨h1, h2, h3, h4, h5⟩
  · rintro ⟨h1, h2, h3, h4, h5⟩; exact ⟨⟨⟨⟨h1, h2⟩, h3⟩, h4⟩, h5⟩
theorem rightE_f {k a b c : Int} {n : Nat} (h : ¬ RightE k a b c n) : rightE k a b c n = false := by rw [Bool.eq_false_iff, Ne, rightE_iff]; exact h
theorem rightE_is {k a b c : Int} {n : Nat} {m : Int} (h : RightE k a b c n ↔ (n : Int) = m) : rightE k a b c n = eqI n m := by rw [Bool.eq_iff_iff, rightE_iff, eqI_iff]; exact h
def encN (l : List Int) : Txt := l.flatMap fun n => enc (IntKind.u64.wrap n)
def sumsB (R : List (List AV)) : Txt := R.flatMap u8of
/-- An entry's bytes. -/
def encE (k a b c : Int) (R : List (List AV)) : Txt := encN [k, a, b, c] ++ sumsB R
def cut30 (n : Int) : Int := min n 1073741825
abbrev EntT := Int × Int × Int × Int × List (List AV)
def zeroE : EntT := (0, 0, 0, 0, [])
/-- Rows of 32 bytes each. -/
def sums32 : Nat → Txt → List (List AV)
  | 0, _ => []
  | q + 1, l => spanB l 0 32 :: sums32 q (l.drop 32)
def finE (k a b c : Int) (R : List (List AV)) (left : Nat) : EntT × Int := if (Nat.beq left 0 && rightE k a b c R.length) = true then ((k, a, b, c, R), 0) else (zeroE, 3)
def restE (k a b c : Int) (l : Txt) : EntT × Int := finE k a b c (sums32 (l.length / 32) l) (l.length % 32)
def getE4 (b : Txt) (i k a c : Int) : EntT × Int := if (getV b i).2.2 ≠ 0 then (zeroE, (getV b i).2.2) else restE k a c (cut30 (getV b i).1) (b.drop (getV b i).2.1.toNat)
def getE3 (b : Txt) (i k a : Int) : EntT × Int := if (getV b i).2.2 ≠ 0 then (zeroE, (getV b i).2.2) else getE4 b (getV b i).2.1 k a (cut30 (getV b i).1)
def getE2 (b : Txt) (i k : Int) : EntT × Int := if (getV b i).2.2 ≠ 0 then (zeroE, (getV b i).2.2) else getE3 b (getV b i).2.1 k (cut30 (getV b i).1)
/-- The entry of bytes. -/
def getE (b : Txt) : EntT × Int := if (getV b 0).2.2 ≠ 0 then (zeroE, (getV b 0).2.2) else getE2 b (getV b 0).2.1 (cut30 (getV b 0).1)
def entV (x : EntT) : AV := .agg [.int .i64 x.1, .int .i64 x.2.1, .int .i64 x.2.2.1, .int .i64 x.2.2.2.1, .ro (.rows 32 x.2.2.2.2)]
theorem encN_one (n : Int) (h : 0 ≤ n) (h1 : n < 18446744073709551616) : encN [n] = enc n := by simp [encN, wrapu64 h h1]
theorem encN_cons (n : Int) (l : List Int) : encN (n :: l) = enc (IntKind.u64.wrap n) ++ encN l := by simp [encN]
theorem encN_app (l m : List Int) : encN (l ++ m) = encN l ++ encN m := by simp [encN]
theorem encN_len : ∀ l : List Int, (encN l).length ≤ 9 * l.length
  | [] => by simp [encN]
  | n :: l => by
    have := encN_len l
    have hw : 0 ≤ IntKind.u64.wrap n := by simp [IntKind.wrap, IntKind.signed, IntKind.bits]; omega
    have he := enc_length (IntKind.u64.wrap n) hw
    have hr := len9_range (IntKind.u64.wrap n)
    rw [encN_cons, List.length_append, List.length_cons]
    omega
theorem sumsB_snoc (R : List (List AV)) (r : List AV) : sumsB (R ++ [r]) = sumsB R ++ u8of r := by simp [sumsB]
theorem sumsB_len : ∀ {R : List (List AV)}, okS R = true → (sumsB R).length = 32 * R.length
  | [], _ => rfl
  | r :: R, h => by
    have h' : (sumOk r && okS R) = true := h
    rw [Bool.and_eq_true] at h'
    have := sumsB_len h'.2
    have h1 := (sumOk_out h'.1).1
    show (u8of r ++ sumsB R).length = _
    rw [List.length_append, this, List.length_cons]
    unfold u8of
    rw [List.length_map]; omega
theorem spanB_ok (l : Txt) (i : Nat) : sumOk (spanB l i 32) = true := by
  unfold sumOk spanB
  rw [List.length_map, List.length_range, Bool.and_eq_true]
  refine ⟨rfl, ?_⟩
  rw [List.all_eq_true]
  intro a ha
  obtain ⟨j, _, rfl⟩ := List.mem_map.1 ha
  rfl
theorem sums32_ok : ∀ (q : Nat) (l : Txt), okS (sums32 q l) = true
  | 0, _ => rfl
  | q + 1, l => by
    show (sumOk (spanB l 0 32) && okS (sums32 q (l.drop 32))) = true
    rw [spanB_ok, sums32_ok]; rfl
theorem spanB_take (l : Txt) (n : Nat) (h : 32 ≤ n) : spanB (l.take n) 0 32 = spanB l 0 32 := by
  unfold spanB
  apply List.map_congr_left
  intro j hj
  have hj := List.mem_range.1 hj
  rw [List.getD_eq_getElem?_getD, List.getD_eq_getElem?_getD, List.getElem?_take_of_lt (by omega)]
theorem sums32_step {l : Txt} (h : 32 ≤ l.length) : sums32 (l.length / 32) l = spanB l 0 32 :: sums32 ((l.drop 32).length / 32) (l.drop 32) := by
  rw [List.length_drop, show l.length / 32 = (l.length - 32) / 32 + 1 by omega]
  rfl
theorem mod_step {l : Txt} (h : 32 ≤ l.length) : (l.drop 32).length % 32 = l.length % 32 := by
  rw [List.length_drop]; omega
theorem sums32_none {l : Txt} (h : ¬ 32 ≤ l.length) : sums32 (l.length / 32) l = [] := by
  rw [show l.length / 32 = 0 by omega]; rfl
theorem getE_ok (b : Txt) : okS (getE b).1.2.2.2.2 = true := by
  have f : ∀ k a b c l, okS (restE k a b c l).1.2.2.2.2 = true := by
    intro k a b c l
    unfold restE finE
    split
    · exact sums32_ok _ _
    · rfl
  unfold getE getE2 getE3 getE4
  repeat' split
  all_goals first | rfl | exact f ..
theorem u8of_spanB (l : Txt) (h : 32 ≤ l.length) : u8of (spanB l 0 32) = l.take 32 := by
  unfold u8of spanB
  rw [List.map_map]
  apply List.ext_getElem?
  intro j
  rw [List.getElem?_map]
  rcases Nat.lt_or_ge j 32 with hj | hj
  · rw [List.getElem?_range hj, List.getElem?_take_of_lt hj, List.getElem?_eq_getElem (show j < l.length by omega)]
    show some (UInt8.ofNat ((l.getD (0 + j) 0).toNat : Int).toNat) = some l[j]
    rw [Nat.zero_add, List.getD_eq_getElem?_getD, List.getElem?_eq_getElem (show j < l.length by omega), Int.toNat_natCast]
    congr 1
    exact UInt8.ofNat_toNat
  · rw [List.getElem?_eq_none (by simp; omega), List.getElem?_eq_none (by simp; omega)]; rfl
/-- The same rows? -/
def eqR : List (List AV) → List (List AV) → Bool
  | [], [] => true
  | a :: l, b :: m => eqAs a b && eqR l m
  | _, _ => false
theorem eqR_iff : ∀ {X Y : List (List AV)}, okS X = true → okS Y = true → (eqR X Y = true ↔ X = Y)
  | [], [], _, _ => by simp [eqR]
  | [], y :: Y, _, _ => by simp [eqR]
  | x :: X, [], _, _ => by simp [eqR]
  | x :: X, y :: Y, hX, hY => by
    have h1 : (sumOk x && okS X) = true := hX
    have h2 : (sumOk y && okS Y) = true := hY
    rw [Bool.and_eq_true] at h1 h2
    obtain ⟨a1, a2⟩ := sumOk_out h1.1
    obtain ⟨b1, b2⟩ := sumOk_out h2.1
    show (eqAs x y && eqR X Y) = true ↔ _
    rw [Bool.and_eq_true, eqAs_iff a2 b2 (by omega), eqR_iff h1.2 h2.2]
    simp
theorem eqR_len : ∀ {X Y : List (List AV)}, X.length ≠ Y.length → eqR X Y = false
  | [], [], h => absurd rfl h
  | [], y :: Y, _ => rfl
  | x :: X, [], _ => rfl
  | x :: X, y :: Y, h => by
    show (eqAs x y && eqR X Y) = false
    rw [eqR_len (by simpa using h), Bool.and_false]
def sameE (k a b c : Int) (x : List (List AV)) (k2 a2 b2 c2 : Int) (y : List (List AV)) : Bool := eqI k k2 && eqI a a2 && eqI b b2 && eqI c c2 && eqR x y
theorem sums32_B : ∀ {R : List (List AV)}, okS R = true → (∀ r ∈ R, ∀ a ∈ r, ∃ n : Int, a = .int .u8 n ∧ 0 ≤ n ∧ n ≤ 255) → sums32 R.length (sumsB R) = R
  | [], _, _ => rfl
  | r :: R, h, hr => by
    have h' : (sumOk r && okS R) = true := h
    rw [Bool.and_eq_true] at h'
    obtain ⟨p1, p2⟩ := sumOk_out h'.1
    have hu : (u8of r).length = 32 := by unfold u8of; rw [List.length_map, p1]
    have e : sumsB (r :: R) = u8of r ++ sumsB R := by simp [sumsB]
    rw [List.length_cons, e]
    show spanB (u8of r ++ sumsB R) 0 32 :: sums32 R.length ((u8of r ++ sumsB R).drop 32) = _
    have e2 : (u8of r ++ sumsB R).drop 32 = sumsB R := by
      have := List.drop_left (l₁ := u8of r) (l₂ := sumsB R)
      rw [hu] at this
      exact this
    rw [e2, sums32_B h'.2 (fun x hx => hr x (by simp [hx]))]
    congr 1
    unfold spanB
    apply List.ext_getElem?
    intro j
    rw [List.getElem?_map]
    rcases Nat.lt_or_ge j 32 with hj | hj
    · rw [List.getElem?_range hj, List.getElem?_eq_getElem (show j < r.length by omega)]
      obtain ⟨n, hn, h0, h1⟩ := hr r (by simp) r[j] (List.getElem_mem _)
      rw [hn]
      show some (AV.int .u8 (((u8of r ++ sumsB R).getD (0 + j) 0).toNat : Int)) = _
      rw [Nat.zero_add, List.getD_eq_getElem?_getD, List.getElem?_append_left (by omega)]
      unfold u8of
      rw [List.getElem?_map, List.getElem?_eq_getElem (show j < r.length by omega), hn]
      show some (AV.int .u8 ((UInt8.ofNat n.toNat).toNat : Int)) = _
      rw [UInt8.toNat_ofNat']
      congr 2
      omega
    · rw [List.getElem?_eq_none (by simp; omega), List.getElem?_eq_none (by omega)]; rfl
theorem cut30_id {n : Int} (h : n ≤ 1073741824) : cut30 n = n := by unfold cut30; omega
/-- What was put is got. -/
theorem getE_enc {k a b c : Int} {R : List (List AV)} (h : rightE k a b c R.length = true) (hR : okS R = true) (hr : ∀ r ∈ R, ∀ x ∈ r, ∃ n : Int, x = .int .u8 n ∧ 0 ≤ n ∧ n ≤ 255) : getE (encE k a b c R) = ((k, a, b, c, R), 0) := by
  have h' := rightE_iff.1 h
  unfold RightE at h'
  obtain ⟨⟨k0, k1⟩, ⟨a0, a1⟩, ⟨b0, b1⟩, ⟨c0, c1⟩, _⟩ := h'
  have e : encE k a b c R = enc k ++ enc a ++ enc b ++ enc c ++ sumsB R := by
    unfold encE encN
    simp [wrapu64 k0 (show k < 18446744073709551616 by omega), wrapu64 a0 (show a < 18446744073709551616 by omega), wrapu64 b0 (show b < 18446744073709551616 by omega), wrapu64 c0 (show c < 18446744073709551616 by omega)]
  have l0 := enc_length k k0
  have l1 := enc_length a a0
  have l2 := enc_length b b0
  have l3 := enc_length c c0
  have r0 := len9_range k
  have r1 := len9_range a
  have r2 := len9_range b
  have r3 := len9_range c
  have v0 : getV (encE k a b c R) 0 = (k, ((enc k).length : Int), 0) := by
    have := getV_enc [] (enc a ++ enc b ++ enc c ++ sumsB R) k k0 (by omega)
    rw [List.nil_append, show (([] : Txt).length : Int) = 0 from rfl] at this
    rw [e, show enc k ++ enc a ++ enc b ++ enc c ++ sumsB R = enc k ++ (enc a ++ enc b ++ enc c ++ sumsB R) by simp only [List.append_assoc], this]
    congr 2; omega
  have v1 : getV (encE k a b c R) (enc k).length = (a, ((enc k ++ enc a).length : Int), 0) := by
    have := getV_enc (enc k) (enc b ++ enc c ++ sumsB R) a a0 (by omega)
    rw [e, show enc k ++ enc a ++ enc b ++ enc c ++ sumsB R = enc k ++ enc a ++ (enc b ++ enc c ++ sumsB R) by simp only [List.append_assoc], this, List.length_append]
    congr 2; omega
  have v2 : getV (encE k a b c R) (enc k ++ enc a).length = (b, ((enc k ++ enc a ++ enc b).length : Int), 0) := by
    have := getV_enc (enc k ++ enc a) (enc c ++ sumsB R) b b0 (by omega)
    rw [e, show enc k ++ enc a ++ enc b ++ enc c ++ sumsB R = enc k ++ enc a ++ enc b ++ (enc c ++ sumsB R) by simp only [List.append_assoc], this]
    congr 2; simp only [List.length_append]; omega
  have v3 : getV (encE k a b c R) (enc k ++ enc a ++ enc b).length = (c, ((enc k ++ enc a ++ enc b ++ enc c).length : Int), 0) := by
    have := getV_enc (enc k ++ enc a ++ enc b) (sumsB R) c c0 (by omega)
    rw [e, this]
    congr 2; simp only [List.length_append]; omega
  have hd : (encE k a b c R).drop (enc k ++ enc a ++ enc b ++ enc c).length = sumsB R := by rw [e, List.drop_left]
  unfold getE getE2 getE3 getE4
  rw [v0]
  dsimp only
  rw [if_neg (fun x => x rfl), v1]
  dsimp only
  rw [if_neg (fun x => x rfl), v2]
  dsimp only
  rw [if_neg (fun x => x rfl), v3]
  dsimp only
  rw [if_neg (fun x => x rfl), Int.toNat_natCast, hd, cut30_id (by omega), cut30_id a1, cut30_id b1, cut30_id c1]
  unfold restE
  rw [sumsB_len hR, show 32 * R.length / 32 = R.length by omega, show 32 * R.length % 32 = 0 by omega, sums32_B hR hr]
  unfold finE
  rw [h]; rfl
theorem eqR_self : ∀ {X : List (List AV)}, okS X = true → eqR X X = true := fun h => (eqR_iff h h).2 rfl
theorem sameE_self {k a b c : Int} {X : List (List AV)} (h : okS X = true) : sameE k a b c X k a b c X = true := by
  unfold sameE
  rw [eqR_self h]
  simp [eqI]
end Go.Proofs.YtmkgmlgklggnlaaGm
