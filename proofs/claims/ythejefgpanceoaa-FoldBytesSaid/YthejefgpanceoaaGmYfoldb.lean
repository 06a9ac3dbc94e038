/- A part of the proof: plain laws, and what functions of the given program come to; no condition. -/
import Derived.Test.YthejefgpanceoaaGmYfold
namespace Go.Proofs.YthejefgpanceoaaGm
set_option maxRecDepth 100000
/-! Values and parts as bytes: the plain laws. -/
def encVal (v : Vl) : List UInt8 := if v.1 = 0 then 0 :: enc (zig v.2.1) else 1 :: encT v.2.2
def encPart (p : Pt) : List UInt8 := encVal p.1 ++ enc (zig p.2)
def getVal (l : List UInt8) (i : Int) : Vl × Int × Int :=
  if i < 0 ∨ (l.length : Int) < i then ((0, 0, []), 0, 8) else if i = l.length then ((0, 0, []), 0, 2)
  else if ((l.getD i.toNat 0).toNat : Int) = 0 then ((0, (getI l (i + 1)).1, []), (getI l (i + 1)).2.1, (getI l (i + 1)).2.2)
  else if ((l.getD i.toNat 0).toNat : Int) = 1 then
    if (getT l (i + 1) 65536).2.2 = 0 then ((1, 0, (getT l (i + 1) 65536).1), (getT l (i + 1) 65536).2.1, 0) else ((0, 0, []), 0, (getT l (i + 1) 65536).2.2)
  else ((0, 0, []), 0, 3)
def getPart (l : List UInt8) (i : Int) : Pt × Int × Int :=
  if (getVal l i).2.2 ≠ 0 then (((0, 0, []), 0), 0, (getVal l i).2.2)
  else if (getI l (getVal l i).2.1).2.2 ≠ 0 then (((0, 0, []), 0), 0, (getI l (getVal l i).2.1).2.2)
  else (((getVal l i).1, (getI l (getVal l i).2.1).1), (getI l (getVal l i).2.1).2.1, 0)
theorem getPart_a {l : List UInt8} {i : Int} (h : ¬ (getVal l i).2.2 = 0) : getPart l i = (((0, 0, []), 0), 0, (getVal l i).2.2) := if_pos h
theorem getPart_b {l : List UInt8} {i : Int} (h : (getVal l i).2.2 = 0) (h2 : ¬ (getI l (getVal l i).2.1).2.2 = 0) : getPart l i = (((0, 0, []), 0), 0, (getI l (getVal l i).2.1).2.2) := by
  unfold getPart; rw [if_neg fun x => x h, if_pos h2]
theorem getPart_c {l : List UInt8} {i : Int} (h : (getVal l i).2.2 = 0) (h2 : (getI l (getVal l i).2.1).2.2 = 0) : getPart l i = (((getVal l i).1, (getI l (getVal l i).2.1).1), (getI l (getVal l i).2.1).2.1, 0) := by
  unfold getPart; rw [if_neg fun x => x h, if_neg fun x => x h2]
/-- What is got of a value's bytes. -/
def normV (v : Vl) : Vl := if v.1 = 0 then (0, v.2.1, []) else (1, 0, v.2.2)

theorem getT_bad (l : List UInt8) (i m : Int) (h : (getT l i m).2.2 ≠ 0) : (getT l i m).1 = [] ∧ (getT l i m).2.1 = 0 := by
  unfold getT at h ⊢
  split
  · exact ⟨rfl, rfl⟩
  · rename_i h1
    rw [if_neg h1] at h
    split
    · exact ⟨rfl, rfl⟩
    · rename_i h2
      rw [if_neg h2] at h
      split
      · exact ⟨rfl, rfl⟩
      · rename_i h3
        rw [if_neg h3] at h
        exact absurd rfl h
theorem enc_len {n : Int} (h0 : 0 ≤ n) : ((enc n).length : Int) = len9 n := by
  rw [enc_length n h0]
  have := len9_range n
  omega
theorem getI_enc (p r : List UInt8) (n : Int) (h : -9223372036854775808 ≤ n ∧ n ≤ 9223372036854775807) : getI (p ++ enc (zig n) ++ r) p.length = (n, ((p ++ enc (zig n)).length : Int), 0) := by
  have hz := zig_has h
  unfold getI
  rw [getV_enc p r (zig n) hz.1 hz.2]
  dsimp only
  rw [zag_zig, List.length_append, Int.natCast_add, enc_len hz.1]
theorem getVal_enc (p r : List UInt8) (v : Vl) (h : -9223372036854775808 ≤ v.2.1 ∧ v.2.1 ≤ 9223372036854775807) (hs : v.2.2.length ≤ 65536) :
    getVal (p ++ encVal v ++ r) p.length = (normV v, ((p ++ encVal v).length : Int), 0) := by
  unfold getVal normV encVal
  by_cases hk : v.1 = 0
  · rw [if_pos hk, if_pos hk]
    have e : p ++ (0 :: enc (zig v.2.1)) ++ r = (p ++ [0]) ++ enc (zig v.2.1) ++ r := by simp
    have eI := getI_enc (p ++ [0]) r v.2.1 h
    rw [← e] at eI
    have el : ((p ++ [(0 : UInt8)]).length : Int) = p.length + 1 := by simp
    rw [el] at eI
    rw [if_neg (by simp; omega), if_neg (by simp; omega), eI]
    have e0 : (p ++ (0 :: enc (zig v.2.1)) ++ r).getD (p.length : Int).toNat 0 = 0 := by
      rw [Int.toNat_natCast]; simp [List.getD]
    rw [e0, if_pos (by rfl)]
    simp
  · rw [if_neg hk, if_neg hk]
    have e : p ++ (1 :: encT v.2.2) ++ r = (p ++ [1]) ++ encT v.2.2 ++ r := by simp
    have eT := getT_enc (p ++ [1]) v.2.2 r 65536 (by omega) (by omega)
    rw [← e] at eT
    have el : ((p ++ [(1 : UInt8)]).length : Int) = p.length + 1 := by simp
    rw [el] at eT
    rw [if_neg (by simp; omega), if_neg (by simp; omega), eT]
    have e0 : (p ++ (1 :: encT v.2.2) ++ r).getD (p.length : Int).toNat 0 = 1 := by
      rw [Int.toNat_natCast]; simp [List.getD]
    rw [e0, if_neg (by decide), if_pos (by rfl), if_pos rfl]
    simp [List.append_assoc]
    omega
theorem getPart_enc (p r : List UInt8) (q : Pt) (h : -9223372036854775808 ≤ q.1.2.1 ∧ q.1.2.1 ≤ 9223372036854775807) (hs : q.1.2.2.length ≤ 65536) (hn : -9223372036854775808 ≤ q.2 ∧ q.2 ≤ 9223372036854775807) :
    getPart (p ++ encPart q ++ r) p.length = ((normV q.1, q.2), ((p ++ encPart q).length : Int), 0) := by
  unfold getPart encPart
  have e1 := getVal_enc p (enc (zig q.2) ++ r) q.1 h hs
  rw [show p ++ encVal q.1 ++ (enc (zig q.2) ++ r) = p ++ (encVal q.1 ++ enc (zig q.2)) ++ r by simp] at e1
  have e2 := getI_enc (p ++ encVal q.1) r q.2 hn
  rw [show p ++ encVal q.1 ++ enc (zig q.2) ++ r = p ++ (encVal q.1 ++ enc (zig q.2)) ++ r by simp] at e2
  rw [e1]
  dsimp only
  rw [e2, if_neg (by simp), if_neg (by simp)]
  simp
theorem vO_norm (v : Vl) : vO v (normV v) = 0 := by
  unfold vO normV vOrd
  by_cases hk : v.1 = 0
  · simp [hk, cmpI]
  · simp [hk, cmpB_self]
theorem sameP_norm (p : Pt) : sameP p (normV p.1, p.2) = true := by
  unfold sameP
  rw [bif_pos (eqI_iff.2 rfl), eqI_iff]
  exact vO_norm p.1
theorem encVal_len (v : Vl) : (encVal v).length ≤ v.2.2.length + 10 := by
  unfold encVal encT
  have h1 := be_len (zig v.2.1)
  have h2 := be_len (v.2.2.length : Int)
  split <;> simp <;> omega
theorem encPart_len (p : Pt) : (encPart p).length ≤ p.1.2.2.length + 19 := by
  unfold encPart
  have h1 := be_len (zig p.2)
  have h2 := encVal_len p.1
  simp
  omega
end Go.Proofs.YthejefgpanceoaaGm
