/- A part of the proof: plain laws, and what functions of the given program come to; no condition. -/
import Derived.Test.YtmkgmlgklggnlaaGmYshb
/-! # Sums as texts. Plain law: no program. -/
namespace Go.Proofs.YtmkgmlgklggnlaaGm
/-- An answer of more than one part, the first read out of an array variable. -/
def resEndT (o : Option AV) (r : List AV) (hp : List AObj) : Res :=
  match (match (match o with
    | some v => some (v :: r)
    | none => none : Option (List AV)) with
    | some [v] => some v
    | some l => some (.tup l)
    | none => none : Option AV) with
  | some v => .ret v hp
  | none => .stuck
def zs32 : List AV := cells32 fun _ => 0
def z32 : List Int := List.replicate 32 0
theorem zs32_eq : zs32 = intsA .u8 z32 := rfl
/-- A digit's value. -/
def halfB (c : Int) : Int := bif leI 48 c && leI c 57 then c - 48 else bif leI 97 c && leI c 102 then c - 87 else 16
def digB (c : Int) : Int := bif leI 48 c && leI c 57 then c - 48 else bif leI 97 c && leI c 102 then c - 87 else -1
theorem dig_half {c : Int} : (digB c < 0 ↔ 15 < halfB c) ∧ (0 ≤ digB c → halfB c = digB c ∧ digB c ≤ 15) := by
  unfold digB halfB
  cases h1 : leI 48 c && leI c 57
  · cases h2 : leI 97 c && leI c 102
    · simp
    · rw [Bool.and_eq_true, leI_iff, leI_iff] at h2
      simp only [cond_true, cond_false]
      exact ⟨⟨fun _ => by omega, fun _ => by omega⟩, fun _ => ⟨trivial, by omega⟩⟩
  · rw [Bool.and_eq_true, leI_iff, leI_iff] at h1
    simp only [cond_true]
    exact ⟨⟨fun _ => by omega, fun _ => by omega⟩, fun _ => ⟨trivial, by omega⟩⟩
/-- A text's digits, two by two. -/
def pGo (t : List UInt8) : Nat → Nat → List Int → Option (List Int)
  | 0, _, l => some l
  | d + 1, i, l =>
    bif ltI (digB ((t.getD (2 * i) 0).toNat : Int)) 0 || ltI (digB ((t.getD (2 * i + 1) 0).toNat : Int)) 0 then none
    else pGo t d (i + 1) (l.set i (16 * digB ((t.getD (2 * i) 0).toNat : Int) + digB ((t.getD (2 * i + 1) 0).toNat : Int)))
def parseT (t : List UInt8) : List Int × Int :=
  bif eqI (t.length : Int) 64 then (match pGo t 32 0 z32 with
    | some l => (l, 0)
    | none => (z32, 3)) else (z32, 3)
def hexD (n : Nat) : UInt8 := (ByteArray.mk #[48, 49, 50, 51, 52, 53, 54, 55, 56, 57, 97, 98, 99, 100, 101, 102]).data.toList.getD n 0
def hexT (l : List Int) : List UInt8 := l.flatMap fun x => [hexD (x / 16).toNat, hexD (x % 16).toNat]
theorem digB_hexD : ∀ n, n < 16 → digB ((hexD n).toNat : Int) = n := by decide
theorem hexT_len : ∀ l : List Int, (hexT l).length = 2 * l.length
  | [] => rfl
  | x :: l => by
    show (hexD _ :: hexD _ :: hexT l).length = _
    rw [List.length_cons, List.length_cons, hexT_len l, List.length_cons]; omega
theorem hexT_get : ∀ (l : List Int) (i : Nat), i < l.length → (hexT l).getD (2 * i) 0 = hexD (l.getD i 0 / 16).toNat ∧ (hexT l).getD (2 * i + 1) 0 = hexD (l.getD i 0 % 16).toNat
  | x :: l, 0, _ => ⟨rfl, rfl⟩
  | x :: l, i + 1, h => by
    have := hexT_get l i (by simpa using h)
    exact this
theorem pGo_len (t : List UInt8) : ∀ (d i : Nat) (l m : List Int), pGo t d i l = some m → m.length = l.length
  | 0, _, l, m, h => by cases h; rfl
  | d + 1, i, l, m, h => by
    unfold pGo at h
    rcases bif_alt h with ⟨_, h⟩ | ⟨_, h⟩
    · cases h
    · rw [pGo_len t d _ _ m h, List.length_set]
theorem pGo_hex (s : List Int) (hl : s.length = 32) (hs : ∀ x ∈ s, 0 ≤ x ∧ x < 256) : ∀ (d i : Nat), i + d = 32 → pGo (hexT s) d i (s.take i ++ z32.drop i) = some s
  | 0, i, h => by
    obtain rfl : i = 32 := by omega
    rw [pGo, List.take_of_length_le (by omega)]
    show some (s ++ []) = _
    rw [List.append_nil]
  | d + 1, i, h => by
    obtain ⟨e0, e1⟩ := hexT_get s i (by omega)
    have hx := hs (s.getD i 0) (by
      rw [List.getD_eq_getElem?_getD, List.getElem?_eq_getElem (by omega : i < s.length)]
      exact List.getElem_mem _)
    generalize hg : s.getD i 0 = x at *
    have a0 : digB ((hexD (x / 16).toNat).toNat : Int) = x / 16 := by rw [digB_hexD _ (by omega)]; omega
    have a1 : digB ((hexD (x % 16).toNat).toNat : Int) = x % 16 := by rw [digB_hexD _ (by omega)]; omega
    unfold pGo
    rw [e0, e1, a0, a1, bif_neg (by rw [Bool.or_eq_true, ltI_iff, ltI_iff]; omega), show 16 * (x / 16) + x % 16 = x by omega]
    have e : (s.take i ++ z32.drop i).set i x = s.take (i + 1) ++ z32.drop (i + 1) := by
      have hz : z32.length = 32 := rfl
      have ht : (s.take i).length = i := List.length_take_of_le (by omega)
      rw [List.set_append_right _ _ (by omega), ht, Nat.sub_self, List.drop_eq_getElem_cons (by omega : i < z32.length), List.set_cons_zero,
        List.take_succ_eq_append_getElem (by omega : i < s.length), List.append_assoc]
      have : s[i] = x := by rw [← hg, List.getD_eq_getElem?_getD, List.getElem?_eq_getElem (by omega : i < s.length)]; rfl
      rw [this]; rfl
    rw [e]
    exact pGo_hex s hl hs d (i + 1) (by omega)
theorem parse_hex {s : List Int} (hl : s.length = 32) (hs : ∀ x ∈ s, 0 ≤ x ∧ x < 256) : parseT (hexT s) = (s, 0) := by
  unfold parseT
  rw [bif_pos (by rw [eqI_iff, hexT_len]; omega)]
  have := pGo_hex s hl hs 32 0 rfl
  rw [show s.take 0 ++ z32.drop 0 = z32 from rfl] at this
  rw [this]
theorem parse_len (t : List UInt8) : (parseT t).1.length = 32 := by
  unfold parseT
  cases eqI (t.length : Int) 64
  · rfl
  · show (match pGo t 32 0 z32 with
      | some l => (l, (0 : Int))
      | none => (z32, 3)).1.length = 32
    cases h : pGo t 32 0 z32 with
    | none => rfl
    | some l => exact pGo_len t 32 0 z32 l h
theorem ior_hex : ∀ a, a < 16 → ∀ b, b < 16 → ior .u8 (ishl .u8 ((a : Nat) : Int) 4) ((b : Nat) : Int) = ((16 * a + b : Nat) : Int) := by decide
theorem byte_hex : ∀ x, x < 256 → ishr .u8 ((x : Nat) : Int) 4 = ((x / 16 : Nat) : Int) ∧ iand .u8 ((x : Nat) : Int) 15 = ((x % 16 : Nat) : Int) := by
  have h : (List.range 256).all (fun x => decide (ishr .u8 ((x : Nat) : Int) 4 = ((x / 16 : Nat) : Int) ∧ iand .u8 ((x : Nat) : Int) 15 = ((x % 16 : Nat) : Int))) = true := by kernel_rfl
  intro x hx
  exact of_decide_eq_true (List.all_eq_true.1 h x (List.mem_range.2 hx))
def dF (c : Int) : Nat → Nat → Int
  | 0, _ => -1
  | d + 1, i => bif eqI ((hexD i).toNat : Int) c then (i : Int) else dF c d (i + 1)
theorem dF_dig : ∀ c, c < 256 → dF ((c : Nat) : Int) 16 0 = digB ((c : Nat) : Int) := by
  have h : (List.range 256).all (fun c => decide (dF ((c : Nat) : Int) 16 0 = digB ((c : Nat) : Int))) = true := by kernel_rfl
  intro x hx
  exact of_decide_eq_true (List.all_eq_true.1 h x (List.mem_range.2 hx))
theorem nth_ints (k : IntKind) : ∀ (l : List Int) (i : Nat), i < l.length → nth (intsA k l) i = .int k (l.getD i 0)
  | x :: l, 0, _ => rfl
  | x :: l, i + 1, h => nth_ints k l i (by simpa using h)
theorem hexT_drop (l : List Int) (i : Nat) (h : i < l.length) : hexT (l.drop i) = [hexD (l.getD i 0 / 16).toNat, hexD (l.getD i 0 % 16).toNat] ++ hexT (l.drop (i + 1)) := by
  rw [List.drop_eq_getElem_cons h, List.getD_eq_getElem?_getD, List.getElem?_eq_getElem h]; rfl
theorem digs_len : (ByteArray.mk #[48, 49, 50, 51, 52, 53, 54, 55, 56, 57, 97, 98, 99, 100, 101, 102]).data.toList.length = 16 := rfl
theorem digs_cut (n : Nat) (h : n < 16) : List.take 1 (List.drop n (ByteArray.mk #[48, 49, 50, 51, 52, 53, 54, 55, 56, 57, 97, 98, 99, 100, 101, 102]).data.toList) = [hexD n] := take_one_drop _ n 0 h
theorem all_byte {l : List AV} (hr : ∀ x ∈ l.map intOf, 0 ≤ x ∧ x < 256) (hl : l.length = 32) (i : Nat) (h : i < 32) : ∃ m : Nat, (l.map intOf).getD i 0 = (m : Int) ∧ m < 256 := by
  have hx := hr ((l.map intOf).getD i 0) (by
    rw [List.getD_eq_getElem?_getD, List.getElem?_eq_getElem (by rw [List.length_map]; omega : i < (l.map intOf).length)]
    exact List.getElem_mem _)
  obtain ⟨m, hm⟩ := Int.eq_ofNat_of_zero_le hx.1
  exact ⟨m, hm, by omega⟩
end Go.Proofs.YtmkgmlgklggnlaaGm
