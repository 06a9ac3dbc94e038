/- A part of the proof: plain laws, and what functions of the given program come to; no condition. -/
import Derived.Test.YtmkgmlgklggnlaaGmYsha
import Derived.Test.YtmkgmlgklggnlaaGmYframe
/-! # SHA-256 of any bytes, in pieces or at once. Plain law: no program. -/
namespace Go.Proofs.YtmkgmlgklggnlaaGm
/-- 'n' blocks more. -/
def eat : Nat → Hs → List UInt8 → Hs
  | 0, s, _ => s
  | n + 1, s, p => eat n (roundH keysW s (bI (p.take 64))) (p.drop 64)
theorem eat_add : ∀ (m n : Nat) (s : Hs) (p : List UInt8), eat (m + n) s p = eat n (eat m s p) (p.drop (64 * m))
  | 0, n, s, p => by rw [Nat.zero_add]; rfl
  | m + 1, n, s, p => by
    rw [show m + 1 + n = m + n + 1 by omega]
    show eat (m + n) _ (p.drop 64) = eat n (eat m _ (p.drop 64)) _
    rw [eat_add m n, List.drop_drop, show 64 + 64 * m = 64 * (m + 1) by omega]
theorem eat_app : ∀ (m : Nat) (s : Hs) (p q : List UInt8), 64 * m ≤ p.length → eat m s (p ++ q) = eat m s p
  | 0, _, _, _, _ => rfl
  | m + 1, s, p, q, h => by
    show eat m (roundH _ s (bI ((p ++ q).take 64))) ((p ++ q).drop 64) = eat m (roundH _ s (bI (p.take 64))) (p.drop 64)
    rw [List.take_append_of_le_length (by omega), List.drop_append_of_le_length (by omega), eat_app m _ _ _ (by rw [List.length_drop]; omega)]
/-- What the state holds after some bytes. -/
def stH (t : List UInt8) : Hs := eat (t.length / 64) firstW t
def stR (t : List UInt8) : List UInt8 := t.drop (64 * (t.length / 64))
theorem stR_len (t : List UInt8) : (stR t).length = t.length % 64 := by unfold stR; rw [List.length_drop]; omega
theorem st_add (t b : List UInt8) : eat ((stR t ++ b).length / 64) (stH t) (stR t ++ b) = eat ((t ++ b).length / 64) firstW (t ++ b) := by
  have e : (t ++ b).length / 64 = t.length / 64 + (stR t ++ b).length / 64 := by rw [List.length_append, List.length_append, stR_len]; omega
  rw [e, eat_add, eat_app _ _ t b (by omega), List.drop_append_of_le_length (by omega)]; rfl
theorem stH_add (t b : List UInt8) : eat ((stR t ++ b).length / 64) (stH t) (stR t ++ b) = stH (t ++ b) := st_add t b
theorem stR_add (t b : List UInt8) : (stR t ++ b).drop (64 * ((stR t ++ b).length / 64)) = stR (t ++ b) := by
  have e : (t ++ b).length / 64 = t.length / 64 + (stR t ++ b).length / 64 := by rw [List.length_append, List.length_append, stR_len]; omega
  have h : stR t ++ b = (t ++ b).drop (64 * (t.length / 64)) := by rw [List.drop_append_of_le_length (by omega)]; rfl
  rw [show stR (t ++ b) = (t ++ b).drop (64 * ((t ++ b).length / 64)) from rfl, e]
  conv => lhs; rw [h]
  rw [List.drop_drop, ← h]
  congr 1; omega
/-- The zeros behind the one. -/
def padZ (l : Nat) : Nat := (119 - l % 64) % 64
/-- The length's eight bytes. -/
def beL (v : Nat) : Nat → List UInt8
  | 0 => []
  | d + 1 => UInt8.ofNat (v / 2 ^ (8 * d) % 256) :: beL v d
theorem beL_len (v : Nat) : ∀ d, (beL v d).length = d
  | 0 => rfl
  | d + 1 => by rw [beL, List.length_cons, beL_len v d]
def be8 (v : Nat) : List UInt8 := beL v 8
def padB (p : List UInt8) (n : Nat) : List UInt8 := p ++ (128 :: List.replicate (padZ p.length) 0 ++ be8 (8 * n))
theorem padB_len (p : List UInt8) (n : Nat) : (padB p n).length = 64 * ((p.length + 72) / 64) := by
  unfold padB padZ be8
  simp only [List.length_append, List.length_cons, List.length_replicate, beL_len]
  omega
def Hs.list (s : Hs) : List Int := [s.a, s.b, s.c, s.d, s.e, s.f, s.g, s.h]
/-- The words' bytes. -/
def outF (s : Hs) (j : Nat) : Int := s.list.getD (j / 4) 0 / 2 ^ (8 * (3 - j % 4)) % 256
def outW (s : Hs) : List Int := (List.range 32).map (outF s)
def outP (s : Hs) (n : Nat) : List Int := (List.range 32).map fun j => if j < n then outF s j else 0
theorem outP_len (s : Hs) (n : Nat) : (outP s n).length = 32 := by unfold outP; rw [List.length_map, List.length_range]
theorem outW_len (s : Hs) : (outW s).length = 32 := by unfold outW; rw [List.length_map, List.length_range]
theorem outP_all (s : Hs) : outP s 32 = outW s := by
  unfold outP outW
  apply List.map_congr_left
  intro j hj
  rw [if_pos (List.mem_range.1 hj)]
theorem outP_set (s : Hs) (i : Nat) : (outP s i).set i (outF s i) = outP s (i + 1) := by
  apply List.ext_getElem?
  intro n
  rw [List.getElem?_set]
  unfold outP
  rw [List.length_map, List.length_range, List.getElem?_map, List.getElem?_map]
  by_cases h : i = n
  · subst h
    rw [if_pos rfl]
    by_cases h2 : i < 32
    · rw [if_pos h2, List.getElem?_range h2, Option.map_some, if_pos (Nat.lt_succ_self _)]
    · rw [if_neg h2, List.getElem?_eq_none (by rw [List.length_range]; omega)]; rfl
  · rw [if_neg h]
    by_cases h2 : n < 32
    · rw [List.getElem?_range h2, Option.map_some, Option.map_some]
      by_cases h3 : n < i
      · rw [if_pos h3, if_pos (by omega)]
      · rw [if_neg h3, if_neg (by omega)]
    · rw [List.getElem?_eq_none (by rw [List.length_range]; omega)]; rfl
def endW (h : Hs) (p : List UInt8) (n : Nat) : List Int := outW (eat ((padB p n).length / 64) h (padB p n))
/-- SHA-256. -/
def shaW (t : List UInt8) : List Int := outW (eat ((padB t t.length).length / 64) firstW (padB t t.length))
theorem shaW_end (t : List UInt8) : endW (stH t) (stR t) t.length = shaW t := by
  have e : padB (stR t) t.length = stR t ++ (128 :: List.replicate (padZ t.length) 0 ++ be8 (8 * t.length)) := by
    unfold padB
    rw [show padZ (stR t).length = padZ t.length by unfold padZ; rw [stR_len, Nat.mod_mod]]
  unfold endW shaW
  rw [e, st_add]; rfl
theorem spanB_at (p : List UInt8) (o : Nat) (h : o + 64 ≤ p.length) : (spanB p o 64).map intOf = bI ((p.drop o).take 64) := by
  unfold spanB bI
  rw [List.map_map]
  apply List.ext_getElem?
  intro i
  rw [List.getElem?_map, List.getElem?_map]
  by_cases hi : i < 64
  · rw [List.getElem?_range hi, List.getElem?_take_of_lt hi, List.getElem?_drop, List.getElem?_eq_getElem (by omega : o + i < p.length)]
    show some (intOf (AV.int .u8 (p.getD (o + i) 0).toNat)) = _
    rw [List.getD_eq_getElem?_getD, List.getElem?_eq_getElem (by omega : o + i < p.length)]; rfl
  · rw [List.getElem?_eq_none (by rw [List.length_range]; omega), List.getElem?_eq_none (by rw [List.length_take]; omega)]; rfl
theorem spanB_bI (p : List UInt8) (h : 64 ≤ p.length) : (spanB p 0 64).map intOf = bI (p.take 64) := by
  unfold spanB bI
  rw [List.map_map]
  apply List.ext_getElem?
  intro i
  rw [List.getElem?_map, List.getElem?_map]
  by_cases hi : i < 64
  · rw [List.getElem?_range hi, List.getElem?_take_of_lt hi, List.getElem?_eq_getElem (by omega : i < p.length)]
    show some (intOf (AV.int .u8 (p.getD (0 + i) 0).toNat)) = _
    rw [Nat.zero_add, List.getD_eq_getElem?_getD, List.getElem?_eq_getElem (by omega : i < p.length)]; rfl
  · rw [List.getElem?_eq_none (by rw [List.length_range]; omega), List.getElem?_eq_none (by rw [List.length_take]; omega)]; rfl
theorem bytes_two (p b : List UInt8) : okB [[AV.ro (.bytes p)], [AV.ro (.bytes b)]] = true ∧ decB [[AV.ro (.bytes p)], [AV.ro (.bytes b)]] = [p, b] := ⟨rfl, rfl⟩
def Hs.of (l : List Int) : Hs := ⟨l.getD 0 0, l.getD 1 0, l.getD 2 0, l.getD 3 0, l.getD 4 0, l.getD 5 0, l.getD 6 0, l.getD 7 0⟩
theorem Hs.of_list (s : Hs) : Hs.of s.list = s := rfl
theorem eight {l : List AV} (h : l.length = 8) (ha : l.all (isInt .u32) = true) : l = intsA .u32 (Hs.of (l.map intOf)).list := by
  match l, h with
  | [a, b, c, d, e, f, g, i], _ =>
    rw [← ints_back ha]; rfl
theorem PureOk.part {P : Program} {f : Nat} {go go' : Ans} (h : PureOk P f go) (hc : PureCps go')
    (hg : ∀ (args : List AV) (r : AV) (objs : List AObj), go' (Option (AV × List AObj)) none args (fun r o => some (r, o)) = some (r, objs) → go (Option (AV × List AObj)) none args (fun r o => some (r, o)) = some (r, objs)) : PureOk P f go' where
  cps := hc
  calls := fun args r objs e => h.calls args r objs (hg args r objs e)
theorem nth_word (s : Hs) : ∀ (i : Nat), i < 8 → nth [AV.int .u32 s.a, .int .u32 s.b, .int .u32 s.c, .int .u32 s.d, .int .u32 s.e, .int .u32 s.f, .int .u32 s.g, .int .u32 s.h] i = .int .u32 (s.list.getD i 0)
  | 0, _ => rfl
  | 1, _ => rfl
  | 2, _ => rfl
  | 3, _ => rfl
  | 4, _ => rfl
  | 5, _ => rfl
  | 6, _ => rfl
  | 7, _ => rfl
  | n + 8, h => by omega
theorem ishr_ediv {k : IntKind} {a : Int} {b : Nat} (h : b ≤ k.bits) : ishr k a (b : Int) = a / 2 ^ b := by
  unfold ishr
  rw [show min (b : Int).toNat k.bits = b from Nat.min_eq_left h]
  exact Int.fdiv_eq_ediv_of_nonneg _ (Int.le_of_lt (Int.pow_pos (by decide)))
theorem set_last {α : Type} (z b : α) (L : List α) : ∀ d, (List.replicate (d + 1) z ++ L).set d b = List.replicate d z ++ b :: L
  | 0 => rfl
  | d + 1 => by
    show z :: ((List.replicate (d + 1) z ++ L).set d b) = z :: (List.replicate d z ++ b :: L)
    rw [set_last z b L d]
theorem inW_addH (s t : Hs) : inW (addH s t).list := by
  intro x hx
  simp only [addH, Hs.list, List.mem_cons, List.not_mem_nil, or_false] at hx
  rcases hx with rfl | rfl | rfl | rfl | rfl | rfl | rfl | rfl <;> exact w32_lt _
theorem inW_eat : ∀ (n : Nat) (s : Hs) (p : List UInt8), inW s.list → inW (eat n s p).list
  | 0, _, _, h => h
  | n + 1, s, p, _ => inW_eat n _ _ (inW_addH _ _)
theorem inW_first : inW firstW.list := by
  intro x hx
  simp only [firstW, Hs.list, List.mem_cons, List.not_mem_nil, or_false] at hx
  rcases hx with rfl | rfl | rfl | rfl | rfl | rfl | rfl | rfl <;> exact ⟨by decide, by decide⟩
theorem twice64 {n : Nat} (h : n < 1152921504606846976) : IntKind.u64.wrap (IntKind.u64.wrap (n : Int) * 8) = ((8 * n : Nat) : Int) := by
  rw [wrapu64 (n := (n : Int)) (by omega) (by omega), wrapu64 (by omega) (by omega)]; omega
def endF (h : Hs) (p : List UInt8) (n : Nat) : Nat → Int := outF (eat ((padB p n).length / 64) h (padB p n))
def shaF (t : List UInt8) : Nat → Int := outF (eat ((padB t t.length).length / 64) firstW (padB t t.length))
theorem endF_W (h : Hs) (p : List UInt8) (n : Nat) : (List.range 32).map (endF h p n) = endW h p n := rfl
theorem shaF_W (t : List UInt8) : (List.range 32).map (shaF t) = shaW t := rfl
/-- Thirty-two values, one by one. -/
def cells32 (f : Nat → Int) : List AV := [.int .u8 (f 0), .int .u8 (f 1), .int .u8 (f 2), .int .u8 (f 3), .int .u8 (f 4), .int .u8 (f 5), .int .u8 (f 6), .int .u8 (f 7), .int .u8 (f 8), .int .u8 (f 9), .int .u8 (f 10), .int .u8 (f 11), .int .u8 (f 12), .int .u8 (f 13), .int .u8 (f 14), .int .u8 (f 15), .int .u8 (f 16), .int .u8 (f 17), .int .u8 (f 18), .int .u8 (f 19), .int .u8 (f 20), .int .u8 (f 21), .int .u8 (f 22), .int .u8 (f 23), .int .u8 (f 24), .int .u8 (f 25), .int .u8 (f 26), .int .u8 (f 27), .int .u8 (f 28), .int .u8 (f 29), .int .u8 (f 30), .int .u8 (f 31)]
theorem cells32_eq (f : Nat → Int) : cells32 f = intsA .u8 ((List.range 32).map f) := rfl
end Go.Proofs.YtmkgmlgklggnlaaGm
