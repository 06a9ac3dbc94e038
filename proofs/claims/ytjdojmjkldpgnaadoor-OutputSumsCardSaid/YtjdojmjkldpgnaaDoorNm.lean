/- A part of the proof: plain laws, and what functions of the given program come to; no condition. -/
import Derived.Test.YtjdojmjkldpgnaaDoorNi
import Derived.Test.YtjdojmjkldpgnaaDoorGmYspill
namespace Go.Proofs.YtjdojmjkldpgnaaDoorG
open Go Go.Proofs.YtjdojmjkldpgnaaDoorGm
set_option maxRecDepth 100000
def tt37 : Tab := [(3, ty3), (4, ty4), (9, ty9)]
theorem tt37_ok : TabOk Tryd.prog tt37 := tabOk_of_all ⟨ty3_ok, ty4_ok, ty9_ok, trivial⟩
def c37 (F : Nat) : Cfg := ⟨tt37, [], F, [(0, ⟨[0, 3, 4], []⟩)], [], 0⟩
noncomputable def f37_0 (F k : Nat) (x0 : Int) (x3 : List UInt8) (x4 : Int) : Res := aloop (c37 F) Tryd.f37 0 [] k (St.mk [AV.int IntKind.i64 x0, AV.top, AV.top, AV.str x3, AV.int IntKind.i64 x4, AV.top, AV.top, AV.top, AV.top, AV.top, AV.top, AV.top, AV.top, AV.top, AV.top, AV.top, AV.top, AV.top, AV.top, AV.top, AV.top, AV.top, AV.top, AV.top, AV.top, AV.top, AV.top, AV.top, AV.top, AV.top, AV.top, AV.top] [])
theorem f37_eq (F : Nat) (a0 : Int) : afun (c37 F) Tryd.f37 [AV.int IntKind.i64 a0] [] =
  f37_0 F F a0 ((ByteArray.mk #[]).data.toList) a0 := by kernel_rfl
theorem f37_0_eq (F k : Nat) (x0 : Int) (x3 : List UInt8) (x4 : Int) : f37_0 F (k + 1) x0 x3 x4 =
  bif !eqI x4 0 then
    bif ltI (irem x4 10) 0 then
      bif leI 0 (IntKind.i64.wrap (0 - irem x4 10)) && leI (IntKind.i64.wrap (0 - irem x4 10)) (IntKind.i64.wrap (IntKind.i64.wrap (0 - irem x4 10) + 1)) && leI (IntKind.i64.wrap (IntKind.i64.wrap (0 - irem x4 10) + 1)) ↑(ByteArray.mk #[48, 49, 50, 51, 52, 53, 54, 55, 56, 57]).data.toList.length then
        bif ((bif true then List.take ((IntKind.i64.wrap (IntKind.i64.wrap (0 - irem x4 10) + 1)).toNat - (IntKind.i64.wrap (0 - irem x4 10)).toNat) (List.drop (IntKind.i64.wrap (0 - irem x4 10)).toNat (ByteArray.mk #[48, 49, 50, 51, 52, 53, 54, 55, 56, 57]).data.toList) else List.drop (IntKind.i64.wrap (0 - irem x4 10)).toNat (ByteArray.mk #[48, 49, 50, 51, 52, 53, 54, 55, 56, 57]).data.toList).length + x3.length).ble maxLen then
          f37_0 F k x0 ((bif true then List.take ((IntKind.i64.wrap (IntKind.i64.wrap (0 - irem x4 10) + 1)).toNat - (IntKind.i64.wrap (0 - irem x4 10)).toNat) (List.drop (IntKind.i64.wrap (0 - irem x4 10)).toNat (ByteArray.mk #[48, 49, 50, 51, 52, 53, 54, 55, 56, 57]).data.toList) else List.drop (IntKind.i64.wrap (0 - irem x4 10)).toNat (ByteArray.mk #[48, 49, 50, 51, 52, 53, 54, 55, 56, 57]).data.toList) ++ x3) (iquo IntKind.i64 x4 10)
        else
          .stuck
      else
        .stuck
    else
      bif leI 0 (irem x4 10) && leI (irem x4 10) (IntKind.i64.wrap (irem x4 10 + 1)) && leI (IntKind.i64.wrap (irem x4 10 + 1)) ↑(ByteArray.mk #[48, 49, 50, 51, 52, 53, 54, 55, 56, 57]).data.toList.length then
        bif ((bif true then List.take ((IntKind.i64.wrap (irem x4 10 + 1)).toNat - (irem x4 10).toNat) (List.drop (irem x4 10).toNat (ByteArray.mk #[48, 49, 50, 51, 52, 53, 54, 55, 56, 57]).data.toList) else List.drop (irem x4 10).toNat (ByteArray.mk #[48, 49, 50, 51, 52, 53, 54, 55, 56, 57]).data.toList).length + x3.length).ble maxLen then
          f37_0 F k x0 ((bif true then List.take ((IntKind.i64.wrap (irem x4 10 + 1)).toNat - (irem x4 10).toNat) (List.drop (irem x4 10).toNat (ByteArray.mk #[48, 49, 50, 51, 52, 53, 54, 55, 56, 57]).data.toList) else List.drop (irem x4 10).toNat (ByteArray.mk #[48, 49, 50, 51, 52, 53, 54, 55, 56, 57]).data.toList) ++ x3) (iquo IntKind.i64 x4 10)
        else
          .stuck
      else
        .stuck
  else
    bif eqS x3 (ByteArray.mk #[]).data.toList then
      bif ltI (irem x4 10) 0 then
        bif leI 0 (IntKind.i64.wrap (0 - irem x4 10)) && leI (IntKind.i64.wrap (0 - irem x4 10)) (IntKind.i64.wrap (IntKind.i64.wrap (0 - irem x4 10) + 1)) && leI (IntKind.i64.wrap (IntKind.i64.wrap (0 - irem x4 10) + 1)) ↑(ByteArray.mk #[48, 49, 50, 51, 52, 53, 54, 55, 56, 57]).data.toList.length then
          bif ((bif true then List.take ((IntKind.i64.wrap (IntKind.i64.wrap (0 - irem x4 10) + 1)).toNat - (IntKind.i64.wrap (0 - irem x4 10)).toNat) (List.drop (IntKind.i64.wrap (0 - irem x4 10)).toNat (ByteArray.mk #[48, 49, 50, 51, 52, 53, 54, 55, 56, 57]).data.toList) else List.drop (IntKind.i64.wrap (0 - irem x4 10)).toNat (ByteArray.mk #[48, 49, 50, 51, 52, 53, 54, 55, 56, 57]).data.toList).length + x3.length).ble maxLen then
            f37_0 F k x0 ((bif true then List.take ((IntKind.i64.wrap (IntKind.i64.wrap (0 - irem x4 10) + 1)).toNat - (IntKind.i64.wrap (0 - irem x4 10)).toNat) (List.drop (IntKind.i64.wrap (0 - irem x4 10)).toNat (ByteArray.mk #[48, 49, 50, 51, 52, 53, 54, 55, 56, 57]).data.toList) else List.drop (IntKind.i64.wrap (0 - irem x4 10)).toNat (ByteArray.mk #[48, 49, 50, 51, 52, 53, 54, 55, 56, 57]).data.toList) ++ x3) (iquo IntKind.i64 x4 10)
          else
            .stuck
        else
          .stuck
      else
        bif leI 0 (irem x4 10) && leI (irem x4 10) (IntKind.i64.wrap (irem x4 10 + 1)) && leI (IntKind.i64.wrap (irem x4 10 + 1)) ↑(ByteArray.mk #[48, 49, 50, 51, 52, 53, 54, 55, 56, 57]).data.toList.length then
          bif ((bif true then List.take ((IntKind.i64.wrap (irem x4 10 + 1)).toNat - (irem x4 10).toNat) (List.drop (irem x4 10).toNat (ByteArray.mk #[48, 49, 50, 51, 52, 53, 54, 55, 56, 57]).data.toList) else List.drop (irem x4 10).toNat (ByteArray.mk #[48, 49, 50, 51, 52, 53, 54, 55, 56, 57]).data.toList).length + x3.length).ble maxLen then
            f37_0 F k x0 ((bif true then List.take ((IntKind.i64.wrap (irem x4 10 + 1)).toNat - (irem x4 10).toNat) (List.drop (irem x4 10).toNat (ByteArray.mk #[48, 49, 50, 51, 52, 53, 54, 55, 56, 57]).data.toList) else List.drop (irem x4 10).toNat (ByteArray.mk #[48, 49, 50, 51, 52, 53, 54, 55, 56, 57]).data.toList) ++ x3) (iquo IntKind.i64 x4 10)
          else
            .stuck
        else
          .stuck
    else
      bif ltI x0 0 then
        bif ((ByteArray.mk #[45]).data.toList.length + x3.length).ble maxLen then
          .ret (AV.str ((ByteArray.mk #[45]).data.toList ++ x3)) []
        else
          .stuck
      else
        .ret (AV.str x3) [] := by kernel_rfl


def go37 (R : Type) (stk : R) (args : List AV) (ret : AV → List AObj → R) : R :=
  match args with
  | [.int .i64 n] => ret (.str (Lib.itoa n)) []
  | _ => stk
theorem num_step (F k : Nat) (x0 x4 : Int) (s : List UInt8) (h1 : -9223372036854775808 ≤ x4) (h2 : x4 ≤ 9223372036854775807) (hne : x4 ≠ 0 ∨ s = []) (hs : s.length ≤ 100) :
    f37_0 F (k + 1) x0 s x4 = f37_0 F k x0 (UInt8.ofNat (48 + x4.natAbs % 10) :: s) (x4.tdiv 10) := by
  obtain ⟨hr, hq0⟩ := rem_quo x4
  have hq : iquo IntKind.i64 x4 10 = x4.tdiv 10 := by unfold iquo; exact wrap64 (by omega) (by omega)
  have hlt : x4.natAbs % 10 < 10 := Nat.mod_lt _ (by decide)
  obtain ⟨d1, d2⟩ := digit_at _ hlt
  have hl : ([UInt8.ofNat (48 + x4.natAbs % 10)] : List UInt8).length + s.length ≤ maxLen := by unfold maxLen; simp only [List.length_cons, List.length_nil]; omega
  have pos : irem x4 10 = ((x4.natAbs % 10 : Nat) : Int) → (bif ltI (irem x4 10) 0 then
      bif leI 0 (IntKind.i64.wrap (0 - irem x4 10)) && leI (IntKind.i64.wrap (0 - irem x4 10)) (IntKind.i64.wrap (IntKind.i64.wrap (0 - irem x4 10) + 1)) && leI (IntKind.i64.wrap (IntKind.i64.wrap (0 - irem x4 10) + 1)) ((ByteArray.mk #[48, 49, 50, 51, 52, 53, 54, 55, 56, 57]).data.toList.length : Int) then
        bif ((bif true then List.take ((IntKind.i64.wrap (IntKind.i64.wrap (0 - irem x4 10) + 1)).toNat - (IntKind.i64.wrap (0 - irem x4 10)).toNat) (List.drop (IntKind.i64.wrap (0 - irem x4 10)).toNat (ByteArray.mk #[48, 49, 50, 51, 52, 53, 54, 55, 56, 57]).data.toList) else List.drop (IntKind.i64.wrap (0 - irem x4 10)).toNat (ByteArray.mk #[48, 49, 50, 51, 52, 53, 54, 55, 56, 57]).data.toList).length + s.length).ble maxLen then
          f37_0 F k x0 ((bif true then List.take ((IntKind.i64.wrap (IntKind.i64.wrap (0 - irem x4 10) + 1)).toNat - (IntKind.i64.wrap (0 - irem x4 10)).toNat) (List.drop (IntKind.i64.wrap (0 - irem x4 10)).toNat (ByteArray.mk #[48, 49, 50, 51, 52, 53, 54, 55, 56, 57]).data.toList) else List.drop (IntKind.i64.wrap (0 - irem x4 10)).toNat (ByteArray.mk #[48, 49, 50, 51, 52, 53, 54, 55, 56, 57]).data.toList) ++ s) (iquo IntKind.i64 x4 10)
        else .stuck
      else .stuck
    else
      bif leI 0 (irem x4 10) && leI (irem x4 10) (IntKind.i64.wrap (irem x4 10 + 1)) && leI (IntKind.i64.wrap (irem x4 10 + 1)) ((ByteArray.mk #[48, 49, 50, 51, 52, 53, 54, 55, 56, 57]).data.toList.length : Int) then
        bif ((bif true then List.take ((IntKind.i64.wrap (irem x4 10 + 1)).toNat - (irem x4 10).toNat) (List.drop (irem x4 10).toNat (ByteArray.mk #[48, 49, 50, 51, 52, 53, 54, 55, 56, 57]).data.toList) else List.drop (irem x4 10).toNat (ByteArray.mk #[48, 49, 50, 51, 52, 53, 54, 55, 56, 57]).data.toList).length + s.length).ble maxLen then
          f37_0 F k x0 ((bif true then List.take ((IntKind.i64.wrap (irem x4 10 + 1)).toNat - (irem x4 10).toNat) (List.drop (irem x4 10).toNat (ByteArray.mk #[48, 49, 50, 51, 52, 53, 54, 55, 56, 57]).data.toList) else List.drop (irem x4 10).toNat (ByteArray.mk #[48, 49, 50, 51, 52, 53, 54, 55, 56, 57]).data.toList) ++ s) (iquo IntKind.i64 x4 10)
        else .stuck
      else .stuck) = f37_0 F k x0 (UInt8.ofNat (48 + x4.natAbs % 10) :: s) (x4.tdiv 10) := by
    intro e
    rw [e, hq, bif_neg (by rw [ltI_iff]; omega), bif_pos d2, d1, bif_pos (ble_iff.2 hl)]
    rfl
  have neg : irem x4 10 = -((x4.natAbs % 10 : Nat) : Int) → 0 < x4.natAbs % 10 → (bif ltI (irem x4 10) 0 then
      bif leI 0 (IntKind.i64.wrap (0 - irem x4 10)) && leI (IntKind.i64.wrap (0 - irem x4 10)) (IntKind.i64.wrap (IntKind.i64.wrap (0 - irem x4 10) + 1)) && leI (IntKind.i64.wrap (IntKind.i64.wrap (0 - irem x4 10) + 1)) ((ByteArray.mk #[48, 49, 50, 51, 52, 53, 54, 55, 56, 57]).data.toList.length : Int) then
        bif ((bif true then List.take ((IntKind.i64.wrap (IntKind.i64.wrap (0 - irem x4 10) + 1)).toNat - (IntKind.i64.wrap (0 - irem x4 10)).toNat) (List.drop (IntKind.i64.wrap (0 - irem x4 10)).toNat (ByteArray.mk #[48, 49, 50, 51, 52, 53, 54, 55, 56, 57]).data.toList) else List.drop (IntKind.i64.wrap (0 - irem x4 10)).toNat (ByteArray.mk #[48, 49, 50, 51, 52, 53, 54, 55, 56, 57]).data.toList).length + s.length).ble maxLen then
          f37_0 F k x0 ((bif true then List.take ((IntKind.i64.wrap (IntKind.i64.wrap (0 - irem x4 10) + 1)).toNat - (IntKind.i64.wrap (0 - irem x4 10)).toNat) (List.drop (IntKind.i64.wrap (0 - irem x4 10)).toNat (ByteArray.mk #[48, 49, 50, 51, 52, 53, 54, 55, 56, 57]).data.toList) else List.drop (IntKind.i64.wrap (0 - irem x4 10)).toNat (ByteArray.mk #[48, 49, 50, 51, 52, 53, 54, 55, 56, 57]).data.toList) ++ s) (iquo IntKind.i64 x4 10)
        else .stuck
      else .stuck
    else
      bif leI 0 (irem x4 10) && leI (irem x4 10) (IntKind.i64.wrap (irem x4 10 + 1)) && leI (IntKind.i64.wrap (irem x4 10 + 1)) ((ByteArray.mk #[48, 49, 50, 51, 52, 53, 54, 55, 56, 57]).data.toList.length : Int) then
        bif ((bif true then List.take ((IntKind.i64.wrap (irem x4 10 + 1)).toNat - (irem x4 10).toNat) (List.drop (irem x4 10).toNat (ByteArray.mk #[48, 49, 50, 51, 52, 53, 54, 55, 56, 57]).data.toList) else List.drop (irem x4 10).toNat (ByteArray.mk #[48, 49, 50, 51, 52, 53, 54, 55, 56, 57]).data.toList).length + s.length).ble maxLen then
          f37_0 F k x0 ((bif true then List.take ((IntKind.i64.wrap (irem x4 10 + 1)).toNat - (irem x4 10).toNat) (List.drop (irem x4 10).toNat (ByteArray.mk #[48, 49, 50, 51, 52, 53, 54, 55, 56, 57]).data.toList) else List.drop (irem x4 10).toNat (ByteArray.mk #[48, 49, 50, 51, 52, 53, 54, 55, 56, 57]).data.toList) ++ s) (iquo IntKind.i64 x4 10)
        else .stuck
      else .stuck) = f37_0 F k x0 (UInt8.ofNat (48 + x4.natAbs % 10) :: s) (x4.tdiv 10) := by
    intro e hp
    have e2 : IntKind.i64.wrap (0 - irem x4 10) = ((x4.natAbs % 10 : Nat) : Int) := by rw [e]; rw [wrap64 (by omega) (by omega)]; omega
    rw [e2, hq, bif_pos (by rw [ltI_iff]; omega), bif_pos d2, d1, bif_pos (ble_iff.2 hl)]
    rfl
  have body := hr.elim pos fun h => neg h.1 h.2
  rw [f37_0_eq]
  by_cases h0 : x4 = 0
  · rcases hne with h | h
    · exact absurd h0 h
    · subst h
      rw [bif_neg (by rw [eqI_iff.2 h0]; decide), bif_pos (eqS_iff.2 rfl)]
      exact body
  · rw [bif_pos (by rw [Bool.not_eq_true']; exact Bool.eq_false_iff.2 fun h => h0 (eqI_iff.1 h))]
    exact body
theorem num_run (F : Nat) (x0 : Int) : ∀ (d k : Nat) (x4 : Int) (s : List UInt8), -9223372036854775808 ≤ x4 → x4 ≤ 9223372036854775807 → x4 ≠ 0 → x4.natAbs < 10 ^ d → s.length + d ≤ 90 → d ≤ k →
    ∃ k', k ≤ k' + d ∧ f37_0 F k x0 s x4 = f37_0 F k' x0 (Lib.decDigits x4.natAbs ++ s) 0
  | 0, k, x4, s, h1, h2, h3, h4, h5, h6 => by simp at h4; omega
  | d + 1, 0, x4, s, h1, h2, h3, h4, h5, h6 => by omega
  | d + 1, k + 1, x4, s, h1, h2, h3, h4, h5, h6 => by
    obtain ⟨hr, hq0⟩ := rem_quo x4
    rw [num_step F k x0 x4 s h1 h2 (.inl h3) (by omega)]
    by_cases h10 : x4.natAbs < 10
    · have e : x4.tdiv 10 = 0 := by omega
      rw [e]
      refine ⟨k, by omega, ?_⟩
      rw [Lib.decDigits_one h10, Nat.mod_eq_of_lt h10]
      rfl
    · have hb : x4.natAbs / 10 < 10 ^ d := by rw [Nat.pow_succ] at h4; omega
      obtain ⟨k', g1, g2⟩ := num_run F x0 d k (x4.tdiv 10) (UInt8.ofNat (48 + x4.natAbs % 10) :: s) (by omega) (by omega) (by omega) (by rw [hq0]; exact hb) (by simp only [List.length_cons]; omega) (by omega)
      refine ⟨k', by omega, ?_⟩
      rw [g2, hq0]
      conv => rhs; rw [Lib.decDigits, dif_neg h10]
      rw [List.append_assoc]
      rfl
theorem num_end (F k : Nat) (x0 : Int) (s : List UInt8) (hs : s ≠ []) (hl : s.length ≤ 100) : f37_0 F (k + 1) x0 s 0 = .ret (.str (bif ltI x0 0 then 45 :: s else s)) [] := by
  rw [f37_0_eq, bif_neg (by decide), bif_neg (by rw [eqS_iff]; exact hs)]
  cases h : ltI x0 0 with
  | true =>
    rw [cond_true, cond_true, bif_pos (ble_iff.2 (by unfold maxLen; show 1 + s.length ≤ _; omega))]
    rfl
  | false => rfl
theorem f37_all (F : Nat) (hF : 100 ≤ F) (n : Int) (h : IntKind.i64.has n) : afun (c37 F) Tryd.f37 [AV.int IntKind.i64 n] [] = .ret (.str (Lib.itoa n)) [] := by
  obtain ⟨h1, h2⟩ := i64_has h
  rw [f37_eq]
  by_cases h0 : n = 0
  · subst h0
    obtain ⟨k, rfl⟩ : ∃ k, F = k + 2 := ⟨F - 2, by omega⟩
    rw [num_step _ _ _ _ _ (by omega) (by omega) (.inr rfl) (by decide)]
    rw [show (Int.tdiv 0 10) = 0 from rfl, num_end _ _ _ _ (by simp) (by decide)]
    have e : Lib.itoa 0 = [48] := by unfold Lib.itoa; rw [if_neg (by omega), show (0 : Int).toNat = 0 from rfl, Lib.decDigits_one (by omega)]; rfl
    rw [e]
    rfl
  · obtain ⟨k', g1, g2⟩ := num_run F n 20 F n [] h1 h2 h0 (by omega) (by decide) (by omega)
    obtain ⟨k, rfl⟩ : ∃ k, k' = k + 1 := ⟨k' - 1, by omega⟩
    have hlen : (Lib.decDigits n.natAbs).length ≤ 100 := by
      have := Lib.itoa_length_le n h1 h2
      unfold Lib.itoa at this
      split at this
      · simp only [List.length_cons] at this; omega
      · have e : n.natAbs = n.toNat := by omega
        rw [e]; omega
    have hne : Lib.decDigits n.natAbs ≠ [] := by
      rw [Lib.decDigits]
      split <;> simp
    rw [List.append_nil] at g2
    refine Eq.trans g2 ?_
    rw [num_end _ _ _ _ hne hlen]
    unfold Lib.itoa
    by_cases hn : n < 0
    · rw [if_pos hn, bif_pos (ltI_iff.2 hn)]
    · rw [if_neg (by omega), bif_neg (by rw [ltI_iff]; omega), show n.natAbs = n.toNat by omega]
theorem ok37 : PureOk Tryd.prog 37 go37 := by
  refine pureOk_of (c37 rounds) tt37_ok .nil follows rfl Tryd.func37 (by kernel_rfl) (by kernel_rfl) ?_ ?_
  · intro R stk args ret
    unfold go37
    split <;> rfl
  · intro args r objs h hr
    unfold go37 at h
    split at h
    · rename_i n
      cases h
      refine ⟨_, ?_, .same⟩
      rw [apure_out]
      rw [f37_all rounds (by decide) n hr.int]
      rfl
    · cases h

def tt13 : Tab := [(3, ty3), (9, ty9)]
theorem tt13_ok : TabOk Tryd.prog tt13 := tabOk_of_all ⟨ty3_ok, ty9_ok, trivial⟩
def c13 (F : Nat) : Cfg := ⟨tt13, [(36, .pure (goItoa 0))], F, [], [], 0⟩
theorem f13a_eq (F : Nat) (a : Int) (b : Int) (c : Int) : afun (c13 F) Tryd.f13 [AV.tin 0 Lib.pow10Tab a, AV.tin 0 Lib.pow10Tab b, AV.tin 0 Lib.pow10Tab c] [] =
  bif ((ByteArray.mk #[109, 45]).data.toList.length + (Lib.itoa a).length).ble maxLen then
    bif (((ByteArray.mk #[109, 45]).data.toList ++ Lib.itoa a).length + (ByteArray.mk #[45]).data.toList.length).ble maxLen then
      bif (((ByteArray.mk #[109, 45]).data.toList ++ Lib.itoa a ++ (ByteArray.mk #[45]).data.toList).length + (Lib.itoa b).length).ble maxLen then
        bif (((ByteArray.mk #[109, 45]).data.toList ++ Lib.itoa a ++ (ByteArray.mk #[45]).data.toList ++ Lib.itoa b).length + (ByteArray.mk #[45]).data.toList.length).ble maxLen then
          bif (((ByteArray.mk #[109, 45]).data.toList ++ Lib.itoa a ++ (ByteArray.mk #[45]).data.toList ++ Lib.itoa b ++ (ByteArray.mk #[45]).data.toList).length + (Lib.itoa c).length).ble maxLen then
            .ret (AV.str ((ByteArray.mk #[109, 45]).data.toList ++ Lib.itoa a ++ (ByteArray.mk #[45]).data.toList ++ Lib.itoa b ++ (ByteArray.mk #[45]).data.toList ++ Lib.itoa c)) []
          else
            .stuck
        else
          .stuck
      else
        .stuck
    else
      .stuck
  else
    .stuck := by kernel_rfl

theorem f13b_eq (F : Nat) : afun (c13 F) Tryd.f13 [AV.int IntKind.i64 3, AV.int IntKind.i64 0, AV.int IntKind.i64 1] [] =
  .ret (AV.str ((ByteArray.mk #[109, 45]).data.toList ++ Lib.itoa 3 ++ (ByteArray.mk #[45]).data.toList ++ Lib.itoa 0 ++ (ByteArray.mk #[45]).data.toList ++ Lib.itoa 1)) [] := by kernel_rfl

def tt14 : Tab := [(3, ty3), (9, ty9)]
theorem tt14_ok : TabOk Tryd.prog tt14 := tabOk_of_all ⟨ty3_ok, ty9_ok, trivial⟩
def c14 (F : Nat) : Cfg := ⟨tt14, [(37, .pure (untinGo go37))], F, [], [], 0⟩
theorem f14_eq (F : Nat) (a : Int) (b : Int) (c : Int) : afun (c14 F) Tryd.f14 [AV.tin 0 Lib.pow10Tab a, AV.tin 0 Lib.pow10Tab b, AV.tin 0 Lib.pow10Tab c] [] =
  bif ((ByteArray.mk #[109, 45]).data.toList.length + (Lib.itoa a).length).ble maxLen then
    bif (((ByteArray.mk #[109, 45]).data.toList ++ Lib.itoa a).length + (ByteArray.mk #[45]).data.toList.length).ble maxLen then
      bif (((ByteArray.mk #[109, 45]).data.toList ++ Lib.itoa a ++ (ByteArray.mk #[45]).data.toList).length + (Lib.itoa b).length).ble maxLen then
        bif (((ByteArray.mk #[109, 45]).data.toList ++ Lib.itoa a ++ (ByteArray.mk #[45]).data.toList ++ Lib.itoa b).length + (ByteArray.mk #[45]).data.toList.length).ble maxLen then
          bif (((ByteArray.mk #[109, 45]).data.toList ++ Lib.itoa a ++ (ByteArray.mk #[45]).data.toList ++ Lib.itoa b ++ (ByteArray.mk #[45]).data.toList).length + (Lib.itoa c).length).ble maxLen then
            .ret (AV.str ((ByteArray.mk #[109, 45]).data.toList ++ Lib.itoa a ++ (ByteArray.mk #[45]).data.toList ++ Lib.itoa b ++ (ByteArray.mk #[45]).data.toList ++ Lib.itoa c)) []
          else
            .stuck
        else
          .stuck
      else
        .stuck
    else
      .stuck
  else
    .stuck := by kernel_rfl


def nameS (a b c : Int) : List UInt8 := (ByteArray.mk #[109, 45]).data.toList ++ Lib.itoa a ++ (ByteArray.mk #[45]).data.toList ++ Lib.itoa b ++ (ByteArray.mk #[45]).data.toList ++ Lib.itoa c
def isTab (g : Nat) (l : List Int) : Bool := Nat.beq g 0 && decide (l = Lib.pow10Tab)
theorem isTab_iff {g : Nat} {l : List Int} : isTab g l = true ↔ g = 0 ∧ l = Lib.pow10Tab := by
  unfold isTab
  rw [Bool.and_eq_true, decide_eq_true_eq]
  exact ⟨fun h => ⟨Nat.eq_of_beq_eq_true h.1, h.2⟩, fun h => ⟨by rw [h.1]; rfl, h.2⟩⟩
def go13 (R : Type) (stk : R) (args : List AV) (ret : AV → List AObj → R) : R :=
  match args with
  | [.tin g l a, .tin g' l' b, .tin g'' l'' c] => bif isTab g l && (isTab g' l' && isTab g'' l'') then ret (.str (nameS a b c)) [] else stk
  | [.int .i64 a, .int .i64 b, .int .i64 c] => bif eqI a 3 && (eqI b 0 && eqI c 1) then ret (.str [109, 45, 51, 45, 48, 45, 49]) [] else stk
  | _ => stk
def go14 (R : Type) (stk : R) (args : List AV) (ret : AV → List AObj → R) : R :=
  match args with
  | [.tin g l a, .tin g' l' b, .tin g'' l'' c] => bif isTab g l && (isTab g' l' && isTab g'' l'') then ret (.str (nameS a b c)) [] else stk
  | _ => stk
theorem Real.tin {g : Nat} {t : List Int} {n : Int} {l : List AV} (h : Real (.tin g t n :: l)) : IntKind.i64.has n := by
  obtain ⟨w, M, vs, h⟩ := h
  cases h with | cons h t =>
  cases h with | tin hk _ _ _ => exact hk
theorem name_fits (a b c : Int) (ha : IntKind.i64.has a) (hb : IntKind.i64.has b) (hc : IntKind.i64.has c) : (Lib.itoa a).length ≤ 21 ∧ (Lib.itoa b).length ≤ 21 ∧ (Lib.itoa c).length ≤ 21 :=
  ⟨Lib.itoa_length_le a (i64_has ha).1 (i64_has ha).2, Lib.itoa_length_le b (i64_has hb).1 (i64_has hb).2, Lib.itoa_length_le c (i64_has hc).1 (i64_has hc).2⟩
theorem itoa_one (n : Nat) (h : n < 10) : Lib.itoa n = [UInt8.ofNat (48 + n)] := by unfold Lib.itoa; rw [if_neg (by omega), Int.toNat_natCast, Lib.decDigits_one h]

theorem ok13 : PureOk Tryd.prog 13 go13 := by
  refine pureOk_of (c13 rounds) tt13_ok (.cons ok36 .nil) follows rfl Tryd.func13 (by kernel_rfl) (by kernel_rfl) ?_ ?_
  · intro R stk args ret
    unfold go13
    split
    · simp only [elim_cond]; rfl
    · simp only [elim_cond]; rfl
    · rfl
  · intro args r objs h hr
    unfold go13 at h
    split at h
    · rename_i g l a g' l' b g'' l'' c
      rcases bif_alt h with ⟨hf0, h⟩ | ⟨hf0, h⟩
      · cases h
        rw [Bool.and_eq_true, Bool.and_eq_true, isTab_iff, isTab_iff, isTab_iff] at hf0
        obtain ⟨⟨rfl, rfl⟩, ⟨rfl, rfl⟩, rfl, rfl⟩ := hf0
        obtain ⟨l1, l2, l3⟩ := name_fits a b c (Real.tin hr) (Real.tin hr.tail) (Real.tin hr.tail.tail)
        refine ⟨_, ?_, .same⟩
        rw [apure_out, f13a_eq]
        have e1 : (ByteArray.mk #[109, 45]).data.toList.length = 2 := rfl
        have e2 : (ByteArray.mk #[45]).data.toList.length = 1 := rfl
        rw [bif_pos (ble_iff.2 (by simp only [List.length_append, e1, e2]; unfold maxLen; omega)), bif_pos (ble_iff.2 (by simp only [List.length_append, e1, e2]; unfold maxLen; omega)), bif_pos (ble_iff.2 (by simp only [List.length_append, e1, e2]; unfold maxLen; omega)),
          bif_pos (ble_iff.2 (by simp only [List.length_append, e1, e2]; unfold maxLen; omega)), bif_pos (ble_iff.2 (by simp only [List.length_append, e1, e2]; unfold maxLen; omega))]
        rfl
      · cases h
    · rename_i a b c
      rcases bif_alt h with ⟨hf0, h⟩ | ⟨hf0, h⟩
      · cases h
        rw [Bool.and_eq_true, Bool.and_eq_true, eqI_iff, eqI_iff, eqI_iff] at hf0
        obtain ⟨rfl, rfl, rfl⟩ := hf0
        refine ⟨_, ?_, .same⟩
        rw [apure_out, f13b_eq]
        rw [show (3 : Int) = ((3 : Nat) : Int) from rfl, show (0 : Int) = ((0 : Nat) : Int) from rfl, show (1 : Int) = ((1 : Nat) : Int) from rfl, itoa_one 3 (by decide), itoa_one 0 (by decide), itoa_one 1 (by decide)]
        rfl
      · cases h
    · cases h

theorem ok14 : PureOk Tryd.prog 14 go14 := by
  refine pureOk_of (c14 rounds) tt14_ok (.cons ok37.untin .nil) follows rfl Tryd.func14 (by kernel_rfl) (by kernel_rfl) ?_ ?_
  · intro R stk args ret
    unfold go14
    split
    · simp only [elim_cond]; rfl
    · rfl
  · intro args r objs h hr
    unfold go14 at h
    split at h
    · rename_i g l a g' l' b g'' l'' c
      rcases bif_alt h with ⟨hf0, h⟩ | ⟨hf0, h⟩
      · cases h
        rw [Bool.and_eq_true, Bool.and_eq_true, isTab_iff, isTab_iff, isTab_iff] at hf0
        obtain ⟨⟨rfl, rfl⟩, ⟨rfl, rfl⟩, rfl, rfl⟩ := hf0
        obtain ⟨l1, l2, l3⟩ := name_fits a b c (Real.tin hr) (Real.tin hr.tail) (Real.tin hr.tail.tail)
        refine ⟨_, ?_, .same⟩
        rw [apure_out, f14_eq]
        have e1 : (ByteArray.mk #[109, 45]).data.toList.length = 2 := rfl
        have e2 : (ByteArray.mk #[45]).data.toList.length = 1 := rfl
        rw [bif_pos (ble_iff.2 (by simp only [List.length_append, e1, e2]; unfold maxLen; omega)), bif_pos (ble_iff.2 (by simp only [List.length_append, e1, e2]; unfold maxLen; omega)), bif_pos (ble_iff.2 (by simp only [List.length_append, e1, e2]; unfold maxLen; omega)),
          bif_pos (ble_iff.2 (by simp only [List.length_append, e1, e2]; unfold maxLen; omega)), bif_pos (ble_iff.2 (by simp only [List.length_append, e1, e2]; unfold maxLen; omega))]
        rfl
      · cases h
    · cases h
def tt11 : Tab := [(3, ty3), (4, ty4), (9, ty9)]
theorem tt11_ok : TabOk Tryd.prog tt11 := tabOk_of_all ⟨ty3_ok, ty4_ok, ty9_ok, trivial⟩
def c11 (F : Nat) : Cfg := ⟨tt11, [(13, .pure go13)], F, [], [], 0⟩
theorem f11_eq (F : Nat) : afun (c11 F) Tryd.f11 [] [] =
  .ret (AV.bool (eqS [109, 45, 51, 45, 48, 45, 49] (ByteArray.mk #[109, 45, 51, 45, 48, 45, 49]).data.toList)) [] := by kernel_rfl


def go11 (R : Type) (stk : R) (args : List AV) (ret : AV → List AObj → R) : R :=
  match args with
  | [] => ret (.bool true) []
  | _ => stk
theorem ok11 : PureOk Tryd.prog 11 go11 := by
  refine pureOk_of (c11 rounds) tt11_ok (.cons ok13 .nil) follows rfl Tryd.func11 (by kernel_rfl) (by kernel_rfl) ?_ ?_
  · intro R stk args ret
    unfold go11
    split <;> rfl
  · intro args r objs h hr
    unfold go11 at h
    split at h
    · cases h
      refine ⟨_, ?_, .same⟩
      rw [apure_out, f11_eq]
      rfl
    · cases h

def tt10 : Tab := [(0, ty0), (1, ty1), (2, ty2), (3, ty3), (4, ty4), (5, ty5), (9, ty9), (22, ty22), (27, ty27), (28, ty28), (30, ty30), (68, ty68), (70, ty70)]
theorem tt10_ok : TabOk Tryd.prog tt10 := tabOk_of_all ⟨ty0_ok, ty1_ok, ty2_ok, ty3_ok, ty4_ok, ty5_ok, ty9_ok, ty22_ok, ty27_ok, ty28_ok, ty30_ok, ty68_ok, ty70_ok, trivial⟩
def c10 (F : Nat) : Cfg := ⟨tt10, [], F, [(0, ⟨[0, 3, 4], []⟩), (2, ⟨[0, 3, 4, 5], []⟩)], [], 0⟩
noncomputable def f10_0 (F k : Nat) (x0 : List (List AV)) (x3 : Int) (x4 : Int) : Res := aloop (c10 F) Tryd.f10 0 [] k (St.mk [AV.ro (Pay.rows 3 x0), AV.top, AV.top, AV.int IntKind.i64 x3, AV.int IntKind.i64 x4, AV.top, AV.top, AV.top, AV.top, AV.top, AV.top, AV.top, AV.top, AV.top, AV.top, AV.top, AV.top, AV.top, AV.top, AV.top, AV.top, AV.top, AV.top, AV.top, AV.top, AV.top, AV.top, AV.top, AV.top, AV.top, AV.top, AV.top, AV.top, AV.top, AV.top, AV.top, AV.top, AV.top, AV.top, AV.top, AV.top, AV.top, AV.top, AV.top, AV.top, AV.top, AV.top, AV.top, AV.top, AV.top, AV.top, AV.top, AV.top, AV.top, AV.top, AV.top, AV.top, AV.top, AV.top, AV.top, AV.top, AV.top, AV.top, AV.top, AV.top, AV.top, AV.top, AV.top, AV.top, AV.top, AV.top, AV.top] [])
noncomputable def f10_2 (F k : Nat) (g0 : Nat) (x0 : List (List AV)) (x3 : Int) (x4 : Int) (x5 : Int) : Res := aloop (c10 F) Tryd.f10 2 [g0] k (St.mk [AV.ro (Pay.rows 3 x0), AV.top, AV.top, AV.int IntKind.i64 x3, AV.int IntKind.i64 x4, AV.int IntKind.i64 x5, AV.top, AV.top, AV.top, AV.top, AV.top, AV.top, AV.top, AV.top, AV.top, AV.top, AV.top, AV.top, AV.top, AV.top, AV.top, AV.top, AV.top, AV.top, AV.top, AV.top, AV.top, AV.top, AV.top, AV.top, AV.top, AV.top, AV.top, AV.top, AV.top, AV.top, AV.top, AV.top, AV.top, AV.top, AV.top, AV.top, AV.top, AV.top, AV.top, AV.top, AV.top, AV.top, AV.top, AV.top, AV.top, AV.top, AV.top, AV.top, AV.top, AV.top, AV.top, AV.top, AV.top, AV.top, AV.top, AV.top, AV.top, AV.top, AV.top, AV.top, AV.top, AV.top, AV.top, AV.top, AV.top, AV.top] [])
theorem f10_eq (F : Nat) (a0 : List (List AV)) : afun (c10 F) Tryd.f10 [AV.ro (Pay.rows 3 a0)] [] =
  f10_0 F F a0 0 0 := by kernel_rfl
theorem f10_0_eq (F k : Nat) (x0 : List (List AV)) (x3 : Int) (x4 : Int) : f10_0 F (k + 1) x0 x3 x4 =
  bif ltI x4 ↑x0.length then
    bif ltI x4 60 then
      bif inB x4 x0.length then
        bif isStr (nth (x0.getD x4.toNat []) 0) then
          bif inB x4 x0.length then
            bif isRo (Pay.ints IntKind.i64 []) (nth (x0.getD x4.toNat []) 2) then
              bif inB x4 x0.length then
                bif isRo (Pay.rows 4 []) (nth (x0.getD x4.toNat []) 1) then
                  f10_2 F F k x0 (IntKind.i64.wrap (IntKind.i64.wrap (IntKind.i64.wrap (x3 + ↑(strOf (nth (x0.getD x4.toNat []) 0)).length) + IntKind.i64.wrap (4 * ↑(intsOf (nth (x0.getD x4.toNat []) 2)).length)) + IntKind.i64.wrap (4 * ↑(rowsOf (nth (x0.getD x4.toNat []) 1)).length))) x4 0
                else
                  .stuck
              else
                .stuck
            else
              .stuck
          else
            .stuck
        else
          .stuck
      else
        .stuck
    else
      .ret (AV.bool (ltI 60 ↑x0.length)) []
  else
    .ret (AV.bool (ltI 60 ↑x0.length)) [] := by kernel_rfl
theorem f10_2_eq (F k : Nat) (g0 : Nat) (x0 : List (List AV)) (x3 : Int) (x4 : Int) (x5 : Int) : f10_2 F (k + 1) g0 x0 x3 x4 x5 =
  bif inB x4 x0.length then
    bif isRo (Pay.rows 4 []) (nth (x0.getD x4.toNat []) 1) then
      bif ltI x5 ↑(rowsOf (nth (x0.getD x4.toNat []) 1)).length then
        bif ltI x5 300 then
          bif inB x4 x0.length then
            bif isRo (Pay.rows 4 []) (nth (x0.getD x4.toNat []) 1) then
              bif inB x5 (rowsOf (nth (x0.getD x4.toNat []) 1)).length then
                bif isStr (nth ((rowsOf (nth (x0.getD x4.toNat []) 1)).getD x5.toNat []) 2) then
                  f10_2 F k g0 x0 (IntKind.i64.wrap (x3 + ↑(strOf (nth ((rowsOf (nth (x0.getD x4.toNat []) 1)).getD x5.toNat []) 2)).length)) x4 (IntKind.i64.wrap (x5 + 1))
                else
                  .stuck
              else
                .stuck
            else
              .stuck
          else
            .stuck
        else
          bif ltI 1500 x3 then
            .ret (AV.bool true) []
          else
            f10_0 F g0 x0 x3 (IntKind.i64.wrap (x4 + 1))
      else
        bif ltI 1500 x3 then
          .ret (AV.bool true) []
        else
          f10_0 F g0 x0 x3 (IntKind.i64.wrap (x4 + 1))
    else
      .stuck
  else
    .stuck := by kernel_rfl


theorem f10_in (F g0 : Nat) (x0 : List (List AV)) (i : Nat) (r : List AV) (hi : i < x0.length) (hm : i < 60) (hr : x0.getD i [] = r) (ho : okItem r = true) : ∀ (d j : Nat) (n : Int) (l : List (List AV)) (k : Nat), j + d = 300 → (rowsOf (nth r 1)).drop j = l → d < k →
    f10_2 F k g0 x0 n i j = bif ltI 1500 (partsR n j l) then .ret (.bool true) [] else f10_0 F g0 x0 (partsR n j l) ((i + 1 : Nat) : Int)
  | d, j, n, l, 0, hd, hl, hk => by omega
  | d, j, n, l, k + 1, hd, hl, hk => by
    unfold okItem at ho
    simp only [Bool.and_eq_true] at ho
    obtain ⟨o1, o2, o3, o4⟩ := ho
    have hin : inB (i : Int) x0.length = true := inB_iff.2 ⟨by omega, by omega⟩
    have hw : IntKind.i64.wrap ((i : Int) + 1) = ((i + 1 : Nat) : Int) := by rw [wrap64 (by omega) (by omega)]; omega
    rw [f10_2_eq]
    simp only [Int.toNat_natCast, hr, bif_pos hin, bif_pos o2, hw]
    match l, hl with
    | [], hl =>
      have := drop_end hl
      rw [bif_neg (by rw [ltI_iff]; omega)]
      rfl
    | q :: l, hl =>
      obtain ⟨h1, h2, h3, h4⟩ := drop_at [] hl
      rw [bif_pos (ltI_iff.2 (by omega)), h2, partsR]
      rcases Nat.lt_or_ge j 300 with hj | hj
      · have hj2 : ltI (j : Int) 300 = true := ltI_iff.2 (by omega)
        have hq := List.all_eq_true.1 o4 q h4
        rw [bif_pos hj2, bif_pos hj2, bif_pos (inB_iff.2 ⟨by omega, by omega⟩), bif_pos hq, show IntKind.i64.wrap ((j : Int) + 1) = ((j + 1 : Nat) : Int) by rw [wrap64 (by omega) (by omega)]; omega]
        exact f10_in F g0 x0 i r hi hm hr (by unfold okItem; simp only [Bool.and_eq_true]; exact ⟨o1, o2, o3, o4⟩) (d - 1) (j + 1) _ l k (by omega) h3 (by omega)
      · have hj2 : ¬ ltI (j : Int) 300 = true := by rw [ltI_iff]; omega
        rw [bif_neg hj2, bif_neg hj2]
theorem f10_run (F : Nat) (hF : 1000 < F) (x0 : List (List AV)) (ho : okItems x0 = true) : ∀ (d i : Nat) (n : Int) (l : List (List AV)) (k : Nat), i + d = 60 → x0.drop i = l → d < k →
    f10_0 F k x0 n i = .ret (.bool (muchR x0.length n i l)) []
  | d, i, n, l, 0, hd, hl, hk => by omega
  | d, i, n, l, k + 1, hd, hl, hk => by
    rw [f10_0_eq]
    match l, hl with
    | [], hl =>
      have := drop_end hl
      rw [bif_neg (by rw [ltI_iff]; omega)]
      rfl
    | r :: l, hl =>
      obtain ⟨h1, h2, h3, h4⟩ := drop_at [] hl
      have hi := List.all_eq_true.1 ho r h4
      have hi2 := hi
      unfold okItem at hi2
      simp only [Bool.and_eq_true] at hi2
      obtain ⟨o1, o2, o3, o4⟩ := hi2
      have hin : inB (i : Int) x0.length = true := inB_iff.2 ⟨by omega, by omega⟩
      rw [bif_pos (ltI_iff.2 (by omega)), muchR]
      simp only [Int.toNat_natCast, h2, bif_pos hin, bif_pos o1, bif_pos o2, bif_pos o3]
      rcases Nat.lt_or_ge i 60 with hj | hj
      · have hj2 : ltI (i : Int) 60 = true := ltI_iff.2 (by omega)
        rw [bif_pos hj2, bif_pos hj2]
        have e := f10_in F k x0 i r h1 hj h2 hi 300 0 (itemN n r) (rowsOf (nth r 1)) F rfl rfl (by omega)
        refine Eq.trans e ?_
        cases ltI 1500 (partsR (itemN n r) 0 (rowsOf (nth r 1))) with
        | true => rfl
        | false => exact f10_run F hF x0 ho (d - 1) (i + 1) _ l k (by omega) h3 (by omega)
      · have hj2 : ¬ ltI (i : Int) 60 = true := by rw [ltI_iff]; omega
        rw [bif_neg hj2, bif_neg hj2]
def go10 (R : Type) (stk : R) (args : List AV) (ret : AV → List AObj → R) : R :=
  match args with
  | [.ro (.rows n x)] => bif Nat.beq n 3 && okItems x then ret (.bool (muchR x.length 0 0 x)) [] else stk
  | _ => stk
theorem ok10 : PureOk Tryd.prog 10 go10 := by
  refine pureOk_of (c10 rounds) tt10_ok .nil follows rfl Tryd.func10 (by kernel_rfl) (by kernel_rfl) ?_ ?_
  · intro R stk args ret
    unfold go10
    split
    · simp only [elim_cond]; rfl
    · rfl
  · intro args r objs h hr
    unfold go10 at h
    split at h
    · rename_i n x
      rcases bif_alt h with ⟨hf0, h⟩ | ⟨hf0, h⟩
      · cases h
        rw [Bool.and_eq_true] at hf0
        obtain ⟨h1, h2⟩ := hf0
        have h1 := Nat.eq_of_beq_eq_true h1
        subst h1
        refine ⟨_, ?_, .same⟩
        have e := f10_run rounds (by decide) x h2 60 0 0 x rounds rfl rfl (by decide)
        rw [apure_out, f10_eq]
        exact congrArg outR e
      · cases h
    · cases h

def tt12 : Tab := [(0, ty0), (1, ty1), (3, ty3), (5, ty5), (9, ty9), (22, ty22), (25, ty25), (27, ty27), (28, ty28), (30, ty30), (68, ty68), (70, ty70)]
theorem tt12_ok : TabOk Tryd.prog tt12 := tabOk_of_all ⟨ty0_ok, ty1_ok, ty3_ok, ty5_ok, ty9_ok, ty22_ok, ty25_ok, ty27_ok, ty28_ok, ty30_ok, ty68_ok, ty70_ok, trivial⟩
def c12 (F : Nat) : Cfg := ⟨tt12, [], F, [(0, ⟨[3, 6, 7, 8], [(3, 9)]⟩)], [], 0⟩
noncomputable def f12_0 (F k : Nat) (x6 : List (List AV)) (x7 : Int) (x8 : Int) (xh0 : List (List AV)) : Res := aloop (c12 F) Tryd.f12 0 [] k (St.mk [AV.top, AV.top, AV.top, AV.own 0, AV.top, AV.top, AV.ro (Pay.rows 3 x6), AV.int IntKind.i64 x7, AV.int IntKind.i64 x8, AV.top, AV.top, AV.top, AV.top, AV.top, AV.top, AV.top, AV.top, AV.top, AV.top] [AObj.arr 9 (Pay.rows 1 xh0)])
theorem f12_eq (F : Nat) (a0 : List (List AV)) : afun (c12 F) Tryd.f12 [AV.ro (Pay.rows 3 a0)] [] =
  f12_0 F F a0 ↑a0.length 0 [] := by kernel_rfl
theorem f12_0_eq (F k : Nat) (x6 : List (List AV)) (x7 : Int) (x8 : Int) (xh0 : List (List AV)) : f12_0 F (k + 1) x6 x7 x8 xh0 =
  bif ltI x8 x7 then
    bif inB x8 x6.length then
      bif isStr (nth (List.take 3 (List.drop 0 (x6.getD x8.toNat []))) 0) then
        bif isRo (Pay.rows 4 []) (nth (List.take 3 (List.drop 0 (x6.getD x8.toNat []))) (0 + 1)) then
          bif isRo (Pay.ints IntKind.i64 []) (nth (List.take 3 (List.drop 0 (x6.getD x8.toNat []))) (0 + 1 + 1)) then
            bif appFits ty9 (Pay.rows 1 (xh0 ++ [setRange [AV.str ByteArray.empty.data.toList] 0 [AV.str (strOf (AV.str (strOf (nth (List.take 3 (List.drop 0 (x6.getD x8.toNat []))) 0))))]])) then
              f12_0 F k x6 x7 (IntKind.i64.wrap (x8 + 1)) (xh0 ++ [setRange [AV.str ByteArray.empty.data.toList] 0 [AV.str (strOf (AV.str (strOf (nth (List.take 3 (List.drop 0 (x6.getD x8.toNat []))) 0))))]])
            else
              .stuck
          else
            .stuck
        else
          .stuck
      else
        .stuck
    else
      .stuck
  else
    .ret (AV.own 0) [AObj.arr 9 (Pay.rows 1 xh0)] := by kernel_rfl


theorem f12_run (F : Nat) (x0 : List (List AV)) (ho : okItems x0 = true) (hm : x0.length ≤ 1000) : ∀ (l : List (List AV)) (i : Nat) (acc : List (List AV)) (k : Nat), i + l.length = x0.length → acc.length = i → x0.drop i = l → l.length < k →
    f12_0 F k x0 (x0.length : Int) i acc = .ret (.own 0) [.arr 9 (.rows 1 (acc ++ keysR l))]
  | l, i, acc, 0, hi, ha, hl, hk => by omega
  | [], i, acc, k + 1, hi, ha, hl, hk => by
    rw [f12_0_eq, bif_neg (by rw [ltI_iff]; simp at hi; omega)]
    simp [keysR]
  | r :: l, i, acc, k + 1, hi, ha, hl, hk => by
    obtain ⟨h1, h2, h3, h4⟩ := drop_at [] hl
    have hi2 := List.all_eq_true.1 ho r h4
    unfold okItem at hi2
    simp only [Bool.and_eq_true] at hi2
    obtain ⟨o1, o2, o3, o4⟩ := hi2
    rw [f12_0_eq, bif_pos (ltI_iff.2 (by omega)), bif_pos (inB_iff.2 ⟨by omega, by omega⟩), Int.toNat_natCast, h2, nth_take3 r 0 (by decide), bif_pos o1, nth_take3 r (0 + 1) (by decide), bif_pos o2, nth_take3 r (0 + 1 + 1) (by decide), bif_pos o3]
    have e : setRange [AV.str ByteArray.empty.data.toList] 0 [AV.str (strOf (AV.str (strOf (nth r 0))))] = [AV.str (strOf (nth r 0))] := rfl
    rw [e, bif_pos (by
      unfold appFits
      refine ble_iff.2 ?_
      show (acc ++ [[AV.str (strOf (nth r 0))]]).length * 16 ≤ _
      simp only [List.length_append, List.length_cons, List.length_nil]
      omega), show IntKind.i64.wrap ((i : Int) + 1) = ((i + 1 : Nat) : Int) by rw [wrap64 (by omega) (by omega)]; omega]
    rw [f12_run F x0 ho hm l (i + 1) _ k (by simp only [List.length_cons] at hi; omega) (by simp [ha]) h3 (by simp only [List.length_cons] at hk; omega)]
    simp [keysR]
def go12 (R : Type) (stk : R) (args : List AV) (ret : AV → List AObj → R) : R :=
  match args with
  | [.ro (.rows n x)] => bif Nat.beq n 3 && (okItems x && Nat.ble x.length 1000) then ret (.own 0) [.arr 9 (.rows 1 (keysR x))] else stk
  | _ => stk
theorem ok12 : PureOk Tryd.prog 12 go12 := by
  refine pureOk_of (c12 rounds) tt12_ok .nil follows rfl Tryd.func12 (by kernel_rfl) (by kernel_rfl) ?_ ?_
  · intro R stk args ret
    unfold go12
    split
    · simp only [elim_cond]; rfl
    · rfl
  · intro args r objs h hr
    unfold go12 at h
    split at h
    · rename_i n x
      rcases bif_alt h with ⟨hf0, h⟩ | ⟨hf0, h⟩
      · cases h
        rw [Bool.and_eq_true, Bool.and_eq_true] at hf0
        obtain ⟨h1, h2, h3⟩ := hf0
        have h1 := Nat.eq_of_beq_eq_true h1
        have h3 := ble_iff.1 h3
        subst h1
        refine ⟨_, ?_, .same⟩
        have e := f12_run rounds x h2 h3 x 0 [] rounds (by omega) rfl rfl (Nat.lt_of_le_of_lt h3 (by decide))
        rw [apure_out, f12_eq]
        exact congrArg outR e
      · cases h
    · cases h
end Go.Proofs.YtjdojmjkldpgnaaDoorG
