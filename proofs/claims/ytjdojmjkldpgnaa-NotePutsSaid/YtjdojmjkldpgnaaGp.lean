/- A part of the proof: plain laws, and what functions of the given program come to; no condition. -/
import Derived.Test.YtjdojmjkldpgnaaGo
namespace Go.Proofs.YtjdojmjkldpgnaaG
open Go Go.Proofs.YtjdojmjkldpgnaaGm
set_option maxRecDepth 100000
set_option maxHeartbeats 0

theorem fitsB (l : Txt) (h : l.length ≤ 140737488355328) : appFits ty5 (.bytes l) = true := by
  unfold appFits
  rw [ble_iff]
  show l.length * 1 ≤ _
  omega
theorem encs_take (x : List Int) (j : Nat) (h : j < x.length) : encs (x.take (j + 1)) = encs (x.take j) ++ enc (IntKind.u64.wrap (x.getD j 0)) := by
  rw [List.take_add_one, List.getD, List.getElem?_eq_getElem h, encs_app]
  exact congrArg _ (encs_one _)
theorem take_short (x : List Int) (j : Nat) : (x.take j).length ≤ x.length := by rw [List.length_take]; omega
theorem f23_run (F : Nat) (l : Txt) (x : List Int) (hm : l.length + 9 * x.length ≤ 140737488355328) : ∀ (d k j : Nat), j + d = x.length → d < k → f23_0_1 F k x x.length j (l ++ encs (x.take j)) = .ret (.own 0) [.arr 5 (.bytes (l ++ encs x))]
  | 0, k + 1, j, h1, h2 => by
    rw [f23_0_1_eq, bif_neg (by rw [ltI_iff]; omega), List.take_of_length_le (by omega)]
  | d + 1, k + 1, j, h1, h2 => by
    have h3 := encs_len (x.take j)
    have h4 : (x.take j).length = j := by rw [List.length_take]; omega
    rw [f23_0_1_eq, bif_pos (by rw [ltI_iff]; omega), bif_pos (by rw [inB_iff]; omega), bif_pos (by rw [ble_iff, List.length_append]; omega), Int.toNat_natCast, List.append_assoc, ← encs_take x j (by omega), wrap64 (n := (j : Int) + 1) (by omega) (by omega), show (j : Int) + 1 = ((j + 1 : Nat) : Int) by omega]
    exact f23_run F l x hm d k (j + 1) (by omega) (by omega)
theorem f17_run (F : Nat) (q t y p : Int) (w : List Int) (a b : Txt) (x : List Int) (hm : 9 * x.length + a.length + b.length + 18 ≤ 140737488355328) : ∀ (d k j : Nat), j + d = x.length → d < k → outR (f17_0 F k j q t y p w a b x (encs (x.take j))) = some (.own 0, [.arr 5 (.bytes (encs x ++ encT a ++ encT b))])
  | 0, k + 1, j, h1, h2 => by
    have h3 := encs_len x
    have h4 := encT_len a
    have h5 := encT_len b
    rw [f17_0_eq, bif_neg (by rw [ltI_iff]; omega), List.take_of_length_le (by omega), bif_pos (by rw [ble_iff]; omega), bif_pos (fitsB _ (by rw [List.length_append]; omega)), bif_pos (by rw [ble_iff]; omega), bif_pos (fitsB _ (by rw [List.length_append, List.length_append]; omega))]
    rfl
  | d + 1, k + 1, j, h1, h2 => by
    have h3 := encs_len (x.take (j + 1))
    have h4 : (x.take (j + 1)).length = j + 1 := by rw [List.length_take]; omega
    rw [f17_0_eq, bif_pos (by rw [ltI_iff]; omega), bif_pos (by rw [inB_iff]; omega), Int.toNat_natCast, ← encs_take x j (by omega), bif_pos (fitsB _ (by omega)), wrap64 (n := (j : Int) + 1) (by omega) (by omega), show (j : Int) + 1 = ((j + 1 : Nat) : Int) by omega]
    exact f17_run F q t y p w a b x hm d k (j + 1) (by omega) (by omega)

theorem ok23 : PureOk Try.prog 23 go23 := by
  refine pureOk_of (c23 rounds) tt23_ok (.cons ok36 .nil) follows rfl Try.func23 (by kernel_rfl) (by kernel_rfl) ?_ ?_
  · intro R stk args ret
    unfold go23
    split
    · simp only [elim_cond]; rfl
    · rfl
  · intro args r objs h hr
    unfold go23 at h
    split at h
    · rename_i l x
      rcases bif_alt h with ⟨hf0, h⟩ | ⟨hf0, h⟩
      · cases h
        rw [ble_iff] at hf0
        by_cases h0 : x.length = 0
        · have h1 : x = [] := List.eq_nil_of_length_eq_zero h0
          subst h1
          refine ⟨(.ro (.bytes l), []), ?_, by rw [show l ++ encs [] = l from List.append_nil l]; exact .same⟩
          rw [apure_out, f23_eq, show rounds = (rounds - 1) + 1 from rfl, f23_0_eq]
          rfl
        · refine ⟨(.own 0, [.arr 5 (.bytes (l ++ encs x))]), ?_, .lend⟩
          have key := f23_run rounds l x hf0 (x.length - 1) (rounds - 1) 1 (by omega) (by unfold rounds; omega)
          have e1 := encs_take x 0 (by omega)
          rw [List.take_zero, show encs [] = [] from rfl, List.nil_append] at e1
          rw [e1] at key
          rw [apure_out, f23_eq, show f23_0 rounds rounds = f23_0 rounds (rounds - 1 + 1) from rfl, f23_0_eq, bif_pos (by rw [ltI_iff]; omega), bif_pos (by rw [inB_iff]; omega), bif_pos (by rw [ble_iff]; omega), wrap64 (n := (0 : Int) + 1) (by omega) (by omega), show (0 : Int) + 1 = ((1 : Nat) : Int) by omega, show (0 : Int).toNat = 0 from rfl, key]
          rfl
      ·
        cases h
    · cases h

theorem ok17 : PureOk Try.prog 17 go17 := by
  refine pureOk_of (c17 rounds) tt17_ok (.cons ok29 (.cons ok30 .nil)) follows rfl Try.func17 (by kernel_rfl) (by kernel_rfl) ?_ ?_
  · intro R stk args ret
    unfold go17
    split
    · simp only [elim_cond]; rfl
    · rfl
  · intro args r objs h hr
    unfold go17 at h
    split at h
    · rename_i k t y p w a b
      rcases bif_alt h with ⟨hf0, h⟩ | ⟨hf0, h⟩
      · cases h
        rw [ble_iff] at hf0
        refine ⟨_, ?_, .same⟩
        rw [apure_out]
        rw [f17_eq, show ((([k, 0, 0, 0, 0].set (1, Operand.tmp 9).fst t).set (2, Operand.tmp 11).fst y).set (3, Operand.tmp 13).fst p).set (4, Operand.tmp 16).fst (w.length : Int) ++ w = [k, t, y, p, (w.length : Int)] ++ w from rfl, bif_pos (by unfold appFits; rw [ble_iff]; show (List.length _) * 8 ≤ _; simp only [List.length_append, List.length_cons, List.length_nil]; omega)]
        have key := f17_run rounds k t y p w a b ([k, t, y, p, (w.length : Int)] ++ w) (by simp only [List.length_append, List.length_cons, List.length_nil]; omega) _ rounds 0 (Nat.zero_add _) (by simp only [List.length_append, List.length_cons, List.length_nil]; unfold rounds; omega)
        rw [List.take_zero, encs_app] at key
        exact key
      ·
        cases h
    · cases h

theorem ok18 : EffOk Try.prog 18 go18 := by
  refine effOk_of follows Try.func18 (by kernel_rfl) (by kernel_rfl) ?_ ?_
  · intro R stk args hp k; unfold go18; split <;> rfl
  · intro args hp r hp' h hr
    unfold go18 at h
    split at h
    · rename_i b i e
      cases h
      refine ⟨c18 rounds, tt18_ok, .cons ok31 .nil, ?_⟩
      unfold aeff rdN
      have hg := getV_fits b i
      rw [f18_eq]
      by_cases he : e = 0
      · subst he
        rw [if_pos rfl, show (!eqI 0 0) = false from rfl, cond_false, wrap64 (by split <;> omega) (by split <;> omega), show (if 1073741825 < (getV b i).fst then 1073741825 else (getV b i).fst) = min (getV b i).1 1073741825 by split <;> omega]
        rfl
      · rw [if_neg he, eqI_f.2 he]
        rfl
    · cases h
theorem ok19 : EffOk Try.prog 19 go19 := by
  refine effOk_weak follows Try.func19 (by kernel_rfl) (by kernel_rfl) ?_ ?_
  · intro R stk args hp k; unfold go19; split <;> rfl
  · intro args hp r hp' h hr
    unfold go19 at h
    split at h
    · rename_i b i e
      cases h
      unfold rdT
      by_cases he : e = 0
      · subst he
        refine ⟨c19 rounds, _, tt19_ok, .cons ok32 .nil, ?_, .same .nil⟩
        unfold aeff
        rw [f19_eq, if_pos rfl]
        rfl
      · refine ⟨c19 rounds, .nil, tt19_ok, .cons ok32 .nil, ?_, ?_⟩
        · unfold aeff
          rw [f19_eq, if_neg he, eqI_f.2 he]
          rfl
        · rw [if_neg he]
          exact .empty rfl .nil
    · cases h

end Go.Proofs.YtjdojmjkldpgnaaG
