/- A part of the proof: plain laws, and what functions of the given program come to; no condition. -/
import Derived.Test.YtmkgmlgklggnlaaGu
namespace Go.Proofs.YtmkgmlgklggnlaaG
open Go Go.Proofs.YtmkgmlgklggnlaaGm
set_option maxRecDepth 100000
set_option maxHeartbeats 0

theorem f44_run (F : Nat) (b : Txt) (hb : b.length ≤ 17592186044416) : ∀ (d k : Nat) (i : Int) (Z : List Txt), 0 ≤ i → (b.length : Int) < i + d → d < k → (Z.length : Int) * 5 ≤ i → i ≤ b.length →
    outR (f44_0 F k b i (Z.map byteRow)) = some (.tup [.own 0, .int .i64 (allF b d i).2.1, .int .i64 (allF b d i).2.2], [.arr 22 (.rows 1 ((Z ++ (allF b d i).1).map byteRow))])
  | d, k + 1, i, Z, h0, h1, h2, h3, h4 => by
    rw [f44_0_eq]
    obtain ⟨d, rfl⟩ : ∃ m, d = m + 1 := ⟨d - 1, by omega⟩
    rw [allF]
    by_cases hi : i < b.length
    · rw [bif_pos (by rw [ltI_iff]; omega), bif_pos (by rw [ble_iff]; omega), if_pos hi]
      by_cases he : (getF b i).2.2 = 0
      · obtain ⟨g1, g2, g3, g4⟩ := getF_ok he
        rw [show (!eqI (getF b i).2.2 0) = false by rw [Bool.not_eq_false', eqI_iff]; exact he, cond_false, if_neg (fun x => x he), bif_pos (fits22 _ (by rw [List.length_append, List.length_map, List.length_singleton]; omega)), snocB,
          f44_run F b hb d k _ (Z ++ [(getF b i).1]) (by omega) (by omega) (by omega) (by rw [List.length_append, List.length_singleton]; omega) g3, List.append_assoc]
        rfl
      · rw [show (!eqI (getF b i).2.2 0) = true by rw [Bool.not_eq_true', Bool.eq_false_iff, Ne, eqI_iff]; exact he, cond_true, if_pos he, List.append_nil]
        rfl
    · rw [bif_neg (by rw [ltI_iff]; omega), if_neg hi, List.append_nil]; rfl
theorem f44_all (F : Nat) (b : Txt) (hb : b.length ≤ 17592186044416) (hF : 9223372036854775807 < F) : ∃ x, apure (c44 F) Try.f44 [.ro (.bytes b)] = some x ∧ Weak (c44 F).tt x (.tup [.ro (.rows 1 ((allF b (b.length + 1) 0).1.map byteRow)), .int .i64 (allF b (b.length + 1) 0).2.1, .int .i64 (allF b (b.length + 1) 0).2.2], []) := by
  rw [apure_out, f44_eq]
  exact ⟨_, f44_run F b hb (b.length + 1) F 0 [] (by omega) (by omega) (by omega) (by simp) (by omega), .lend⟩

theorem ok44 : PureOk Try.prog 44 go43 := by
  refine pureOk_of (c44 rounds) tt44_ok (.cons ok42 .nil) follows rfl Try.func44 (by kernel_rfl) (by kernel_rfl) ?_ ?_
  · intro R stk args ret
    unfold go43
    split
    · simp only [elim_cond]; rfl
    · rfl
  · intro args r objs h hr
    unfold go43 at h
    split at h
    · rename_i b
      rcases bif_alt h with ⟨hf0, h⟩ | ⟨hf0, h⟩
      · cases h
        rw [ble_iff] at hf0
        exact f44_all rounds b hf0 big
      ·
        cases h
    · cases h

end Go.Proofs.YtmkgmlgklggnlaaG
