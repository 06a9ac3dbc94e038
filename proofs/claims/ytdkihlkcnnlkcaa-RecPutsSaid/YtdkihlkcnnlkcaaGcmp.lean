/- A part of the proof: plain laws, and what functions of the given program come to; no condition. -/
import Derived.Test.YtdkihlkcnnlkcaaGl
import Derived.Test.YtdkihlkcnnlkcaaGmYval
namespace Go.Proofs.YtdkihlkcnnlkcaaG
open Go Go.Proofs.YtdkihlkcnnlkcaaGm
set_option maxRecDepth 100000


def go75 (R : Type) (stk : R) (args : List AV) (k : AV → List AObj → R) : R :=
  match args with
  | [.str a, .str b] => k (.int .i64 (cmpB a b)) []
  | _ => stk
def go51 (R : Type) (stk : R) (args : List AV) (k : AV → List AObj → R) : R :=
  match args with
  | [.str a, .str b] => k (.bool (lessB a b)) []
  | _ => stk

def tt65 : Tab := [(3, ty3), (9, ty9)]
theorem tt65_ok : TabOk Try.prog tt65 := tabOk_of_all ⟨ty3_ok, ty9_ok, trivial⟩
def c65 (F : Nat) : Cfg := ⟨tt65, [(75, .pure go75)], F, [], [], 0⟩
theorem f65_eq (F : Nat) (a0 : List UInt8) (a1 : List UInt8) : afun (c65 F) Try.f65 [AV.str a0, AV.str a1] [] =
  .ret (AV.int IntKind.i64 (cmpB a0 a1)) [] := by kernel_rfl


def tt50 : Tab := [(3, ty3), (9, ty9)]
theorem tt50_ok : TabOk Try.prog tt50 := tabOk_of_all ⟨ty3_ok, ty9_ok, trivial⟩
def c50 (F : Nat) : Cfg := ⟨tt50, [(65, .pure go75)], F, [], [], 0⟩
theorem f50_eq (F : Nat) (a0 : List UInt8) (a1 : List UInt8) : afun (c50 F) Try.f50 [AV.str a0, AV.str a1] [] =
  .ret (AV.int IntKind.i64 (cmpB a0 a1)) [] := by kernel_rfl


def tt51 : Tab := [(3, ty3), (4, ty4), (5, ty5), (9, ty9)]
theorem tt51_ok : TabOk Try.prog tt51 := tabOk_of_all ⟨ty3_ok, ty4_ok, ty5_ok, ty9_ok, trivial⟩
def c51 (F : Nat) : Cfg := ⟨tt51, [], F, [(0, ⟨[0, 1, 5], []⟩)], [], 0⟩
noncomputable def f51_0 (F k : Nat) (x0 : List UInt8) (x1 : List UInt8) (x5 : Int) : Res := aloop (c51 F) Try.f51 0 [] k (St.mk [AV.str x0, AV.str x1, AV.top, AV.top, AV.top, AV.int IntKind.i64 x5, AV.top, AV.top, AV.top, AV.top, AV.top, AV.top, AV.top, AV.top, AV.top, AV.top, AV.top, AV.top, AV.top, AV.top, AV.top, AV.top, AV.top, AV.top, AV.top, AV.top, AV.top, AV.top, AV.top, AV.top, AV.top, AV.top, AV.top, AV.top, AV.top, AV.top, AV.top] [])
theorem f51_eq (F : Nat) (a0 : List UInt8) (a1 : List UInt8) : afun (c51 F) Try.f51 [AV.str a0, AV.str a1] [] =
  f51_0 F F a0 a1 0 := by kernel_rfl
theorem f51_0_eq (F k : Nat) (x0 : List UInt8) (x1 : List UInt8) (x5 : Int) : f51_0 F (k + 1) x0 x1 x5 =
  bif ltI x5 ↑x0.length then
    bif ltI x5 ↑x1.length then
      bif inB x5 x0.length then
        bif inB x5 x1.length then
          bif !eqI ↑(x0.getD x5.toNat 0).toNat ↑(x1.getD x5.toNat 0).toNat then
            bif inB x5 x0.length then
              bif inB x5 x1.length then
                .ret (AV.bool (ltI ↑(x0.getD x5.toNat 0).toNat ↑(x1.getD x5.toNat 0).toNat)) []
              else
                .stuck
            else
              .stuck
          else
            f51_0 F k x0 x1 (IntKind.i64.wrap (x5 + 1))
        else
          .stuck
      else
        .stuck
    else
      .ret (AV.bool (ltI ↑x0.length ↑x1.length)) []
  else
    .ret (AV.bool (ltI ↑x0.length ↑x1.length)) [] := by kernel_rfl


theorem drop_getD {α : Type} (l : List α) (j : Nat) (d : α) (h : j < l.length) : l.drop j = l.getD j d :: l.drop (j + 1) := by
  rw [List.drop_eq_getElem_cons h, List.getD_eq_getElem?_getD, List.getElem?_eq_getElem h]; rfl

theorem ok75 : PureOk Try.prog 75 go75 := by
  refine pureOk_ext Try.func75 (by kernel_rfl) (by kernel_rfl) (by kernel_rfl) (e := Extern.BytealgCompare.compare) (by kernel_rfl) ?_ ?_
  · intro R stk args k; unfold go75; split <;> rfl
  · intro args r objs h
    unfold go75 at h
    split at h
    · rename_i a b
      cases h
      refine ⟨rfl, ?_⟩
      intro w M cargs hc
      cases hc with | cons h1 h2 =>
      cases h2 with | cons h2 h3 =>
      cases h3
      cases h1
      cases h2
      refine ⟨_, Lib.run_compareString _ _ _, .int ?_⟩
      have key : ∀ a b : List UInt8, IntKind.i64.has (cmpB a b) := by
        intro a b
        rcases cmpB_range a b with h | h | h <;> (rw [h]; exact ⟨by decide, by decide⟩)
      exact key _ _
    · cases h

theorem ok65 : PureOk Try.prog 65 go75 := by
  refine pureOk_of (c65 rounds) tt65_ok (.cons ok75 .nil) follows rfl Try.func65 (by kernel_rfl) (by kernel_rfl) ?_ ?_
  · intro R stk args k; unfold go75; split <;> rfl
  · intro args r objs h hr
    unfold go75 at h
    split at h
    · rename_i a b
      cases h
      refine ⟨_, ?_, .same⟩
      unfold apure
      rw [f65_eq]
      rfl
    · cases h

theorem ok50 : PureOk Try.prog 50 go75 := by
  refine pureOk_of (c50 rounds) tt50_ok (.cons ok65 .nil) follows rfl Try.func50 (by kernel_rfl) (by kernel_rfl) ?_ ?_
  · intro R stk args k; unfold go75; split <;> rfl
  · intro args r objs h hr
    unfold go75 at h
    split at h
    · rename_i a b
      cases h
      refine ⟨_, ?_, .same⟩
      unfold apure
      rw [f50_eq]
      rfl
    · cases h

theorem lessB_drop {a b : List UInt8} {i : Nat} (h1 : i < a.length) (h2 : i < b.length) : lessB (a.drop i) (b.drop i) = (bif !eqI (a.getD i 0).toNat (b.getD i 0).toNat then ltI (a.getD i 0).toNat (b.getD i 0).toNat else lessB (a.drop (i + 1)) (b.drop (i + 1))) := by
  rw [drop_getD a i 0 h1, drop_getD b i 0 h2]
  generalize a.getD i 0 = x
  generalize b.getD i 0 = y
  show (decide (x < y) || (x == y && lessB _ _)) = _
  by_cases e : x = y
  · subst e
    rw [eqI_iff.2 rfl]
    simp [UInt8.lt_irrefl]
  · have e' : ¬ ((x.toNat : Int) = y.toNat) := fun h => e (UInt8.toNat_inj.1 (by omega))
    have e2 : eqI (x.toNat : Int) y.toNat = false := by
      cases h : eqI (x.toNat : Int) y.toNat with
      | false => rfl
      | true => exact absurd (eqI_iff.1 h) e'
    rw [e2]
    simp only [Bool.not_false, cond_true]
    have e3 : (x == y) = false := by simp [e]
    rw [e3]
    simp only [Bool.false_and, Bool.or_false]
    rw [Bool.eq_iff_iff, ltI_iff, decide_eq_true_eq, UInt8.lt_iff_toNat_lt]
    omega
theorem f51_run (F : Nat) (a b : List UInt8) (ha : a.length ≤ maxLen) : ∀ (d k i : Nat), i + d = a.length → d < k → i ≤ b.length → f51_0 F k a b i = .ret (.bool (lessB (a.drop i) (b.drop i))) []
  | 0, k + 1, i, h1, h2, h3 => by
    rw [f51_0_eq, bif_neg (by rw [ltI_iff]; omega)]
    rw [List.drop_eq_nil_of_le (by omega)]
    by_cases hb : i < b.length
    · rw [drop_getD b i 0 hb, ltI_iff.2 (by omega)]; rfl
    · rw [List.drop_eq_nil_of_le (by omega)]
      have : ltI (a.length : Int) b.length = false := by
        cases h : ltI (a.length : Int) b.length with
        | false => rfl
        | true => rw [ltI_iff] at h; omega
      rw [this]; rfl
  | d + 1, k + 1, i, h1, h2, h3 => by
    unfold maxLen at ha
    rw [f51_0_eq, bif_pos (by rw [ltI_iff]; omega)]
    by_cases hb : i < b.length
    · rw [bif_pos (by rw [ltI_iff]; omega), bif_pos (by rw [inB_iff]; omega), bif_pos (by rw [inB_iff]; omega), lessB_drop (by omega) hb, show (i : Int).toNat = i by omega]
      cases eqI ((a.getD i 0).toNat : Int) (b.getD i 0).toNat with
      | false =>
        rw [Bool.not_false, cond_true, bif_pos (by rw [inB_iff]; omega), bif_pos (by rw [inB_iff]; omega)]; rfl
      | true =>
        rw [Bool.not_true, cond_false, cond_false, wrap64 (by omega) (by omega), show (i : Int) + 1 = ((i + 1 : Nat) : Int) by omega, f51_run F a b (by unfold maxLen; omega) d k (i + 1) (by omega) (by omega) (by omega)]
    · rw [bif_neg (by rw [ltI_iff]; omega), drop_getD a i 0 (by omega), (List.drop_eq_nil_of_le (by omega) : b.drop i = [])]
      have : ltI (a.length : Int) b.length = false := by
        cases h : ltI (a.length : Int) b.length with
        | false => rfl
        | true => rw [ltI_iff] at h; omega
      rw [this]; rfl

theorem ok51 : PureOk Try.prog 51 go51 := by
  refine pureOk_of (c51 rounds) tt51_ok .nil follows rfl Try.func51 (by kernel_rfl) (by kernel_rfl) ?_ ?_
  · intro R stk args k; unfold go51; split <;> rfl
  · intro args r objs h hr
    unfold go51 at h
    split at h
    · rename_i a b
      cases h
      have ha := hr.str
      refine ⟨_, ?_, .same⟩
      unfold apure
      unfold maxLen at ha
      rw [f51_eq, show (0 : Int) = ((0 : Nat) : Int) from rfl, f51_run rounds a b (by unfold maxLen; omega) a.length rounds 0 (by omega) (by unfold rounds; omega) (by omega), List.drop_zero, List.drop_zero]
      rfl
    · cases h

end Go.Proofs.YtdkihlkcnnlkcaaG
