/- A part of the proof: plain laws, and what functions of the given program come to; no condition. -/
import Derived.Test.YtjdojmjkldpgnaaDoorGa
namespace Go.Proofs.YtjdojmjkldpgnaaDoorG
open Go Go.Proofs.YtjdojmjkldpgnaaDoorGm
set_option maxRecDepth 100000

def tt95 : Tab := [(3, ty3), (4, ty4), (73, ty73)]
theorem tt95_ok : TabOk Tryd.prog tt95 := tabOk_of_all ⟨ty3_ok, ty4_ok, ty73_ok, trivial⟩
def c95 (F : Nat) : Cfg := ⟨tt95, [], F, [(0, ⟨[0, 3, 4], []⟩)], [], 0⟩
noncomputable def f95_0 (F k : Nat) (x0 : Int) (x3 : Int) (x4 : Int) : Res := aloop (c95 F) Tryd.f95 0 [] k { fr := [AV.int IntKind.i64 x0, AV.top, AV.top, AV.int IntKind.u64 x3, AV.int IntKind.i64 x4, AV.top, AV.top, AV.top, AV.top, AV.top, AV.top, AV.top, AV.top], hp := [] }
theorem f95_eq (F : Nat) (a0 : Int) : afun (c95 F) Tryd.f95 [AV.int IntKind.i64 a0] [] =
  f95_0 F F a0 1 0 := by kernel_rfl
theorem f95_0_eq (F k : Nat) (x0 : Int) (x3 : Int) (x4 : Int) : f95_0 F (k + 1) x0 x3 x4 =
  bif ltI x4 x0 then
    f95_0 F k x0 (IntKind.u64.wrap (2 * x3)) (IntKind.i64.wrap (x4 + 1))
  else
    .ret (AV.int IntKind.u64 x3) [] := by kernel_rfl

def tt101 : Tab := [(3, ty3), (4, ty4), (73, ty73)]
theorem tt101_ok : TabOk Tryd.prog tt101 := tabOk_of_all ⟨ty3_ok, ty4_ok, ty73_ok, trivial⟩
def c101 (F : Nat) : Cfg := ⟨tt101, [], F, [(0, ⟨[0, 3], []⟩)], [], 0⟩
noncomputable def f101_0 (F k : Nat) (x0 : Int) (x3 : Int) : Res := aloop (c101 F) Tryd.f101 0 [] k { fr := [AV.int IntKind.u64 x0, AV.top, AV.top, AV.int IntKind.i64 x3, AV.top, AV.top, AV.top, AV.top, AV.top, AV.top, AV.top, AV.top, AV.top, AV.top], hp := [] }
theorem f101_eq (F : Nat) (a0 : Int) : afun (c101 F) Tryd.f101 [AV.int IntKind.u64 a0] [] =
  f101_0 F F a0 1 := by kernel_rfl
theorem f101_0_eq (F k : Nat) (x0 : Int) (x3 : Int) : f101_0 F (k + 1) x0 x3 =
  bif leI x3 8 then
    bif ltI (IntKind.i64.wrap (7 * x3)) 0 then
      .stuck
    else
      bif eqI (ishr IntKind.u64 x0 (IntKind.i64.wrap (7 * x3))) 0 then
        .ret (AV.int IntKind.i64 x3) []
      else
        f101_0 F k x0 (IntKind.i64.wrap (x3 + 1))
  else
    .ret (AV.int IntKind.i64 9) [] := by kernel_rfl

def tt96 : Tab := [(3, ty3), (4, ty4), (73, ty73)]
theorem tt96_ok : TabOk Tryd.prog tt96 := tabOk_of_all ⟨ty3_ok, ty4_ok, ty73_ok, trivial⟩
def c96 (F : Nat) : Cfg := ⟨tt96, [(95, .pure go95)], F, [(0, ⟨[0, 3], []⟩)], [], 0⟩
noncomputable def f96_0 (F k : Nat) (x0 : Int) (x3 : Int) : Res := aloop (c96 F) Tryd.f96 0 [] k { fr := [AV.int IntKind.u64 x0, AV.top, AV.top, AV.int IntKind.i64 x3, AV.top, AV.top, AV.top, AV.top, AV.top, AV.top, AV.top, AV.top, AV.top, AV.top], hp := [] }
theorem f96_eq (F : Nat) (a0 : Int) : afun (c96 F) Tryd.f96 [AV.int IntKind.u64 a0] [] =
  f96_0 F F a0 1 := by kernel_rfl
theorem f96_0_eq (F k : Nat) (x0 : Int) (x3 : Int) : f96_0 F (k + 1) x0 x3 =
  bif leI x3 8 then
    bif ltI x0 (pow2 (IntKind.i64.wrap (7 * x3))) then
      .ret (AV.int IntKind.i64 x3) []
    else
      f96_0 F k x0 (IntKind.i64.wrap (x3 + 1))
  else
    .ret (AV.int IntKind.i64 9) [] := by kernel_rfl

def tt85 : Tab := [(0, ty0), (4, ty4), (5, ty5), (33, ty33)]
theorem tt85_ok : TabOk Tryd.prog tt85 := tabOk_of_all ⟨ty0_ok, ty4_ok, ty5_ok, ty33_ok, trivial⟩
def c85 (F : Nat) : Cfg := ⟨tt85, [], F, [], [], 0⟩
theorem f85a_eq (F : Nat) : afun (c85 F) Tryd.f85 [AV.nil] [] =
  .ret AV.nil [] := by kernel_rfl

theorem f85b_eq (F : Nat) (l : List UInt8) : afun (c85 F) Tryd.f85 [AV.rn (Pay.bytes l)] [] =
  bif appFits ty5 (Pay.bytes (List.replicate 0 0 ++ l)) then
    .ret (AV.own 0) [AObj.arr 5 (Pay.bytes (List.replicate 0 0 ++ l))]
  else
    .stuck := by kernel_rfl


theorem f95_0_run (F : Nat) (n : Int) (hn : n ≤ 9223372036854775807) : ∀ (d k : Nat) (i : Int), 0 ≤ i → i + d = max n 0 → d < k → f95_0 F k n (2 ^ i.toNat % 18446744073709551616) i = .ret (.int .u64 (pow2 n)) []
  | 0, k + 1, i, h0, h1, h2 => by
    rw [f95_0_eq, bif_neg (by rw [ltI_iff]; omega)]
    unfold pow2
    rw [show i.toNat = n.toNat by omega]
  | d + 1, k + 1, i, h0, h1, h2 => by
    rw [f95_0_eq, bif_pos (by rw [ltI_iff]; omega), wrap64 (by omega) (by omega)]
    have e : IntKind.u64.wrap (2 * (2 ^ i.toNat % 18446744073709551616)) = 2 ^ (i + 1).toNat % 18446744073709551616 := by
      have e1 : (i + 1).toNat = i.toNat + 1 := by omega
      rw [e1, Int.pow_succ]
      generalize (2 : Int) ^ i.toNat = x
      simp [IntKind.wrap, IntKind.signed, IntKind.bits]
      omega
    rw [e]
    exact f95_0_run F n hn d k (i + 1) (by omega) (by omega) (by omega)

theorem ok95 : PureOk Tryd.prog 95 go95 := by
  refine pureOk_of (c95 rounds) tt95_ok .nil follows rfl Tryd.func95 (by kernel_rfl) (by kernel_rfl) ?_ ?_
  · intro R stk args k; unfold go95; split <;> rfl
  · intro args r objs h hr
    unfold go95 at h
    split at h
    · rename_i n
      cases h
      have hn := has64 hr.int
      refine ⟨_, ?_, .same⟩
      unfold apure
      rw [f95_eq, show (1 : Int) = 2 ^ (0 : Int).toNat % 18446744073709551616 from rfl, f95_0_run rounds n hn.2 n.toNat rounds 0 (by omega) (by omega) (by unfold rounds; omega)]
      rfl
    · cases h

theorem f101_step (F k : Nat) (n i j c : Int) (hj : j = i + 1) (hi : 1 ≤ i ∧ i ≤ 8) (hc : c = 2 ^ (7 * i).toNat) (hc0 : 0 < c) (hn : 0 ≤ n) : f101_0 F (k + 1) n i = if n < c then .ret (.int .i64 i) [] else f101_0 F k n j := by
  subst hj
  have e : eqI (ishr .u64 n (7 * i)) 0 = decide (n < c) := by
    rw [ishr_eq (by omega), ← hc]
    unfold eqI
    have : n / c = 0 ↔ n < c := by
      constructor
      · intro h
        rcases Int.lt_or_le n c with h' | h'
        · exact h'
        · have := (Int.le_ediv_iff_mul_le hc0 (a := 1) (b := n)).2 (by omega)
          omega
      · exact fun h => Int.ediv_eq_zero_of_lt hn h
    by_cases h : n < c <;> simp [h, this]
  rw [f101_0_eq, bif_pos (by rw [leI_iff]; omega), wrap64 (by omega) (by omega), bif_neg (by rw [ltI_iff]; omega), e, wrap64 (by omega) (by omega)]
  by_cases h : n < c <;> simp [h]

theorem f101_run (F k : Nat) (n : Int) (hn : 0 ≤ n) : f101_0 F (k + 9) n 1 = .ret (.int .i64 (len9 n)) [] := by
  rw [f101_step F (k + 8) n 1 2 128 rfl (by omega) rfl (by omega) hn, f101_step F (k + 7) n 2 3 16384 rfl (by omega) rfl (by omega) hn, f101_step F (k + 6) n 3 4 2097152 rfl (by omega) rfl (by omega) hn,
    f101_step F (k + 5) n 4 5 268435456 rfl (by omega) rfl (by omega) hn, f101_step F (k + 4) n 5 6 34359738368 rfl (by omega) rfl (by omega) hn, f101_step F (k + 3) n 6 7 4398046511104 rfl (by omega) rfl (by omega) hn,
    f101_step F (k + 2) n 7 8 562949953421312 rfl (by omega) rfl (by omega) hn, f101_step F (k + 1) n 8 9 72057594037927936 rfl (by omega) rfl (by omega) hn, f101_0_eq, bif_neg (by rw [leI_iff]; omega)]
  unfold len9
  repeat (split; rfl)
  rfl

theorem ok101 : PureOk Tryd.prog 101 go101 := by
  refine pureOk_of (c101 rounds) tt101_ok .nil follows rfl Tryd.func101 (by kernel_rfl) (by kernel_rfl) ?_ ?_
  · intro R stk args k; unfold go101; split <;> rfl
  · intro args r objs h hr
    unfold go101 at h
    split at h
    · rename_i n
      cases h
      have hn := hasu64 hr.int
      refine ⟨_, ?_, .same⟩
      unfold apure
      rw [f101_eq, show rounds = (rounds - 9) + 9 from rfl, f101_run _ _ n hn.1]
      rfl
    · cases h

theorem f96_step (F k : Nat) (n i j c : Int) (hj : j = i + 1) (hi : 1 ≤ i ∧ i ≤ 8) (hc : c = 2 ^ (7 * i).toNat) : f96_0 F (k + 1) n i = if n < c then .ret (.int .i64 i) [] else f96_0 F k n j := by
  subst hj
  rw [f96_0_eq, bif_pos (by rw [leI_iff]; omega), wrap64 (by omega) (by omega), pow2_small (by omega), ← hc, wrap64 (by omega) (by omega)]
  by_cases h : n < c <;> simp [h, ltI]

theorem f96_run (F k : Nat) (n : Int) : f96_0 F (k + 9) n 1 = .ret (.int .i64 (len9 n)) [] := by
  rw [f96_step F (k + 8) n 1 2 128 rfl (by omega) rfl, f96_step F (k + 7) n 2 3 16384 rfl (by omega) rfl, f96_step F (k + 6) n 3 4 2097152 rfl (by omega) rfl,
    f96_step F (k + 5) n 4 5 268435456 rfl (by omega) rfl, f96_step F (k + 4) n 5 6 34359738368 rfl (by omega) rfl, f96_step F (k + 3) n 6 7 4398046511104 rfl (by omega) rfl,
    f96_step F (k + 2) n 7 8 562949953421312 rfl (by omega) rfl, f96_step F (k + 1) n 8 9 72057594037927936 rfl (by omega) rfl, f96_0_eq, bif_neg (by rw [leI_iff]; omega)]
  unfold len9
  repeat (split; rfl)
  rfl

theorem ok96 : PureOk Tryd.prog 96 go101 := by
  refine pureOk_of (c96 rounds) tt96_ok (.cons ok95 .nil) follows rfl Tryd.func96 (by kernel_rfl) (by kernel_rfl) ?_ ?_
  · intro R stk args k; unfold go101; split <;> rfl
  · intro args r objs h hr
    unfold go101 at h
    split at h
    · rename_i n
      cases h
      refine ⟨_, ?_, .same⟩
      unfold apure
      rw [f96_eq, show rounds = (rounds - 9) + 9 from rfl, f96_run _ _ n]
      rfl
    · cases h

theorem ok85 : PureOk Tryd.prog 85 go85 := by
  refine pureOk_split (c85 rounds) tt85_ok .nil follows rfl Tryd.func85 (by kernel_rfl) (by kernel_rfl) ?_ ?_
  · intro R stk args k
    unfold go85
    split
    · rename_i l
      cases appFits ty5 (.bytes l) <;> rfl
    · rfl
    · rfl
  · intro args r objs h hr args' hsp
    unfold go85 at h
    split at h
    · rename_i l
      cases hf : appFits ty5 (.bytes l) with
      | false => rw [hf] at h; cases h
      | true =>
        rw [hf] at h
        cases h
        cases hsp with | cons h1 ht =>
        cases ht
        cases h1 with
        | nil h0 =>
          have : l = [] := List.eq_nil_of_length_eq_zero h0
          subst this
          refine ⟨(.nil, []), by unfold apure; rw [f85a_eq]; rfl, .own ?_ rfl⟩
          decide
        | rn =>
          refine ⟨_, ?_, .same⟩
          unfold apure
          rw [f85b_eq]
          simp only [List.replicate_zero, List.nil_append, hf, cond_true]
          rfl
        | keep hk => exact absurd rfl (hk _)
    · cases h
      cases hsp with | cons h1 ht =>
      cases ht
      cases h1 with | keep =>
      exact ⟨_, by unfold apure; rw [f85a_eq]; rfl, .same⟩
    · cases h
end Go.Proofs.YtjdojmjkldpgnaaDoorG
