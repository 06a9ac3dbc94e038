/- A part of the proof: plain laws, and what functions of the given program come to; no condition. -/
import Derived.Test.YtmkgmlgklggnlaaGa
namespace Go.Proofs.YtmkgmlgklggnlaaG
open Go Go.Proofs.YtmkgmlgklggnlaaGm
set_option maxRecDepth 100000

def tt90 : Tab := [(3, ty3), (4, ty4), (99, ty99)]
theorem tt90_ok : TabOk Try.prog tt90 := tabOk_of_all ⟨ty3_ok, ty4_ok, ty99_ok, trivial⟩
def c90 (F : Nat) : Cfg := ⟨tt90, [], F, [(0, ⟨[0, 3, 4], []⟩)], [], 0⟩
noncomputable def f90_0 (F k : Nat) (x0 : Int) (x3 : Int) (x4 : Int) : Res := aloop (c90 F) Try.f90 0 [] k { fr := [AV.int .i64 x0, .top, .top, AV.int .u64 x3, AV.int .i64 x4, .top, .top, .top, .top, .top, .top, .top, .top], hp := [] }
theorem f90_eq (F : Nat) (a0 : Int) : afun (c90 F) Try.f90 [AV.int .i64 a0] [] =
 f90_0 F F a0 1 0 := by kernel_rfl
theorem f90_0_eq (F k : Nat) (x0 : Int) (x3 : Int) (x4 : Int) : f90_0 F (k + 1) x0 x3 x4 =
 bif ltI x4 x0 then
 f90_0 F k x0 (IntKind.u64.wrap (2 * x3)) (IntKind.i64.wrap (x4 + 1))
 else
 .ret (AV.int .u64 x3) [] := by kernel_rfl

def tt83 : Tab := [(3, ty3), (4, ty4), (99, ty99)]
theorem tt83_ok : TabOk Try.prog tt83 := tabOk_of_all ⟨ty3_ok, ty4_ok, ty99_ok, trivial⟩
def c83 (F : Nat) : Cfg := ⟨tt83, [], F, [(0, ⟨[0, 3], []⟩)], [], 0⟩
noncomputable def f83_0 (F k : Nat) (x0 : Int) (x3 : Int) : Res := aloop (c83 F) Try.f83 0 [] k { fr := [AV.int .u64 x0, .top, .top, AV.int .i64 x3, .top, .top, .top, .top, .top, .top, .top, .top, .top, .top], hp := [] }
theorem f83_eq (F : Nat) (a0 : Int) : afun (c83 F) Try.f83 [AV.int .u64 a0] [] =
 f83_0 F F a0 1 := by kernel_rfl
theorem f83_0_eq (F k : Nat) (x0 : Int) (x3 : Int) : f83_0 F (k + 1) x0 x3 =
 bif leI x3 8 then
 bif ltI (IntKind.i64.wrap (7 * x3)) 0 then
 .stuck
 else
 bif eqI (ishr IntKind.u64 x0 (IntKind.i64.wrap (7 * x3))) 0 then
 .ret (AV.int .i64 x3) []
 else
 f83_0 F k x0 (IntKind.i64.wrap (x3 + 1))
 else
 .ret (AV.int .i64 9) [] := by kernel_rfl

def tt91 : Tab := [(3, ty3), (4, ty4), (99, ty99)]
theorem tt91_ok : TabOk Try.prog tt91 := tabOk_of_all ⟨ty3_ok, ty4_ok, ty99_ok, trivial⟩
def c91 (F : Nat) : Cfg := ⟨tt91, [(90, .pure go90)], F, [(0, ⟨[0, 3], []⟩)], [], 0⟩
noncomputable def f91_0 (F k : Nat) (x0 : Int) (x3 : Int) : Res := aloop (c91 F) Try.f91 0 [] k { fr := [AV.int .u64 x0, .top, .top, AV.int .i64 x3, .top, .top, .top, .top, .top, .top, .top, .top, .top, .top], hp := [] }
theorem f91_eq (F : Nat) (a0 : Int) : afun (c91 F) Try.f91 [AV.int .u64 a0] [] =
 f91_0 F F a0 1 := by kernel_rfl
theorem f91_0_eq (F k : Nat) (x0 : Int) (x3 : Int) : f91_0 F (k + 1) x0 x3 =
 bif leI x3 8 then
 bif ltI x0 (pow2 (IntKind.i64.wrap (7 * x3))) then
 .ret (AV.int .i64 x3) []
 else
 f91_0 F k x0 (IntKind.i64.wrap (x3 + 1))
 else
 .ret (AV.int .i64 9) [] := by kernel_rfl

def tt78 : Tab := [(0, ty0), (4, ty4), (5, ty5), (22, ty22)]
theorem tt78_ok : TabOk Try.prog tt78 := tabOk_of_all ⟨ty0_ok, ty4_ok, ty5_ok, ty22_ok, trivial⟩
def c78 (F : Nat) : Cfg := ⟨tt78, [], F, [], [], 0⟩
theorem f78a_eq (F : Nat) : afun (c78 F) Try.f78 [AV.nil] [] =
 .ret AV.nil [] := by kernel_rfl

theorem f78b_eq (F : Nat) (l : List UInt8) : afun (c78 F) Try.f78 [AV.rn (Pay.bytes l)] [] =
 bif appFits ty5 (Pay.bytes (List.replicate 0 0 ++ l)) then
 .ret (AV.own 0) [AObj.arr 5 (Pay.bytes (List.replicate 0 0 ++ l))]
 else
 .stuck := by kernel_rfl


theorem f90_0_run (F : Nat) (n : Int) (hn : n ≤ 9223372036854775807) : ∀ (d k : Nat) (i : Int), 0 ≤ i → i + d = max n 0 → d < k → f90_0 F k n (2 ^ i.toNat % 18446744073709551616) i = .ret (.int .u64 (pow2 n)) []
  | 0, k + 1, i, h0, h1, h2 => by
    rw [f90_0_eq, bif_neg (by rw [ltI_iff]; omega)]
    unfold pow2
    rw [show i.toNat = n.toNat by omega]
  | d + 1, k + 1, i, h0, h1, h2 => by
    rw [f90_0_eq, bif_pos (by rw [ltI_iff]; omega), wrap64 (by omega) (by omega)]
    have e : IntKind.u64.wrap (2 * (2 ^ i.toNat % 18446744073709551616)) = 2 ^ (i + 1).toNat % 18446744073709551616 := by
      have e1 : (i + 1).toNat = i.toNat + 1 := by omega
      rw [e1, Int.pow_succ]
      generalize (2 : Int) ^ i.toNat = x
      simp [IntKind.wrap, IntKind.signed, IntKind.bits]
      omega
    rw [e]
    exact f90_0_run F n hn d k (i + 1) (by omega) (by omega) (by omega)

theorem ok90 : PureOk Try.prog 90 go90 := by
  refine pureOk_of (c90 rounds) tt90_ok .nil follows rfl Try.func90 (by kernel_rfl) (by kernel_rfl) ?_ ?_
  · intro R stk args k; unfold go90; split <;> rfl
  · intro args r objs h hr
    unfold go90 at h
    split at h
    · rename_i n
      cases h
      have hn := has64 hr.int
      refine ⟨_, ?_, .same⟩
      unfold apure
      rw [f90_eq, show (1 : Int) = 2 ^ (0 : Int).toNat % 18446744073709551616 from rfl, f90_0_run rounds n hn.2 n.toNat rounds 0 (by omega) (by omega) (by unfold rounds; omega)]
      rfl
    · cases h

theorem f83_step (F k : Nat) (n i j c : Int) (hj : j = i + 1) (hi : 1 ≤ i ∧ i ≤ 8) (hc : c = 2 ^ (7 * i).toNat) (hc0 : 0 < c) (hn : 0 ≤ n) : f83_0 F (k + 1) n i = if n < c then .ret (.int .i64 i) [] else f83_0 F k n j := by
  subst hj
  have e : eqI (ishr .u64 n (7 * i)) 0 = decide (n < c) := by
    rw [ishr_eq (by omega), ← hc]
    unfold eqI
    have : n / c = 0 ↔ n < c := by
      constructor
      · intro h
        rcases Int.lt_or_le n c with h' | h'
        · exact h'
        · have := (Int.le_ediv_iff_mul_le hc0 (a := 1) (b := n)).2 (by omega)
          omega
      · exact fun h => Int.ediv_eq_zero_of_lt hn h
    by_cases h : n < c <;> simp [h, this]
  rw [f83_0_eq, bif_pos (by rw [leI_iff]; omega), wrap64 (by omega) (by omega), bif_neg (by rw [ltI_iff]; omega), e, wrap64 (by omega) (by omega)]
  by_cases h : n < c <;> simp [h]

theorem f83_run (F k : Nat) (n : Int) (hn : 0 ≤ n) : f83_0 F (k + 9) n 1 = .ret (.int .i64 (len9 n)) [] := by
  rw [f83_step F (k + 8) n 1 2 128 rfl (by omega) rfl (by omega) hn, f83_step F (k + 7) n 2 3 16384 rfl (by omega) rfl (by omega) hn, f83_step F (k + 6) n 3 4 2097152 rfl (by omega) rfl (by omega) hn,
    f83_step F (k + 5) n 4 5 268435456 rfl (by omega) rfl (by omega) hn, f83_step F (k + 4) n 5 6 34359738368 rfl (by omega) rfl (by omega) hn, f83_step F (k + 3) n 6 7 4398046511104 rfl (by omega) rfl (by omega) hn,
    f83_step F (k + 2) n 7 8 562949953421312 rfl (by omega) rfl (by omega) hn, f83_step F (k + 1) n 8 9 72057594037927936 rfl (by omega) rfl (by omega) hn, f83_0_eq, bif_neg (by rw [leI_iff]; omega)]
  unfold len9
  repeat (split; rfl)
  rfl

theorem ok83 : PureOk Try.prog 83 go83 := by
  refine pureOk_of (c83 rounds) tt83_ok .nil follows rfl Try.func83 (by kernel_rfl) (by kernel_rfl) ?_ ?_
  · intro R stk args k; unfold go83; split <;> rfl
  · intro args r objs h hr
    unfold go83 at h
    split at h
    · rename_i n
      cases h
      have hn := hasu64 hr.int
      refine ⟨_, ?_, .same⟩
      unfold apure
      rw [f83_eq, show rounds = (rounds - 9) + 9 from rfl, f83_run _ _ n hn.1]
      rfl
    · cases h

theorem f91_step (F k : Nat) (n i j c : Int) (hj : j = i + 1) (hi : 1 ≤ i ∧ i ≤ 8) (hc : c = 2 ^ (7 * i).toNat) : f91_0 F (k + 1) n i = if n < c then .ret (.int .i64 i) [] else f91_0 F k n j := by
  subst hj
  rw [f91_0_eq, bif_pos (by rw [leI_iff]; omega), wrap64 (by omega) (by omega), pow2_small (by omega), ← hc, wrap64 (by omega) (by omega)]
  by_cases h : n < c <;> simp [h, ltI]

theorem f91_run (F k : Nat) (n : Int) : f91_0 F (k + 9) n 1 = .ret (.int .i64 (len9 n)) [] := by
  rw [f91_step F (k + 8) n 1 2 128 rfl (by omega) rfl, f91_step F (k + 7) n 2 3 16384 rfl (by omega) rfl, f91_step F (k + 6) n 3 4 2097152 rfl (by omega) rfl,
    f91_step F (k + 5) n 4 5 268435456 rfl (by omega) rfl, f91_step F (k + 4) n 5 6 34359738368 rfl (by omega) rfl, f91_step F (k + 3) n 6 7 4398046511104 rfl (by omega) rfl,
    f91_step F (k + 2) n 7 8 562949953421312 rfl (by omega) rfl, f91_step F (k + 1) n 8 9 72057594037927936 rfl (by omega) rfl, f91_0_eq, bif_neg (by rw [leI_iff]; omega)]
  unfold len9
  repeat (split; rfl)
  rfl

theorem ok91 : PureOk Try.prog 91 go83 := by
  refine pureOk_of (c91 rounds) tt91_ok (.cons ok90 .nil) follows rfl Try.func91 (by kernel_rfl) (by kernel_rfl) ?_ ?_
  · intro R stk args k; unfold go83; split <;> rfl
  · intro args r objs h hr
    unfold go83 at h
    split at h
    · rename_i n
      cases h
      refine ⟨_, ?_, .same⟩
      unfold apure
      rw [f91_eq, show rounds = (rounds - 9) + 9 from rfl, f91_run _ _ n]
      rfl
    · cases h

theorem ok78 : PureOk Try.prog 78 go78 := by
  refine pureOk_split (c78 rounds) tt78_ok .nil follows rfl Try.func78 (by kernel_rfl) (by kernel_rfl) ?_ ?_
  · intro R stk args k
    unfold go78
    split
    · rename_i l
      cases appFits ty5 (.bytes l) <;> rfl
    · rfl
    · rfl
  · intro args r objs h hr args' hsp
    unfold go78 at h
    split at h
    · rename_i l
      cases hf : appFits ty5 (.bytes l) with
      | false => rw [hf] at h; cases h
      | true =>
        rw [hf] at h
        cases h
        cases hsp with | cons h1 ht =>
        cases ht
        cases h1 with
        | nil h0 =>
          have : l = [] := List.eq_nil_of_length_eq_zero h0
          subst this
          refine ⟨(.nil, []), by unfold apure; rw [f78a_eq]; rfl, .own ?_ rfl⟩
          decide
        | rn =>
          refine ⟨_, ?_, .same⟩
          unfold apure
          rw [f78b_eq]
          simp only [List.replicate_zero, List.nil_append, hf, cond_true]
          rfl
        | keep hk => exact absurd rfl (hk _)
    · cases h
      cases hsp with | cons h1 ht =>
      cases ht
      cases h1 with | keep =>
      exact ⟨_, by unfold apure; rw [f78a_eq]; rfl, .same⟩
    · cases h
end Go.Proofs.YtmkgmlgklggnlaaG
