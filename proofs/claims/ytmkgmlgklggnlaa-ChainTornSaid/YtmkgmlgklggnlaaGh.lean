/- A part of the proof: plain laws, and what functions of the given program come to; no condition. -/
import Derived.Test.YtmkgmlgklggnlaaGf
namespace Go.Proofs.YtmkgmlgklggnlaaG
open Go Go.Proofs.YtmkgmlgklggnlaaGm
set_option maxRecDepth 100000
def go99 (R : Type) (stk : R) (args : List AV) (k : AV → List AObj → R) : R :=
  match args with
  | [.int .u8 n] => k (.int .i64 (bits8 n)) []
  | _ => stk
def go88 (R : Type) (stk : R) (args : List AV) (k : AV → List AObj → R) : R :=
  match args with
  | [.int .u8 n] => k (.int .i64 (8 - bits8 n)) []
  | _ => stk
/-- How many ones a byte begins with. -/
def go89 (R : Type) (stk : R) (args : List AV) (k : AV → List AObj → R) : R :=
  match args with
  | [.int .u8 n] => k (.int .i64 (8 - bits8 (255 - n))) []
  | _ => stk
def tt99 : Tab := [(3, ty3), (5, ty5), (9, ty9)]
theorem tt99_ok : TabOk Try.prog tt99 := tabOk_of_all ⟨ty3_ok, ty5_ok, ty9_ok, trivial⟩
def c99 (F : Nat) : Cfg := ⟨tt99, [], F, [], [], 0⟩
theorem f99_eq (F : Nat) (a0 : Int) : afun (c99 F) Try.f99 [AV.int .u8 a0] [] =
 bif inB a0 tab8.length then .ret (.int .i64 (IntKind.i64.wrap ((tab8.getD a0.toNat 0).toNat : Int))) [] else .stuck := by kernel_rfl

def tt89 : Tab := [(3, ty3), (4, ty4), (5, ty5)]
theorem tt89_ok : TabOk Try.prog tt89 := tabOk_of_all ⟨ty3_ok, ty4_ok, ty5_ok, trivial⟩
def c89 (F : Nat) : Cfg := ⟨tt89, [], F, [(0, ⟨[0, 3], []⟩)], [], 0⟩
noncomputable def f89_0 (F k : Nat) (x0 : Int) (x3 : Int) : Res := aloop (c89 F) Try.f89 0 [] k (St.mk [AV.int .u8 x0, .top, .top, AV.int .i64 x3, .top, .top, .top, .top, .top, .top, .top, .top, .top, .top] [])
theorem f89_eq (F : Nat) (a0 : Int) : afun (c89 F) Try.f89 [AV.int .u8 a0] [] =
 f89_0 F F a0 0 := by kernel_rfl
theorem f89_0_eq (F k : Nat) (x0 : Int) (x3 : Int) : f89_0 F (k + 1) x0 x3 =
 bif leI 128 x0 then
 f89_0 F k (IntKind.u8.wrap (irem (IntKind.i64.wrap (IntKind.i64.wrap x0 * 2)) 256)) (IntKind.i64.wrap (x3 + 1))
 else
 .ret (AV.int .i64 x3) [] := by kernel_rfl

theorem f99_run (F : Nat) (n : Int) (h0 : 0 ≤ n) (h1 : n < 256) : afun (c99 F) Try.f99 [.int .u8 n] [] = .ret (.int .i64 (bits8 n)) [] := by
  have e := tab8_bits ⟨n.toNat, by omega⟩
  simp only [Int.toNat_of_nonneg h0] at e
  have hb := bits8_le n
  rw [f99_eq, bif_pos (by unfold inB; rw [show tab8.length = 256 from rfl]; simp; omega), e, wrap64 (by omega) (by omega)]
theorem ok99 : PureOk Try.prog 99 go99 := by
  refine pureOk_of (c99 rounds) tt99_ok .nil follows rfl Try.func99 (by kernel_rfl) (by kernel_rfl) ?_ ?_
  · intro R stk args k; unfold go99; split <;> rfl
  · intro args r objs h hr
    unfold go99 at h
    split at h
    · cases h
      have hn := hasu8 hr.int
      exact ⟨_, by unfold apure; rw [f99_run _ _ hn.1 hn.2]; rfl, .same⟩
    · cases h

theorem f89_run (F : Nat) : ∀ (d k : Nat) (n i : Int), 0 ≤ n → n < 256 → 8 - bits8 (255 - n) = d → d < k → 0 ≤ i → i + d ≤ 100 → f89_0 F k n i = .ret (.int .i64 (i + d)) []
  | 0, k + 1, n, i, h0, h1, h2, h3, h4, h5 => by
    have : ¬ 128 ≤ n := by
      intro hn
      have := ones_step ⟨n.toNat, by omega⟩ (by simp; omega)
      simp only [Int.toNat_of_nonneg h0] at this
      have := bits8_le (255 - ((n.toNat * 2 % 256 : Nat) : Int))
      omega
    rw [f89_0_eq, bif_neg (by rw [leI_iff]; exact this)]
    simp
  | d + 1, k + 1, n, i, h0, h1, h2, h3, h4, h5 => by
    have hn : 128 ≤ n := by
      rcases Int.lt_or_le n 128 with h | h
      · have := ones_low n h0 h; omega
      · exact h
    have e := ones_step ⟨n.toNat, by omega⟩ (by simp; omega)
    simp only [Int.toNat_of_nonneg h0] at e
    have e1 : IntKind.u8.wrap (irem (IntKind.i64.wrap (IntKind.i64.wrap n * 2)) 256) = ((n.toNat * 2 % 256 : Nat) : Int) := by
      rw [wrap64 (n := n) (by omega) (by omega), wrap64 (by omega) (by omega), wrapu8]
      unfold irem
      rw [Int.tmod_eq_emod_of_nonneg (by omega)]
      omega
    rw [f89_0_eq, bif_pos (by rw [leI_iff]; exact hn), e1, wrap64 (by omega) (by omega), f89_run F d k _ (i + 1) (by omega) (by omega) (by omega) (by omega) (by omega) (by omega)]
    congr 2
    omega
theorem ok89 : PureOk Try.prog 89 go89 := by
  refine pureOk_of (c89 rounds) tt89_ok .nil follows rfl Try.func89 (by kernel_rfl) (by kernel_rfl) ?_ ?_
  · intro R stk args k; unfold go89; split <;> rfl
  · intro args r objs h hr
    unfold go89 at h
    split at h
    · rename_i n
      cases h
      have hn := hasu8 hr.int
      have hb := bits8_le (255 - n)
      refine ⟨_, ?_, .same⟩
      unfold apure
      rw [f89_eq, f89_run rounds (8 - bits8 (255 - n)).toNat rounds n 0 hn.1 hn.2 (by omega) (by unfold rounds; omega) (by omega) (by omega), show (0 : Int) + ((8 - bits8 (255 - n)).toNat : Int) = 8 - bits8 (255 - n) by omega]
      rfl
    · cases h
end Go.Proofs.YtmkgmlgklggnlaaG
