/- A part of the proof: plain laws, and what functions of the given program come to; no condition. -/
import Derived.Test.YtmkgmlgklggnlaaSf
namespace Go.Proofs.YtmkgmlgklggnlaaG
open Go Go.Proofs.YtmkgmlgklggnlaaGm
set_option maxRecDepth 100000
set_option maxHeartbeats 0

/-- As it answers of nothing written: the bytes kept apart. -/
def go32b (f : Nat → Int) (R : Type) (stk : R) (args : List AV) (hp : List AObj) (ret : AV → List AObj → R) : R :=
  match args, hp with
  | [.ptr 0 0], [.var 114 [.int .u32 h0, .int .u32 h1, .int .u32 h2, .int .u32 h3, .int .u32 h4, .int .u32 h5, .int .u32 h6, .int .u32 h7, .ro (.bytes p), .int .i64 n]] => bif (eqI h0 firstW.a && eqI h1 firstW.b && eqI h2 firstW.c && eqI h3 firstW.d && eqI h4 firstW.e && eqI h5 firstW.f && eqI h6 firstW.g && eqI h7 firstW.h && eqS p [] && eqI n 0) then ret (.arr (intsA .u8 ((List.range 32).map f))) [.var 114 [.int .u32 h0, .int .u32 h1, .int .u32 h2, .int .u32 h3, .int .u32 h4, .int .u32 h5, .int .u32 h6, .int .u32 h7, .ro (.bytes p), .int .i64 n]] else stk
  | _, _ => stk
def f00 : Nat → Int := outF (eat ((padB [] 0).length / 64) firstW (padB [] 0))
theorem ok32b : EffOk Try.prog 32 (go32b f00) where
  cps := by
    intro R stk args hp k
    unfold go32b
    split
    · simp only [elim_cond]; rfl
    · rfl
  fn := ok32a.fn
  calls := by
    intro args hp r hp' h
    refine ok32a.calls args hp r hp' ?_
    unfold go32b at h
    split at h
    · rename_i h0 h1 h2 h3 h4 h5 h6 h7 p n
      rcases bif_alt h with ⟨hf, h⟩ | ⟨hf, h⟩
      · cases h
        simp only [Bool.and_eq_true, eqI_iff, eqS_iff] at hf
        obtain ⟨⟨⟨⟨⟨⟨⟨⟨⟨rfl, rfl⟩, rfl⟩, rfl⟩, rfl⟩, rfl⟩, rfl⟩, rfl⟩, rfl⟩, rfl⟩ := hf
        rw [show List.map f00 (List.range 32) = endW firstW [] 0 from rfl]
        rfl
      · cases h
    · cases h

def tt32n : Tab := [(0, ty0), (1, ty1), (2, ty2), (3, ty3), (4, ty4), (5, ty5), (22, ty22), (39, ty39), (40, ty40), (41, ty41), (47, ty47), (52, ty52), (68, ty68), (99, ty99), (114, ty114)]
theorem tt32n_ok : TabOk Try.prog tt32n := tabOk_of_all ⟨ty0_ok, ty1_ok, ty2_ok, ty3_ok, ty4_ok, ty5_ok, ty22_ok, ty39_ok, ty40_ok, ty41_ok, ty47_ok, ty52_ok, ty68_ok, ty99_ok, ty114_ok, trivial⟩
def c32n (f : Nat → Int) (F : Nat) : Cfg := ⟨tt32n, [(29, .pure go29), (32, .eff (go32b f))], F, [], [], 0⟩
theorem f32n_eq (f : Nat → Int) (F : Nat) : aeff (c32n f F) Try.f32 [.nilp] [] = some (.arr (intsA .u8 ((List.range 32).map f)), []) := by kernel_rfl
theorem empty32 : intsA .u8 ((List.range 32).map f00) = intsA .u8 (shaW []) := rfl

theorem ok32 : EffOk Try.prog 32 go32 := by
  refine effOk_of follows Try.func32 (by kernel_rfl) (by kernel_rfl) ?_ ?_
  · intro R stk args hp k
    unfold go32
    split
    · simp only [elim_cond]; rfl
    · rfl
    · rfl
  · intro args hp r hp' h hr
    unfold go32 at h
    split at h
    · rename_i h0 h1 h2 h3 h4 h5 h6 h7 p n
      rcases bif_alt h with ⟨hf, h⟩ | ⟨hf, h⟩
      · cases h
        rw [Bool.and_eq_true, Bool.and_eq_true, leI_iff, leI_iff] at hf
        obtain ⟨m, rfl⟩ := Int.eq_ofNat_of_zero_le hf.2.1
        refine ⟨c32 rounds, tt32_ok, .cons ok72 (.cons ok25 .nil), ?_⟩
        unfold aeff
        have e : afun (c32 rounds) Try.f32 [.ptr 0 0] [.var 114 [.int .u32 h0, .int .u32 h1, .int .u32 h2, .int .u32 h3, .int .u32 h4, .int .u32 h5, .int .u32 h6, .int .u32 h7, .ro (.bytes p), .int .i64 (m : Int)]] = _ := f32_all rounds big ⟨h0, h1, h2, h3, h4, h5, h6, h7⟩ p m (by omega) (Nat.le_of_ble_eq_true hf.1)
        rw [e]
        rfl
      · cases h
    · skip
      cases h
      refine ⟨c32n f00 rounds, tt32n_ok, .cons ok29 (.consE ok32b .nil), ?_⟩
      rw [f32n_eq]
      rfl
    · cases h

end Go.Proofs.YtmkgmlgklggnlaaG
