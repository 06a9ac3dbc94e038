/- A part of the proof: plain laws, and what functions of the given program come to; no condition. -/
import Derived.Test.YtjdojmjkldpgnaaDoorSf
namespace Go.Proofs.YtjdojmjkldpgnaaDoorG
open Go Go.Proofs.YtjdojmjkldpgnaaDoorGm
set_option maxRecDepth 100000
set_option maxHeartbeats 0

/-- As it answers of nothing written: the bytes kept apart. -/
def go32b (f : Nat → Int) (R : Type) (stk : R) (args : List AV) (hp : List AObj) (ret : AV → List AObj → R) : R :=
  match args, hp with
  | [.ptr 0 0], [.var 177 [.int .u32 h0, .int .u32 h1, .int .u32 h2, .int .u32 h3, .int .u32 h4, .int .u32 h5, .int .u32 h6, .int .u32 h7, .ro (.bytes p), .int .i64 n]] => bif (eqI h0 firstW.a && eqI h1 firstW.b && eqI h2 firstW.c && eqI h3 firstW.d && eqI h4 firstW.e && eqI h5 firstW.f && eqI h6 firstW.g && eqI h7 firstW.h && eqS p [] && eqI n 0) then ret (.arr (intsA .u8 ((List.range 32).map f))) [.var 177 [.int .u32 h0, .int .u32 h1, .int .u32 h2, .int .u32 h3, .int .u32 h4, .int .u32 h5, .int .u32 h6, .int .u32 h7, .ro (.bytes p), .int .i64 n]] else stk
  | _, _ => stk
def f0 : Nat → Int := outF (eat ((padB [] 0).length / 64) firstW (padB [] 0))
theorem ok32b : EffOk Tryd.prog 81 (go32b f0) where
  cps := by
    intro R stk args hp k
    unfold go32b
    split
    · simp only [elim_cond]; rfl
    · rfl
  fn := ok32a.fn
  calls := by
    intro args hp r hp' h
    refine ok32a.calls args hp r hp' ?_
    unfold go32b at h
    split at h
    · rename_i h0 h1 h2 h3 h4 h5 h6 h7 p n
      rcases bif_alt h with ⟨hf, h⟩ | ⟨hf, h⟩
      · cases h
        simp only [Bool.and_eq_true, eqI_iff, eqS_iff] at hf
        obtain ⟨⟨⟨⟨⟨⟨⟨⟨⟨rfl, rfl⟩, rfl⟩, rfl⟩, rfl⟩, rfl⟩, rfl⟩, rfl⟩, rfl⟩, rfl⟩ := hf
        rw [show List.map f0 (List.range 32) = endW firstW [] 0 from rfl]
        rfl
      · cases h
    · cases h

def tt32n : Tab := [(0, ty0), (1, ty1), (2, ty2), (3, ty3), (4, ty4), (5, ty5), (33, ty33), (74, ty74), (75, ty75), (179, ty179), (130, ty130), (35, ty35), (202, ty202), (73, ty73), (177, ty177)]
theorem tt32n_ok : TabOk Tryd.prog tt32n := tabOk_of_all ⟨ty0_ok, ty1_ok, ty2_ok, ty3_ok, ty4_ok, ty5_ok, ty33_ok, ty74_ok, ty75_ok, ty179_ok, ty130_ok, ty35_ok, ty202_ok, ty73_ok, ty177_ok, trivial⟩
def c32n (f : Nat → Int) (F : Nat) : Cfg := ⟨tt32n, [(79, .pure go79), (81, .eff (go32b f))], F, [], [], 0⟩
theorem f32n_eq (f : Nat → Int) (F : Nat) : aeff (c32n f F) Tryd.f81 [.nilp] [] = some (.arr (intsA .u8 ((List.range 32).map f)), []) := by kernel_rfl
theorem empty32 : intsA .u8 ((List.range 32).map f0) = intsA .u8 (shaW []) := rfl

theorem ok81 : EffOk Tryd.prog 81 go81 := by
  refine effOk_of follows Tryd.func81 (by kernel_rfl) (by kernel_rfl) ?_ ?_
  · intro R stk args hp k
    unfold go81
    split
    · simp only [elim_cond]; rfl
    · rfl
    · rfl
  · intro args hp r hp' h hr
    unfold go81 at h
    split at h
    · rename_i h0 h1 h2 h3 h4 h5 h6 h7 p n
      rcases bif_alt h with ⟨hf, h⟩ | ⟨hf, h⟩
      · cases h
        rw [Bool.and_eq_true, Bool.and_eq_true, leI_iff, leI_iff] at hf
        obtain ⟨m, rfl⟩ := Int.eq_ofNat_of_zero_le hf.2.1
        refine ⟨c81 rounds, tt81_ok, .cons ok106 (.cons ok121 .nil), ?_⟩
        unfold aeff
        have e : afun (c81 rounds) Tryd.f81 [.ptr 0 0] [.var 177 [.int .u32 h0, .int .u32 h1, .int .u32 h2, .int .u32 h3, .int .u32 h4, .int .u32 h5, .int .u32 h6, .int .u32 h7, .ro (.bytes p), .int .i64 (m : Int)]] = _ := f81_all rounds big ⟨h0, h1, h2, h3, h4, h5, h6, h7⟩ p m (by omega) (Nat.le_of_ble_eq_true hf.1)
        rw [e]
        rfl
      · cases h
    · skip
      cases h
      refine ⟨c32n f0 rounds, tt32n_ok, .cons ok79 (.consE ok32b .nil), ?_⟩
      rw [f32n_eq]
      rfl
    · cases h

end Go.Proofs.YtjdojmjkldpgnaaDoorG
