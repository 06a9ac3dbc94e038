/- A part of the proof: plain laws, and what functions of the given program come to; no condition. -/
import Derived.Test.YtjdojmjkldpgnaaDoorSg
namespace Go.Proofs.YtjdojmjkldpgnaaDoorG
open Go Go.Proofs.YtjdojmjkldpgnaaDoorGm
set_option maxRecDepth 100000
set_option maxHeartbeats 0

def go38 (R : Type) (stk : R) (args : List AV) (ret : AV → List AObj → R) : R :=
  match args with
  | [.ro (.bytes b)] => bif Nat.ble b.length 1099511627776 then ret (.arr (intsA .u8 (shaW b))) [] else stk
  | _ => stk

def tt38 : Tab := [(0, ty0), (3, ty3), (5, ty5), (33, ty33), (74, ty74), (75, ty75), (130, ty130), (35, ty35), (177, ty177)]
theorem tt38_ok : TabOk Tryd.prog tt38 := tabOk_of_all ⟨ty0_ok, ty3_ok, ty5_ok, ty33_ok, ty74_ok, ty75_ok, ty130_ok, ty35_ok, ty177_ok, trivial⟩
def c38 (F : Nat) : Cfg := ⟨tt38, [(79, .pure go79), (80, .eff go80), (81, .eff go81)], F, [], [], 0⟩

def m34 (b : List UInt8) : Hs := eat (([] ++ b).length / 64) firstW ([] ++ b)
def p34 (b : List UInt8) : List UInt8 := List.drop (64 * (([] ++ b).length / 64)) ([] ++ b)
def n34 (b : List UInt8) : Int := IntKind.i64.wrap (0 + (b.length : Int))
theorem f38_eq (F : Nat) (b : List UInt8) : afun (c38 F) Tryd.f38 [AV.ro (Pay.bytes b)] [] =
  bif (([] : List UInt8).length + b.length).ble 70368744177664 then
    bif (p34 b).length.ble 1099511627776 && (leI 0 (n34 b) && leI (n34 b) 1000000000000000000) then
      .ret (AV.arr (cells32 (endF (m34 b) (p34 b) (n34 b).toNat))) [AObj.var 35 (cells32 (endF (m34 b) (p34 b) (n34 b).toNat)), .var 177 [.int .u32 (m34 b).a, .int .u32 (m34 b).b, .int .u32 (m34 b).c, .int .u32 (m34 b).d, .int .u32 (m34 b).e, .int .u32 (m34 b).f, .int .u32 (m34 b).g, .int .u32 (m34 b).h, .ro (.bytes (p34 b)), .int .i64 (n34 b)]]
    else
      .stuck
  else
    .stuck := by kernel_rfl

theorem out32 (f : Nat → Int) (A B : AObj) : outR (.ret (.arr (cells32 f)) [A, B]) = some (.arr (cells32 f), []) := rfl
theorem f38_all (F : Nat) (b : List UInt8) (hb : b.length ≤ 1099511627776) : outR (afun (c38 F) Tryd.f38 [.ro (.bytes b)] []) = some (.arr (intsA .u8 (shaW b)), []) := by
  have e0 : n34 b = (b.length : Int) := by unfold n34; rw [wrap64 (by omega) (by omega)]; omega
  have hd : (p34 b).length = b.length % 64 := stR_len b
  have e : cells32 (endF (m34 b) (p34 b) b.length) = intsA .u8 (shaW b) := by rw [cells32_eq, endF_W]; exact congrArg _ (shaW_end b)
  rw [f38_eq, bif_pos (by rw [ble_iff]; show 0 + b.length ≤ _; omega), e0, Int.toNat_natCast,
    bif_pos (by rw [Bool.and_eq_true, Bool.and_eq_true, ble_iff, leI_iff, leI_iff, hd]; omega), out32, e]

theorem ok38 : PureOk Tryd.prog 38 go38 := by
  refine pureOk_of (c38 rounds) tt38_ok (.cons ok79 (.consE ok80 (.consE ok81 .nil))) follows rfl Tryd.func38 (by kernel_rfl) (by kernel_rfl) ?_ ?_
  · intro R stk args ret
    unfold go38
    split
    · simp only [elim_cond]; rfl
    · rfl
  · intro args r objs h hr
    unfold go38 at h
    split at h
    · rename_i b
      rcases bif_alt h with ⟨hf0, h⟩ | ⟨hf0, h⟩
      · cases h
        refine ⟨_, ?_, .same⟩
        rw [apure_out]
        exact f38_all rounds b (Nat.le_of_ble_eq_true hf0)
      ·
        cases h
    · cases h

def abc : List UInt8 := [97, 98, 99]
def go34b (f : Nat → Int) (R : Type) (stk : R) (args : List AV) (ret : AV → List AObj → R) : R :=
  match args with
  | [.ro (.bytes b)] => bif eqS b abc then ret (.arr (intsA .u8 ((List.range 32).map f))) [] else stk
  | _ => stk
theorem ok34b : PureOk Tryd.prog 38 (go34b (shaF abc)) := by
  refine ok38.part ?_ ?_
  · intro R stk args ret
    unfold go34b
    split
    · simp only [elim_cond]; rfl
    · rfl
  · intro args r objs h
    unfold go34b at h
    split at h
    · rename_i b
      rcases bif_alt h with ⟨hf, h⟩ | ⟨hf, h⟩
      · cases h
        rw [eqS_iff] at hf
        subst hf
        rw [shaF_W]
        rfl
      · cases h
    · cases h
theorem abc0 : eqI (shaF abc 0) 186 = true := by kernel_rfl
theorem abc1 : eqI (shaF abc 1) 120 = true := by kernel_rfl
theorem abc2 : eqI (shaF abc 2) 22 = true := by kernel_rfl
theorem abc3 : eqI (shaF abc 3) 191 = true := by kernel_rfl
end Go.Proofs.YtjdojmjkldpgnaaDoorG
