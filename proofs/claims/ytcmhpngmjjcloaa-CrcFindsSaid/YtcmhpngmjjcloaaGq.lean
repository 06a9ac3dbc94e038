/- What functions of the given program come to: the check sum; no condition. -/
import Derived.Test.YtcmhpngmjjcloaaGp
namespace Go.Proofs.YtcmhpngmjjcloaaG
open Go Go.Proofs.YtcmhpngmjjcloaaGm
set_option maxRecDepth 100000

def tt12 : Tab := [(4, ty4), (5, ty5), (9, ty9), (22, ty22), (23, ty23)]
theorem tt12_ok : TabOk Try.prog tt12 := tabOk_of_all ⟨ty4_ok, ty5_ok, ty9_ok, ty22_ok, ty23_ok, trivial⟩
def c12 (F : Nat) : Cfg := ⟨tt12, [(14, .pure go14)], F, [], [], 0⟩
theorem f12_eq (F : Nat) : afun (c12 F) Try.f12 [] [] =
  .ret (AV.bool (eqI (crcOf (((((((([UInt8.ofNat (Int.toNat 49), 0, 0, 0, 0, 0, 0, 0, 0].set (1, Operand.const (Value.int IntKind.u8 50)).fst (UInt8.ofNat (Int.toNat 50))).set (2, Operand.const (Value.int IntKind.u8 51)).fst (UInt8.ofNat (Int.toNat 51))).set (3, Operand.const (Value.int IntKind.u8 52)).fst (UInt8.ofNat (Int.toNat 52))).set (4, Operand.const (Value.int IntKind.u8 53)).fst (UInt8.ofNat (Int.toNat 53))).set (5, Operand.const (Value.int IntKind.u8 54)).fst (UInt8.ofNat (Int.toNat 54))).set (6, Operand.const (Value.int IntKind.u8 55)).fst (UInt8.ofNat (Int.toNat 55))).set (7, Operand.const (Value.int IntKind.u8 56)).fst (UInt8.ofNat (Int.toNat 56))).set (8, Operand.const (Value.int IntKind.u8 57)).fst (UInt8.ofNat (Int.toNat 57)))) 3421780262)) [AObj.dead] := by kernel_rfl


theorem live12 : crcOf [49, 50, 51, 52, 53, 54, 55, 56, 57] = 3421780262 := by decide +kernel
theorem ok12 : PureOk Try.prog 12 go12 := by
  refine pureOk_of (c12 rounds) tt12_ok (.cons ok14 .nil) follows rfl Try.func12 (by kernel_rfl) (by kernel_rfl) ?_ ?_
  · intro R stk args k; unfold go12; split <;> rfl
  · intro args r objs h hr
    unfold go12 at h
    split at h
    · cases h
      refine ⟨_, ?_, .same⟩
      unfold apure
      rw [f12_eq]
      have e := live12
      have : eqI (crcOf [49, 50, 51, 52, 53, 54, 55, 56, 57]) 3421780262 = true := by rw [e]; rfl
      first
        | (simp only [this]; rfl)
        | (rw [show eqI (crcOf _) 3421780262 = true from this]; rfl)
    · cases h
def go27 (R : Type) (stk : R) (args : List AV) (k : AV → List AObj → R) : R :=
  match args with
  | [.int .i64 n] => k (.int .i64 n) []
  | _ => stk
def tt27 : Tab := [(3, ty3), (34, ty34)]
theorem tt27_ok : TabOk Try.prog tt27 := tabOk_of_all ⟨ty3_ok, ty34_ok, trivial⟩
def c27 (F : Nat) : Cfg := ⟨tt27, [], F, [], [], 0⟩
theorem f27_eq (F : Nat) (a0 : Int) : afun (c27 F) Try.f27 [AV.int IntKind.i64 a0] [] =
  .ret (AV.int IntKind.i64 a0) [] := by kernel_rfl


theorem ok27 : PureOk Try.prog 27 go27 := by
  refine pureOk_of (c27 rounds) tt27_ok .nil follows rfl Try.func27 (by kernel_rfl) (by kernel_rfl) ?_ ?_
  · intro R stk args k; unfold go27; split <;> rfl
  · intro args r objs h hr
    unfold go27 at h
    split at h
    · cases h
      exact ⟨_, by unfold apure; rw [f27_eq]; rfl, .same⟩
    · cases h

end Go.Proofs.YtcmhpngmjjcloaaG
