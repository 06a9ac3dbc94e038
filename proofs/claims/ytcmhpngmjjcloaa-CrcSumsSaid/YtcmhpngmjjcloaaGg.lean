/- A part of the proof: plain laws, and what functions of the given program come to; no condition. -/
import Derived.Test.YtcmhpngmjjcloaaGf
namespace Go.Proofs.YtcmhpngmjjcloaaG
open Go Go.Proofs.YtcmhpngmjjcloaaGm
set_option maxRecDepth 100000
def go18 (R : Type) (stk : R) (args : List AV) (k : AV → List AObj → R) : R :=
  match args with
  | [] => k (.bool true) []
  | _ => stk
def tt18 : Tab := [(0, ty0), (4, ty4), (5, ty5), (9, ty9), (22, ty22), (29, ty29)]
theorem tt18_ok : TabOk Try.prog tt18 := tabOk_of_all ⟨ty0_ok, ty4_ok, ty5_ok, ty9_ok, ty22_ok, ty29_ok, trivial⟩
def c18 (F : Nat) : Cfg := ⟨tt18, [(19, .pure go19)], F, [], [], 0⟩
theorem f18_eq (F : Nat) : afun (c18 F) Try.f18 [] [] =
  .ret (AV.bool (eqS (enc 300) (ByteArray.mk #[129, 44]).data.toList)) [AObj.arr 5 (Pay.bytes (enc 300))] := by kernel_rfl

theorem ok18 : PureOk Try.prog 18 go18 := by
  refine pureOk_of (c18 rounds) tt18_ok (.cons ok19 .nil) follows rfl Try.func18 (by kernel_rfl) (by kernel_rfl) ?_ ?_
  · intro R stk args k; unfold go18; split <;> rfl
  · intro args r objs h hr
    unfold go18 at h
    split at h
    · cases h
      refine ⟨_, ?_, .same⟩
      unfold apure
      rw [f18_eq, show eqS (enc 300) ((ByteArray.mk #[129, 44]).data.toList) = true by decide]
      rfl
    · cases h
end Go.Proofs.YtcmhpngmjjcloaaG
