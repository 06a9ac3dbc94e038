/- A part of the proof: plain laws, and what functions of the given program come to; no condition. -/
import Derived.Test.YtmkgmlgklggnlaaCb
import Derived.Test.YtmkgmlgklggnlaaTb
namespace Go.Proofs.YtmkgmlgklggnlaaG
open Go Go.Proofs.YtmkgmlgklggnlaaGm
set_option maxRecDepth 100000
set_option maxHeartbeats 0

def go15 (R : Type) (stk : R) (args : List AV) (ret : AV → List AObj → R) : R :=
  match args with
  | [] => ret (.bool true) []
  | _ => stk

def tt15 : Tab := [(3, ty3), (4, ty4), (5, ty5), (9, ty9), (22, ty22), (24, ty24), (26, ty26), (27, ty27), (35, ty35), (52, ty52)]
theorem tt15_ok : TabOk Try.prog tt15 := tabOk_of_all ⟨ty3_ok, ty4_ok, ty5_ok, ty9_ok, ty22_ok, ty24_ok, ty26_ok, ty27_ok, ty35_ok, ty52_ok, trivial⟩
def c15 (F : Nat) : Cfg := ⟨tt15, [(20, .pure (normGo [.agg [.keep, .keep, .keep, .keep, .rows 32]] go20)), (19, .pure go19)], F, [], [], 0⟩
theorem f15_eq (F : Nat) : afun (c15 F) Try.f15 [] [] =
 .ret (AV.bool (eqS (encE 4 0 0 0 []) (ByteArray.mk #[4, 0, 0, 0]).data.toList)) [AObj.arr 5 (Pay.bytes (encE 4 0 0 0 []))] := by kernel_rfl


theorem f15_all (F : Nat) : outR (afun (c15 F) Try.f15 [] []) = some (.bool true, []) := by
  rw [f15_eq]; first | rfl | kernel_rfl

theorem ok15 : PureOk Try.prog 15 go15 := by
  refine pureOk_of (c15 rounds) tt15_ok (.cons (ok20.norm _) (.cons ok19 .nil)) follows rfl Try.func15 (by kernel_rfl) (by kernel_rfl) ?_ ?_
  · intro R stk args ret
    unfold go15
    split
    · rfl
    · rfl
  · intro args r objs h hr
    unfold go15 at h
    split at h
    · rename_i a
      cases h
      refine ⟨_, ?_, .same⟩
      rw [apure_out]
      exact f15_all rounds
    · cases h

end Go.Proofs.YtmkgmlgklggnlaaG
