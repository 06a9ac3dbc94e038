/- A part of the proof: plain laws, and what functions of the given program come to; no condition. -/
import Derived.Test.YtmkgmlgklggnlaaSi
namespace Go.Proofs.YtmkgmlgklggnlaaG
open Go Go.Proofs.YtmkgmlgklggnlaaGm
set_option maxRecDepth 100000
set_option maxHeartbeats 0

def go39 (R : Type) (stk : R) (args : List AV) (ret : AV → List AObj → R) : R :=
  match args with
  | [.int .i64 e] => ret (.int .i64 e) []
  | _ => stk

def tt39 : Tab := [(3, ty3), (27, ty27)]
theorem tt39_ok : TabOk Try.prog tt39 := tabOk_of_all ⟨ty3_ok, ty27_ok, trivial⟩
def c39 (F : Nat) : Cfg := ⟨tt39, [], F, [], [], 0⟩
theorem f39_eq (F : Nat) (e : Int) : afun (c39 F) Try.f39 [AV.int IntKind.i64 e] [] =
  .ret (AV.int IntKind.i64 e) [] := by kernel_rfl


theorem ok39 : PureOk Try.prog 39 go39 := by
  refine pureOk_of (c39 rounds) tt39_ok .nil follows rfl Try.func39 (by kernel_rfl) (by kernel_rfl) ?_ ?_
  · intro R stk args ret
    unfold go39
    split
    · rfl
    · rfl
  · intro args r objs h hr
    unfold go39 at h
    split at h
    · rename_i e
      cases h
      refine ⟨_, ?_, .same⟩
      rw [apure_out]
      rw [f39_eq]
      rfl
    · cases h

end Go.Proofs.YtmkgmlgklggnlaaG
