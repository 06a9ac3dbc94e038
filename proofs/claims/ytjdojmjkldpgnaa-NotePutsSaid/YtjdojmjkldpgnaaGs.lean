/- A part of the proof: plain laws, and what functions of the given program come to; no condition. -/
import Derived.Test.YtjdojmjkldpgnaaGr
namespace Go.Proofs.YtjdojmjkldpgnaaG
open Go Go.Proofs.YtjdojmjkldpgnaaGm
set_option maxRecDepth 100000
set_option maxHeartbeats 0

def go5 (R : Type) (stk : R) (args : List AV) (ret : AV → List AObj → R) : R :=
  match args with
  | [] => ret (.bool true) []
  | _ => stk

def tt5 : Tab := [(3, ty3), (4, ty4), (5, ty5), (9, ty9), (22, ty22), (24, ty24), (26, ty26), (27, ty27), (37, ty37)]
theorem tt5_ok : TabOk Try.prog tt5 := tabOk_of_all ⟨ty3_ok, ty4_ok, ty5_ok, ty9_ok, ty22_ok, ty24_ok, ty26_ok, ty27_ok, ty37_ok, trivial⟩
def c5 (F : Nat) : Cfg := ⟨tt5, [(12, .pure (normGo [.agg [.keep, .keep, .keep, .keep, .ints .i64, .bytes, .bytes]] go12)), (10, .pure go10)], F, [], [], 0⟩
theorem f5_eq (F : Nat) : afun (c5 F) Try.f5 [] [] =
  .ret (AV.bool (eqS (putN (NoteV.mk 1 3 1 0 [] [] [])).fst (ByteArray.mk #[1, 3, 1, 0, 0, 0, 0]).data.toList)) [] := by kernel_rfl


theorem ok5 : PureOk Try.prog 5 go5 := by
  refine pureOk_of (c5 rounds) tt5_ok (.cons (ok12.norm _) (.cons ok10 .nil)) follows rfl Try.func5 (by kernel_rfl) (by kernel_rfl) ?_ ?_
  · intro R stk args ret
    unfold go5
    split
    · rfl
    · rfl
  · intro args r objs h hr
    unfold go5 at h
    split at h
    · skip
      cases h
      refine ⟨_, ?_, .same⟩
      rw [apure_out]
      rw [f5_eq]
      kernel_rfl
    · cases h

end Go.Proofs.YtjdojmjkldpgnaaG
